/- Proved: ReplicaNone answers true, whatever it is called with, and leaves all as it was. No condition. -/
import Derived.Test.YtbbnmgakmcppdaaGreatSchedE
import Derived.Test.YtbbnmgakmcppdaaGreatApi
import Derived.Test.YtbbnmgakmcppdaaGreatVgO
import Derived.Test.YtbbnmgakmcppdaaGreatSchedN
import Derived.Test.YtbbnmgakmcppdaaGreatVgP
import Derived.Test.YtbbnmgakmcppdaaGreatConf2
import Derived.Test.YtbbnmgakmcppdaaGreatAArg
import Derived.Test.YtbbnmgakmcppdaaGreatRepB
namespace Go.Proofs.YtbbnmgakmcppdaaGreat.Sched
open Go Go.Proofs.YtbbnmgakmcppdaaGreat.Vg Go.Proofs.YtbbnmgakmcppdaaGreat.T Go.Proofs.YtbbnmgakmcppdaaGreat.Api Go.Proofs.YtbbnmgakmcppdaaGreat.Ring
set_option linter.unusedSimpArgs false
set_option linter.unusedVariables false
attribute [local irreducible] VO VC VA

structure WaitI (n : Nat) (fs : List FrameM) (x : Nat × Option Addr × Nat × List FM) : Prop where
  le : x.1 ≤ n
  room : x.2.2.2.length ≤ x.2.2.1
  gs : x.2.2.2.map Prod.fst = fs

end Go.Proofs.YtbbnmgakmcppdaaGreat.Sched
namespace Go.Proofs.YtbbnmgakmcppdaaGreat.Api
open Go Go.Proofs.YtbbnmgakmcppdaaGreat.Vg Go.Proofs.YtbbnmgakmcppdaaGreat.T
set_option linter.unusedSimpArgs false
set_option linter.unusedVariables false
attribute [local irreducible] VO VC VA

theorem op_bad2 {o : OpM} (h : opBad o = true) : opCheck o = 2 := by simp [opCheck, h]

set_option maxRecDepth 100000 in
theorem rcheck_spec (Fr : Nat → Prop) (w : World) (o : OpM) : Tri Tryz.prog 167 [.agg o.cells.toArray] Fr w [] (fun v L => v = .int .i64 (opCheck o) ∧ L = []) := by
  refine Tri.of 61 Tryz.func167 rfl (by kernel_rfl) tabOk rfl rfl ?_
  refine VC.seq (VC.region (VO.go (VO.boxA (vs := o.cells) rfl (fun b => VO.go (VO.nil ?_)))))
  (repeat (first|refine zS ?_|refine zR ?_|refine zB ?_|refine zL ?_|refine zC ?_|refine zG (zN ?_)|refine zG (zD 0 rfl rfl rfl rfl ?_)))
  refine VO.go (VO.split 6 rfl rfl (fun h1 => ?_) (fun h1 => ?_))
  · have h1 := of_decide_eq_true h1
    (repeat (first|refine zS ?_|refine zR ?_|refine zB ?_|refine zL ?_|refine zC ?_|refine zG (zN ?_)|refine zG (zD 0 rfl rfl rfl rfl ?_)))
    refine VO.go (VO.yes 11 true rfl rfl (VO.go (VO.yes 17 true rfl rfl (VO.go (VO.yes 22 true rfl rfl (VO.go (VO.nil (VC.condT rfl ?_))))))))
    (repeat (first|refine zS ?_|refine zR ?_|refine zB ?_|refine zL ?_|refine zC ?_|refine zG (zN ?_)|refine zG (zD 0 rfl rfl rfl rfl ?_)))
    exact VC.ret (Ret.int 2 rfl rfl (op_bad2 (by simp [opBad, h1])).symm Imp.nil.ent ⟨rfl, rfl⟩)
  have h1 := of_decide_eq_false h1
  refine VO.go (VO.ld 0 rfl rfl rfl rfl (VO.go (VO.split 11 rfl rfl (fun h2 => ?_) (fun h2 => ?_))))
  · have h2 := of_decide_eq_true h2
    refine VO.go (VO.yes 17 true rfl rfl (VO.go (VO.yes 22 true rfl rfl (VO.go (VO.nil (VC.condT rfl ?_))))))
    (repeat (first|refine zS ?_|refine zR ?_|refine zB ?_|refine zL ?_|refine zC ?_|refine zG (zN ?_)|refine zG (zD 0 rfl rfl rfl rfl ?_)))
    exact VC.ret (Ret.int 2 rfl rfl (op_bad2 (by simp [opBad, h2])).symm Imp.nil.ent ⟨rfl, rfl⟩)
  have h2 := of_decide_eq_false h2
  refine VO.go (VO.ld 0 rfl rfl rfl rfl (VO.go (VO.split 17 rfl rfl (fun h3 => ?_) (fun h3 => ?_))))
  · have h3 : o.key.size = 0 := by have := eq_of_beq h3; omega
    refine VO.go (VO.yes 22 true rfl rfl (VO.go (VO.nil (VC.condT rfl ?_))))
    (repeat (first|refine zS ?_|refine zR ?_|refine zB ?_|refine zL ?_|refine zC ?_|refine zG (zN ?_)|refine zG (zD 0 rfl rfl rfl rfl ?_)))
    exact VC.ret (Ret.int 2 rfl rfl (op_bad2 (by simp [opBad, h3])).symm Imp.nil.ent ⟨rfl, rfl⟩)
  have h3 : o.key.size ≠ 0 := by have := ne_of_beq_false h3; omega
  refine VO.go (VO.ld 0 rfl rfl rfl rfl (VO.go (VO.split 22 rfl rfl (fun h4 => ?_) (fun h4 => ?_))))
  · have h4 := of_decide_eq_true h4
    refine VO.go (VO.nil (VC.condT rfl ?_))
    (repeat (first|refine zS ?_|refine zR ?_|refine zB ?_|refine zL ?_|refine zC ?_|refine zG (zN ?_)|refine zG (zD 0 rfl rfl rfl rfl ?_)))
    exact VC.ret (Ret.int 2 rfl rfl (op_bad2 (by simp [opBad, h4])).symm Imp.nil.ent ⟨rfl, rfl⟩)
  have h4 := of_decide_eq_false h4
  refine VO.go (VO.ld 0 rfl rfl rfl rfl (VO.go (VO.nil (VC.condP rfl (fun h5 => ?_) (fun h5 => VC.skip ?_)))))
  · (repeat (first|refine zS ?_|refine zR ?_|refine zB ?_|refine zL ?_|refine zC ?_|refine zG (zN ?_)|refine zG (zD 0 rfl rfl rfl rfl ?_)))
    exact VC.ret (Ret.int 2 rfl rfl (op_bad2 (by simp [opBad, h5])).symm Imp.nil.ent ⟨rfl, rfl⟩)
  refine VC.seq (VC.meet (σ := Bool) (fun s => [(1, .pointer (some ⟨b, 0, none⟩)), (50, .bool s)]) (fun _ => [pt b o.cells 40]) (fun s => s = opBad o) ?_ ?_)
  · refine VC.region (VO.go (VO.ld 0 rfl rfl rfl rfl (VO.go (VO.split 30 rfl rfl (fun h6 => ?_) (fun h6 => ?_)))))
    · have h6 := of_decide_eq_true h6
      refine VO.go (VO.ld 0 rfl rfl rfl rfl (VO.go (VO.split 35 rfl rfl (fun h7 => ?_) (fun h7 => ?_))))
      · have h7 : o.kind ≠ 4 := by simpa using h7
        refine VO.go (VO.offU rfl rfl rfl ?_)
        iterate 7 refine VO.go (VO.offU rfl rfl rfl ?_)
        refine VO.go (VO.nil ⟨true, ?_, Sub.cons rfl (Sub.cons rfl (Sub.nil _)), Ent.refl⟩)
        have : o.version ≠ 0 := by omega
        simp [opBad, h7, this]
      · have h7 : o.kind = 4 := by simpa using h7
        refine VO.go (VO.ld 0 rfl rfl rfl rfl (VO.go (VO.split 40 rfl rfl (fun h8 => ?_) (fun h8 => ?_))))
        · refine VO.go (VO.ld 0 rfl rfl rfl rfl (VO.go (VO.yes 44 false rfl (by rw [h7]; rfl) (VO.go (VO.ld 0 rfl rfl rfl rfl (VO.go (VO.nil ⟨false, ?_, Sub.cons rfl (Sub.cons (by rw [h7]; rfl) (Sub.nil _)), Ent.refl⟩)))))))
          simp [opBad, h1, h2, h3, h4, h5, h7]
        · iterate 3 refine VO.go (VO.offU rfl rfl rfl ?_)
          refine VO.go (VO.nil ⟨false, ?_, Sub.cons rfl (Sub.cons rfl (Sub.nil _)), Ent.refl⟩)
          simp [opBad, h1, h2, h3, h4, h5, h7]
    · have h6 := of_decide_eq_false h6
      have hv : o.version = 0 := by omega
      refine VO.go (VO.yes 35 false rfl rfl (VO.go (VO.ld 0 rfl rfl rfl rfl (VO.go (VO.split 40 rfl rfl (fun h8 => ?_) (fun h8 => ?_))))))
      · have h8 : o.value.size ≠ 0 := by have := of_decide_eq_true h8; omega
        refine VO.go (VO.ld 0 rfl rfl rfl rfl (VO.go (VO.split 44 rfl rfl (fun h9 => ?_) (fun h9 => ?_))))
        · have h9 : o.kind = 1 := by simpa using h9
          refine VO.go (VO.nil ⟨true, ?_, Sub.cons rfl (Sub.cons rfl (Sub.nil _)), Ent.refl⟩)
          simp [opBad, h8, h9]
        · have h9 : o.kind ≠ 1 := by simpa using h9
          refine VO.go (VO.ld 0 rfl rfl rfl rfl (VO.go (VO.nil ⟨(o.kind == 3), ?_, Sub.cons rfl (Sub.cons rfl (Sub.nil _)), Ent.refl⟩)))
          have hk : o.kind = 2 ∨ o.kind = 3 ∨ o.kind = 4 := by omega
          rcases hk with hk | hk | hk <;> simp [opBad, hk, hv, h3, h8]
      · have h8 : o.value.size = 0 := by have := of_decide_eq_false h8; omega
        iterate 3 refine VO.go (VO.offU rfl rfl rfl ?_)
        refine VO.go (VO.nil ⟨false, ?_, Sub.cons rfl (Sub.cons rfl (Sub.nil _)), Ent.refl⟩)
        have h1' : ¬ o.kind < 1 := h1
        simp [opBad, h1, h2, h3, h4, h5, hv, h8]
  intro s hs
  subst hs
  refine VC.cond rfl (fun hb => ?_) (fun hb => VC.skip ?_)
  · (repeat (first|refine zS ?_|refine zR ?_|refine zB ?_|refine zL ?_|refine zC ?_|refine zG (zN ?_)|refine zG (zD 0 rfl rfl rfl rfl ?_)))
    exact VC.ret (Ret.int 2 rfl rfl (op_bad2 hb).symm Imp.nil.ent ⟨rfl, rfl⟩)
  (repeat (first|refine zS ?_|refine zR ?_|refine zB ?_|refine zL ?_|refine zC ?_|refine zG (zN ?_)|refine zG (zD 0 rfl rfl rfl rfl ?_)))
  refine VO.go (VO.split 55 rfl rfl (fun h6 => ?_) (fun h6 => ?_))
  · have h6 := of_decide_eq_true h6
    refine VO.go (VO.nil (VC.condT rfl ?_))
    (repeat (first|refine zS ?_|refine zR ?_|refine zB ?_|refine zL ?_|refine zC ?_|refine zG (zN ?_)|refine zG (zD 0 rfl rfl rfl rfl ?_)))
    exact VC.ret (Ret.int 2 rfl rfl (by simp [opCheck, hb, opLong]; omega) Imp.nil.ent ⟨rfl, rfl⟩)
  have h6 := of_decide_eq_false h6
  refine VO.go (VO.ld 0 rfl rfl rfl rfl (VO.go (VO.nil (VC.condP rfl (fun h7 => ?_) (fun h7 => VC.skip ?_)))))
  · (repeat (first|refine zS ?_|refine zR ?_|refine zB ?_|refine zL ?_|refine zC ?_|refine zG (zN ?_)|refine zG (zD 0 rfl rfl rfl rfl ?_)))
    exact VC.ret (Ret.int 2 rfl rfl (by simp [opCheck, hb, opLong]; omega) Imp.nil.ent ⟨rfl, rfl⟩)
  (repeat (first|refine zS ?_|refine zR ?_|refine zB ?_|refine zL ?_|refine zC ?_|refine zG (zN ?_)|refine zG (zD 0 rfl rfl rfl rfl ?_)))
  refine VC.ret (Ret.int 2 rfl rfl ?_ Imp.nil.ent ⟨rfl, rfl⟩)
  have e : opLong o = false := by simp [opLong]; omega
  simp [opCheck, e, hb]

end Go.Proofs.YtbbnmgakmcppdaaGreat.Api
namespace Go.Proofs.YtbbnmgakmcppdaaGreat.Ref16
open Go Go.Proofs.YtbbnmgakmcppdaaGreat.Vg Go.Proofs.YtbbnmgakmcppdaaGreat.T Go.Proofs.YtbbnmgakmcppdaaGreat.Api Go.Proofs.YtbbnmgakmcppdaaGreat.Sched
set_option linter.unusedSimpArgs false
set_option linter.unusedVariables false
attribute [local irreducible] VO VC VA

abbrev FL := RL FM
/-- Where the parts lie. -/
structure RfS where
  ua : Option Addr
  uc : Nat
  qb : Nat
  qc : Nat
  cb : Nat
  cc : Nat
  sb : Nat
  sc : Nat
  rows : List FL
def rfC (s : RfS) (n : Nat) (cap t : Int) (f : Bool) : List Value := [.int .i64 cap, .slice s.ua n s.uc, .slice (some ⟨s.qb, 0, none⟩) n s.qc, .slice (some ⟨s.cb, 0, none⟩) n s.cc, .slice (some ⟨s.sb, 0, none⟩) n s.sc, .int .i64 t, .bool f]
def crs (l : List ClsM) : List Value := l.map fun c => .int .i64 c.credit
def svs (l : List ClsM) : List Value := l.map fun c => .int .i64 c.served
def rfR (s : RfS) : List HP := s.rows.map fun r => r.h 46
def rfL (p : Nat) (S : SchM) (s : RfS) : List HP := pt p (rfC s S.cls.length S.cap S.turn S.fresh) 174 :: pt s.qb (s.rows.map RL.v) 65 :: pt s.cb (crs S.cls) 3 :: pt s.sb (svs S.cls) 3 :: rfR s
structure RfOk (S : SchM) (a : Option Addr) (s : RfS) : Prop where
  wf : S.Wf
  ua : s.ua = a
  len : s.rows.length = S.cls.length
  ok : ∀ (k : Nat) (r : FL), s.rows[k]? = some r → r.Ok fmc 29
  link : ∀ (k : Nat) (r : FL) (c : ClsM), s.rows[k]? = some r → S.cls[k]? = some c → r.xs.map Prod.fst = c.q
def rfH (p : Nat) (a : Option Addr) (S : SchM) : HP := hex fun s => hsep (hpure (RfOk S a s) :: rfL p S s)
theorem rf_shut {p : Nat} {a : Option Addr} {S : SchM} {L : List HP} (s : RfS) (hs : RfOk S a s) (h : Imp L (rfL p S s)) : Imp L [rfH p a S] :=
  Imp.ex s (Imp.sep (Imp.trans h (Imp.of_eq (List.append_nil _).symm |>.trans (Imp.pure hs Imp.refl))))
structure RfIn (Fr : Nat → Prop) (w : World) (p : Nat) (a : Option Addr) (S : SchM) (s : RfS) : Prop where
  ok : RfOk S a s
  at0 : Blk Fr w p (rfC s S.cls.length S.cap S.turn S.fresh)
  q : Blk Fr w s.qb (s.rows.map RL.v)
  cr : Blk Fr w s.cb (crs S.cls)
  sv : Blk Fr w s.sb (svs S.cls)
  row : ∀ (k : Nat) (r : FL) (b : Nat), s.rows[k]? = some r → r.blk = some b → Blk Fr w b r.cells
theorem RfIn.of {Fr : Nat → Prop} {w : World} {p : Nat} {a : Option Addr} {S : SchM} (h : SatIn Fr [rfH p a S] w) : ∃ s, RfIn Fr w p a S s := by
  obtain ⟨s, h⟩ := h.ex
  have h := h.sep
  exact ⟨s, h.pure 0 rfl, h.blk 1 rfl, h.blk 2 rfl, h.blk 3 rfl, h.blk 4 rfl, fun k r b hr hb => h.blk (t := 46) (k + 5) (by simp [rfL, rfR, hr, RL.h_pt hb])⟩

theorem RfOk.row {S : SchM} {a : Option Addr} {s : RfS} (h : RfOk S a s) {k : Nat} (hk : k < S.cls.length) : ∃ r c, s.rows[k]? = some r ∧ S.cls[k]? = some c ∧ r.Ok fmc 29 ∧ r.xs.map Prod.fst = c.q := by
  have hk' : k < s.rows.length := by rw [h.len]; exact hk
  have h1 := List.getElem?_eq_getElem hk'
  have h2 := List.getElem?_eq_getElem hk
  exact ⟨_, _, h1, h2, h.ok _ _ h1, h.link _ _ _ h1 h2⟩
theorem rows_v {s : RfS} {k : Nat} {r : FL} (hr : s.rows[k]? = some r) : (s.rows.map RL.v)[0 + k * 1]? = some r.v := by rw [Nat.zero_add, Nat.mul_one, List.getElem?_map, hr]; rfl
theorem svs_at {l : List ClsM} {k : Nat} {c : ClsM} (hc : l[k]? = some c) : (svs l)[0 + k * 1]? = some (.int .i64 c.served) := by rw [Nat.zero_add, Nat.mul_one, svs, List.getElem?_map, hc]; rfl
theorem has_spec (Fr : Nat → Prop) (w : World) {p n : Nat} {s : RfS} {cap t : Int} {f : Bool} (i : Int) (h : Blk Fr w p (rfC s n cap t f)) : Tri Tryz.prog 127 [.pointer (some ⟨p, 0, none⟩), .int .i64 i] Fr w [] (fun v L => v = .bool (decide (0 ≤ i ∧ i < n)) ∧ L = []) := by
  refine Tri.of 16 Tryz.func127 rfl (by kernel_rfl) tabOk rfl rfl ?_
  (repeat (first|refine zS ?_|refine zR ?_|refine zB ?_|refine zL ?_|refine zC ?_|refine zG (zN ?_)|refine zG (zD 0 rfl rfl rfl rfl ?_)))
  refine VO.go (VO.split 7 rfl rfl (fun h1 => ?_) (fun h1 => ?_))
  · have h1 := of_decide_eq_true h1
    (repeat (first|refine zS ?_|refine zR ?_|refine zB ?_|refine zL ?_|refine zC ?_|refine zG (zN ?_)|refine zG (zE rfl rfl (RdL.blk h rfl) ?_)))
    exact VC.ret (Ret.bool 4 rfl rfl (by simp [h1]) Ent.refl ⟨rfl, rfl⟩)
  · have h1 := of_decide_eq_false h1
    (repeat (first|refine zS ?_|refine zR ?_|refine zB ?_|refine zL ?_|refine zC ?_|refine zG (zN ?_)|refine zG (zD 0 rfl rfl rfl rfl ?_)))
    exact VC.ret (Ret.bool 4 rfl rfl (by simp [h1]) Ent.refl ⟨rfl, rfl⟩)

set_option maxRecDepth 100000 in
theorem waiting_spec (Fr : Nat → Prop) (w : World) {p : Nat} {a : Option Addr} {S : SchM} (h : SatIn Fr [rfH p a S] w) :
    Tri Tryz.prog 241 [.pointer (some ⟨p, 0, none⟩)] Fr w [] (fun v L => ∃ a c gs, gs.map Prod.fst = S.waitM ∧ v = .slice a gs.length c ∧ L = [frH a c gs]) := by
  obtain ⟨s, h⟩ := RfIn.of h
  have hb := h.at0
  have hq := h.q
  have hn := h.ok.len
  have hn4 := h.ok.wf.n1
  refine Tri.of 24 Tryz.func241 rfl (by kernel_rfl) tabOk rfl rfl ?_
  (repeat (first|refine zS ?_|refine zR ?_|refine zB ?_|refine zL ?_|refine zC ?_|refine zG (zN ?_)|refine zG (zD 0 rfl rfl rfl rfl ?_)))
  refine VC.loop (σ := Nat × Option Addr × Nat × List FM) (fun x => [(0, .pointer (some ⟨p, 0, none⟩)), (3, .slice x.2.1 x.2.2.2.length x.2.2.1), (4, .int .i64 x.1)]) (fun x => [frH x.2.1 x.2.2.1 x.2.2.2]) (fun x => WaitI S.cls.length ((S.cls.take x.1).flatMap ClsM.q) x) (fun x => 4 - x.1) (0, none, 0, []) ⟨Nat.zero_le _, Nat.le_refl _, rfl⟩ (Sub.cons rfl (Sub.cons rfl (Sub.cons rfl (Sub.nil _)))) (Imp.slNil Imp.refl).ent ?_
  rintro ⟨i, a, c, gs⟩ ⟨hi, hroom, hgs⟩
  dsimp only at hi hroom hgs ⊢
  (repeat (first|refine zS ?_|refine zR ?_|refine zB ?_|refine zL ?_|refine zC ?_|refine zG (zN ?_)|refine zG (zE rfl rfl (RdL.blk hb rfl) ?_)))
  refine VC.condP rfl (fun h1 => VC.skip ?_) (fun h1 => VC.exit ?_)
  · have hk : i < S.cls.length := by omega
    obtain ⟨r, cl, hr, hc, hok, hl⟩ := h.ok.row hk
    have hlen : r.xs.length = cl.q.length := by have := congrArg List.length hl; simpa using this
    have hql := h.ok.wf.qs cl (List.mem_of_getElem? hc)
    have hcap := h.ok.wf.cap1
    have hlenA := h.ok.wf.few i
    have hgl : gs.length ≤ 64 := by
      have := congrArg List.length hgs
      rw [List.length_map] at this
      omega
    (repeat (first|refine zS ?_|refine zR ?_|refine zB ?_|refine zL ?_|refine zC ?_|refine zG (zN ?_)|refine zG (zE rfl rfl (RdL.blk hb rfl) ?_)))
    refine VO.go (VO.light (light_idx i rfl rfl rfl rfl rfl rfl hk) ?_)
    refine VO.go (VO.load rfl rfl (RdL.blk hq (rows_v hr)) ?_)
    have hrd : RdRow (⟨Tryz.prog, tab, tabOk, 24, Fr, w⟩ : Cx) [frH a c gs] r.v 29 r.xs.length (flat fmc r.xs) := by
      by_cases hx : r.xs = []
      · exact ⟨by simp [hx, flat], .inl ⟨r.addr, r.cap, rfl, by simp [hx]⟩⟩
      · obtain ⟨b, off, h1, h2, h3⟩ := hok.at_ hx
        rw [RL.v, h2]
        exact RdRow.blk (h.row i r b hr h1) (flat_rows h3) (flat_len fmc_len _)
    refine VO.go (VO.append (m := r.xs.length) (news := flat fmc r.xs) 0 rfl rfl rfl rfl rfl rfl rfl hrd (flat_all fmc_one _) (by show (gs.length + r.xs.length) * 288 ≤ _; omega) (by omega) fun a' c' hc' => VO.go (VO.nil ?_))
    (repeat (first|refine zS ?_|refine zR ?_|refine zB ?_|refine zL ?_|refine zC ?_|refine zG (zN ?_)|refine zG (zD 0 rfl rfl rfl rfl ?_)))
    refine VO.go (VO.add rfl rfl (by omega) (by omega) ?_)
    (repeat (first|refine zS ?_|refine zR ?_|refine zB ?_|refine zL ?_|refine zC ?_|refine zG (zN ?_)|refine zG (zD 0 rfl rfl rfl rfl ?_)))
    have hL : (gs ++ r.xs).length = gs.length + r.xs.length := by simp
    refine ⟨(i + 1, a', c', gs ++ r.xs), ⟨hk, by dsimp only; rw [hL]; exact hc', ?_⟩, by dsimp only; omega, Sub.cons rfl (Sub.cons (by rw [hL]; rfl) (Sub.cons rfl (Sub.nil _))), (Imp.of_eq ?_).ent⟩
    · dsimp only; rw [List.map_append, hgs, hl, List.take_add_one, hc, List.flatMap_append]; simp
    · dsimp only; rw [← hL, ← flat_append]; rfl
  · have hk : i = S.cls.length := by omega
    subst hk
    rw [List.take_length] at hgs
    (repeat (first|refine zS ?_|refine zR ?_|refine zB ?_|refine zL ?_|refine zC ?_|refine zG (zN ?_)|refine zG (zD 0 rfl rfl rfl rfl ?_)))
    exact VC.ret (Ret.tmp 2 rfl rfl Ent.refl ⟨a, c, gs, hgs, rfl, rfl⟩)

end Go.Proofs.YtbbnmgakmcppdaaGreat.Ref16
namespace Go.Proofs.YtbbnmgakmcppdaaGreat.Ref16
open Go Go.Proofs.YtbbnmgakmcppdaaGreat.Vg Go.Proofs.YtbbnmgakmcppdaaGreat.T Go.Proofs.YtbbnmgakmcppdaaGreat.Api Go.Proofs.YtbbnmgakmcppdaaGreat.Sched
set_option linter.unusedSimpArgs false
set_option linter.unusedVariables false
attribute [local irreducible] VO VC VA

def preOk (qs : List Int) (cap : Int) : Bool := decide (1 ≤ qs.length) && decide (qs.length ≤ 4) && decide (1 ≤ cap) && decide (cap ≤ 16)
theorem pre_new {qs : List Int} {cap : Int} : newOk qs cap = (preOk qs cap && qs.all quantumOk) := rfl
def newRf (a : Option Addr) (qs : List Int) (cap : Int) (v : Value) (L : List HP) : Prop := if newOk qs cap = true then ∃ p, v = .tuple #[.pointer (some ⟨p, 0, none⟩), .int .i64 0] ∧ L = [rfH p a (SchM.new qs cap)] else v = .tuple #[.pointer none, .int .i64 2] ∧ L = []
theorem rep_flat {v : Value} (n : Nat) : (List.replicate n [v]).flatten = List.replicate n v := by
  induction n with
  | zero => rfl
  | succ n ih => rw [List.replicate_succ, List.flatten_cons, ih, List.replicate_succ]; rfl
theorem new_ok {a : Option Addr} {qs : List Int} {cap : Int} (s : RfS) (h : newOk qs cap = true) (hu : s.ua = a) (hr : s.rows = List.replicate qs.length RL.none) : RfOk (SchM.new qs cap) a s := by
  refine ⟨SchM.new_wf h, hu, by simp [hr, SchM.new], fun k r hk => ?_, fun k r c hk hc => ?_⟩
  · rw [hr] at hk
    obtain rfl := List.eq_of_mem_replicate (List.mem_of_getElem? hk)
    exact RL.none_ok
  · rw [hr] at hk
    obtain rfl := List.eq_of_mem_replicate (List.mem_of_getElem? hk)
    obtain ⟨q, _, rfl⟩ := List.mem_map.1 (List.mem_of_getElem? hc)
    rfl
theorem pure_rows : ∀ n : Nat, Imp [] ((List.replicate n (RL.none : FL)).map fun r => r.h 46)
  | 0 => Imp.refl
  | n + 1 => by rw [List.replicate_succ, List.map_cons]; exact Imp.pure trivial (pure_rows n)

set_option maxRecDepth 100000 in
theorem new_spec (Fr : Nat → Prop) (w : World) (a : Option Addr) (qc : Nat) (qs : List Int) (cap : Int) (hq : IntsIn Fr w a qs) (h6 : qs.length ≤ 6) :
    Tri Tryz.prog 157 [.slice a qs.length qc, .int .i64 cap] Fr w [] (newRf a qs cap) := by
  refine Tri.of 57 Tryz.func157 rfl (by kernel_rfl) tabOk rfl rfl ?_
  refine VC.seq (VC.region (VO.go (VO.nil (VC.seq (VC.region (VO.go (VO.nil ?_)))))))
  refine VC.meet (σ := Bool) (fun ok => [(0, .slice a qs.length qc), (1, .int .i64 cap), (6, .int .i64 qs.length), (7, .bool ok)]) (fun _ => []) (fun ok => ok = preOk qs cap) ?_ ?_
  · refine VC.region ?_
    refine VO.go (VO.split 13 rfl rfl (fun h1 => ?_) (fun h1 => VO.go (VO.yes 17 false rfl rfl (VO.go (VO.yes 21 false rfl rfl (VO.go (VO.nil ?_)))))))
    · have h1 := of_decide_eq_true h1
      refine VO.go (VO.split 17 rfl rfl (fun h2 => ?_) (fun h2 => VO.go (VO.yes 21 false rfl rfl (VO.go (VO.nil ?_)))))
      · have h2 := of_decide_eq_true h2
        refine VO.go (VO.split 21 rfl rfl (fun h3 => ?_) (fun h3 => VO.go (VO.nil ?_)))
        · have h3 := of_decide_eq_true h3
          refine VO.go (VO.nil ⟨_, ?_, Sub.cons rfl (Sub.cons rfl (Sub.cons rfl (Sub.cons rfl (Sub.nil _)))), Ent.refl⟩)
          have h1' : 1 ≤ qs.length := by omega
          have h2' : qs.length ≤ 4 := by omega
          simp [preOk, h1', h2', h3]
        · have h3 := of_decide_eq_false h3
          refine ⟨false, ?_, Sub.cons rfl (Sub.cons rfl (Sub.cons rfl (Sub.cons rfl (Sub.nil _)))), Ent.refl⟩
          simp [preOk, h3]
      · have h2 := of_decide_eq_false h2
        have h2' : ¬ qs.length ≤ 4 := by omega
        refine ⟨false, ?_, Sub.cons rfl (Sub.cons rfl (Sub.cons rfl (Sub.cons rfl (Sub.nil _)))), Ent.refl⟩
        simp [preOk, h2']
    · have h1 := of_decide_eq_false h1
      have h1' : ¬ 1 ≤ qs.length := by omega
      refine ⟨false, ?_, Sub.cons rfl (Sub.cons rfl (Sub.cons rfl (Sub.cons rfl (Sub.nil _)))), Ent.refl⟩
      simp [preOk, h1']
  rintro ok hok
  (repeat (first|refine zS ?_|refine zR ?_|refine zB ?_|refine zL ?_|refine zC ?_|refine zG (zN ?_)|refine zG (zD 0 rfl rfl rfl rfl ?_)))
  refine VC.loop (σ := Nat × Bool) (fun x => [(0, .slice a qs.length qc), (1, .int .i64 cap), (6, .int .i64 qs.length), (7, .bool x.2), (8, .int .i64 x.1)]) (fun _ => []) (fun x => x.1 ≤ qs.length ∧ x.2 = (preOk qs cap && (qs.take x.1).all quantumOk)) (fun x => 6 - x.1) (0, ok) ⟨Nat.zero_le _, by simp [hok]⟩ (Sub.cons rfl (Sub.cons rfl (Sub.cons rfl (Sub.cons rfl (Sub.cons rfl (Sub.nil _)))))) Ent.refl ?_
  clear hok ok
  rintro ⟨i, ok⟩ ⟨hi, hok⟩
  dsimp only at hi hok ⊢
  (repeat (first|refine zS ?_|refine zR ?_|refine zB ?_|refine zL ?_|refine zC ?_|refine zG (zN ?_)|refine zG (zD 0 rfl rfl rfl rfl ?_)))
  refine VC.condP rfl (fun h1 => VC.skip ?_) (fun h1 => VC.exit ?_)
  · have hi2 : i < qs.length := by omega
    obtain ⟨b, off, ha, hF, hcell⟩ := hq.at_ (fun e => by rw [e] at hi2; simp at hi2)
    subst ha
    have hqi := List.getElem?_eq_getElem hi2
    have htake : qs.take (i + 1) = qs.take i ++ [qs[i]] := by rw [List.take_add_one, hqi]; rfl
    generalize hqv : qs[i] = q at hqi htake
    have hc : w.cell? ⟨b, off + i * 1, none⟩ = some (.int .i64 q) := by rw [Nat.mul_one]; exact hcell i _ hqi
    have hall : (qs.take (i + 1)).all quantumOk = ((qs.take i).all quantumOk && quantumOk q) := by rw [htake, List.all_append]; simp
    (repeat (first|refine zS ?_|refine zR ?_|refine zB ?_|refine zL ?_|refine zC ?_|refine zG (zN ?_)|refine zG (zD 0 rfl rfl rfl rfl ?_)))
    refine VO.go (VO.split 31 rfl rfl (fun h2 => ?_) (fun h2 => VO.go (VO.yes 38 false rfl rfl (VO.go (VO.nil ?_)))))
    · subst h2
      refine VO.go (VO.light (light_idx i rfl rfl rfl rfl rfl rfl hi2) ?_)
      refine VO.go (VO.load rfl rfl (RdL.rd (v := .int .i64 q) hF hc) ?_)
      refine VO.go (VO.split 38 rfl rfl (fun h3 => ?_) (fun h3 => VO.go (VO.nil ?_)))
      · have h3 := of_decide_eq_true h3
        refine VO.go (VO.light (light_idx i rfl rfl rfl rfl rfl rfl hi2) ?_)
        refine VO.go (VO.load rfl rfl (RdL.rd (v := .int .i64 q) hF hc) (VO.go (VO.nil ?_)))
        (repeat (first|refine zS ?_|refine zR ?_|refine zB ?_|refine zL ?_|refine zC ?_|refine zG (zN ?_)|refine zG (zD 0 rfl rfl rfl rfl ?_)))
        refine VO.go (VO.add rfl rfl (by omega) (by omega) ?_)
        (repeat (first|refine zS ?_|refine zR ?_|refine zB ?_|refine zL ?_|refine zC ?_|refine zG (zN ?_)|refine zG (zD 0 rfl rfl rfl rfl ?_)))
        refine ⟨(i + 1, decide (q ≤ 65536)), ⟨hi2, ?_⟩, by dsimp only; omega, Sub.cons rfl (Sub.cons rfl (Sub.cons rfl (Sub.cons rfl (Sub.cons rfl (Sub.nil _))))), Ent.refl⟩
        dsimp only
        rw [hall, ← Bool.and_assoc, ← hok]
        simp [quantumOk, h3]
      · have h3 := of_decide_eq_false h3
        (repeat (first|refine zS ?_|refine zR ?_|refine zB ?_|refine zL ?_|refine zC ?_|refine zG (zN ?_)|refine zG (zD 0 rfl rfl rfl rfl ?_)))
        refine VO.go (VO.add rfl rfl (by omega) (by omega) ?_)
        (repeat (first|refine zS ?_|refine zR ?_|refine zB ?_|refine zL ?_|refine zC ?_|refine zG (zN ?_)|refine zG (zD 0 rfl rfl rfl rfl ?_)))
        refine ⟨(i + 1, false), ⟨hi2, ?_⟩, by dsimp only; omega, Sub.cons rfl (Sub.cons rfl (Sub.cons rfl (Sub.cons rfl (Sub.cons rfl (Sub.nil _))))), Ent.refl⟩
        dsimp only
        rw [hall]
        simp [quantumOk, h3]
    · subst h2
      (repeat (first|refine zS ?_|refine zR ?_|refine zB ?_|refine zL ?_|refine zC ?_|refine zG (zN ?_)|refine zG (zD 0 rfl rfl rfl rfl ?_)))
      refine VO.go (VO.add rfl rfl (by omega) (by omega) ?_)
      (repeat (first|refine zS ?_|refine zR ?_|refine zB ?_|refine zL ?_|refine zC ?_|refine zG (zN ?_)|refine zG (zD 0 rfl rfl rfl rfl ?_)))
      refine ⟨(i + 1, false), ⟨hi2, ?_⟩, by dsimp only; omega, Sub.cons rfl (Sub.cons rfl (Sub.cons rfl (Sub.cons rfl (Sub.cons rfl (Sub.nil _))))), Ent.refl⟩
      dsimp only
      rw [hall, ← Bool.and_assoc, ← hok]; rfl
  have hi2 : i = qs.length := by omega
  subst hi2
  rw [List.take_length, ← pre_new] at hok
  subst hok
  (repeat (first|refine zS ?_|refine zR ?_|refine zB ?_|refine zL ?_|refine zC ?_|refine zG (zN ?_)|refine zG (zD 0 rfl rfl rfl rfl ?_)))
  refine VC.condN rfl (fun h2 => ?_) (fun h2 => VC.skip ?_)
  · (repeat (first|refine zS ?_|refine zR ?_|refine zB ?_|refine zL ?_|refine zC ?_|refine zG (zN ?_)|refine zG (zD 0 rfl rfl rfl rfl ?_)))
    refine VC.ret (Ret.tmp2 4 5 rfl rfl rfl Ent.refl ?_)
    unfold newRf; rw [if_neg (by rw [h2]; simp)]; exact ⟨rfl, rfl⟩
  have hwf := SchM.new_wf h2
  have hn4 : qs.length ≤ 4 := by simpa [SchM.new] using hwf.n1
  refine VC.meet (σ := Nat × Nat × Nat × Nat) (fun x => [(4, .pointer (some ⟨x.1, 0, none⟩)), (5, .int .i64 0)]) (fun x => [rfH x.1 a (SchM.new qs cap)]) (fun _ => True) ?_ ?_
  rotate_left
  · rintro ⟨p, qb, cb, sb⟩ _
    refine VC.ret (Ret.tmp2 4 5 rfl rfl rfl Ent.refl ?_)
    unfold newRf; rw [if_pos h2]; exact ⟨p, rfl, rfl⟩
  have hcap : (cap.toNat : Int) = cap := by have := hwf.cap0; simp [SchM.new] at this; omega
  have fin : ∀ {p qb cb sb : Nat}, Imp [pt p [.int .i64 cap, .slice a qs.length qc, .slice (some ⟨qb, 0, none⟩) qs.length qs.length, .slice (some ⟨cb, 0, none⟩) qs.length qs.length, .slice (some ⟨sb, 0, none⟩) qs.length qs.length, .int .i64 0, .bool true] 174, pt qb (List.replicate qs.length [Value.slice none 0 0]).flatten 65, pt cb (List.replicate qs.length [Value.int .i64 0]).flatten 3, pt sb (List.replicate qs.length [Value.int .i64 0]).flatten 3] [rfH p a (SchM.new qs cap)] := fun {p qb cb sb} => by
    refine rf_shut ⟨a, qc, qb, qs.length, cb, qs.length, sb, qs.length, List.replicate qs.length RL.none⟩ (new_ok _ h2 rfl rfl) ?_
    refine Imp.trans (Imp.app (L := [_, _, _, _]) (M := [_, _, _, _]) Imp.refl (pure_rows qs.length)) (Imp.of_eq ?_)
    simp only [rep_flat, List.cons_append, List.nil_append, rfL, rfC, crs, svs, rfR, SchM.new, List.map_map, List.length_map, hcap, List.map_replicate]
    congr 3
    · simp [Function.comp_def, clsNew, List.map_const']
    · simp [Function.comp_def, clsNew, List.map_const']
  refine VC.draw (ts 0 3 (.take 4 (.take 6 (.three 3 5 7 (.two 5 7 (.only 7 (.take 8 (.only 9 (ts 10 2 .nil)))) (.only 5 (.take 8 (.only 9 (ts 10 2 .nil))))) (.two 3 7 (.only 7 (.take 8 (.only 9 (ts 10 2 .nil)))) (.only 3 (.take 8 (.only 9 (ts 10 2 .nil))))) (.two 3 5 (.only 5 (.take 8 (.only 9 (ts 10 2 .nil)))) (.only 3 (.take 8 (.only 9 (ts 10 2 .nil))))))))) (by kernel_rfl) (by decide +kernel) ?_
  (repeat (first|refine yG (yN ?_)|refine yG (yD 0 rfl rfl rfl rfl rfl ?_)))
  refine VA.go (VA.three rfl rfl rfl rfl rfl rfl (OpT.makeSlice qs.length rfl rfl rfl rfl rfl (by omega) (by show 24 * qs.length ≤ _; omega)) rfl rfl rfl (OpT.makeSlice qs.length rfl rfl rfl rfl rfl (by omega) (by show 8 * qs.length ≤ _; omega)) rfl rfl rfl (OpT.makeSlice qs.length rfl rfl rfl rfl rfl (by omega) (by show 8 * qs.length ≤ _; omega)) (fun v L' _ => (by (try refine Pd.st ?_);(repeat (first|exact Pd.nil|exact Pd.fnil|refine Pd.inner ?_|refine Pd.skip (by decide +kernel) ?_|refine zf (zo 0 rfl rfl) ?_|refine zf (zm 0 rfl rfl) ?_|refine zc (zo 0 rfl rfl) ?_|refine zc (zm 0 rfl rfl) ?_)))) (fun v L' _ => (by (try refine Pd.st ?_);(repeat (first|exact Pd.nil|exact Pd.fnil|refine Pd.inner ?_|refine Pd.skip (by decide +kernel) ?_|refine zf (zo 0 rfl rfl) ?_|refine zf (zm 0 rfl rfl) ?_|refine zc (zo 0 rfl rfl) ?_|refine zc (zm 0 rfl rfl) ?_)))) (fun v L' _ => (by (try refine Pd.st ?_);(repeat (first|exact Pd.nil|exact Pd.fnil|refine Pd.inner ?_|refine Pd.skip (by decide +kernel) ?_|refine zf (zo 0 rfl rfl) ?_|refine zf (zm 0 rfl rfl) ?_|refine zc (zo 0 rfl rfl) ?_|refine zc (zm 0 rfl rfl) ?_)))) ?_ ?_ ?_)
  · rintro _ _ ⟨qb, rfl, rfl⟩
    refine VA.go (VA.two rfl rfl rfl rfl rfl (OpT.makeSlice qs.length rfl rfl rfl rfl rfl (by omega) (by show 8 * qs.length ≤ _; omega)) rfl rfl rfl (OpT.makeSlice qs.length rfl rfl rfl rfl rfl (by omega) (by show 8 * qs.length ≤ _; omega)) (fun v L' _ => (by (try refine Pd.st ?_);(repeat (first|exact Pd.nil|exact Pd.fnil|refine Pd.inner ?_|refine Pd.skip (by decide +kernel) ?_|refine zf (zo 0 rfl rfl) ?_|refine zf (zm 0 rfl rfl) ?_|refine zc (zo 0 rfl rfl) ?_|refine zc (zm 0 rfl rfl) ?_)))) (fun v L' _ => (by (try refine Pd.st ?_);(repeat (first|exact Pd.nil|exact Pd.fnil|refine Pd.inner ?_|refine Pd.skip (by decide +kernel) ?_|refine zf (zo 0 rfl rfl) ?_|refine zf (zm 0 rfl rfl) ?_|refine zc (zo 0 rfl rfl) ?_|refine zc (zm 0 rfl rfl) ?_)))) ?_ ?_)
    · rintro _ _ ⟨cb, rfl, rfl⟩
      refine VA.go (VA.opP (OpT.makeSlice qs.length rfl rfl rfl rfl rfl (by omega) (by show 8 * qs.length ≤ _; omega)) rfl (fun v L' _ => (by (try refine Pd.st ?_);(repeat (first|exact Pd.nil|exact Pd.fnil|refine Pd.inner ?_|refine Pd.skip (by decide +kernel) ?_|refine zf (zo 0 rfl rfl) ?_|refine zf (zm 0 rfl rfl) ?_|refine zc (zo 0 rfl rfl) ?_|refine zc (zm 0 rfl rfl) ?_)))) ?_)
      rintro _ _ ⟨sb, rfl, rfl⟩
      (repeat (first|refine yG (yN ?_)|refine yG (yD 0 rfl rfl rfl rfl rfl ?_)))
      refine VA.go (VA.light rfl (light_build (pv := [(0, .int .i64 cap), (1, .slice a qs.length qc), (2, .slice (some ⟨qb, 0, none⟩) qs.length qs.length), (3, .slice (some ⟨cb, 0, none⟩) qs.length qs.length), (4, .slice (some ⟨sb, 0, none⟩) qs.length qs.length), (6, .bool true)]) [.int .i64 cap, .slice a qs.length qc, .slice (some ⟨qb, 0, none⟩) qs.length qs.length, .slice (some ⟨cb, 0, none⟩) qs.length qs.length, .slice (some ⟨sb, 0, none⟩) qs.length qs.length, .int .i64 0, .bool true] rfl rfl rfl rfl rfl) ?_)
      refine VA.go (VA.opP (OpT.box rfl rfl) rfl (fun v L' _ => (by (try refine Pd.st ?_);(repeat (first|exact Pd.nil|exact Pd.fnil|refine Pd.inner ?_|refine Pd.skip (by decide +kernel) ?_|refine zf (zo 0 rfl rfl) ?_|refine zf (zm 0 rfl rfl) ?_|refine zc (zo 0 rfl rfl) ?_|refine zc (zm 0 rfl rfl) ?_)))) ?_)
      rintro _ _ ⟨p, rfl, rfl⟩
      (repeat (first|refine yG (yN ?_)|refine yG (yD 0 rfl rfl rfl rfl rfl ?_)))
      exact ⟨(p, qb, cb, sb), trivial, Sub.cons rfl (Sub.cons rfl (Sub.nil _)), (Imp.trans (Imp.cons (Imp.pick 2 rfl (Imp.pick 1 rfl (Imp.pick 0 rfl Imp.refl)))) fin).ent⟩
    · rintro _ _ ⟨sb, rfl, rfl⟩
      refine VA.go (VA.opP (OpT.makeSlice qs.length rfl rfl rfl rfl rfl (by omega) (by show 8 * qs.length ≤ _; omega)) rfl (fun v L' _ => (by (try refine Pd.st ?_);(repeat (first|exact Pd.nil|exact Pd.fnil|refine Pd.inner ?_|refine Pd.skip (by decide +kernel) ?_|refine zf (zo 0 rfl rfl) ?_|refine zf (zm 0 rfl rfl) ?_|refine zc (zo 0 rfl rfl) ?_|refine zc (zm 0 rfl rfl) ?_)))) ?_)
      rintro _ _ ⟨cb, rfl, rfl⟩
      (repeat (first|refine yG (yN ?_)|refine yG (yD 0 rfl rfl rfl rfl rfl ?_)))
      refine VA.go (VA.light rfl (light_build (pv := [(0, .int .i64 cap), (1, .slice a qs.length qc), (2, .slice (some ⟨qb, 0, none⟩) qs.length qs.length), (3, .slice (some ⟨cb, 0, none⟩) qs.length qs.length), (4, .slice (some ⟨sb, 0, none⟩) qs.length qs.length), (6, .bool true)]) [.int .i64 cap, .slice a qs.length qc, .slice (some ⟨qb, 0, none⟩) qs.length qs.length, .slice (some ⟨cb, 0, none⟩) qs.length qs.length, .slice (some ⟨sb, 0, none⟩) qs.length qs.length, .int .i64 0, .bool true] rfl rfl rfl rfl rfl) ?_)
      refine VA.go (VA.opP (OpT.box rfl rfl) rfl (fun v L' _ => (by (try refine Pd.st ?_);(repeat (first|exact Pd.nil|exact Pd.fnil|refine Pd.inner ?_|refine Pd.skip (by decide +kernel) ?_|refine zf (zo 0 rfl rfl) ?_|refine zf (zm 0 rfl rfl) ?_|refine zc (zo 0 rfl rfl) ?_|refine zc (zm 0 rfl rfl) ?_)))) ?_)
      rintro _ _ ⟨p, rfl, rfl⟩
      (repeat (first|refine yG (yN ?_)|refine yG (yD 0 rfl rfl rfl rfl rfl ?_)))
      exact ⟨(p, qb, cb, sb), trivial, Sub.cons rfl (Sub.cons rfl (Sub.nil _)), (Imp.trans (Imp.cons (Imp.pick 2 rfl (Imp.pick 0 rfl (Imp.pick 0 rfl Imp.refl)))) fin).ent⟩
  · rintro _ _ ⟨cb, rfl, rfl⟩
    refine VA.go (VA.two rfl rfl rfl rfl rfl (OpT.makeSlice qs.length rfl rfl rfl rfl rfl (by omega) (by show 24 * qs.length ≤ _; omega)) rfl rfl rfl (OpT.makeSlice qs.length rfl rfl rfl rfl rfl (by omega) (by show 8 * qs.length ≤ _; omega)) (fun v L' _ => (by (try refine Pd.st ?_);(repeat (first|exact Pd.nil|exact Pd.fnil|refine Pd.inner ?_|refine Pd.skip (by decide +kernel) ?_|refine zf (zo 0 rfl rfl) ?_|refine zf (zm 0 rfl rfl) ?_|refine zc (zo 0 rfl rfl) ?_|refine zc (zm 0 rfl rfl) ?_)))) (fun v L' _ => (by (try refine Pd.st ?_);(repeat (first|exact Pd.nil|exact Pd.fnil|refine Pd.inner ?_|refine Pd.skip (by decide +kernel) ?_|refine zf (zo 0 rfl rfl) ?_|refine zf (zm 0 rfl rfl) ?_|refine zc (zo 0 rfl rfl) ?_|refine zc (zm 0 rfl rfl) ?_)))) ?_ ?_)
    · rintro _ _ ⟨qb, rfl, rfl⟩
      refine VA.go (VA.opP (OpT.makeSlice qs.length rfl rfl rfl rfl rfl (by omega) (by show 8 * qs.length ≤ _; omega)) rfl (fun v L' _ => (by (try refine Pd.st ?_);(repeat (first|exact Pd.nil|exact Pd.fnil|refine Pd.inner ?_|refine Pd.skip (by decide +kernel) ?_|refine zf (zo 0 rfl rfl) ?_|refine zf (zm 0 rfl rfl) ?_|refine zc (zo 0 rfl rfl) ?_|refine zc (zm 0 rfl rfl) ?_)))) ?_)
      rintro _ _ ⟨sb, rfl, rfl⟩
      (repeat (first|refine yG (yN ?_)|refine yG (yD 0 rfl rfl rfl rfl rfl ?_)))
      refine VA.go (VA.light rfl (light_build (pv := [(0, .int .i64 cap), (1, .slice a qs.length qc), (2, .slice (some ⟨qb, 0, none⟩) qs.length qs.length), (3, .slice (some ⟨cb, 0, none⟩) qs.length qs.length), (4, .slice (some ⟨sb, 0, none⟩) qs.length qs.length), (6, .bool true)]) [.int .i64 cap, .slice a qs.length qc, .slice (some ⟨qb, 0, none⟩) qs.length qs.length, .slice (some ⟨cb, 0, none⟩) qs.length qs.length, .slice (some ⟨sb, 0, none⟩) qs.length qs.length, .int .i64 0, .bool true] rfl rfl rfl rfl rfl) ?_)
      refine VA.go (VA.opP (OpT.box rfl rfl) rfl (fun v L' _ => (by (try refine Pd.st ?_);(repeat (first|exact Pd.nil|exact Pd.fnil|refine Pd.inner ?_|refine Pd.skip (by decide +kernel) ?_|refine zf (zo 0 rfl rfl) ?_|refine zf (zm 0 rfl rfl) ?_|refine zc (zo 0 rfl rfl) ?_|refine zc (zm 0 rfl rfl) ?_)))) ?_)
      rintro _ _ ⟨p, rfl, rfl⟩
      (repeat (first|refine yG (yN ?_)|refine yG (yD 0 rfl rfl rfl rfl rfl ?_)))
      exact ⟨(p, qb, cb, sb), trivial, Sub.cons rfl (Sub.cons rfl (Sub.nil _)), (Imp.trans (Imp.cons (Imp.pick 1 rfl (Imp.pick 1 rfl (Imp.pick 0 rfl Imp.refl)))) fin).ent⟩
    · rintro _ _ ⟨sb, rfl, rfl⟩
      refine VA.go (VA.opP (OpT.makeSlice qs.length rfl rfl rfl rfl rfl (by omega) (by show 24 * qs.length ≤ _; omega)) rfl (fun v L' _ => (by (try refine Pd.st ?_);(repeat (first|exact Pd.nil|exact Pd.fnil|refine Pd.inner ?_|refine Pd.skip (by decide +kernel) ?_|refine zf (zo 0 rfl rfl) ?_|refine zf (zm 0 rfl rfl) ?_|refine zc (zo 0 rfl rfl) ?_|refine zc (zm 0 rfl rfl) ?_)))) ?_)
      rintro _ _ ⟨qb, rfl, rfl⟩
      (repeat (first|refine yG (yN ?_)|refine yG (yD 0 rfl rfl rfl rfl rfl ?_)))
      refine VA.go (VA.light rfl (light_build (pv := [(0, .int .i64 cap), (1, .slice a qs.length qc), (2, .slice (some ⟨qb, 0, none⟩) qs.length qs.length), (3, .slice (some ⟨cb, 0, none⟩) qs.length qs.length), (4, .slice (some ⟨sb, 0, none⟩) qs.length qs.length), (6, .bool true)]) [.int .i64 cap, .slice a qs.length qc, .slice (some ⟨qb, 0, none⟩) qs.length qs.length, .slice (some ⟨cb, 0, none⟩) qs.length qs.length, .slice (some ⟨sb, 0, none⟩) qs.length qs.length, .int .i64 0, .bool true] rfl rfl rfl rfl rfl) ?_)
      refine VA.go (VA.opP (OpT.box rfl rfl) rfl (fun v L' _ => (by (try refine Pd.st ?_);(repeat (first|exact Pd.nil|exact Pd.fnil|refine Pd.inner ?_|refine Pd.skip (by decide +kernel) ?_|refine zf (zo 0 rfl rfl) ?_|refine zf (zm 0 rfl rfl) ?_|refine zc (zo 0 rfl rfl) ?_|refine zc (zm 0 rfl rfl) ?_)))) ?_)
      rintro _ _ ⟨p, rfl, rfl⟩
      (repeat (first|refine yG (yN ?_)|refine yG (yD 0 rfl rfl rfl rfl rfl ?_)))
      exact ⟨(p, qb, cb, sb), trivial, Sub.cons rfl (Sub.cons rfl (Sub.nil _)), (Imp.trans (Imp.cons (Imp.pick 0 rfl (Imp.pick 1 rfl (Imp.pick 0 rfl Imp.refl)))) fin).ent⟩
  · rintro _ _ ⟨sb, rfl, rfl⟩
    refine VA.go (VA.two rfl rfl rfl rfl rfl (OpT.makeSlice qs.length rfl rfl rfl rfl rfl (by omega) (by show 24 * qs.length ≤ _; omega)) rfl rfl rfl (OpT.makeSlice qs.length rfl rfl rfl rfl rfl (by omega) (by show 8 * qs.length ≤ _; omega)) (fun v L' _ => (by (try refine Pd.st ?_);(repeat (first|exact Pd.nil|exact Pd.fnil|refine Pd.inner ?_|refine Pd.skip (by decide +kernel) ?_|refine zf (zo 0 rfl rfl) ?_|refine zf (zm 0 rfl rfl) ?_|refine zc (zo 0 rfl rfl) ?_|refine zc (zm 0 rfl rfl) ?_)))) (fun v L' _ => (by (try refine Pd.st ?_);(repeat (first|exact Pd.nil|exact Pd.fnil|refine Pd.inner ?_|refine Pd.skip (by decide +kernel) ?_|refine zf (zo 0 rfl rfl) ?_|refine zf (zm 0 rfl rfl) ?_|refine zc (zo 0 rfl rfl) ?_|refine zc (zm 0 rfl rfl) ?_)))) ?_ ?_)
    · rintro _ _ ⟨qb, rfl, rfl⟩
      refine VA.go (VA.opP (OpT.makeSlice qs.length rfl rfl rfl rfl rfl (by omega) (by show 8 * qs.length ≤ _; omega)) rfl (fun v L' _ => (by (try refine Pd.st ?_);(repeat (first|exact Pd.nil|exact Pd.fnil|refine Pd.inner ?_|refine Pd.skip (by decide +kernel) ?_|refine zf (zo 0 rfl rfl) ?_|refine zf (zm 0 rfl rfl) ?_|refine zc (zo 0 rfl rfl) ?_|refine zc (zm 0 rfl rfl) ?_)))) ?_)
      rintro _ _ ⟨cb, rfl, rfl⟩
      (repeat (first|refine yG (yN ?_)|refine yG (yD 0 rfl rfl rfl rfl rfl ?_)))
      refine VA.go (VA.light rfl (light_build (pv := [(0, .int .i64 cap), (1, .slice a qs.length qc), (2, .slice (some ⟨qb, 0, none⟩) qs.length qs.length), (3, .slice (some ⟨cb, 0, none⟩) qs.length qs.length), (4, .slice (some ⟨sb, 0, none⟩) qs.length qs.length), (6, .bool true)]) [.int .i64 cap, .slice a qs.length qc, .slice (some ⟨qb, 0, none⟩) qs.length qs.length, .slice (some ⟨cb, 0, none⟩) qs.length qs.length, .slice (some ⟨sb, 0, none⟩) qs.length qs.length, .int .i64 0, .bool true] rfl rfl rfl rfl rfl) ?_)
      refine VA.go (VA.opP (OpT.box rfl rfl) rfl (fun v L' _ => (by (try refine Pd.st ?_);(repeat (first|exact Pd.nil|exact Pd.fnil|refine Pd.inner ?_|refine Pd.skip (by decide +kernel) ?_|refine zf (zo 0 rfl rfl) ?_|refine zf (zm 0 rfl rfl) ?_|refine zc (zo 0 rfl rfl) ?_|refine zc (zm 0 rfl rfl) ?_)))) ?_)
      rintro _ _ ⟨p, rfl, rfl⟩
      (repeat (first|refine yG (yN ?_)|refine yG (yD 0 rfl rfl rfl rfl rfl ?_)))
      exact ⟨(p, qb, cb, sb), trivial, Sub.cons rfl (Sub.cons rfl (Sub.nil _)), (Imp.trans (Imp.cons (Imp.pick 1 rfl (Imp.pick 0 rfl (Imp.pick 0 rfl Imp.refl)))) fin).ent⟩
    · rintro _ _ ⟨cb, rfl, rfl⟩
      refine VA.go (VA.opP (OpT.makeSlice qs.length rfl rfl rfl rfl rfl (by omega) (by show 24 * qs.length ≤ _; omega)) rfl (fun v L' _ => (by (try refine Pd.st ?_);(repeat (first|exact Pd.nil|exact Pd.fnil|refine Pd.inner ?_|refine Pd.skip (by decide +kernel) ?_|refine zf (zo 0 rfl rfl) ?_|refine zf (zm 0 rfl rfl) ?_|refine zc (zo 0 rfl rfl) ?_|refine zc (zm 0 rfl rfl) ?_)))) ?_)
      rintro _ _ ⟨qb, rfl, rfl⟩
      (repeat (first|refine yG (yN ?_)|refine yG (yD 0 rfl rfl rfl rfl rfl ?_)))
      refine VA.go (VA.light rfl (light_build (pv := [(0, .int .i64 cap), (1, .slice a qs.length qc), (2, .slice (some ⟨qb, 0, none⟩) qs.length qs.length), (3, .slice (some ⟨cb, 0, none⟩) qs.length qs.length), (4, .slice (some ⟨sb, 0, none⟩) qs.length qs.length), (6, .bool true)]) [.int .i64 cap, .slice a qs.length qc, .slice (some ⟨qb, 0, none⟩) qs.length qs.length, .slice (some ⟨cb, 0, none⟩) qs.length qs.length, .slice (some ⟨sb, 0, none⟩) qs.length qs.length, .int .i64 0, .bool true] rfl rfl rfl rfl rfl) ?_)
      refine VA.go (VA.opP (OpT.box rfl rfl) rfl (fun v L' _ => (by (try refine Pd.st ?_);(repeat (first|exact Pd.nil|exact Pd.fnil|refine Pd.inner ?_|refine Pd.skip (by decide +kernel) ?_|refine zf (zo 0 rfl rfl) ?_|refine zf (zm 0 rfl rfl) ?_|refine zc (zo 0 rfl rfl) ?_|refine zc (zm 0 rfl rfl) ?_)))) ?_)
      rintro _ _ ⟨p, rfl, rfl⟩
      (repeat (first|refine yG (yN ?_)|refine yG (yD 0 rfl rfl rfl rfl rfl ?_)))
      exact ⟨(p, qb, cb, sb), trivial, Sub.cons rfl (Sub.cons rfl (Sub.nil _)), (Imp.trans (Imp.cons (Imp.pick 0 rfl (Imp.pick 0 rfl (Imp.pick 0 rfl Imp.refl)))) fin).ent⟩
end Go.Proofs.YtbbnmgakmcppdaaGreat.Ref16
namespace Go.Proofs.YtbbnmgakmcppdaaGreat.Conf
open Go Go.Proofs.YtbbnmgakmcppdaaGreat.Vg Go.Proofs.YtbbnmgakmcppdaaGreat.T Go.Proofs.YtbbnmgakmcppdaaGreat.Sched
set_option linter.unusedSimpArgs false
set_option linter.unusedVariables false
attribute [local irreducible] VO VC VA

def win (x lo hi : Int) : Bool := decide (lo ≤ x) && decide (x ≤ hi)
theorem within_spec (Fr : Nat → Prop) (w : World) (x lo hi : Int) : Tri Tryz.prog 209 [.int .i64 x, .int .i64 lo, .int .i64 hi] Fr w [] (fun v L => v = .bool (win x lo hi) ∧ L = []) := by
  refine Tri.of 15 Tryz.func209 rfl (by kernel_rfl) tabOk rfl rfl ?_
  (repeat (first|refine zS ?_|refine zR ?_|refine zB ?_|refine zL ?_|refine zC ?_|refine zG (zN ?_)|refine zG (zD 0 rfl rfl rfl rfl ?_)))
  refine VO.go (VO.split 10 rfl rfl (fun h1 => ?_) (fun h1 => ?_))
  · (repeat (first|refine zS ?_|refine zR ?_|refine zB ?_|refine zL ?_|refine zC ?_|refine zG (zN ?_)|refine zG (zD 0 rfl rfl rfl rfl ?_)))
    exact VC.ret (Ret.bool 6 rfl rfl (by simp only [win, h1, Bool.true_and]) Ent.refl ⟨rfl, rfl⟩)
  · (repeat (first|refine zS ?_|refine zR ?_|refine zB ?_|refine zL ?_|refine zC ?_|refine zG (zN ?_)|refine zG (zD 0 rfl rfl rfl rfl ?_)))
    exact VC.ret (Ret.bool 6 rfl rfl (by simp only [win, h1, Bool.false_and]) Ent.refl ⟨rfl, rfl⟩)
def pre1 (c : ConfM) : Bool := win c.nodes 1 6 && win c.chain 1 c.nodes && win c.clients 1 6 && win c.qs.length 1 4
def pre2 (c : ConfM) : Bool := pre1 c && c.qs.all fun q => win q 96 65536
def rokM (c : ConfM) : Bool := pre2 c && win c.queue 1 16 && win c.window 1 16 && win c.reads 1 16 && win c.link 4 64 && win c.patience 4 64 && win c.timeout 4 64 && win c.budget 0 16 && win c.refill 1 1099511627776

theorem near_iff {x lo hi : Int} (h : lo ≤ hi) : x = near x lo hi ↔ win x lo hi = true := by
  simp only [win, Bool.and_eq_true, decide_eq_true_eq]
  exact ⟨fun e => by have := near_in (x := x) h; omega, fun ⟨h1, h2⟩ => (near_same h1 h2).symm⟩
theorem qFit_iff {qs : List Int} : qs = qFit qs ↔ win qs.length 1 4 = true ∧ (qs.all fun q => win q 96 65536) = true := by
  constructor
  · intro e
    have hl := qFit_len qs
    rw [← e] at hl
    refine ⟨by simp [win]; omega, ?_⟩
    rw [List.all_eq_true]
    intro q hq
    rw [e] at hq
    obtain ⟨y, _, rfl⟩ := List.mem_map.1 hq
    have := near_in (x := y) (lo := 96) (hi := 65536) (by omega)
    simp [win, qNear, this]
  · rintro ⟨h1, h2⟩
    simp only [win, Bool.and_eq_true, decide_eq_true_eq] at h1
    have e : qs.take 4 = qs := List.take_of_length_le (by omega)
    have hne : qs ≠ [] := fun e => by rw [e] at h1; simp at h1
    unfold qFit qFirst
    rw [e, if_neg hne]
    rw [List.all_eq_true] at h2
    have : ∀ x ∈ qs, qNear x = x := fun x hx => ((near_iff (by omega)).2 (h2 x hx)).symm
    rw [List.map_congr_left this]; simp
theorem rok_iff (c : ConfM) : c = fitM c ↔ rokM c = true := by
  simp only [rokM, pre2, pre1, Bool.and_eq_true]
  rw [← near_iff (x := c.nodes) (by omega), ← near_iff (x := c.clients) (by omega), ← near_iff (x := c.queue) (by omega), ← near_iff (x := c.window) (by omega), ← near_iff (x := c.reads) (by omega), ← near_iff (x := c.link) (by omega), ← near_iff (x := c.patience) (by omega), ← near_iff (x := c.timeout) (by omega), ← near_iff (x := c.budget) (by omega), ← near_iff (x := c.refill) (by omega)]
  constructor
  · intro e
    have hn : c.nodes = near c.nodes 1 6 := congrArg ConfM.nodes e
    have hn1 := near_in (x := c.nodes) (lo := 1) (hi := 6) (by omega)
    have hch : c.chain = near c.chain 1 (near c.nodes 1 6) := congrArg ConfM.chain e
    rw [← hn] at hch hn1
    have hqs : c.qs = qFit c.qs := congrArg ConfM.qs e
    obtain ⟨hq1, hq2⟩ := qFit_iff.1 hqs
    exact ⟨⟨⟨⟨⟨⟨⟨⟨⟨⟨⟨⟨hn, (near_iff hn1.1).1 hch⟩, congrArg ConfM.clients e⟩, hq1⟩, hq2⟩, congrArg ConfM.queue e⟩, congrArg ConfM.window e⟩, congrArg ConfM.reads e⟩, congrArg ConfM.link e⟩, congrArg ConfM.patience e⟩, congrArg ConfM.timeout e⟩, congrArg ConfM.budget e⟩, congrArg ConfM.refill e⟩
  · rintro ⟨⟨⟨⟨⟨⟨⟨⟨⟨⟨⟨⟨hn, hch⟩, hcl⟩, hq1⟩, hq2⟩, h4⟩, h5⟩, h6⟩, h7⟩, h8⟩, h9⟩, h10⟩, h11⟩
    have hn1 := near_in (x := c.nodes) (lo := 1) (hi := 6) (by omega)
    have hch2 : c.chain = near c.chain 1 (near c.nodes 1 6) := by
      rw [← hn] at hn1 ⊢; exact (near_iff hn1.1).2 hch
    exact conf_ext hn hch2 hcl (qFit_iff.2 ⟨hq1, hq2⟩) h4 h5 h6 h7 h8 h9 h10 h11

set_option maxHeartbeats 1000000 in
set_option maxRecDepth 100000 in
theorem rcheck_spec (Fr : Nat → Prop) (w : World) (c : ConfM) (a : Option Addr) (cap : Nat) (hq : IntsIn Fr w a c.qs) (hl : c.qs.length ≤ 1000) : Tri Tryz.prog 156 [.agg (c.cells a cap).toArray] Fr w []
    (fun v L => v = .int .i64 (checkM c) ∧ L = []) := by
  refine Tri.of 85 Tryz.func156 rfl (by kernel_rfl) tabOk rfl rfl ?_
  refine VC.seq (VC.region (VO.go (VO.boxA (vs := c.cells a cap) rfl fun x => VO.go (VO.nil ?_))))
  refine VC.meet (σ := Bool) (fun b => [(1, .pointer (some ⟨x, 0, none⟩)), (3, .bool b)]) (fun _ => [pt x (c.cells a cap) 24]) (fun b => b = pre1 c) ?_ ?_
  · refine VC.region ?_
    (repeat (first|refine zS ?_|refine zR ?_|refine zB ?_|refine zL ?_|refine zC ?_|refine zG (zN ?_)|refine zG (zD 0 rfl rfl rfl rfl ?_)))
    refine VO.go (VO.callV (fun Fr w => within_spec Fr w _ _ _) rfl ?_)
    refine VO.go (VO.split 8 rfl rfl (fun h0 => ?_) (fun h0 => ?_))
    rotate_left
    · refine VO.go (VO.yes 15 false rfl rfl ?_)
      refine VO.go (VO.yes 20 false rfl rfl ?_)
      refine VO.go (VO.nil ⟨false, ?_, Sub.cons rfl (Sub.cons rfl (Sub.nil _)), Ent.refl⟩)
      show false = pre1 c
      simp only [pre1, h0, Bool.and_false, Bool.false_and]
    (repeat (first|refine zS ?_|refine zR ?_|refine zB ?_|refine zL ?_|refine zC ?_|refine zG (zN ?_)|refine zG (zD 0 rfl rfl rfl rfl ?_)))
    refine VO.go (VO.callV (fun Fr w => within_spec Fr w _ _ _) rfl ?_)
    refine VO.go (VO.split 15 rfl rfl (fun h1 => ?_) (fun h1 => ?_))
    rotate_left
    · refine VO.go (VO.yes 20 false rfl rfl ?_)
      refine VO.go (VO.nil ⟨false, ?_, Sub.cons rfl (Sub.cons rfl (Sub.nil _)), Ent.refl⟩)
      show false = pre1 c
      simp only [pre1, h1, Bool.and_false, Bool.false_and]
    (repeat (first|refine zS ?_|refine zR ?_|refine zB ?_|refine zL ?_|refine zC ?_|refine zG (zN ?_)|refine zG (zD 0 rfl rfl rfl rfl ?_)))
    refine VO.go (VO.callV (fun Fr w => within_spec Fr w _ _ _) rfl ?_)
    refine VO.go (VO.split 20 rfl rfl (fun h2 => ?_) (fun h2 => ?_))
    rotate_left
    · refine VO.go (VO.nil ⟨false, ?_, Sub.cons rfl (Sub.cons rfl (Sub.nil _)), Ent.refl⟩)
      show false = pre1 c
      simp only [pre1, h2, Bool.and_false, Bool.false_and]
    (repeat (first|refine zS ?_|refine zR ?_|refine zB ?_|refine zL ?_|refine zC ?_|refine zG (zN ?_)|refine zG (zD 0 rfl rfl rfl rfl ?_)))
    refine VO.go (VO.callV (fun Fr w => within_spec Fr w _ _ _) rfl ?_)
    refine VO.go (VO.nil ⟨win c.qs.length 1 4, ?_, Sub.cons rfl (Sub.cons rfl (Sub.nil _)), Ent.refl⟩)
    show _ = pre1 c
    simp only [pre1, h0, h1, h2, Bool.true_and]
  rintro b0 hb0
  refine VC.meet (σ := Bool) (fun b => [(1, .pointer (some ⟨x, 0, none⟩)), (3, .bool b)]) (fun _ => [pt x (c.cells a cap) 24]) (fun b => b = pre2 c) ?_ ?_
  · (repeat (first|refine zS ?_|refine zR ?_|refine zB ?_|refine zL ?_|refine zC ?_|refine zG (zN ?_)|refine zG (zD 0 rfl rfl rfl rfl ?_)))
    refine VC.loop (σ := Nat × Bool) (fun y => [(1, .pointer (some ⟨x, 0, none⟩)), (3, .bool y.2), (4, .int .i64 y.1)]) (fun _ => [pt x (c.cells a cap) 24]) (fun y => y.1 ≤ c.qs.length ∧ y.2 = (pre1 c && (c.qs.take y.1).all fun q => win q 96 65536)) (fun y => c.qs.length - y.1) (0, b0) ⟨Nat.zero_le _, by simp [hb0]⟩ (Sub.cons rfl (Sub.cons rfl (Sub.cons rfl (Sub.nil _)))) Ent.refl ?_
    rintro ⟨i, b⟩ ⟨hi, hb⟩
    dsimp only at hi hb ⊢
    (repeat (first|refine zS ?_|refine zR ?_|refine zB ?_|refine zL ?_|refine zC ?_|refine zG (zN ?_)|refine zG (zD 0 rfl rfl rfl rfl ?_)))
    refine VC.condP rfl (fun h1 => VC.skip ?_) (fun h1 => VC.exit ?_)
    · have hi2 : i < c.qs.length := by omega
      obtain ⟨qb, qo, hqa, hFq, hcq⟩ := hq.at_ (fun e => by rw [e] at hi2; simp at hi2)
      have hy := List.getElem?_eq_getElem hi2
      generalize c.qs[i] = y at hy
      have hsl : some (Value.slice a c.qs.length cap) = some (Value.slice (some ⟨qb, qo, none⟩) c.qs.length cap) := by rw [hqa]
      have hall : ((c.qs.take (i + 1)).all fun q => win q 96 65536) = (((c.qs.take i).all fun q => win q 96 65536) && win y 96 65536) := by rw [List.take_add_one, hy, List.all_append]; simp
      (repeat (first|refine zS ?_|refine zR ?_|refine zB ?_|refine zL ?_|refine zC ?_|refine zG (zN ?_)|refine zG (zD 0 rfl rfl rfl rfl ?_)))
      refine VO.go (VO.split 34 rfl rfl (fun h2 => ?_) (fun h2 => VO.go (VO.nil ?_)))
      · subst h2
        (repeat (first|refine zS ?_|refine zR ?_|refine zB ?_|refine zL ?_|refine zC ?_|refine zG (zN ?_)|refine zG (zD 0 rfl rfl rfl rfl ?_)))
        refine VO.go (VO.light (light_idx i hsl rfl rfl rfl rfl rfl hi2) ?_)
        refine VO.go (VO.load rfl rfl (RdL.rd (v := .int .i64 y) hFq (by show w.cell? ⟨qb, qo + i * 1, none⟩ = _; rw [Nat.mul_one]; exact hcq i y hy)) ?_)
        refine VO.go (VO.callV (fun Fr w => within_spec Fr w _ _ _) rfl (VO.go (VO.nil ?_)))
        (repeat (first|refine zS ?_|refine zR ?_|refine zB ?_|refine zL ?_|refine zC ?_|refine zG (zN ?_)|refine zG (zD 0 rfl rfl rfl rfl ?_)))
        refine VO.go (VO.add rfl rfl (by omega) (by omega) ?_)
        (repeat (first|refine zS ?_|refine zR ?_|refine zB ?_|refine zL ?_|refine zC ?_|refine zG (zN ?_)|refine zG (zD 0 rfl rfl rfl rfl ?_)))
        refine ⟨(i + 1, win y 96 65536), ⟨hi2, ?_⟩, by dsimp only; omega, Sub.cons rfl (Sub.cons rfl (Sub.cons rfl (Sub.nil _))), Ent.refl⟩
        dsimp only
        rw [hall, ← Bool.and_assoc, ← hb, Bool.true_and]
      · subst h2
        (repeat (first|refine zS ?_|refine zR ?_|refine zB ?_|refine zL ?_|refine zC ?_|refine zG (zN ?_)|refine zG (zD 0 rfl rfl rfl rfl ?_)))
        refine VO.go (VO.add rfl rfl (by omega) (by omega) ?_)
        (repeat (first|refine zS ?_|refine zR ?_|refine zB ?_|refine zL ?_|refine zC ?_|refine zG (zN ?_)|refine zG (zD 0 rfl rfl rfl rfl ?_)))
        refine ⟨(i + 1, false), ⟨hi2, ?_⟩, by dsimp only; omega, Sub.cons rfl (Sub.cons rfl (Sub.cons rfl (Sub.nil _))), Ent.refl⟩
        dsimp only
        rw [hall, ← Bool.and_assoc, ← hb, Bool.false_and]
    · have hi2 : i = c.qs.length := by omega
      subst hi2
      rw [List.take_length] at hb
      exact ⟨b, hb, Sub.cons rfl (Sub.cons rfl (Sub.nil _)), Ent.refl⟩
  rintro b1 hb1
  refine VC.meet (σ := Bool) (fun b => [(3, .bool b)]) (fun _ => []) (fun b => b = rokM c) ?_ ?_
  rotate_left
  · rintro b hb
    refine VC.seq (VC.seq (VC.region (VO.go (VO.nil ?_))))
    refine VC.condN rfl (fun h => ?_) (fun h => VC.skip ?_)
    · have hc : ¬ c = fitM c := fun e => by rw [(rok_iff c).1 e] at hb; rw [hb] at h; cases h
      (repeat (first|refine zS ?_|refine zR ?_|refine zB ?_|refine zL ?_|refine zC ?_|refine zG (zN ?_)|refine zG (zD 0 rfl rfl rfl rfl ?_)))
      exact VC.ret (Ret.int 2 rfl rfl (by rw [checkM, if_neg hc]) Ent.refl ⟨rfl, rfl⟩)
    · have hc : c = fitM c := (rok_iff c).2 (by rw [← hb]; exact h)
      (repeat (first|refine zS ?_|refine zR ?_|refine zB ?_|refine zL ?_|refine zC ?_|refine zG (zN ?_)|refine zG (zD 0 rfl rfl rfl rfl ?_)))
      exact VC.ret (Ret.int 2 rfl rfl (by rw [checkM, if_pos hc]) Ent.refl ⟨rfl, rfl⟩)
  refine VC.region ?_
  refine VO.go (VO.split 43 rfl rfl (fun h0 => ?_) (fun h0 => ?_))
  rotate_left
  · refine VO.go (VO.yes 48 false rfl rfl ?_)
    refine VO.go (VO.yes 53 false rfl rfl ?_)
    refine VO.go (VO.yes 58 false rfl rfl ?_)
    refine VO.go (VO.yes 63 false rfl rfl ?_)
    refine VO.go (VO.yes 68 false rfl rfl ?_)
    refine VO.go (VO.yes 73 false rfl rfl ?_)
    refine VO.go (VO.yes 78 false rfl rfl ?_)
    refine VO.go (VO.nil ⟨false, ?_, Sub.cons rfl (Sub.nil _), Imp.nil.ent⟩)
    show false = rokM c
    rw [rokM, ← hb1, h0]; simp only [Bool.false_and]
  (repeat (first|refine zS ?_|refine zR ?_|refine zB ?_|refine zL ?_|refine zC ?_|refine zG (zN ?_)|refine zG (zD 0 rfl rfl rfl rfl ?_)))
  refine VO.go (VO.callV (fun Fr w => within_spec Fr w _ _ _) rfl ?_)
  refine VO.go (VO.split 48 rfl rfl (fun h1 => ?_) (fun h1 => ?_))
  rotate_left
  · refine VO.go (VO.yes 53 false rfl rfl ?_)
    refine VO.go (VO.yes 58 false rfl rfl ?_)
    refine VO.go (VO.yes 63 false rfl rfl ?_)
    refine VO.go (VO.yes 68 false rfl rfl ?_)
    refine VO.go (VO.yes 73 false rfl rfl ?_)
    refine VO.go (VO.yes 78 false rfl rfl ?_)
    refine VO.go (VO.nil ⟨false, ?_, Sub.cons rfl (Sub.nil _), Imp.nil.ent⟩)
    show false = rokM c
    simp only [rokM, h1, Bool.and_false, Bool.false_and]
  (repeat (first|refine zS ?_|refine zR ?_|refine zB ?_|refine zL ?_|refine zC ?_|refine zG (zN ?_)|refine zG (zD 0 rfl rfl rfl rfl ?_)))
  refine VO.go (VO.callV (fun Fr w => within_spec Fr w _ _ _) rfl ?_)
  refine VO.go (VO.split 53 rfl rfl (fun h2 => ?_) (fun h2 => ?_))
  rotate_left
  · refine VO.go (VO.yes 58 false rfl rfl ?_)
    refine VO.go (VO.yes 63 false rfl rfl ?_)
    refine VO.go (VO.yes 68 false rfl rfl ?_)
    refine VO.go (VO.yes 73 false rfl rfl ?_)
    refine VO.go (VO.yes 78 false rfl rfl ?_)
    refine VO.go (VO.nil ⟨false, ?_, Sub.cons rfl (Sub.nil _), Imp.nil.ent⟩)
    show false = rokM c
    simp only [rokM, h2, Bool.and_false, Bool.false_and]
  (repeat (first|refine zS ?_|refine zR ?_|refine zB ?_|refine zL ?_|refine zC ?_|refine zG (zN ?_)|refine zG (zD 0 rfl rfl rfl rfl ?_)))
  refine VO.go (VO.callV (fun Fr w => within_spec Fr w _ _ _) rfl ?_)
  refine VO.go (VO.split 58 rfl rfl (fun h3 => ?_) (fun h3 => ?_))
  rotate_left
  · refine VO.go (VO.yes 63 false rfl rfl ?_)
    refine VO.go (VO.yes 68 false rfl rfl ?_)
    refine VO.go (VO.yes 73 false rfl rfl ?_)
    refine VO.go (VO.yes 78 false rfl rfl ?_)
    refine VO.go (VO.nil ⟨false, ?_, Sub.cons rfl (Sub.nil _), Imp.nil.ent⟩)
    show false = rokM c
    simp only [rokM, h3, Bool.and_false, Bool.false_and]
  (repeat (first|refine zS ?_|refine zR ?_|refine zB ?_|refine zL ?_|refine zC ?_|refine zG (zN ?_)|refine zG (zD 0 rfl rfl rfl rfl ?_)))
  refine VO.go (VO.callV (fun Fr w => within_spec Fr w _ _ _) rfl ?_)
  refine VO.go (VO.split 63 rfl rfl (fun h4 => ?_) (fun h4 => ?_))
  rotate_left
  · refine VO.go (VO.yes 68 false rfl rfl ?_)
    refine VO.go (VO.yes 73 false rfl rfl ?_)
    refine VO.go (VO.yes 78 false rfl rfl ?_)
    refine VO.go (VO.nil ⟨false, ?_, Sub.cons rfl (Sub.nil _), Imp.nil.ent⟩)
    show false = rokM c
    simp only [rokM, h4, Bool.and_false, Bool.false_and]
  (repeat (first|refine zS ?_|refine zR ?_|refine zB ?_|refine zL ?_|refine zC ?_|refine zG (zN ?_)|refine zG (zD 0 rfl rfl rfl rfl ?_)))
  refine VO.go (VO.callV (fun Fr w => within_spec Fr w _ _ _) rfl ?_)
  refine VO.go (VO.split 68 rfl rfl (fun h5 => ?_) (fun h5 => ?_))
  rotate_left
  · refine VO.go (VO.yes 73 false rfl rfl ?_)
    refine VO.go (VO.yes 78 false rfl rfl ?_)
    refine VO.go (VO.nil ⟨false, ?_, Sub.cons rfl (Sub.nil _), Imp.nil.ent⟩)
    show false = rokM c
    simp only [rokM, h5, Bool.and_false, Bool.false_and]
  (repeat (first|refine zS ?_|refine zR ?_|refine zB ?_|refine zL ?_|refine zC ?_|refine zG (zN ?_)|refine zG (zD 0 rfl rfl rfl rfl ?_)))
  refine VO.go (VO.callV (fun Fr w => within_spec Fr w _ _ _) rfl ?_)
  refine VO.go (VO.split 73 rfl rfl (fun h6 => ?_) (fun h6 => ?_))
  rotate_left
  · refine VO.go (VO.yes 78 false rfl rfl ?_)
    refine VO.go (VO.nil ⟨false, ?_, Sub.cons rfl (Sub.nil _), Imp.nil.ent⟩)
    show false = rokM c
    simp only [rokM, h6, Bool.and_false, Bool.false_and]
  (repeat (first|refine zS ?_|refine zR ?_|refine zB ?_|refine zL ?_|refine zC ?_|refine zG (zN ?_)|refine zG (zD 0 rfl rfl rfl rfl ?_)))
  refine VO.go (VO.callV (fun Fr w => within_spec Fr w _ _ _) rfl ?_)
  refine VO.go (VO.split 78 rfl rfl (fun h7 => ?_) (fun h7 => ?_))
  rotate_left
  · refine VO.go (VO.nil ⟨false, ?_, Sub.cons rfl (Sub.nil _), Imp.nil.ent⟩)
    show false = rokM c
    simp only [rokM, h7, Bool.and_false, Bool.false_and]
  (repeat (first|refine zS ?_|refine zR ?_|refine zB ?_|refine zL ?_|refine zC ?_|refine zG (zN ?_)|refine zG (zD 0 rfl rfl rfl rfl ?_)))
  refine VO.go (VO.callV (fun Fr w => within_spec Fr w _ _ _) rfl ?_)
  refine VO.go (VO.nil ⟨win c.refill 1 1099511627776, ?_, Sub.cons rfl (Sub.nil _), Imp.nil.ent⟩)
  show _ = rokM c
  rw [rokM, ← hb1, h0]
  simp only [h1, h2, h3, h4, h5, h6, h7, Bool.true_and]
end Go.Proofs.YtbbnmgakmcppdaaGreat.Conf
namespace Go.Proofs.YtbbnmgakmcppdaaGreat.Rep
open Go Go.Proofs.YtbbnmgakmcppdaaGreat.Vg Go.Proofs.YtbbnmgakmcppdaaGreat.T Go.Proofs.YtbbnmgakmcppdaaGreat.Api Go.Proofs.YtbbnmgakmcppdaaGreat.Kv Go.Proofs.YtbbnmgakmcppdaaGreat.Ch Go.Proofs.YtbbnmgakmcppdaaGreat.Lg Go.Proofs.YtbbnmgakmcppdaaGreat.Rd Go.Proofs.YtbbnmgakmcppdaaGreat.Win Go.Proofs.YtbbnmgakmcppdaaGreat.Adm Go.Proofs.YtbbnmgakmcppdaaGreat.Sched Go.Proofs.YtbbnmgakmcppdaaGreat.Conf
set_option linter.unusedSimpArgs false
set_option linter.unusedVariables false
attribute [local irreducible] VO VC VA

def resEq (o p : ResM) : Bool := decide (o.code = p.code) && (decide (o.value = p.value) && (decide (o.version = p.version) && (decide (o.at_ = p.at_) && true)))
theorem resEq_rfl (o : ResM) : resEq o o = true := by simp [resEq]
theorem stoodRes : Tryz.prog.stoodInHeld 42 = false := by kernel_rfl
theorem guardRes : Tryz.prog.eqGuardType Tryz.prog.depth 42 = false := by kernel_rfl
theorem res_eq (o p : ResM) (w : World) : (Op.equal 42 (.agg (resC o).toArray) (.agg (resC p).toArray)).run Tryz.prog w = .ok (resEq o p) w := by
  have hi : ∀ (cs : List Value) (j : Nat) (n : Int), cs[j]? = some (.int .i64 n) → ∀ w : World, (part 3 cs.toArray j).run Tryz.prog w = .ok (.int .i64 n) w := fun cs j n h w => part1 (TabOk.look tabOk (t := 3) (ti := T.t3) rfl) rfl h w
  have hs : ∀ (cs : List Value) (j : Nat) (s : ByteArray), cs[j]? = some (.string s) → ∀ w : World, (part 9 cs.toArray j).run Tryz.prog w = .ok (.string s) w := fun cs j n h w => part1 (TabOk.look tabOk (t := 9) (ti := T.t9) rfl) rfl h w
  refine EqT.run (EqT.st Tryz.underlying42 stoodRes (EqFs.cons (by decide) (hi _ _ _ rfl) (hi _ _ _ rfl) (EqT.int Tryz.underlying3 o.code p.code) (EqFs.cons (by decide) (hs _ _ _ rfl) (hs _ _ _ rfl) (EqT.str Tryz.underlying9 o.value p.value) (EqFs.cons (by decide) (hi _ _ _ rfl) (hi _ _ _ rfl) (EqT.int Tryz.underlying3 o.version p.version) (EqFs.cons (by decide) (hi _ _ _ rfl) (hi _ _ _ rfl) (EqT.int Tryz.underlying3 o.at_ p.at_) EqFs.nil))))) (by decide) w
/-- A slice of some rows, opened. -/
theorem HOpn.row {α : Type} {c : α → List Value} {n : Nat} (el : Nat) (a : Option Addr) (cap : Nat) (xs : List α) (hne : xs ≠ []) : HOpn (ι := Nat × List Value) (slH el n a xs.length cap (flat c xs)) (fun y => a = some ⟨y.1, 0, none⟩) (fun y => [pt y.1 (flat c xs ++ y.2) el]) := by
  intro w ids h hn
  obtain ⟨y, hy, ids', h1, h2, h3⟩ := HOpn.sl el n a xs.length cap (flat c xs) w ids h hn
  cases y with
  | none => obtain ⟨_, _, _, h, _⟩ := hy; exact absurd (List.eq_nil_of_length_eq_zero h) hne
  | some y =>
    obtain ⟨b, rest⟩ := y
    obtain ⟨_, _, h7, _⟩ := hy
    exact ⟨(b, rest), h7, ids', h1, h2, h3⟩
end Go.Proofs.YtbbnmgakmcppdaaGreat.Rep
namespace Go.Proofs.YtbbnmgakmcppdaaGreat.Rep
open Go Go.Proofs.YtbbnmgakmcppdaaGreat.Vg Go.Proofs.YtbbnmgakmcppdaaGreat.T Go.Proofs.YtbbnmgakmcppdaaGreat.Api Go.Proofs.YtbbnmgakmcppdaaGreat.Kv Go.Proofs.YtbbnmgakmcppdaaGreat.Ch Go.Proofs.YtbbnmgakmcppdaaGreat.Lg Go.Proofs.YtbbnmgakmcppdaaGreat.Rd Go.Proofs.YtbbnmgakmcppdaaGreat.Win Go.Proofs.YtbbnmgakmcppdaaGreat.Adm Go.Proofs.YtbbnmgakmcppdaaGreat.Sched Go.Proofs.YtbbnmgakmcppdaaGreat.Conf
set_option linter.unusedSimpArgs false
set_option linter.unusedVariables false
attribute [local irreducible] VO VC VA

def opEqB (o p : OpM) : Bool := decide (o.kind = p.kind) && (decide (o.key = p.key) && (decide (o.value = p.value) && (decide (o.version = p.version) && true)))
def entEqB (e d : EntryM) : Bool := decide (e.index = d.index) && (decide (e.client = d.client) && (decide (e.seq = d.seq) && (opEqB e.op d.op && true)))
theorem entEqB_iff (e d : EntryM) : entEqB e d = true ↔ e = d := by
  obtain ⟨a1, a2, a3, ⟨o1, o2, o3, o4⟩⟩ := e
  obtain ⟨b1, b2, b3, ⟨p1, p2, p3, p4⟩⟩ := d
  simp [entEqB, opEqB]
theorem stoodEnt : Tryz.prog.stoodInHeld 44 = false := by kernel_rfl
theorem stoodOp : Tryz.prog.stoodInHeld 40 = false := by kernel_rfl
theorem guardEnt : Tryz.prog.eqGuardType Tryz.prog.depth 44 = false := by kernel_rfl
set_option maxRecDepth 100000 in
theorem ent_eq (e d : EntryM) (w : World) : (Op.equal 44 (.agg (entC e).toArray) (.agg (entC d).toArray)).run Tryz.prog w = .ok (entEqB e d) w := by
  have hi : ∀ (cs : List Value) (j : Nat) (n : Int), cs[j]? = some (.int .i64 n) → ∀ w : World, (part 3 cs.toArray j).run Tryz.prog w = .ok (.int .i64 n) w := fun cs j n h w => part1 (TabOk.look tabOk (t := 3) (ti := T.t3) rfl) rfl h w
  have hs : ∀ (cs : List Value) (j : Nat) (s : ByteArray), cs[j]? = some (.string s) → ∀ w : World, (part 9 cs.toArray j).run Tryz.prog w = .ok (.string s) w := fun cs j n h w => part1 (TabOk.look tabOk (t := 9) (ti := T.t9) rfl) rfl h w
  have ho : ∀ (e : EntryM) (w : World), (part 40 (entC e).toArray 3).run Tryz.prog w = .ok (.agg e.op.cells.toArray) w := fun e w => partA (cs := entC e) (ds := e.op.cells) (off := 3) (TabOk.look tabOk (t := 40) (ti := T.t40) rfl) (by kernel_rfl) (by show ((entC e).drop 3).take 4 = e.op.cells; rfl) w
  refine EqT.run (EqT.st Tryz.underlying44 stoodEnt (EqFs.cons (by decide) (hi _ _ _ rfl) (hi _ _ _ rfl) (EqT.int Tryz.underlying3 e.index d.index) (EqFs.cons (by decide) (hi _ _ _ rfl) (hi _ _ _ rfl) (EqT.int Tryz.underlying3 e.client d.client) (EqFs.cons (by decide) (hi _ _ _ rfl) (hi _ _ _ rfl) (EqT.int Tryz.underlying3 e.seq d.seq) (EqFs.cons (by decide) (ho e) (ho d) (EqT.st Tryz.underlying40 stoodOp (EqFs.cons (by decide) (hi _ _ _ rfl) (hi _ _ _ rfl) (EqT.int Tryz.underlying3 e.op.kind d.op.kind) (EqFs.cons (by decide) (hs _ _ _ rfl) (hs _ _ _ rfl) (EqT.str Tryz.underlying9 e.op.key d.op.key) (EqFs.cons (by decide) (hs _ _ _ rfl) (hs _ _ _ rfl) (EqT.str Tryz.underlying9 e.op.value d.op.value) (EqFs.cons (by decide) (hi _ _ _ rfl) (hi _ _ _ rfl) (EqT.int Tryz.underlying3 e.op.version d.op.version) EqFs.nil))))) EqFs.nil))))) (by decide) w
end Go.Proofs.YtbbnmgakmcppdaaGreat.Rep
namespace Go.Proofs.YtbbnmgakmcppdaaGreat.Nd
open Go Go.Proofs.YtbbnmgakmcppdaaGreat.Vg Go.Proofs.YtbbnmgakmcppdaaGreat.T Go.Proofs.YtbbnmgakmcppdaaGreat.Api Go.Proofs.YtbbnmgakmcppdaaGreat.Kv Go.Proofs.YtbbnmgakmcppdaaGreat.Ch Go.Proofs.YtbbnmgakmcppdaaGreat.Lg Go.Proofs.YtbbnmgakmcppdaaGreat.Rd Go.Proofs.YtbbnmgakmcppdaaGreat.Win Go.Proofs.YtbbnmgakmcppdaaGreat.Adm Go.Proofs.YtbbnmgakmcppdaaGreat.Sched Go.Proofs.YtbbnmgakmcppdaaGreat.Conf Go.Proofs.YtbbnmgakmcppdaaGreat.Rep
set_option linter.unusedSimpArgs false
set_option linter.unusedVariables false
attribute [local irreducible] VO VC VA

section
variable {c : ChM} {a : Option Addr} {cap : Nat}
set_option maxRecDepth 100000 in
theorem rat_spec (Fr : Nat → Prop) (w : World) (h : RwIn memC 2 Fr w a c.ms) (hl : c.ms.length ≤ 1000000) (n : Int) : Tri Tryz.prog 158 [.agg (c.cells a cap).toArray, .int .i64 n] Fr w [] (fun v L => v = .int .i64 (placeOf c.ms n) ∧ L = []) := by
  refine Tri.of 22 Tryz.func158 rfl (by kernel_rfl) tabOk rfl rfl ?_
  refine VC.seq (VC.region (VO.go (VO.boxA (vs := c.cells a cap) rfl fun b => ?_)))
  (repeat (first|refine zS ?_|refine zR ?_|refine zB ?_|refine zL ?_|refine zC ?_|refine zG (zN ?_)|refine zG (zD 0 rfl rfl rfl rfl ?_)))
  refine VC.loop (σ := Nat) (fun i => [(1, .int .i64 n), (2, .pointer (some ⟨b, 0, none⟩)), (5, .int .i64 i)]) (fun _ => [pt b (c.cells a cap) chT]) (fun i => i ≤ c.ms.length ∧ ∀ j m, j < i → c.ms[j]? = some m → m.1 ≠ n) (fun i => c.ms.length - i) 0
    ⟨Nat.zero_le _, fun j m hj => by omega⟩ (Sub.cons rfl (Sub.cons rfl (Sub.cons rfl (Sub.nil _)))) Ent.refl ?_
  rintro i ⟨hi, hno⟩
  (repeat (first|refine zS ?_|refine zR ?_|refine zB ?_|refine zL ?_|refine zC ?_|refine zG (zN ?_)|refine zG (zD 0 rfl rfl rfl rfl ?_)))
  refine VC.condP (p := (i : Int) < (c.ms.length : Int)) rfl (fun h1 => VC.skip ?_) (fun h1 => VC.exit ?_)
  rotate_left
  · (repeat (first|refine zS ?_|refine zR ?_|refine zB ?_|refine zL ?_|refine zC ?_|refine zG (zN ?_)|refine zG (zD 0 rfl rfl rfl rfl ?_)))
    exact VC.ret (Ret.tmp 4 rfl rfl Imp.nil.ent ⟨by rw [place_miss (fun j m hj hm => hno j m (by omega) hm)], rfl⟩)
  have hi2 : i < c.ms.length := by omega
  obtain ⟨m, hm⟩ : ∃ m, c.ms[i]? = some m := ⟨_, List.getElem?_eq_getElem hi2⟩
  obtain ⟨mb, mo, hma, ra, rc⟩ := RwIn.rd (X := ⟨Tryz.prog, tab, tabOk, 22, Fr, w⟩) h hm
  subst hma
  (repeat (first|refine zS ?_|refine zR ?_|refine zB ?_|refine zL ?_|refine zC ?_|refine zG (zN ?_)|refine zG (zD 0 rfl rfl rfl rfl ?_)))
  refine VO.go (VO.light (light_idx i rfl rfl rfl rfl rfl rfl hi2) ?_)
  (repeat (first|refine zS ?_|refine zR ?_|refine zB ?_|refine zL ?_|refine zC ?_|refine zG (zN ?_)|refine zG (zD 0 rfl rfl rfl rfl ?_)))
  refine VO.go (VO.load rfl rfl (rc _ _ 0 _ rfl rfl) ?_)
  (repeat (first|refine zS ?_|refine zR ?_|refine zB ?_|refine zL ?_|refine zC ?_|refine zG (zN ?_)|refine zG (zD 0 rfl rfl rfl rfl ?_)))
  refine VC.condE (i := m.1) (j := n) rfl (fun h2 => ?_) (fun h2 => VC.skip ?_)
  · (repeat (first|refine zS ?_|refine zR ?_|refine zB ?_|refine zL ?_|refine zC ?_|refine zG (zN ?_)|refine zG (zD 0 rfl rfl rfl rfl ?_)))
    exact VC.ret (Ret.tmp 4 rfl rfl Imp.nil.ent ⟨by rw [place_hit hm h2 hno], rfl⟩)
  · (repeat (first|refine zS ?_|refine zR ?_|refine zB ?_|refine zL ?_|refine zC ?_|refine zG (zN ?_)|refine zG (zD 0 rfl rfl rfl rfl ?_)))
    refine VO.go (VO.add rfl rfl (by omega) (by omega) ?_)
    (repeat (first|refine zS ?_|refine zR ?_|refine zB ?_|refine zL ?_|refine zC ?_|refine zG (zN ?_)|refine zG (zD 0 rfl rfl rfl rfl ?_)))
    refine ⟨i + 1, ⟨hi2, fun j x hj hx => ?_⟩, by dsimp only; omega, Sub.cons rfl (Sub.cons rfl (Sub.cons rfl (Sub.nil _))), Ent.refl⟩
    by_cases hji : j = i
    · subst hji; rw [hm] at hx; cases hx; exact h2
    · exact hno j x (by omega) hx
set_option maxRecDepth 100000 in
set_option maxHeartbeats 2000000 in
theorem rchk_spec (Fr : Nat → Prop) (w : World) (h : RwIn memC 2 Fr w a c.ms) (hl : c.ms.length ≤ 1000000) : Tri Tryz.prog 115 [.agg (c.cells a cap).toArray] Fr w [] (fun v L => v = .int .i64 (chE c) ∧ L = []) := by
  refine Tri.of 82 Tryz.func115 rfl (by kernel_rfl) tabOk rfl rfl ?_
  refine VC.seq (VC.region (VO.go (VO.boxA (vs := c.cells a cap) rfl fun b => ?_)))
  refine VO.go (VO.nil (VC.seq (VC.seq ?_)))
  refine VC.meetS (σ := Unit) (fun _ => [(1, .pointer (some ⟨b, 0, none⟩)), (25, .bool (!headOk c))]) (fun _ => [pt b (c.cells a cap) chT]) (fun _ => True) ?_ ?_
  · (repeat (first|refine zS ?_|refine zR ?_|refine zB ?_|refine zL ?_|refine zC ?_|refine zG (zN ?_)|refine zG (zD 0 rfl rfl rfl rfl ?_)))
    by_cases h1 : c.epoch < 1
    · refine VO.go (VO.yes 9 true rfl (decide_eq_true h1) ?_)
      (repeat (first|refine zS ?_|refine zR ?_|refine zB ?_|refine zL ?_|refine zC ?_|refine zG (zN ?_)|refine zG (zD 0 rfl rfl rfl rfl ?_)|refine zG (zU rfl rfl rfl ?_)))
      refine VO.go (VO.yes 14 true rfl rfl ?_)
      (repeat (first|refine zS ?_|refine zR ?_|refine zB ?_|refine zL ?_|refine zC ?_|refine zG (zN ?_)|refine zG (zD 0 rfl rfl rfl rfl ?_)|refine zG (zU rfl rfl rfl ?_)))
      refine VO.go (VO.yes 20 true rfl rfl ?_)
      (repeat (first|refine zS ?_|refine zR ?_|refine zB ?_|refine zL ?_|refine zC ?_|refine zG (zN ?_)|refine zG (zD 0 rfl rfl rfl rfl ?_)|refine zG (zU rfl rfl rfl ?_)))
      exact ⟨(), trivial, Sub.cons rfl (Sub.bl rfl (by simp [headOk]; omega) (Sub.nil _)), Ent.refl⟩
    refine VO.go (VO.yes 9 false rfl (decide_eq_false h1) ?_)
    (repeat (first|refine zS ?_|refine zR ?_|refine zB ?_|refine zL ?_|refine zC ?_|refine zG (zN ?_)|refine zG (zD 0 rfl rfl rfl rfl ?_)|refine zG (zU rfl rfl rfl ?_)))
    by_cases h2 : 1099511627776 < c.epoch
    · refine VO.go (VO.yes 14 true rfl (decide_eq_true h2) ?_)
      (repeat (first|refine zS ?_|refine zR ?_|refine zB ?_|refine zL ?_|refine zC ?_|refine zG (zN ?_)|refine zG (zD 0 rfl rfl rfl rfl ?_)|refine zG (zU rfl rfl rfl ?_)))
      refine VO.go (VO.yes 20 true rfl rfl ?_)
      (repeat (first|refine zS ?_|refine zR ?_|refine zB ?_|refine zL ?_|refine zC ?_|refine zG (zN ?_)|refine zG (zD 0 rfl rfl rfl rfl ?_)|refine zG (zU rfl rfl rfl ?_)))
      exact ⟨(), trivial, Sub.cons rfl (Sub.bl rfl (by simp [headOk]; omega) (Sub.nil _)), Ent.refl⟩
    refine VO.go (VO.yes 14 false rfl (decide_eq_false h2) ?_)
    (repeat (first|refine zS ?_|refine zR ?_|refine zB ?_|refine zL ?_|refine zC ?_|refine zG (zN ?_)|refine zG (zD 0 rfl rfl rfl rfl ?_)|refine zG (zU rfl rfl rfl ?_)))
    by_cases h3 : (c.ms.length : Int) = 0
    · refine VO.go (VO.yes 20 true rfl (by rw [beq_iff_eq]; exact h3) ?_)
      (repeat (first|refine zS ?_|refine zR ?_|refine zB ?_|refine zL ?_|refine zC ?_|refine zG (zN ?_)|refine zG (zD 0 rfl rfl rfl rfl ?_)|refine zG (zU rfl rfl rfl ?_)))
      exact ⟨(), trivial, Sub.cons rfl (Sub.bl rfl (by rw [headOk, decide_eq_false (show ¬ 1 ≤ c.ms.length by omega)]; simp) (Sub.nil _)), Ent.refl⟩
    refine VO.go (VO.yes 20 false rfl (by rw [beq_eq_false_iff_ne]; exact h3) ?_)
    (repeat (first|refine zS ?_|refine zR ?_|refine zB ?_|refine zL ?_|refine zC ?_|refine zG (zN ?_)|refine zG (zD 0 rfl rfl rfl rfl ?_)|refine zG (zU rfl rfl rfl ?_)))
    refine ⟨(), trivial, Sub.cons rfl (Sub.bl rfl ?_ (Sub.nil _)), Ent.refl⟩
    have e1 : decide (1 ≤ c.epoch) = true := decide_eq_true (by omega)
    have e2 : decide (c.epoch ≤ 1099511627776) = true := decide_eq_true (by omega)
    have e3 : decide (1 ≤ c.ms.length) = true := decide_eq_true (by omega)
    rw [headOk, e1, e2, e3]
    by_cases h4 : 6 < (c.ms.length : Int)
    · rw [decide_eq_true h4, decide_eq_false (show ¬ c.ms.length ≤ 6 by omega)]; rfl
    · rw [decide_eq_false h4, decide_eq_true (show c.ms.length ≤ 6 by omega)]; rfl
  rintro _ -
  refine VC.condN rfl (fun hh => ?_) (fun hh => VC.skip ?_)
  · (repeat (first|refine zS ?_|refine zR ?_|refine zB ?_|refine zL ?_|refine zC ?_|refine zG (zN ?_)|refine zG (zD 0 rfl rfl rfl rfl ?_)))
    exact VC.ret (Ret.tmp 2 rfl rfl Imp.nil.ent ⟨by rw [chE, chOk, hh]; rfl, rfl⟩)
  have hmv : ∀ (i : Nat), memOk c i = false → i < c.ms.length → chOk c = false := fun i h1 h2 => by
    have : (List.range c.ms.length).all (memOk c) = false := by
      rw [List.all_eq_false]; exact ⟨i, List.mem_range.2 h2, by rw [h1]; simp⟩
    rw [chOk, this]; simp
  (repeat (first|refine zS ?_|refine zR ?_|refine zB ?_|refine zL ?_|refine zC ?_|refine zG (zN ?_)|refine zG (zD 0 rfl rfl rfl rfl ?_)))
  refine VC.loop (σ := Nat) (fun i => [(1, .pointer (some ⟨b, 0, none⟩)), (3, .int .i64 i)]) (fun _ => [pt b (c.cells a cap) chT]) (fun i => i ≤ c.ms.length ∧ (List.range i).all (memOk c) = true) (fun i => c.ms.length - i) 0
    ⟨Nat.zero_le _, rfl⟩ (Sub.cons rfl (Sub.cons rfl (Sub.nil _))) Ent.refl ?_
  rintro i ⟨hi, hall⟩
  (repeat (first|refine zS ?_|refine zR ?_|refine zB ?_|refine zL ?_|refine zC ?_|refine zG (zN ?_)|refine zG (zD 0 rfl rfl rfl rfl ?_)))
  refine VC.condP (p := (i : Int) < (c.ms.length : Int)) rfl (fun h1 => VC.skip ?_) (fun h1 => VC.exit ?_)
  rotate_left
  · obtain rfl : i = c.ms.length := by omega
    (repeat (first|refine zS ?_|refine zR ?_|refine zB ?_|refine zL ?_|refine zC ?_|refine zG (zN ?_)|refine zG (zD 0 rfl rfl rfl rfl ?_)))
    by_cases hd : c.drain = -1
    · refine VO.go (VO.yes 75 false rfl (by rw [bne_eq_false_iff_eq]; exact hd) ?_)
      (repeat (first|refine zS ?_|refine zR ?_|refine zB ?_|refine zL ?_|refine zC ?_|refine zG (zN ?_)|refine zG (zD 0 rfl rfl rfl rfl ?_)|refine zG (zU rfl rfl rfl ?_)))
      refine VC.condF rfl (VC.skip ?_)
      (repeat (first|refine zS ?_|refine zR ?_|refine zB ?_|refine zL ?_|refine zC ?_|refine zG (zN ?_)|refine zG (zD 0 rfl rfl rfl rfl ?_)))
      exact VC.ret (Ret.tmp 2 rfl rfl Imp.nil.ent ⟨by rw [chE, chOk, hh, hall, drainOk, decide_eq_true hd]; rfl, rfl⟩)
    · refine VO.go (VO.yes 75 true rfl (by rw [bne_iff_ne]; exact hd) ?_)
      refine VO.go (VO.ldA 0 (c.cells a cap) rfl rfl rfl rfl ?_)
      (repeat (first|refine zS ?_|refine zR ?_|refine zB ?_|refine zL ?_|refine zC ?_|refine zG (zN ?_)|refine zG (zD 0 rfl rfl rfl rfl ?_)|refine zG (zU rfl rfl rfl ?_)))
      refine VO.go (VO.callV' (fun Fr w hF hs hS => rat_spec Fr w (h.of hF hs) hl c.drain) rfl ?_)
      (repeat (first|refine zS ?_|refine zR ?_|refine zB ?_|refine zL ?_|refine zC ?_|refine zG (zN ?_)|refine zG (zD 0 rfl rfl rfl rfl ?_)|refine zG (zU rfl rfl rfl ?_)))
      refine VC.condE (i := placeOf c.ms c.drain) (j := -1) rfl (fun h2 => ?_) (fun h2 => VC.skip ?_)
      · (repeat (first|refine zS ?_|refine zR ?_|refine zB ?_|refine zL ?_|refine zC ?_|refine zG (zN ?_)|refine zG (zD 0 rfl rfl rfl rfl ?_)))
        exact VC.ret (Ret.tmp 2 rfl rfl Imp.nil.ent ⟨by rw [chE, chOk, hh, hall, drainOk, decide_eq_false hd, decide_eq_false (by omega)]; rfl, rfl⟩)
      · have hp : 0 ≤ placeOf c.ms c.drain := by rcases place_range c.ms c.drain with h3 | ⟨k, m, h3, _⟩ <;> omega
        (repeat (first|refine zS ?_|refine zR ?_|refine zB ?_|refine zL ?_|refine zC ?_|refine zG (zN ?_)|refine zG (zD 0 rfl rfl rfl rfl ?_)))
        exact VC.ret (Ret.tmp 2 rfl rfl Imp.nil.ent ⟨by rw [chE, chOk, hh, hall, drainOk, decide_eq_true hp]; simp, rfl⟩)
  have hi2 : i < c.ms.length := by omega
  obtain ⟨m, hm⟩ : ∃ m, c.ms[i]? = some m := ⟨_, List.getElem?_eq_getElem hi2⟩
  have hmo : memOk c i = (nodeB m.1 && (decide (placeOf c.ms m.1 = i) && (decide (1 ≤ m.2) && decide (m.2 ≤ c.epoch)))) := by rw [memOk, hm]
  obtain ⟨mb, mo, hma, ra, rc⟩ := RwIn.rd (X := ⟨Tryz.prog, tab, tabOk, 82, Fr, w⟩) h hm
  have hma' := hma
  rw [hma]
  refine VC.seq (VC.block ?_)
  (repeat (first|refine zS ?_|refine zR ?_|refine zB ?_|refine zL ?_|refine zC ?_|refine zG (zN ?_)|refine zG (zD 0 rfl rfl rfl rfl ?_)))
  refine VO.go (VO.light (light_idx i rfl rfl rfl rfl rfl rfl hi2) ?_)
  refine VO.go (VO.load rfl rfl (ra _ _ rfl rfl) ?_)
  refine VO.go (VO.alloc rfl fun xb => ?_)
  refine VO.go (VO.stA (vs := memC m) (cs' := memC m) 0 rfl rfl rfl rfl (Nat.le_refl _) rfl rfl rfl (VO.go (VO.nil ?_)))
  refine VC.seq (VC.seq ?_)
  refine VC.meetS (σ := Unit) (fun _ => [(1, .pointer (some ⟨b, 0, none⟩)), (3, .int .i64 i), (4, .pointer (some ⟨xb, 0, none⟩)), (57, .bool (!(nodeB m.1 && (decide (1 ≤ m.2) && decide (m.2 ≤ c.epoch)))))]) (fun _ => [pt xb (memC m) memT, pt b (c.cells (some ⟨mb, mo, none⟩) cap) chT]) (fun _ => True) ?_ ?_
  · refine VC.region ?_
    refine VO.go (VO.ld 0 rfl rfl rfl rfl ?_)
    by_cases h2 : m.1 < 0
    · refine VO.go (VO.yes 41 true rfl (decide_eq_true h2) ?_)
      (repeat (first|refine zS ?_|refine zR ?_|refine zB ?_|refine zL ?_|refine zC ?_|refine zG (zN ?_)|refine zG (zD 0 rfl rfl rfl rfl ?_)|refine zG (zD 1 rfl rfl rfl rfl ?_)|refine zG (zU rfl rfl rfl ?_)))
      refine VO.go (VO.yes 46 true rfl rfl ?_)
      (repeat (first|refine zS ?_|refine zR ?_|refine zB ?_|refine zL ?_|refine zC ?_|refine zG (zN ?_)|refine zG (zD 0 rfl rfl rfl rfl ?_)|refine zG (zD 1 rfl rfl rfl rfl ?_)|refine zG (zU rfl rfl rfl ?_)))
      refine VO.go (VO.yes 51 true rfl rfl ?_)
      (repeat (first|refine zS ?_|refine zR ?_|refine zB ?_|refine zL ?_|refine zC ?_|refine zG (zN ?_)|refine zG (zD 0 rfl rfl rfl rfl ?_)|refine zG (zD 1 rfl rfl rfl rfl ?_)|refine zG (zU rfl rfl rfl ?_)))
      exact ⟨(), trivial, Sub.cons rfl (Sub.cons rfl (Sub.cons rfl (Sub.bl rfl (by rw [nodeB, decide_eq_false (show ¬ 0 ≤ m.1 by omega)]; rfl) (Sub.nil _)))), Ent.refl⟩
    refine VO.go (VO.yes 41 false rfl (decide_eq_false h2) ?_)
    (repeat (first|refine zS ?_|refine zR ?_|refine zB ?_|refine zL ?_|refine zC ?_|refine zG (zN ?_)|refine zG (zD 0 rfl rfl rfl rfl ?_)|refine zG (zD 1 rfl rfl rfl rfl ?_)|refine zG (zU rfl rfl rfl ?_)))
    by_cases h3 : 5 < m.1
    · refine VO.go (VO.yes 46 true rfl (decide_eq_true h3) ?_)
      (repeat (first|refine zS ?_|refine zR ?_|refine zB ?_|refine zL ?_|refine zC ?_|refine zG (zN ?_)|refine zG (zD 0 rfl rfl rfl rfl ?_)|refine zG (zD 1 rfl rfl rfl rfl ?_)|refine zG (zU rfl rfl rfl ?_)))
      refine VO.go (VO.yes 51 true rfl rfl ?_)
      (repeat (first|refine zS ?_|refine zR ?_|refine zB ?_|refine zL ?_|refine zC ?_|refine zG (zN ?_)|refine zG (zD 0 rfl rfl rfl rfl ?_)|refine zG (zD 1 rfl rfl rfl rfl ?_)|refine zG (zU rfl rfl rfl ?_)))
      exact ⟨(), trivial, Sub.cons rfl (Sub.cons rfl (Sub.cons rfl (Sub.bl rfl (by rw [nodeB, decide_eq_false (show ¬ m.1 < 6 by omega)]; simp) (Sub.nil _)))), Ent.refl⟩
    refine VO.go (VO.yes 46 false rfl (decide_eq_false h3) ?_)
    (repeat (first|refine zS ?_|refine zR ?_|refine zB ?_|refine zL ?_|refine zC ?_|refine zG (zN ?_)|refine zG (zD 0 rfl rfl rfl rfl ?_)|refine zG (zD 1 rfl rfl rfl rfl ?_)|refine zG (zU rfl rfl rfl ?_)))
    have hn : nodeB m.1 = true := by rw [nodeB, decide_eq_true (show 0 ≤ m.1 by omega), decide_eq_true (show m.1 < 6 by omega)]; rfl
    by_cases h4 : m.2 < 1
    · refine VO.go (VO.yes 51 true rfl (decide_eq_true h4) ?_)
      (repeat (first|refine zS ?_|refine zR ?_|refine zB ?_|refine zL ?_|refine zC ?_|refine zG (zN ?_)|refine zG (zD 0 rfl rfl rfl rfl ?_)|refine zG (zD 1 rfl rfl rfl rfl ?_)|refine zG (zU rfl rfl rfl ?_)))
      exact ⟨(), trivial, Sub.cons rfl (Sub.cons rfl (Sub.cons rfl (Sub.bl rfl (by rw [decide_eq_false (show ¬ 1 ≤ m.2 by omega)]; simp) (Sub.nil _)))), Ent.refl⟩
    refine VO.go (VO.yes 51 false rfl (decide_eq_false h4) ?_)
    (repeat (first|refine zS ?_|refine zR ?_|refine zB ?_|refine zL ?_|refine zC ?_|refine zG (zN ?_)|refine zG (zD 0 rfl rfl rfl rfl ?_)|refine zG (zD 1 rfl rfl rfl rfl ?_)|refine zG (zU rfl rfl rfl ?_)))
    refine ⟨(), trivial, Sub.cons rfl (Sub.cons rfl (Sub.cons rfl (Sub.bl rfl ?_ (Sub.nil _)))), Ent.refl⟩
    rw [hn, decide_eq_true (show 1 ≤ m.2 by omega)]
    by_cases h5 : c.epoch < m.2
    · rw [decide_eq_true h5, decide_eq_false (show ¬ m.2 ≤ c.epoch by omega)]; rfl
    · rw [decide_eq_false h5, decide_eq_true (show m.2 ≤ c.epoch by omega)]; rfl
  rintro _ -
  refine VC.condN rfl (fun h2 => ?_) (fun h2 => VC.skip ?_)
  · (repeat (first|refine zS ?_|refine zR ?_|refine zB ?_|refine zL ?_|refine zC ?_|refine zG (zN ?_)|refine zG (zD 0 rfl rfl rfl rfl ?_)))
    refine VC.ret (Ret.tmp 2 rfl rfl Imp.nil.ent ⟨?_, rfl⟩)
    rw [chE, hmv i ?_ hi2]; rfl
    rw [hmo]
    cases hn : nodeB m.1 with
    | false => rfl
    | true =>
      rw [hn, Bool.true_and] at h2
      rw [h2, Bool.and_false, Bool.and_false]
  simp only [Bool.and_eq_true] at h2
  (repeat (first|refine zS ?_|refine zR ?_|refine zB ?_|refine zL ?_|refine zC ?_|refine zG (zN ?_)|refine zG (zD 0 rfl rfl rfl rfl ?_)))
  refine VC.loop (σ := Nat) (fun k => [(1, .pointer (some ⟨b, 0, none⟩)), (3, .int .i64 i), (4, .pointer (some ⟨xb, 0, none⟩)), (5, .int .i64 k)]) (fun _ => [pt xb (memC m) memT, pt b (c.cells (some ⟨mb, mo, none⟩) cap) chT]) (fun k => k ≤ i ∧ ∀ j x, j < k → c.ms[j]? = some x → x.1 ≠ m.1) (fun k => i - k) 0
    ⟨Nat.zero_le _, fun j x hj => by omega⟩ (Sub.cons rfl (Sub.cons rfl (Sub.cons rfl (Sub.cons rfl (Sub.nil _))))) Ent.refl ?_
  rintro k ⟨hk, hno⟩
  (repeat (first|refine zS ?_|refine zR ?_|refine zB ?_|refine zL ?_|refine zC ?_|refine zG (zN ?_)|refine zG (zD 0 rfl rfl rfl rfl ?_)))
  refine VC.condP (p := (k : Int) < (i : Int)) rfl (fun h5 => VC.skip ?_) (fun h5 => VC.exit ?_)
  rotate_left
  · obtain rfl : k = i := by omega
    (repeat (first|refine zS ?_|refine zR ?_|refine zB ?_|refine zL ?_|refine zC ?_|refine zG (zN ?_)|refine zG (zD 0 rfl rfl rfl rfl ?_)))
    refine VO.go (VO.add rfl rfl (by omega) (by omega) ?_)
    (repeat (first|refine zS ?_|refine zR ?_|refine zB ?_|refine zL ?_|refine zC ?_|refine zG (zN ?_)|refine zG (zD 0 rfl rfl rfl rfl ?_)))
    refine ⟨k + 1, ⟨hi2, ?_⟩, by dsimp only; omega, Sub.cons rfl (Sub.cons rfl (Sub.nil _)), (Imp.pick 1 rfl Imp.nil).ent⟩
    rw [List.range_succ, List.all_append, hall]
    show (true && (memOk c k && true)) = true
    rw [hmo, place_hit hm rfl hno, h2.1, h2.2.1, h2.2.2]
    simp
  obtain ⟨x, hx⟩ : ∃ x, c.ms[k]? = some x := ⟨_, List.getElem?_eq_getElem (by omega)⟩
  obtain ⟨nb, no, hna, sa, sc⟩ := RwIn.rd (X := ⟨Tryz.prog, tab, tabOk, 82, Fr, w⟩) h hx
  rw [hma] at hna
  obtain ⟨rfl, rfl⟩ : mb = nb ∧ mo = no := by cases hna; exact ⟨rfl, rfl⟩
  refine VC.seq (VC.block ?_)
  refine VC.seq ?_
  refine VC.draw (ts 0 9 .nil) (by kernel_rfl) (by decide +kernel) ?_
  (repeat (first|refine yG (yN ?_)|refine yG (yD 0 rfl rfl rfl rfl rfl ?_)|refine yG (yD 1 rfl rfl rfl rfl rfl ?_)))
  refine VA.go (VA.light rfl (light_idx k rfl rfl rfl rfl rfl (by omega) (by omega)) ?_)
  (repeat (first|refine yG (yN ?_)|refine yG (yD 0 rfl rfl rfl rfl rfl ?_)|refine yG (yD 1 rfl rfl rfl rfl rfl ?_)))
  refine VA.go (VA.load rfl rfl rfl (sc _ _ 0 _ rfl rfl) ?_)
  (repeat (first|refine yG (yN ?_)|refine yG (yD 0 rfl rfl rfl rfl rfl ?_)|refine yG (yD 1 rfl rfl rfl rfl rfl ?_)))
  refine VC.condE (i := x.1) (j := m.1) rfl (fun h6 => ?_) (fun h6 => VC.skip ?_)
  · (repeat (first|refine zS ?_|refine zR ?_|refine zB ?_|refine zL ?_|refine zC ?_|refine zG (zN ?_)|refine zG (zD 0 rfl rfl rfl rfl ?_)))
    refine VC.ret (Ret.tmp 2 rfl rfl Imp.nil.ent ⟨?_, rfl⟩)
    have : placeOf c.ms m.1 ≠ i := by
      rw [place_hit hx h6 hno]; omega
    rw [chE, hmv i (by rw [hmo, decide_eq_false this]; simp) hi2]; rfl
  · (repeat (first|refine zS ?_|refine zR ?_|refine zB ?_|refine zL ?_|refine zC ?_|refine zG (zN ?_)|refine zG (zD 0 rfl rfl rfl rfl ?_)))
    refine VO.go (VO.add rfl rfl (by omega) (by omega) ?_)
    (repeat (first|refine zS ?_|refine zR ?_|refine zB ?_|refine zL ?_|refine zC ?_|refine zG (zN ?_)|refine zG (zD 0 rfl rfl rfl rfl ?_)))
    refine ⟨k + 1, ⟨by omega, fun j y hj hy => ?_⟩, by dsimp only; omega, Sub.cons rfl (Sub.cons rfl (Sub.cons rfl (Sub.cons rfl (Sub.nil _)))), Ent.refl⟩
    by_cases hjk : j = k
    · subst hjk; rw [hx] at hy; cases hy; exact h6
    · exact hno j y (by omega) hy
set_option maxRecDepth 100000 in
theorem rsince_spec (Fr : Nat → Prop) (w : World) (h : RwIn memC 2 Fr w a c.ms) (hl : c.ms.length ≤ 1000000) (n : Int) : Tri Tryz.prog 79 [.agg (c.cells a cap).toArray, .int .i64 n] Fr w [] (fun v L => v = .tuple #[.int .i64 (sinceOf c n).1, .bool (sinceOf c n).2] ∧ L = []) := by
  have hp := place_range c.ms n
  refine Tri.of 23 Tryz.func79 rfl (by kernel_rfl) tabOk rfl rfl ?_
  refine VC.seq (VC.region (VO.go (VO.boxA (vs := c.cells a cap) rfl fun b => ?_)))
  (repeat (first|refine zS ?_|refine zR ?_|refine zB ?_|refine zL ?_|refine zC ?_|refine zG (zN ?_)|refine zG (zD 0 rfl rfl rfl rfl ?_)))
  refine VO.go (VO.ldA 0 (c.cells a cap) rfl rfl rfl rfl ?_)
  refine VO.go (VO.callV' (fun Fr w hF hs hS => rat_spec Fr w (h.of hF hs) hl n) rfl ?_)
  (repeat (first|refine zS ?_|refine zR ?_|refine zB ?_|refine zL ?_|refine zC ?_|refine zG (zN ?_)|refine zG (zD 0 rfl rfl rfl rfl ?_)))
  refine VO.go (VO.ldA 0 (c.cells a cap) rfl rfl rfl rfl ?_)
  refine VO.go (VO.callV' (fun Fr w hF hs hS => rchk_spec Fr w (h.of hF hs) hl) rfl ?_)
  (repeat (first|refine zS ?_|refine zR ?_|refine zB ?_|refine zL ?_|refine zC ?_|refine zG (zN ?_)|refine zG (zD 0 rfl rfl rfl rfl ?_)))
  cases hc : chOk c with
  | false =>
    refine VO.go (VO.yes 13 true rfl (by rw [chE, hc]; rfl) ?_)
    (repeat (first|refine zS ?_|refine zR ?_|refine zB ?_|refine zL ?_|refine zC ?_|refine zG (zN ?_)|refine zG (zD 0 rfl rfl rfl rfl ?_)|refine zG (zU rfl rfl rfl ?_)))
    refine VC.condT rfl ?_
    (repeat (first|refine zS ?_|refine zR ?_|refine zB ?_|refine zL ?_|refine zC ?_|refine zG (zN ?_)|refine zG (zD 0 rfl rfl rfl rfl ?_)))
    exact VC.ret (Ret.tmp2 4 5 rfl rfl rfl Imp.nil.ent ⟨by rw [sinceOf, if_neg (by rw [hc]; simp)], rfl⟩)
  | true =>
  refine VO.go (VO.yes 13 false rfl (by rw [chE, hc]; rfl) ?_)
  (repeat (first|refine zS ?_|refine zR ?_|refine zB ?_|refine zL ?_|refine zC ?_|refine zG (zN ?_)|refine zG (zD 0 rfl rfl rfl rfl ?_)|refine zG (zU rfl rfl rfl ?_)))
  refine VC.condP rfl (fun h1 => ?_) (fun h1 => VC.skip ?_)
  · (repeat (first|refine zS ?_|refine zR ?_|refine zB ?_|refine zL ?_|refine zC ?_|refine zG (zN ?_)|refine zG (zD 0 rfl rfl rfl rfl ?_)))
    exact VC.ret (Ret.tmp2 4 5 rfl rfl rfl Imp.nil.ent ⟨by rw [sinceOf, if_neg (by omega)], rfl⟩)
  · rcases hp with hp | ⟨k, m, h2, h3, h4, h5⟩
    · omega
    obtain ⟨mb, mo, hma, ra, rc⟩ := RwIn.rd (X := ⟨Tryz.prog, tab, tabOk, 23, Fr, w⟩) h h4
    subst hma
    (repeat (first|refine zS ?_|refine zR ?_|refine zB ?_|refine zL ?_|refine zC ?_|refine zG (zN ?_)|refine zG (zD 0 rfl rfl rfl rfl ?_)))
    refine VO.go (VO.light (light_idx k rfl rfl rfl rfl rfl h2 h3) ?_)
    (repeat (first|refine zS ?_|refine zR ?_|refine zB ?_|refine zL ?_|refine zC ?_|refine zG (zN ?_)|refine zG (zD 0 rfl rfl rfl rfl ?_)))
    refine VO.go (VO.load rfl rfl (rc _ _ 1 _ rfl rfl) ?_)
    (repeat (first|refine zS ?_|refine zR ?_|refine zB ?_|refine zL ?_|refine zC ?_|refine zG (zN ?_)|refine zG (zD 0 rfl rfl rfl rfl ?_)))
    exact VC.ret (Ret.tmp2 4 5 rfl rfl rfl Imp.nil.ent ⟨by rw [sinceOf, if_pos ⟨hc, by omega⟩, h2, Int.toNat_natCast, h4]; rfl, rfl⟩)
end
set_option maxRecDepth 100000 in
theorem rfirst_spec (Fr : Nat → Prop) (w : World) (c : ConfM) (a : Option Addr) (cap : Nat) (hq : IntsIn Fr w a c.qs) (hl : c.qs.length ≤ 1000) : Tri Tryz.prog 75 [.agg (c.cells a cap).toArray] Fr w []
    (fun v L => if c = fitM c then ∃ a' c', v = .tuple #[.agg ((firstC c).cells a' c').toArray, .int .i64 0] ∧ L = [slH memT 2 a' (firstC c).ms.length c' (flat memC (firstC c).ms)] else v = .tuple #[.agg (chZ.cells none 0).toArray, .int .i64 2] ∧ L = []) := by
  refine Tri.of 24 Tryz.func75 rfl (by kernel_rfl) tabOk rfl rfl ?_
  refine VC.seq (VC.region (VO.go (VO.boxA (vs := c.cells a cap) rfl fun x => VO.go (VO.alloc rfl fun d => ?_))))
  (repeat (first|refine zS ?_|refine zR ?_|refine zB ?_|refine zL ?_|refine zC ?_|refine zG (zN ?_)|refine zG (zD 0 rfl rfl rfl rfl ?_)|refine zG (zD 1 rfl rfl rfl rfl ?_)))
  refine VO.go (VO.ldA 1 (c.cells a cap) rfl rfl rfl rfl ?_)
  refine VO.go (VO.callV' (fun Fr w hF hs _ => rcheck_spec Fr w c a cap (ints_of hq hF hs) hl) rfl ?_)
  (repeat (first|refine zS ?_|refine zR ?_|refine zB ?_|refine zL ?_|refine zC ?_|refine zG (zN ?_)|refine zG (zD 0 rfl rfl rfl rfl ?_)))
  refine VC.condNE rfl (fun h1 => ?_) (fun h1 => VC.skip ?_)
  · have hc : ¬ c = fitM c := fun e => h1 (by rw [checkM, if_pos e])
    have hc2 : checkM c = 2 := by rw [checkM, if_neg hc]
    (repeat (first|refine zS ?_|refine zR ?_|refine zB ?_|refine zL ?_|refine zC ?_|refine zG (zN ?_)|refine zG (zD 0 rfl rfl rfl rfl ?_)))
    refine VO.go (VO.light (light_build (pv := []) (chZ.cells none 0) rfl rfl rfl (by kernel_rfl) rfl) ?_)
    (repeat (first|refine zS ?_|refine zR ?_|refine zB ?_|refine zL ?_|refine zC ?_|refine zG (zN ?_)|refine zG (zD 0 rfl rfl rfl rfl ?_)))
    refine VO.go (VO.stA (vs := chZ.cells none 0) (cs' := chZ.cells none 0) 0 rfl rfl rfl rfl (Nat.le_refl _) rfl rfl rfl ?_)
    (repeat (first|refine zS ?_|refine zR ?_|refine zB ?_|refine zL ?_|refine zC ?_|refine zG (zN ?_)|refine zG (zD 0 rfl rfl rfl rfl ?_)))
    refine VC.ret (Ret.cellTmp 2 3 rfl rfl rfl (RdL.many 0 rfl rfl) rfl Imp.nil.ent ?_)
    rw [if_neg hc]; exact ⟨rfl, rfl⟩
  have hc : c = fitM c := by
    apply Decidable.byContradiction
    intro hc
    rw [checkM, if_neg hc] at h1
    cases h1
  have hb := conf_bounds hc
  refine VC.seq (VC.region ?_)
  refine VO.go (VO.buildSlice (n := 0) (pv := []) [] rfl rfl rfl rfl (by decide) rfl fun nb => ?_)
  refine VO.go (VO.nil ?_)
  (repeat (first|refine zS ?_|refine zR ?_|refine zB ?_|refine zL ?_|refine zC ?_|refine zG (zN ?_)|refine zG (zD 0 rfl rfl rfl rfl ?_)))
  refine VC.loop (σ := Nat × Option Addr × Nat) (fun y => [(1, .pointer (some ⟨x, 0, none⟩)), (2, .pointer (some ⟨d, 0, none⟩)), (4, .slice y.2.1 y.1 y.2.2), (5, .int .i64 y.1)])
    (fun y => [slH memT 2 y.2.1 y.1 y.2.2 (flat memC (firstMs y.1)), pt d (chZ.cells none 0) chT, pt x (c.cells a cap) 24])
    (fun y => (y.1 : Int) ≤ c.chain) (fun y => c.chain.toNat - y.1) (0, some ⟨nb, 0, none⟩, 0)
    (by dsimp only; omega) (Sub.cons rfl (Sub.cons rfl (Sub.cons rfl (Sub.cons rfl (Sub.nil _))))) (Imp.sl (rest := []) rfl (Nat.le_refl _) rfl (Imp.pick 0 rfl (Imp.pick 0 rfl (Imp.pick 0 rfl Imp.nil)))).ent ?_
  rintro ⟨i, a', c'⟩ hi
  dsimp only at hi ⊢
  (repeat (first|refine zS ?_|refine zR ?_|refine zB ?_|refine zL ?_|refine zC ?_|refine zG (zN ?_)|refine zG (zD 0 rfl rfl rfl rfl ?_)|refine zG (zD 1 rfl rfl rfl rfl ?_)|refine zG (zD 2 rfl rfl rfl rfl ?_)))
  refine VC.condP (p := (i : Int) < c.chain) rfl (fun h1 => VC.skip ?_) (fun h1 => VC.exit ?_)
  · refine VC.seq (VC.block (VC.region ?_))
    refine VO.go (VO.light (light_build (pv := [(0, .int .i64 i), (1, .int .i64 1)]) (memC ((i : Int), 1)) rfl rfl rfl (by kernel_rfl) rfl) ?_)
    refine VO.go (VO.buildSlice (n := 1) (pv := [(0, .agg (memC ((i : Int), 1)).toArray)]) (memC ((i : Int), 1)) rfl rfl rfl rfl (by decide) (fill_one rfl rfl rfl) fun nb => ?_)
    refine VO.go (VO.append (m := 1) (news := memC ((i : Int), 1)) 1 rfl rfl rfl rfl rfl rfl rfl (RdRow.pt 0 rfl rfl rfl) rfl (small_bytes (k := 101) (by omega) (by decide)) (by omega) fun a2 c2 hc2 => ?_)
    (repeat (first|refine zS ?_|refine zR ?_|refine zB ?_|refine zL ?_|refine zC ?_|refine zG (zN ?_)|refine zG (zD 0 rfl rfl rfl rfl ?_)))
    refine VO.go (VO.add rfl rfl (by omega) (by omega) ?_)
    (repeat (first|refine zS ?_|refine zR ?_|refine zB ?_|refine zL ?_|refine zC ?_|refine zG (zN ?_)|refine zG (zD 0 rfl rfl rfl rfl ?_)))
    refine ⟨(i + 1, a2, c2), by dsimp only; omega, by dsimp only; omega, Sub.cons rfl (Sub.cons rfl (Sub.cons rfl (Sub.cons rfl (Sub.nil _)))), ?_⟩
    dsimp only
    rw [firstMs_succ, flat_append, flat_cons, flat_nil, List.append_nil]
    exact (Imp.pick 0 rfl (Imp.pick 1 rfl (Imp.pick 1 rfl Imp.nil))).ent
  · obtain rfl : i = c.chain.toNat := by omega
    have e0 : (firstC c).ms.length = c.chain.toNat := firstMs_len _
    have e1 : (firstC c).cells a' c' = [.int .i64 1, .slice a' c.chain.toNat c', .int .i64 (-1)] := by rw [ChM.cells, e0]; rfl
    refine VC.seq (VC.region ?_)
    refine VO.go (VO.light (light_build (pv := [(0, .int .i64 1), (1, .slice a' c.chain.toNat c'), (2, .int .i64 (-1))]) [.int .i64 1, .slice a' c.chain.toNat c', .int .i64 (-1)] rfl rfl rfl (by kernel_rfl) rfl) ?_)
    refine VO.go (VO.stA (vs := [.int .i64 1, .slice a' c.chain.toNat c', .int .i64 (-1)]) (cs' := [.int .i64 1, .slice a' c.chain.toNat c', .int .i64 (-1)]) 1 rfl rfl rfl rfl (Nat.le_refl _) rfl rfl rfl ?_)
    (repeat (first|refine zS ?_|refine zR ?_|refine zB ?_|refine zL ?_|refine zC ?_|refine zG (zN ?_)|refine zG (zD 0 rfl rfl rfl rfl ?_)))
    refine VC.ret (Ret.cellTmp 2 3 rfl rfl rfl (RdL.many 1 rfl rfl) rfl (Imp.pick 0 rfl Imp.nil).ent ?_)
    rw [if_pos hc, e0]; exact ⟨a', c', by rw [e1]; rfl, rfl⟩
end Go.Proofs.YtbbnmgakmcppdaaGreat.Nd
namespace Go.Proofs.YtbbnmgakmcppdaaGreat.Nd
open Go Go.Proofs.YtbbnmgakmcppdaaGreat.Vg Go.Proofs.YtbbnmgakmcppdaaGreat.T Go.Proofs.YtbbnmgakmcppdaaGreat.Api Go.Proofs.YtbbnmgakmcppdaaGreat.Kv Go.Proofs.YtbbnmgakmcppdaaGreat.Ch Go.Proofs.YtbbnmgakmcppdaaGreat.Lg Go.Proofs.YtbbnmgakmcppdaaGreat.Rd Go.Proofs.YtbbnmgakmcppdaaGreat.Win Go.Proofs.YtbbnmgakmcppdaaGreat.Adm Go.Proofs.YtbbnmgakmcppdaaGreat.Sched Go.Proofs.YtbbnmgakmcppdaaGreat.Conf Go.Proofs.YtbbnmgakmcppdaaGreat.Rep Go.Proofs.YtbbnmgakmcppdaaGreat.Ref16
set_option linter.unusedSimpArgs false
set_option linter.unusedVariables false
attribute [local irreducible] VO VC VA

abbrev ndT : TypeId := 87
abbrev rlogT : TypeId := 205
abbrev radT : TypeId := 171
abbrev rrdsT : TypeId := 167
abbrev rrdT : TypeId := 151
/-- Its log. -/
def rlogL (p : Nat) (es : List EntryM) (x : Option Addr × Nat) : List HP := [pt p [.slice x.1 es.length x.2] rlogT, slH entT 7 x.1 es.length x.2 (flat entC es)]
def rlogH (p : Nat) (es : List EntryM) : HP := hex fun x => hsep (rlogL p es x)
theorem HOpn.rlog (p : Nat) (es : List EntryM) : HOpn (ι := Option Addr × Nat) (rlogH p es) (fun _ => True) (fun x => rlogL p es x) := fun w ids ⟨x, h⟩ hn => ⟨x, trivial, ids, h, hn, fun _ h => h⟩
theorem Imp.rlog {p : Nat} {es : List EntryM} {L M : List HP} (x : Option Addr × Nat) (h : Imp L (rlogL p es x ++ M)) : Imp L (rlogH p es :: M) :=
  Imp.ex (f := fun x => hsep (rlogL p es x)) x (Imp.sep (Ls := rlogL p es x) h)
/-- Its admission. -/
def radCs (C : ConfM) (ca : Option Addr) (cc : Nat) (A : AdmM) (sp : Nat) : List Value := C.cells ca cc ++ (.pointer (some ⟨sp, 0, none⟩) :: ((A.marks.map fun m => .int .i64 m.1) ++ (A.marks.map fun m => .int .i64 m.2)))
def radL (p : Nat) (C : ConfM) (ca : Option Addr) (cc : Nat) (A : AdmM) (sp : Nat) : List HP := [pt p (radCs C ca cc A sp) radT, rfH sp ca A.sch]
def radH (p : Nat) (C : ConfM) (ca : Option Addr) (cc : Nat) (A : AdmM) : HP := hex fun sp => hsep (radL p C ca cc A sp)
theorem HOpn.rad (p : Nat) (C : ConfM) (ca : Option Addr) (cc : Nat) (A : AdmM) : HOpn (ι := Nat) (radH p C ca cc A) (fun _ => True) (fun x => radL p C ca cc A x) := fun w ids ⟨x, h⟩ hn => ⟨x, trivial, ids, h, hn, fun _ h => h⟩
theorem Imp.rad {p : Nat} {C : ConfM} {ca : Option Addr} {cc : Nat} {A : AdmM} {L M : List HP} (x : Nat) (h : Imp L (radL p C ca cc A x ++ M)) : Imp L (radH p C ca cc A :: M) :=
  Imp.ex (f := fun x => hsep (radL p C ca cc A x)) x (Imp.sep (Ls := radL p C ca cc A x) h)
/-- Its reads. -/
def rrdsOk (R : RdsM) (r : RL RdR) : Prop := r.Ok rdC 34 ∧ r.xs.map Prod.fst = R.l
def rrdsL (p : Nat) (R : RdsM) (r : RL RdR) : List HP := [pt p [.int .i64 R.cap, .slice r.addr r.xs.length r.cap, .int .i64 R.last] rrdsT, r.h rrdT]
def rrdsH (p : Nat) (R : RdsM) : HP := hex fun r => hsep (hpure (rrdsOk R r) :: rrdsL p R r)
theorem HOpn.rrds (p : Nat) (R : RdsM) : HOpn (rrdsH p R) (fun r => rrdsOk R r) (fun r => rrdsL p R r) := by
  rintro w ids ⟨s, h⟩ hn
  obtain ⟨F, G, rfl, ⟨rfl, h1⟩, h2⟩ := h
  exact ⟨s, h1, G, h2, by simpa using hn, fun b hb => by simpa using hb⟩
theorem Imp.rrds {p : Nat} {R : RdsM} {L M : List HP} (r : RL RdR) (hr : rrdsOk R r) (h : Imp L (rrdsL p R r ++ M)) : Imp L (rrdsH p R :: M) :=
  Imp.ex (f := fun r => hsep (hpure (rrdsOk R r) :: rrdsL p R r)) r (Imp.sep (Ls := hpure (rrdsOk R r) :: rrdsL p R r) (Imp.pure hr h))
/-- A node. -/
structure NdS where
  a : Option Addr
  c : Nat
  st : Int
  bs : Int
  lp : Nat
  ap : Nat
  rp : Nat
  oa : Option Addr
  on : Nat
  oc : Nat
def ndCs (C : ConfM) (ca : Option Addr) (cc : Nat) (R : RepM) (x : NdS) : List Value := C.cells ca cc ++ (.int .i64 R.id :: (R.ch.cells x.a x.c ++ [.int .i64 R.since, .bool R.whole, .int .i64 x.st, .int .i64 x.bs, .pointer (some ⟨x.lp, 0, none⟩), .int .i64 R.win.done, .int .i64 R.win.sent, .int .i64 R.win.limit, .int .i64 R.have_, .pointer (some ⟨x.ap, 0, none⟩), .pointer (some ⟨x.rp, 0, none⟩), .bool R.linked, .slice x.oa x.on x.oc]))
def ndOk (R : RepM) (x : NdS) : Prop := (R.whole = true → x.st = R.start) ∧ (R.base = -1 → x.bs < 0) ∧ (R.base ≠ -1 → x.bs = R.base)
def ndL (p : Nat) (C : ConfM) (ca : Option Addr) (cc : Nat) (R : RepM) (x : NdS) : List HP := [pt p (ndCs C ca cc R x) ndT, slH memT 2 x.a R.ch.ms.length x.c (flat memC R.ch.ms), rlogH x.lp R.log, radH x.ap C ca cc R.adm, rrdsH x.rp R.rds]
def ndH (p : Nat) (C : ConfM) (ca : Option Addr) (cc : Nat) (R : RepM) : HP := hex fun x => hsep (hpure (ndOk R x) :: ndL p C ca cc R x)
theorem HOpn.nd (p : Nat) (C : ConfM) (ca : Option Addr) (cc : Nat) (R : RepM) : HOpn (ndH p C ca cc R) (fun x => ndOk R x) (fun x => ndL p C ca cc R x) := by
  rintro w ids ⟨s, h⟩ hn
  obtain ⟨F, G, rfl, ⟨rfl, h1⟩, h2⟩ := h
  exact ⟨s, h1, G, h2, by simpa using hn, fun b hb => by simpa using hb⟩
theorem Imp.nd {p : Nat} {C : ConfM} {ca : Option Addr} {cc : Nat} {R : RepM} {L M : List HP} (x : NdS) (hx : ndOk R x) (h : Imp L (ndL p C ca cc R x ++ M)) : Imp L (ndH p C ca cc R :: M) :=
  Imp.ex (f := fun x => hsep (hpure (ndOk R x) :: ndL p C ca cc R x)) x (Imp.sep (Ls := hpure (ndOk R x) :: ndL p C ca cc R x) (Imp.pure hx h))

theorem rlnew_spec (Fr : Nat → Prop) (w : World) : Tri Tryz.prog 78 [] Fr w [] (fun v L => ∃ p, v = .pointer (some ⟨p, 0, none⟩) ∧ L = [rlogH p []]) := by
  refine Tri.of 3 Tryz.func78 rfl (by kernel_rfl) tabOk rfl rfl ?_
  refine VC.seq (VC.region (VO.go (VO.nil ?_)))
  refine VC.seq (VC.region ?_)
  refine VO.go (VO.light (light_build (pv := []) [.slice none 0 0] rfl rfl rfl (by kernel_rfl) rfl) ?_)
  refine VO.go (VO.boxA (vs := [.slice none 0 0]) rfl fun p => ?_)
  (repeat (first|refine zS ?_|refine zR ?_|refine zB ?_|refine zL ?_|refine zC ?_|refine zG (zN ?_)|refine zG (zD 0 rfl rfl rfl rfl ?_)))
  exact VC.ret (Ret.tmp 0 rfl rfl (Imp.rlog (none, 0) (Imp.pick 0 rfl (Imp.slNil Imp.nil))).ent ⟨p, rfl, rfl⟩)
theorem rrnew_spec (Fr : Nat → Prop) (w : World) {n : Int} (h0 : 1 ≤ n) (h1 : n ≤ 16) : Tri Tryz.prog 77 [.int .i64 n] Fr w [] (fun v L => ∃ p, v = .tuple #[.pointer (some ⟨p, 0, none⟩), .int .i64 0] ∧ L = [rrdsH p (RdsM.new n)]) := by
  refine Tri.of 13 Tryz.func77 rfl (by kernel_rfl) tabOk rfl rfl ?_
  (repeat (first|refine zS ?_|refine zR ?_|refine zB ?_|refine zL ?_|refine zC ?_|refine zG (zN ?_)|refine zG (zD 0 rfl rfl rfl rfl ?_)))
  refine VO.go (VO.yes 6 false rfl (decide_eq_false (by omega)) ?_)
  (repeat (first|refine zS ?_|refine zR ?_|refine zB ?_|refine zL ?_|refine zC ?_|refine zG (zN ?_)|refine zG (zD 0 rfl rfl rfl rfl ?_)|refine zG (zU rfl rfl rfl ?_)))
  refine VC.condP rfl (fun h => by omega) (fun _ => VC.skip ?_)
  refine VC.seq (VC.region ?_)
  refine VO.go (VO.light (light_build (pv := [(0, .int .i64 n)]) [.int .i64 n, .slice none 0 0, .int .i64 0] rfl rfl rfl (by kernel_rfl) rfl) ?_)
  refine VO.go (VO.boxA (vs := [.int .i64 n, .slice none 0 0, .int .i64 0]) rfl fun p => ?_)
  (repeat (first|refine zS ?_|refine zR ?_|refine zB ?_|refine zL ?_|refine zC ?_|refine zG (zN ?_)|refine zG (zD 0 rfl rfl rfl rfl ?_)))
  exact VC.ret (Ret.tmp2 2 3 rfl rfl rfl (Imp.rrds RL.none ⟨RL.none_ok, rfl⟩ (Imp.pick 0 rfl (Imp.pure trivial Imp.nil))).ent ⟨p, rfl, rfl⟩)
set_option maxRecDepth 100000 in
theorem ranew_spec (Fr : Nat → Prop) (w : World) (c : ConfM) (a : Option Addr) (cap : Nat) (hq : IntsIn Fr w a c.qs) (hf : c = fitM c) : Tri Tryz.prog 76 [.agg (c.cells a cap).toArray] Fr w []
    (fun v L => ∃ p, v = .tuple #[.pointer (some ⟨p, 0, none⟩), .int .i64 0] ∧ L = [radH p c a cap (newA c)]) := by
  obtain ⟨hno, hc0, hc1⟩ := conf_new hf
  have hq4 : c.qs.length ≤ 4 := by
    have h2 : c.qs = qFit c.qs := congrArg ConfM.qs hf
    have := qFit_len c.qs
    rw [← h2] at this; omega
  refine Tri.of 24 Tryz.func76 rfl (by kernel_rfl) tabOk rfl rfl ?_
  refine VC.seq (VC.region (VO.go (VO.boxA (vs := c.cells a cap) rfl fun x => ?_)))
  (repeat (first|refine zS ?_|refine zR ?_|refine zB ?_|refine zL ?_|refine zC ?_|refine zG (zN ?_)|refine zG (zD 0 rfl rfl rfl rfl ?_)))
  refine VO.go (VO.ldA 0 (c.cells a cap) rfl rfl rfl rfl ?_)
  refine VO.go (VO.callV' (fun Fr w hF hs _ => rcheck_spec Fr w c a cap (ints_of hq hF hs) (by omega)) rfl ?_)
  rw [show checkM c = 0 by rw [checkM, if_pos hf]]
  (repeat (first|refine zS ?_|refine zR ?_|refine zB ?_|refine zL ?_|refine zC ?_|refine zG (zN ?_)|refine zG (zD 0 rfl rfl rfl rfl ?_)))
  refine VC.condF rfl (VC.skip ?_)
  (repeat (first|refine zS ?_|refine zR ?_|refine zB ?_|refine zL ?_|refine zC ?_|refine zG (zN ?_)|refine zG (zD 0 rfl rfl rfl rfl ?_)))
  refine VO.go (VO.call (Lc := []) (fun Fr w hF hs _ => Ref16.new_spec Fr w a cap c.qs c.queue (ints_of hq hF hs) (by omega)) rfl rfl ?_)
  intro v L hv
  unfold newRf at hv
  rw [if_pos hno] at hv
  obtain ⟨sp, rfl, rfl⟩ := hv
  (repeat (first|refine zS ?_|refine zR ?_|refine zB ?_|refine zL ?_|refine zC ?_|refine zG (zN ?_)|refine zG (zD 0 rfl rfl rfl rfl ?_)))
  refine VC.condF rfl (VC.skip ?_)
  refine VC.seq (VC.region ?_)
  refine VO.go (VO.ldA 1 (c.cells a cap) rfl rfl rfl rfl ?_)
  refine VO.go (VO.light (light_build (pv := [(0, .agg (c.cells a cap).toArray), (1, .pointer (some ⟨sp, 0, none⟩))]) (radCs c a cap (newA c) sp) rfl rfl rfl (by kernel_rfl) rfl) ?_)
  refine VO.go (VO.boxA (vs := radCs c a cap (newA c) sp) rfl fun p => ?_)
  (repeat (first|refine zS ?_|refine zR ?_|refine zB ?_|refine zL ?_|refine zC ?_|refine zG (zN ?_)|refine zG (zD 0 rfl rfl rfl rfl ?_)))
  exact VC.ret (Ret.tmp2 2 3 rfl rfl rfl (Imp.rad sp (Imp.pick 0 rfl (Imp.pick 0 rfl Imp.nil))).ent ⟨p, rfl, rfl⟩)
def ndZ (lp ap rp : Nat) : NdS := ⟨none, 0, 0, -1, lp, ap, rp, none, 0, 0⟩
set_option maxRecDepth 100000 in
set_option maxHeartbeats 4000000 in
theorem rnew_spec (Fr : Nat → Prop) (w : World) (c : ConfM) (a : Option Addr) (cap : Nat) (hq : IntsIn Fr w a c.qs) (hl : c.qs.length ≤ 1000) (id : Int) (blank : Bool) : Tri Tryz.prog 25 [.agg (c.cells a cap).toArray, .int .i64 id, .bool blank] Fr w []
    (fun v L => if newOkB c id then ∃ p, v = .tuple #[.pointer (some ⟨p, 0, none⟩), .int .i64 0] ∧ L = [ndH p c a cap (Rep.newR c id blank)] else v = .tuple #[.pointer none, .int .i64 2] ∧ L = []) := by
  refine Tri.of 75 Tryz.func25 rfl (by kernel_rfl) tabOk rfl rfl ?_
  refine VC.seq (VC.region (VO.go (VO.boxA (vs := c.cells a cap) rfl fun x => ?_)))
  (repeat (first|refine zS ?_|refine zR ?_|refine zB ?_|refine zL ?_|refine zC ?_|refine zG (zN ?_)|refine zG (zD 0 rfl rfl rfl rfl ?_)))
  refine VO.go (VO.ldA 0 (c.cells a cap) rfl rfl rfl rfl ?_)
  refine VO.go (VO.call (Lc := []) (fun Fr w hF hs _ => rfirst_spec Fr w c a cap (ints_of hq hF hs) hl) rfl rfl ?_)
  intro v L hv
  by_cases hf : c = fitM c
  rotate_left
  · rw [if_neg hf] at hv
    obtain ⟨rfl, rfl⟩ := hv
    (repeat (first|refine zS ?_|refine zR ?_|refine zB ?_|refine zL ?_|refine zC ?_|refine zG (zN ?_)|refine zG (zD 0 rfl rfl rfl rfl ?_)))
    refine VO.go (VO.alloc rfl fun d => ?_)
    refine VO.go (VO.stA (vs := chZ.cells none 0) (cs' := chZ.cells none 0) 0 rfl rfl rfl rfl (Nat.le_refl _) rfl rfl rfl ?_)
    (repeat (first|refine zS ?_|refine zR ?_|refine zB ?_|refine zL ?_|refine zC ?_|refine zG (zN ?_)|refine zG (zD 0 rfl rfl rfl rfl ?_)))
    refine VO.go (VO.yes 22 true rfl rfl ?_)
    (repeat (first|refine zS ?_|refine zR ?_|refine zB ?_|refine zL ?_|refine zC ?_|refine zG (zN ?_)|refine zG (zD 0 rfl rfl rfl rfl ?_)|refine zG (zU rfl rfl rfl ?_)))
    refine VO.go (VO.yes 26 true rfl rfl ?_)
    (repeat (first|refine zS ?_|refine zR ?_|refine zB ?_|refine zL ?_|refine zC ?_|refine zG (zN ?_)|refine zG (zD 0 rfl rfl rfl rfl ?_)|refine zG (zU rfl rfl rfl ?_)))
    refine VC.condT rfl ?_
    (repeat (first|refine zS ?_|refine zR ?_|refine zB ?_|refine zL ?_|refine zC ?_|refine zG (zN ?_)|refine zG (zD 0 rfl rfl rfl rfl ?_)))
    refine VC.ret (Ret.tmp2 6 7 rfl rfl rfl Imp.nil.ent ?_)
    rw [if_neg (fun h => hf h.1)]; exact ⟨rfl, rfl⟩
  rw [if_pos hf] at hv
  obtain ⟨ma, mc, rfl, rfl⟩ := hv
  have hb := conf_bounds hf
  (repeat (first|refine zS ?_|refine zR ?_|refine zB ?_|refine zL ?_|refine zC ?_|refine zG (zN ?_)|refine zG (zD 0 rfl rfl rfl rfl ?_)))
  refine VO.go (VO.alloc rfl fun d => ?_)
  refine VO.go (VO.stA (vs := (firstC c).cells ma mc) (cs' := (firstC c).cells ma mc) 0 rfl rfl rfl rfl (Nat.le_refl _) rfl rfl rfl ?_)
  (repeat (first|refine zS ?_|refine zR ?_|refine zB ?_|refine zL ?_|refine zC ?_|refine zG (zN ?_)|refine zG (zD 0 rfl rfl rfl rfl ?_)))
  refine VO.go (VO.yes 22 false rfl rfl ?_)
  (repeat (first|refine zS ?_|refine zR ?_|refine zB ?_|refine zL ?_|refine zC ?_|refine zG (zN ?_)|refine zG (zD 0 rfl rfl rfl rfl ?_)|refine zG (zU rfl rfl rfl ?_)))
  by_cases h1 : id < 0
  · refine VO.go (VO.yes 26 true rfl (decide_eq_true h1) ?_)
    (repeat (first|refine zS ?_|refine zR ?_|refine zB ?_|refine zL ?_|refine zC ?_|refine zG (zN ?_)|refine zG (zD 0 rfl rfl rfl rfl ?_)|refine zG (zU rfl rfl rfl ?_)))
    refine VC.condT rfl ?_
    (repeat (first|refine zS ?_|refine zR ?_|refine zB ?_|refine zL ?_|refine zC ?_|refine zG (zN ?_)|refine zG (zD 0 rfl rfl rfl rfl ?_)))
    refine VC.ret (Ret.tmp2 6 7 rfl rfl rfl Imp.nil.ent ?_)
    rw [if_neg (fun h => by have := h.2.1; omega)]; exact ⟨rfl, rfl⟩
  refine VO.go (VO.yes 26 false rfl (decide_eq_false h1) ?_)
  (repeat (first|refine zS ?_|refine zR ?_|refine zB ?_|refine zL ?_|refine zC ?_|refine zG (zN ?_)|refine zG (zD 0 rfl rfl rfl rfl ?_)|refine zG (zD 1 rfl rfl rfl rfl ?_)|refine zG (zD 2 rfl rfl rfl rfl ?_)|refine zG (zU rfl rfl rfl ?_)))
  refine VC.condP (p := c.nodes ≤ id) rfl (fun h2 => ?_) (fun h2 => VC.skip ?_)
  · (repeat (first|refine zS ?_|refine zR ?_|refine zB ?_|refine zL ?_|refine zC ?_|refine zG (zN ?_)|refine zG (zD 0 rfl rfl rfl rfl ?_)))
    refine VC.ret (Ret.tmp2 6 7 rfl rfl rfl Imp.nil.ent ?_)
    rw [if_neg (fun h => by have := h.2.2; omega)]; exact ⟨rfl, rfl⟩
  have hok : newOkB c id := ⟨hf, by omega, by omega⟩
  refine VC.seq (VC.region ?_)
  refine VO.go (VO.ldA 2 (c.cells a cap) rfl rfl rfl rfl ?_)
  refine VO.go (VO.call (Lc := []) (fun Fr w hF hs _ => ranew_spec Fr w c a cap (ints_of hq hF hs) hf) rfl rfl ?_)
  rintro _ _ ⟨ap, rfl, rfl⟩
  (repeat (first|refine zS ?_|refine zR ?_|refine zB ?_|refine zL ?_|refine zC ?_|refine zG (zN ?_)|refine zG (zD 0 rfl rfl rfl rfl ?_)|refine zG (zD 1 rfl rfl rfl rfl ?_)|refine zG (zD 2 rfl rfl rfl rfl ?_)|refine zG (zD 3 rfl rfl rfl rfl ?_)))
  refine VO.go (VO.call (Lc := []) (fun Fr w hF hs _ => rrnew_spec Fr w hb.2.2.2.1.1 hb.2.2.2.1.2) rfl rfl ?_)
  rintro _ _ ⟨rp, rfl, rfl⟩
  (repeat (first|refine zS ?_|refine zR ?_|refine zB ?_|refine zL ?_|refine zC ?_|refine zG (zN ?_)|refine zG (zD 0 rfl rfl rfl rfl ?_)))
  refine VO.go (VO.yes 45 false rfl rfl ?_)
  (repeat (first|refine zS ?_|refine zR ?_|refine zB ?_|refine zL ?_|refine zC ?_|refine zG (zN ?_)|refine zG (zD 0 rfl rfl rfl rfl ?_)|refine zG (zU rfl rfl rfl ?_)))
  refine VC.condF rfl (VC.skip ?_)
  refine VC.seq (VC.draw (ts 0 2 (.take 3 (.take 4 (.only 2 (.take 5 (.only 6 (.take 7 .nil))))))) (by kernel_rfl) (by decide +kernel) ?_)
  refine VA.go (VA.ldA 4 (c.cells a cap) rfl rfl rfl rfl rfl ?_)
  (repeat (first|refine yG (yN ?_)|refine yG (yD 0 rfl rfl rfl rfl rfl ?_)))
  refine VA.go (VA.opP (OpT.call (Lc := []) (R := fun v L => ∃ p, v = .pointer (some ⟨p, 0, none⟩) ∧ L = [rlogH p []]) rfl (.refl _) (fun Fr w hF hs hS => rlnew_spec Fr w)) rfl ?_ ?_)
  · rintro _ _ ⟨_, ⟨lp, rfl, rfl⟩, rfl⟩
    exact (by (try refine Pd.st ?_);(repeat (first|exact Pd.nil|exact Pd.fnil|refine Pd.inner ?_|refine Pd.skip (by decide +kernel) ?_|refine zf (zo 0 rfl rfl) ?_|refine zf (zo 1 rfl rfl) ?_|refine zf (zo 2 rfl rfl) ?_|refine zf (zo 3 rfl rfl) ?_|refine zf (zo 4 rfl rfl) ?_|refine zf (zo 5 rfl rfl) ?_|refine zf (zm 0 rfl rfl) ?_|refine zf (zm 1 rfl rfl) ?_|refine zf (zm 2 rfl rfl) ?_|refine zf (zm 3 rfl rfl) ?_|refine zf (zm 4 rfl rfl) ?_|refine zf (zm 5 rfl rfl) ?_|refine zc (zo 0 rfl rfl) ?_|refine zc (zo 1 rfl rfl) ?_|refine zc (zo 2 rfl rfl) ?_|refine zc (zo 3 rfl rfl) ?_|refine zc (zo 4 rfl rfl) ?_|refine zc (zo 5 rfl rfl) ?_|refine zc (zm 0 rfl rfl) ?_|refine zc (zm 1 rfl rfl) ?_|refine zc (zm 2 rfl rfl) ?_|refine zc (zm 3 rfl rfl) ?_|refine zc (zm 4 rfl rfl) ?_|refine zc (zm 5 rfl rfl) ?_)))
  rintro _ _ ⟨_, ⟨lp, rfl, rfl⟩, rfl⟩
  refine VA.go (VA.light rfl (light_build (pv := [(0, .agg (c.cells a cap).toArray), (1, .int .i64 id), (6, .int .i64 (-1)), (7, .pointer (some ⟨lp, 0, none⟩)), (12, .pointer (some ⟨ap, 0, none⟩)), (13, .pointer (some ⟨rp, 0, none⟩))]) (ndCs c a cap (newR0 c id) (ndZ lp ap rp)) rfl rfl rfl (by kernel_rfl) rfl) ?_)
  refine VA.go (VA.opP (OpT.box (vs := ndCs c a cap (newR0 c id) (ndZ lp ap rp)) rfl rfl) rfl ?_ ?_)
  · rintro _ _ ⟨np, rfl, rfl⟩
    exact (by (try refine Pd.st ?_);(repeat (first|exact Pd.nil|exact Pd.fnil|refine Pd.inner ?_|refine Pd.skip (by decide +kernel) ?_|refine zf (zo 0 rfl rfl) ?_|refine zf (zo 1 rfl rfl) ?_|refine zf (zo 2 rfl rfl) ?_|refine zf (zo 3 rfl rfl) ?_|refine zf (zo 4 rfl rfl) ?_|refine zf (zo 5 rfl rfl) ?_|refine zf (zo 6 rfl rfl) ?_|refine zf (zm 0 rfl rfl) ?_|refine zf (zm 1 rfl rfl) ?_|refine zf (zm 2 rfl rfl) ?_|refine zf (zm 3 rfl rfl) ?_|refine zf (zm 4 rfl rfl) ?_|refine zf (zm 5 rfl rfl) ?_|refine zf (zm 6 rfl rfl) ?_|refine zc (zo 0 rfl rfl) ?_|refine zc (zo 1 rfl rfl) ?_|refine zc (zo 2 rfl rfl) ?_|refine zc (zo 3 rfl rfl) ?_|refine zc (zo 4 rfl rfl) ?_|refine zc (zo 5 rfl rfl) ?_|refine zc (zo 6 rfl rfl) ?_|refine zc (zm 0 rfl rfl) ?_|refine zc (zm 1 rfl rfl) ?_|refine zc (zm 2 rfl rfl) ?_|refine zc (zm 3 rfl rfl) ?_|refine zc (zm 4 rfl rfl) ?_|refine zc (zm 5 rfl rfl) ?_|refine zc (zm 6 rfl rfl) ?_)))
  rintro _ _ ⟨np, rfl, rfl⟩
  (repeat (first|refine yG (yN ?_)|refine yG (yD 0 rfl rfl rfl rfl rfl ?_)))
  have hlen : (firstC c).ms.length = c.chain.toNat := firstMs_len _
  cases blank with
  | true =>
    refine VC.seq (VC.seq (VC.region (VO.go (VO.nil ?_))))
    refine VC.condF rfl (VC.skip ?_)
    (repeat (first|refine zS ?_|refine zR ?_|refine zB ?_|refine zL ?_|refine zC ?_|refine zG (zN ?_)|refine zG (zD 0 rfl rfl rfl rfl ?_)))
    refine VC.ret (Ret.tmp2 6 7 rfl rfl rfl (L' := [ndH np c a cap (Rep.newR c id true)]) ?_ ?_)
    · refine (Imp.nd (ndZ lp ap rp) ⟨(fun h => by cases h), (fun _ => by show (-1 : Int) < 0; decide), fun h => absurd rfl h⟩ ?_).ent
      exact Imp.pick 0 rfl (Imp.slNil (Imp.pick 0 rfl (Imp.pick 1 rfl (Imp.pick 0 rfl Imp.nil))))
    · rw [if_pos hok]; exact ⟨np, rfl, rfl⟩
  | false =>
    refine VC.seq (VC.seq (VC.region (VO.go (VO.nil ?_))))
    refine VC.condT rfl ?_
    refine VC.seq (VC.region ?_)
    refine VO.go (VO.ldA 4 ((firstC c).cells ma mc) rfl rfl rfl rfl ?_)
    refine VO.go (VO.stA (vs := (firstC c).cells ma mc) (cs' := ndCs c a cap { newR0 c id with ch := firstC c } { ndZ lp ap rp with a := ma, c := mc }) 0 rfl rfl rfl rfl (by show 13 + 3 ≤ 29; omega) rfl rfl rfl ?_)
    refine VO.go (VO.nil ?_)
    refine VC.region ?_
    refine VO.go (VO.ldA 4 ((firstC c).cells ma mc) rfl rfl rfl rfl ?_)
    refine VO.go (VO.callV' (fun Fr w hF hs hS => rsince_spec Fr w (RwIn.slH memC_len (hS.at_ 5 rfl)) (by omega) id) rfl ?_)
    refine VO.go (VO.st 0 (cs' := ndCs c a cap { newR0 c id with ch := firstC c, since := (sinceOf (firstC c) id).1 } { ndZ lp ap rp with a := ma, c := mc }) rfl rfl rfl rfl (by show 16 < 29; omega) rfl rfl ?_)
    refine VO.go (VO.st 0 (cs' := ndCs c a cap { newR0 c id with ch := firstC c, since := (sinceOf (firstC c) id).1, whole := (sinceOf (firstC c) id).2 } { ndZ lp ap rp with a := ma, c := mc }) rfl rfl rfl rfl (by show 17 < 29; omega) rfl rfl ?_)
    (repeat (first|refine zS ?_|refine zR ?_|refine zB ?_|refine zL ?_|refine zC ?_|refine zG (zN ?_)|refine zG (zD 0 rfl rfl rfl rfl ?_)))
    refine VC.ret (Ret.tmp2 6 7 rfl rfl rfl (L' := [ndH np c a cap (Rep.newR c id false)]) ?_ ?_)
    · have e : ndCs c a cap { newR0 c id with ch := firstC c, since := (sinceOf (firstC c) id).1, whole := (sinceOf (firstC c) id).2 } { ndZ lp ap rp with a := ma, c := mc } = ndCs c a cap (Rep.newR c id false) { ndZ lp ap rp with a := ma, c := mc } := by
        unfold Rep.newR
        rw [if_neg (by simp)]
        by_cases hs : (sinceOf (firstC c) id).2 = true
        · rw [if_pos hs, hs]; rfl
        · rw [if_neg hs]
          have h2 : (sinceOf (firstC c) id).2 = false := by simpa using hs
          have h1 : (sinceOf (firstC c) id).1 = 0 := by
            unfold sinceOf at h2 ⊢
            split
            · rename_i hh; rw [if_pos hh] at h2; cases h2
            · rfl
          rw [h1, h2]; rfl
      have e2 : (Rep.newR c id false).ch = firstC c ∧ (Rep.newR c id false).log = [] ∧ (Rep.newR c id false).adm = newA c ∧ (Rep.newR c id false).rds = RdsM.new c.reads ∧ (Rep.newR c id false).base = -1 ∧ ((Rep.newR c id false).whole = true → (Rep.newR c id false).start = 0) := by
        unfold Rep.newR
        rw [if_neg (by simp)]
        split
        · exact ⟨rfl, rfl, rfl, rfl, rfl, fun _ => rfl⟩
        · exact ⟨rfl, rfl, rfl, rfl, rfl, fun h => by cases h⟩
      rw [e]
      generalize Rep.newR c id false = Q at e2 ⊢
      obtain ⟨e3, e4, e5, e6, e7, e8⟩ := e2
      refine (Imp.nd { ndZ lp ap rp with a := ma, c := mc } ⟨fun h => (e8 h).symm, fun _ => by show (-1 : Int) < 0; decide, fun h => absurd e7 h⟩ ?_).ent
      unfold ndL
      rw [e3, e4, e5, e6]
      exact Imp.pick 0 rfl (Imp.pick 4 rfl (Imp.pick 0 rfl (Imp.pick 1 rfl (Imp.pick 0 rfl Imp.nil))))
    · rw [if_pos hok]; exact ⟨np, rfl, rfl⟩
end Go.Proofs.YtbbnmgakmcppdaaGreat.Nd
namespace Go.Proofs.YtbbnmgakmcppdaaGreat.Nd
open Go Go.Proofs.YtbbnmgakmcppdaaGreat.Vg Go.Proofs.YtbbnmgakmcppdaaGreat.T Go.Proofs.YtbbnmgakmcppdaaGreat.Api Go.Proofs.YtbbnmgakmcppdaaGreat.Kv Go.Proofs.YtbbnmgakmcppdaaGreat.Ch Go.Proofs.YtbbnmgakmcppdaaGreat.Lg Go.Proofs.YtbbnmgakmcppdaaGreat.Rd Go.Proofs.YtbbnmgakmcppdaaGreat.Win Go.Proofs.YtbbnmgakmcppdaaGreat.Adm Go.Proofs.YtbbnmgakmcppdaaGreat.Sched Go.Proofs.YtbbnmgakmcppdaaGreat.Conf Go.Proofs.YtbbnmgakmcppdaaGreat.Rep Go.Proofs.YtbbnmgakmcppdaaGreat.Ref16
set_option linter.unusedSimpArgs false
set_option linter.unusedVariables false
attribute [local irreducible] VO VC VA

deriving instance DecidableEq for ChM
def memEqB (m k : MemM) : Bool := decide (m.1 = k.1) && (decide (m.2 = k.2) && true)
theorem memEqB_iff (m k : MemM) : memEqB m k = true ↔ m = k := by
  obtain ⟨m1, m2⟩ := m; obtain ⟨k1, k2⟩ := k
  simp [memEqB]
theorem stoodMem : Tryz.prog.stoodInHeld 33 = false := by kernel_rfl
theorem guardMem : Tryz.prog.eqGuardType Tryz.prog.depth 33 = false := by kernel_rfl
theorem mem_eq (o p : MemM) (w : World) : (Op.equal 33 (.agg (memC o).toArray) (.agg (memC p).toArray)).run Tryz.prog w = .ok (memEqB o p) w := by
  have hi : ∀ (cs : List Value) (j : Nat) (n : Int), cs[j]? = some (.int .i64 n) → ∀ w : World, (part 3 cs.toArray j).run Tryz.prog w = .ok (.int .i64 n) w := fun cs j n h w => part1 (TabOk.look tabOk (t := 3) (ti := T.t3) rfl) rfl h w
  refine EqT.run (EqT.st Tryz.underlying33 stoodMem (EqFs.cons (by decide) (hi _ _ _ rfl) (hi _ _ _ rfl) (EqT.int Tryz.underlying3 o.1 p.1) (EqFs.cons (by decide) (hi _ _ _ rfl) (hi _ _ _ rfl) (EqT.int Tryz.underlying3 o.2 p.2) EqFs.nil))) (by decide) w
set_option maxRecDepth 100000 in
theorem samech_spec (Fr : Nat → Prop) (w : World) {c d : ChM} {a b : Option Addr} {ac bc : Nat} (h : RwIn memC 2 Fr w a c.ms) (k : RwIn memC 2 Fr w b d.ms) (hl : c.ms.length ≤ 1000000) (hk : d.ms.length ≤ 1000000) :
    Tri Tryz.prog 41 [.agg (c.cells a ac).toArray, .agg (d.cells b bc).toArray] Fr w [] (fun v L => v = .bool (decide (c = d)) ∧ L = []) := by
  refine Tri.of 45 Tryz.func41 rfl (by kernel_rfl) tabOk rfl rfl ?_
  refine VC.seq (VC.region (VO.go (VO.boxA (vs := c.cells a ac) rfl fun x => VO.go (VO.boxA (vs := d.cells b bc) rfl fun y => ?_))))
  (repeat (first|refine zS ?_|refine zR ?_|refine zB ?_|refine zL ?_|refine zC ?_|refine zG (zN ?_)|refine zG (zD 0 rfl rfl rfl rfl ?_)|refine zG (zD 1 rfl rfl rfl rfl ?_)))
  by_cases h1 : c.epoch = d.epoch
  rotate_left
  · refine VO.go (VO.yes 11 true rfl (by rw [bne_iff_ne]; exact h1) ?_)
    (repeat (first|refine zS ?_|refine zR ?_|refine zB ?_|refine zL ?_|refine zC ?_|refine zG (zN ?_)|refine zG (zD 0 rfl rfl rfl rfl ?_)|refine zG (zU rfl rfl rfl ?_)))
    refine VO.go (VO.yes 18 true rfl rfl ?_)
    (repeat (first|refine zS ?_|refine zR ?_|refine zB ?_|refine zL ?_|refine zC ?_|refine zG (zN ?_)|refine zG (zD 0 rfl rfl rfl rfl ?_)|refine zG (zU rfl rfl rfl ?_)))
    refine VC.condT rfl ?_
    (repeat (first|refine zS ?_|refine zR ?_|refine zB ?_|refine zL ?_|refine zC ?_|refine zG (zN ?_)|refine zG (zD 0 rfl rfl rfl rfl ?_)))
    exact VC.ret (Ret.tmp 4 rfl rfl Imp.nil.ent ⟨by rw [decide_eq_false (fun e => h1 (by rw [e]))], rfl⟩)
  refine VO.go (VO.yes 11 false rfl (by rw [bne_eq_false_iff_eq]; exact h1) ?_)
  (repeat (first|refine zS ?_|refine zR ?_|refine zB ?_|refine zL ?_|refine zC ?_|refine zG (zN ?_)|refine zG (zD 0 rfl rfl rfl rfl ?_)|refine zG (zD 1 rfl rfl rfl rfl ?_)|refine zG (zU rfl rfl rfl ?_)))
  by_cases h2 : c.drain = d.drain
  rotate_left
  · refine VO.go (VO.yes 18 true rfl (by rw [bne_iff_ne]; exact h2) ?_)
    (repeat (first|refine zS ?_|refine zR ?_|refine zB ?_|refine zL ?_|refine zC ?_|refine zG (zN ?_)|refine zG (zD 0 rfl rfl rfl rfl ?_)|refine zG (zU rfl rfl rfl ?_)))
    refine VC.condT rfl ?_
    (repeat (first|refine zS ?_|refine zR ?_|refine zB ?_|refine zL ?_|refine zC ?_|refine zG (zN ?_)|refine zG (zD 0 rfl rfl rfl rfl ?_)))
    exact VC.ret (Ret.tmp 4 rfl rfl Imp.nil.ent ⟨by rw [decide_eq_false (fun e => h2 (by rw [e]))], rfl⟩)
  refine VO.go (VO.yes 18 false rfl (by rw [bne_eq_false_iff_eq]; exact h2) ?_)
  (repeat (first|refine zS ?_|refine zR ?_|refine zB ?_|refine zL ?_|refine zC ?_|refine zG (zN ?_)|refine zG (zD 0 rfl rfl rfl rfl ?_)|refine zG (zD 1 rfl rfl rfl rfl ?_)|refine zG (zU rfl rfl rfl ?_)))
  refine VC.condNE (i := (c.ms.length : Int)) (j := (d.ms.length : Int)) rfl (fun h3 => ?_) (fun h3 => VC.skip ?_)
  · (repeat (first|refine zS ?_|refine zR ?_|refine zB ?_|refine zL ?_|refine zC ?_|refine zG (zN ?_)|refine zG (zD 0 rfl rfl rfl rfl ?_)))
    exact VC.ret (Ret.tmp 4 rfl rfl Imp.nil.ent ⟨by rw [decide_eq_false (fun e => h3 (by rw [e]))], rfl⟩)
  have h3 : c.ms.length = d.ms.length := by omega
  (repeat (first|refine zS ?_|refine zR ?_|refine zB ?_|refine zL ?_|refine zC ?_|refine zG (zN ?_)|refine zG (zD 0 rfl rfl rfl rfl ?_)))
  refine VC.loop (σ := Nat) (fun i => [(2, .pointer (some ⟨x, 0, none⟩)), (3, .pointer (some ⟨y, 0, none⟩)), (5, .int .i64 i)]) (fun _ => [pt y (d.cells b bc) chT, pt x (c.cells a ac) chT]) (fun i => i ≤ c.ms.length ∧ ∀ j, j < i → c.ms[j]? = d.ms[j]?) (fun i => c.ms.length - i) 0
    ⟨Nat.zero_le _, fun j hj => absurd hj (Nat.not_lt_zero j)⟩ (Sub.cons rfl (Sub.cons rfl (Sub.cons rfl (Sub.nil _)))) Ent.refl ?_
  rintro i ⟨hi, hall⟩
  (repeat (first|refine zS ?_|refine zR ?_|refine zB ?_|refine zL ?_|refine zC ?_|refine zG (zN ?_)|refine zG (zD 0 rfl rfl rfl rfl ?_)|refine zG (zD 1 rfl rfl rfl rfl ?_)))
  refine VC.condP (p := (i : Int) < (c.ms.length : Int)) rfl (fun h4 => VC.skip ?_) (fun h4 => VC.exit ?_)
  rotate_left
  · (repeat (first|refine zS ?_|refine zR ?_|refine zB ?_|refine zL ?_|refine zC ?_|refine zG (zN ?_)|refine zG (zD 0 rfl rfl rfl rfl ?_)))
    refine VC.ret (Ret.tmp 4 rfl rfl Imp.nil.ent ⟨?_, rfl⟩)
    have hms : c.ms = d.ms := by
      apply List.ext_getElem? 
      intro j
      by_cases hj : j < c.ms.length
      · exact hall j (by omega)
      · rw [List.getElem?_eq_none (by omega), List.getElem?_eq_none (by omega)]
    have : c = d := by cases c; cases d; dsimp only at h1 h2 hms; subst h1; subst h2; subst hms; rfl
    rw [decide_eq_true this]
  obtain ⟨m, hm⟩ : ∃ m, c.ms[i]? = some m := ⟨_, List.getElem?_eq_getElem (by omega)⟩
  obtain ⟨n, hn⟩ : ∃ m, d.ms[i]? = some m := ⟨_, List.getElem?_eq_getElem (by omega)⟩
  obtain ⟨mb, mo, hma, ra, rc⟩ := RwIn.rd (X := ⟨Tryz.prog, tab, tabOk, 45, Fr, w⟩) h hm
  subst hma
  obtain ⟨nb, no, hna, sa, sc⟩ := RwIn.rd (X := ⟨Tryz.prog, tab, tabOk, 45, Fr, w⟩) k hn
  subst hna
  refine VC.seq (VC.block ?_)
  refine VC.seq ?_
  refine VC.draw (ts 0 11 .nil) (by kernel_rfl) (by decide +kernel) ?_
  (repeat (first|refine yG (yN ?_)|refine yG (yD 0 rfl rfl rfl rfl rfl ?_)|refine yG (yD 1 rfl rfl rfl rfl rfl ?_)))
  refine VA.go (VA.light rfl (light_idx i rfl rfl rfl rfl rfl (by omega) (by omega)) ?_)
  refine VA.go (VA.load rfl rfl rfl (ra _ _ rfl rfl) ?_)
  (repeat (first|refine yG (yN ?_)|refine yG (yD 0 rfl rfl rfl rfl rfl ?_)|refine yG (yD 1 rfl rfl rfl rfl rfl ?_)))
  refine VA.go (VA.light rfl (light_idx i rfl rfl rfl rfl rfl (by omega) (by omega)) ?_)
  refine VA.go (VA.load rfl rfl rfl (sa _ _ rfl rfl) ?_)
  refine VA.go (VA.light rfl (light_neS guardMem rfl rfl (mem_eq m n)) ?_)
  (repeat (first|refine yG (yN ?_)|refine yG (yD 0 rfl rfl rfl rfl rfl ?_)|refine yG (yD 1 rfl rfl rfl rfl rfl ?_)))
  refine VC.cond (t := !memEqB m n) rfl (fun hd => ?_) (fun hd => VC.skip ?_)
  · (repeat (first|refine zS ?_|refine zR ?_|refine zB ?_|refine zL ?_|refine zC ?_|refine zG (zN ?_)|refine zG (zD 0 rfl rfl rfl rfl ?_)))
    refine VC.ret (Ret.tmp 4 rfl rfl Imp.nil.ent ⟨?_, rfl⟩)
    have hd : memEqB m n = false := by simpa using hd
    rw [decide_eq_false]
    intro e
    rw [e, hn] at hm
    cases hm
    rw [(memEqB_iff m m).2 rfl] at hd
    cases hd
  · have hd : memEqB m n = true := by simpa using hd
    (repeat (first|refine zS ?_|refine zR ?_|refine zB ?_|refine zL ?_|refine zC ?_|refine zG (zN ?_)|refine zG (zD 0 rfl rfl rfl rfl ?_)))
    refine VO.go (VO.add rfl rfl (by omega) (by omega) ?_)
    (repeat (first|refine zS ?_|refine zR ?_|refine zB ?_|refine zL ?_|refine zC ?_|refine zG (zN ?_)|refine zG (zD 0 rfl rfl rfl rfl ?_)))
    refine ⟨i + 1, ⟨by omega, fun j hj => ?_⟩, by dsimp only; omega, Sub.cons rfl (Sub.cons rfl (Sub.cons rfl (Sub.nil _))), Ent.refl⟩
    by_cases hji : j = i
    · subst hji; rw [hm, hn, (memEqB_iff m n).1 hd]
    · exact hall j (by omega)

structure RlogIn (Fr : Nat → Prop) (w : World) (p : Nat) (es : List EntryM) (x : Option Addr × Nat) : Prop where
  blk : Blk Fr w p [.slice x.1 es.length x.2]
  ents : RwIn entC 7 Fr w x.1 es
theorem RlogIn.of {Fr : Nat → Prop} {w : World} {p : Nat} {es : List EntryM} (h : SatIn Fr [rlogH p es] w) : ∃ x, RlogIn Fr w p es x := by
  obtain ⟨x, h⟩ := h.ex
  have h := h.sep
  exact ⟨x, h.blk 0 rfl, RwIn.slH entC_len (h.at_ 1 rfl)⟩
structure NdIn (Fr : Nat → Prop) (w : World) (p : Nat) (C : ConfM) (ca : Option Addr) (cc : Nat) (R : RepM) (x : NdS) : Prop where
  ok : ndOk R x
  blk : Blk Fr w p (ndCs C ca cc R x)
  mem : RwIn memC 2 Fr w x.a R.ch.ms
  log : SatIn Fr [rlogH x.lp R.log] w
  adm : SatIn Fr [radH x.ap C ca cc R.adm] w
  rds : SatIn Fr [rrdsH x.rp R.rds] w
theorem NdIn.of {Fr : Nat → Prop} {w : World} {p : Nat} {C : ConfM} {ca : Option Addr} {cc : Nat} {R : RepM} (h : SatIn Fr [ndH p C ca cc R] w) : ∃ x, NdIn Fr w p C ca cc R x := by
  obtain ⟨x, h⟩ := h.ex
  have h := h.sep
  exact ⟨x, h.pure 0 rfl, h.blk 1 rfl, RwIn.slH memC_len (h.at_ 2 rfl), h.at_ 3 rfl, h.at_ 4 rfl, h.at_ 5 rfl⟩
theorem NdIn.of' {X : Cx} {p : Nat} {C : ConfM} {ca : Option Addr} {cc : Nat} {R : RepM} {x : NdS} (h : NdIn X.Fr X.w0 p C ca cc R x) {Fr' : Nat → Prop} {w : World} {L : List HP} (hF : ∀ b, X.Fr b → Fr' b) (hs : St X L w) : NdIn Fr' w p C ca cc R x :=
  ⟨h.ok, h.blk.of hF hs, RwIn.of h.mem hF hs, h.log.of hF hs, h.adm.of hF hs, h.rds.of hF hs⟩
theorem rllen_spec (Fr : Nat → Prop) (w : World) {p : Nat} {es : List EntryM} (h : SatIn Fr [rlogH p es] w) : Tri Tryz.prog 164 [.pointer (some ⟨p, 0, none⟩)] Fr w [] (fun v L => v = .int .i64 es.length ∧ L = []) := by
  obtain ⟨x, hx⟩ := RlogIn.of h
  have hb := hx.blk
  refine Tri.of 8 Tryz.func164 rfl (by kernel_rfl) tabOk rfl rfl ?_
  (repeat (first|refine zS ?_|refine zR ?_|refine zB ?_|refine zL ?_|refine zC ?_|refine zG (zN ?_)|refine zG (zE rfl rfl (RdL.blk hb rfl) ?_)))
  exact VC.ret (Ret.tmp 2 rfl rfl Ent.refl ⟨rfl, rfl⟩)
theorem ndlast_spec (Fr : Nat → Prop) (w : World) {p : Nat} {C : ConfM} {ca : Option Addr} {cc : Nat} {R : RepM} {x : NdS} (h : NdIn Fr w p C ca cc R x) : Tri Tryz.prog 91 [.pointer (some ⟨p, 0, none⟩)] Fr w [] (fun v L => v = .int .i64 R.log.length ∧ L = []) := by
  have hb := h.blk
  refine Tri.of 8 Tryz.func91 rfl (by kernel_rfl) tabOk rfl rfl ?_
  (repeat (first|refine zS ?_|refine zR ?_|refine zB ?_|refine zL ?_|refine zC ?_|refine zG (zN ?_)|refine zG (zE rfl rfl (RdL.blk hb rfl) ?_)))
  refine VO.go (VO.callV' (fun Fr w hF hs _ => rllen_spec Fr w (h.log.of hF hs)) rfl ?_)
  (repeat (first|refine zS ?_|refine zR ?_|refine zB ?_|refine zL ?_|refine zC ?_|refine zG (zN ?_)|refine zG (zD 0 rfl rfl rfl rfl ?_)))
  exact VC.ret (Ret.tmp 2 rfl rfl Ent.refl ⟨rfl, rfl⟩)
set_option maxRecDepth 100000 in
theorem rlat_spec (Fr : Nat → Prop) (w : World) {p : Nat} {es : List EntryM} (h : SatIn Fr [rlogH p es] w) (i : Int) (hi0 : -9223372036854775808 < i) (hi1 : i ≤ 9223372036854775807) : Tri Tryz.prog 96 [.pointer (some ⟨p, 0, none⟩), .int .i64 i] Fr w []
    (fun v L => v = .tuple #[.agg (entC ((atI es i).getD entZ)).toArray, .bool (atI es i).isSome] ∧ L = []) := by
  obtain ⟨x, hx⟩ := RlogIn.of h
  have hb := hx.blk
  refine Tri.of 26 Tryz.func96 rfl (by kernel_rfl) tabOk rfl rfl ?_
  refine VC.seq (VC.region (VO.go (VO.alloc rfl fun d => ?_)))
  (repeat (first|refine zS ?_|refine zR ?_|refine zB ?_|refine zL ?_|refine zC ?_|refine zG (zN ?_)|refine zG (zD 0 rfl rfl rfl rfl ?_)))
  by_cases h1 : i < 1
  · refine VO.go (VO.yes 8 true rfl (decide_eq_true h1) ?_)
    (repeat (first|refine zS ?_|refine zR ?_|refine zB ?_|refine zL ?_|refine zC ?_|refine zG (zN ?_)|refine zG (zD 0 rfl rfl rfl rfl ?_)|refine zG (zU rfl rfl rfl ?_)))
    refine VC.condT rfl ?_
    refine VC.seq (VC.region ?_)
    refine VO.go (VO.light (light_build (pv := []) (entC entZ) rfl rfl rfl (by kernel_rfl) rfl) ?_)
    refine VO.go (VO.stA (vs := entC entZ) (cs' := entC entZ) 0 rfl rfl rfl rfl (Nat.le_refl _) rfl rfl rfl ?_)
    (repeat (first|refine zS ?_|refine zR ?_|refine zB ?_|refine zL ?_|refine zC ?_|refine zG (zN ?_)|refine zG (zD 0 rfl rfl rfl rfl ?_)))
    exact VC.ret (Ret.cellTmp 4 5 rfl rfl rfl (RdL.many 0 rfl rfl) rfl Imp.nil.ent ⟨by rw [atI_none (.inl h1)]; rfl, rfl⟩)
  refine VO.go (VO.yes 8 false rfl (decide_eq_false h1) ?_)
  (repeat (first|refine zS ?_|refine zR ?_|refine zB ?_|refine zL ?_|refine zC ?_|refine zG (zN ?_)|refine zG (zD 0 rfl rfl rfl rfl ?_)|refine zG (zE rfl rfl (RdL.blk hb rfl) ?_)|refine zG (zU rfl rfl rfl ?_)))
  refine VC.condP (p := (es.length : Int) < i) rfl (fun h2 => ?_) (fun h2 => VC.skip ?_)
  · refine VC.seq (VC.region ?_)
    refine VO.go (VO.light (light_build (pv := []) (entC entZ) rfl rfl rfl (by kernel_rfl) rfl) ?_)
    refine VO.go (VO.stA (vs := entC entZ) (cs' := entC entZ) 0 rfl rfl rfl rfl (Nat.le_refl _) rfl rfl rfl ?_)
    (repeat (first|refine zS ?_|refine zR ?_|refine zB ?_|refine zL ?_|refine zC ?_|refine zG (zN ?_)|refine zG (zD 0 rfl rfl rfl rfl ?_)))
    exact VC.ret (Ret.cellTmp 4 5 rfl rfl rfl (RdL.many 0 rfl rfl) rfl Imp.nil.ent ⟨by rw [atI_none (.inr h2)]; rfl, rfl⟩)
  obtain ⟨k, e, hk, hkl, hke, hat⟩ := atI_some (l := es) (i := i) (by omega) (by omega)
  obtain ⟨eb, eo, hea, ra, rc⟩ := RwIn.rd (X := ⟨Tryz.prog, tab, tabOk, 26, Fr, w⟩) hx.ents hke
  rw [hea] at hb
  (repeat (first|refine zS ?_|refine zR ?_|refine zB ?_|refine zL ?_|refine zC ?_|refine zG (zN ?_)|refine zG (zE rfl rfl (RdL.blk hb rfl) ?_)))
  refine VO.go (VO.sub' rfl rfl (by omega) (by omega) ?_)
  refine VO.go (VO.light (light_idx k rfl rfl rfl rfl rfl (by omega) hkl) ?_)
  refine VO.go (VO.load rfl rfl (ra _ _ rfl rfl) ?_)
  refine VO.go (VO.stA (vs := entC e) (cs' := entC e) 0 rfl rfl rfl rfl (Nat.le_refl _) rfl rfl rfl ?_)
  (repeat (first|refine zS ?_|refine zR ?_|refine zB ?_|refine zL ?_|refine zC ?_|refine zG (zN ?_)|refine zG (zD 0 rfl rfl rfl rfl ?_)))
  exact VC.ret (Ret.cellTmp 4 5 rfl rfl rfl (RdL.many 0 rfl rfl) rfl Imp.nil.ent ⟨by rw [hat]; rfl, rfl⟩)
end Go.Proofs.YtbbnmgakmcppdaaGreat.Nd
namespace Go.Proofs.YtbbnmgakmcppdaaGreat.Nd
open Go Go.Proofs.YtbbnmgakmcppdaaGreat.Vg Go.Proofs.YtbbnmgakmcppdaaGreat.T Go.Proofs.YtbbnmgakmcppdaaGreat.Api Go.Proofs.YtbbnmgakmcppdaaGreat.Kv Go.Proofs.YtbbnmgakmcppdaaGreat.Ch Go.Proofs.YtbbnmgakmcppdaaGreat.Lg Go.Proofs.YtbbnmgakmcppdaaGreat.Rd Go.Proofs.YtbbnmgakmcppdaaGreat.Win Go.Proofs.YtbbnmgakmcppdaaGreat.Adm Go.Proofs.YtbbnmgakmcppdaaGreat.Sched Go.Proofs.YtbbnmgakmcppdaaGreat.Conf Go.Proofs.YtbbnmgakmcppdaaGreat.Rep Go.Proofs.YtbbnmgakmcppdaaGreat.Ref16
set_option linter.unusedSimpArgs false
set_option linter.unusedVariables false
attribute [local irreducible] VO VC VA

def ResOk (es : List EntryM) : Prop := ∀ (Fr : Nat → Prop) (w : World) (lp : Nat), SatIn Fr [rlogH lp es] w → ∀ i : Int, 0 ≤ i → i ≤ es.length →
  Tri Tryz.prog 126 [.pointer (some ⟨lp, 0, none⟩), .int .i64 i] Fr w [] (fun v L => v = .tuple #[.agg (resC ((atI (logRun es).2 i).getD resZ)).toArray, .bool (atI (logRun es).2 i).isSome] ∧ L = [])
set_option maxRecDepth 100000 in
set_option maxHeartbeats 8000000 in
theorem alike_spec (Fr : Nat → Prop) (w : World) {p q : Nat} {C : ConfM} {ca : Option Addr} {cc : Nat} {R : RepM} (ok : R.Ok) (hr : SatIn Fr [repH p R] w) (hn : SatIn Fr [ndH q C ca cc R] w) (hres : ResOk R.log) :
    Tri Tryz.prog 45 [.pointer (some ⟨p, 0, none⟩), .pointer (some ⟨q, 0, none⟩)] Fr w [] (fun v L => v = .bool true ∧ L = []) := by
  obtain ⟨x, hx⟩ := NdIn.of hn
  have hb := hx.blk
  obtain ⟨sp, hsp⟩ := hx.adm.ex
  have hsp := hsp.sep
  have hab := hsp.blk 0 rfl
  obtain ⟨s, hs⟩ := RfIn.of (hsp.at_ 1 rfl)
  have hsb := hs.at0
  have hsq := hs.q
  have hss := hs.sv
  obtain ⟨rr, hrr⟩ := hx.rds.ex
  have hrr := hrr.sep
  have hrok : rrdsOk R.rds rr := hrr.pure 0 rfl
  have hrb := hrr.blk 1 rfl
  have hrl : rr.xs.length = R.rds.l.length := by have := congrArg List.length hrok.2; simpa using this
  have hchl := ok.ch.len
  have hlast := ok.last
  have hl1 := ok.win.last1
  have hc1 := ok.win.cap0
  have hwf := hs.ok.wf
  refine Tri.of 207 Tryz.func45 rfl (by kernel_rfl) tabOk rfl rfl ?_
  (repeat (first|refine zS ?_|refine zR ?_|refine zB ?_|refine zL ?_|refine zC ?_|refine zG (zN ?_)|refine zG (zD 0 rfl rfl rfl rfl ?_)))
  refine VC.draw (.take 0 (ts 2 4 (.only 1 (.only 6 (.take 7 (.take 8 (.take 9 (ts 11 4 (.only 10 (.take 15 (.take 16 (.take 17 (.take 18 (ts 20 4 (.only 19 (.take 24 (.take 25 (.take 26 (.take 27 (ts 29 8 (.only 28 (.take 37 (.take 38 .nil))))))))))))))))))))))) (by kernel_rfl) (by decide +kernel) ?_
  refine VA.go (VA.load rfl rfl rfl (RdL.blkA (ds := R.ch.cells x.a x.c) hb rfl) ?_)
  refine VA.go (VA.opP (OpT.call (Lc := []) (R := fun v L => ∃ a c, v = .agg (R.ch.cells a c).toArray ∧ L = [slH memT 2 a R.ch.ms.length c (flat memC R.ch.ms)]) rfl (.refl _) (fun Fr w hF hs hS => chain_spec Fr w ok (hr.of hF hs))) rfl ?_ ?_)
  · rintro _ _ ⟨_, ⟨a1, c1, rfl, rfl⟩, rfl⟩
    exact (by (try refine Pd.st ?_);(repeat (first|exact Pd.nil|exact Pd.fnil|refine Pd.inner ?_|refine Pd.skip (by decide +kernel) ?_|refine zf (RdL.blk (RdL.blkA hb rfl) rfl) ?_|refine zf ((RdL.blkA hb rfl)) ?_|refine zc (RdL.blk (RdL.blkA hb rfl) rfl) ?_|refine zc ((RdL.blkA hb rfl)) ?_)))
  rintro _ _ ⟨_, ⟨a1, c1, rfl, rfl⟩, rfl⟩
  refine VA.go (VA.callR (fun Fr w hF hs hS => samech_spec Fr w (c := R.ch) (d := R.ch) (RwIn.slH memC_len (hS.at_ 0 rfl)) (RwIn.of hx.mem hF hs) (by omega) (by omega)) rfl rfl (by (try refine Pd.st ?_);(repeat (first|exact Pd.nil|exact Pd.fnil|refine Pd.inner ?_|refine Pd.skip (by decide +kernel) ?_|refine zf (RdL.blk (RdL.blkA hb rfl) rfl) ?_|refine zf ((RdL.blkA hb rfl)) ?_|refine zc (RdL.blk (RdL.blkA hb rfl) rfl) ?_|refine zc ((RdL.blkA hb rfl)) ?_))) ?_)
  refine VA.go (VA.yes 27 false rfl (by simp) ?_)
  (repeat (first|refine yG (yN ?_)|refine yG (yE rfl rfl rfl (RdL.blk hb rfl) ?_)|refine yG (yE rfl rfl rfl (RdL.blk hrb rfl) ?_)))
  refine VA.go (VA.callR (fun Fr w hF hs hS => Rep.rsince_spec Fr w (hr.of hF hs)) rfl rfl (by (try refine Pd.st ?_);(repeat (first|exact Pd.nil|exact Pd.fnil|refine Pd.inner ?_|refine Pd.skip (by decide +kernel) ?_|refine zf (RdL.blk (RdL.blkA hb rfl) rfl) ?_|refine zf (RdL.blk (RdL.blk hb rfl) rfl) ?_|refine zf ((RdL.blkA hb rfl)) ?_|refine zf ((RdL.blk hb rfl)) ?_|refine zc (RdL.blk (RdL.blkA hb rfl) rfl) ?_|refine zc (RdL.blk (RdL.blk hb rfl) rfl) ?_|refine zc ((RdL.blkA hb rfl)) ?_|refine zc ((RdL.blk hb rfl)) ?_))) ?_)
  refine VA.go (VA.yes 36 false rfl (by simp) ?_)
  (repeat (first|refine yG (yN ?_)|refine yG (yE rfl rfl rfl (RdL.blk hb rfl) ?_)|refine yG (yE rfl rfl rfl (RdL.blk hrb rfl) ?_)))
  refine VA.go (VA.callR (fun Fr w hF hs hS => Rep.whole_spec Fr w (hr.of hF hs)) rfl rfl (by (try refine Pd.st ?_);(repeat (first|exact Pd.nil|exact Pd.fnil|refine Pd.inner ?_|refine Pd.skip (by decide +kernel) ?_|refine zf (RdL.blk (RdL.blkA hb rfl) rfl) ?_|refine zf (RdL.blk (RdL.blk hb rfl) rfl) ?_|refine zf ((RdL.blkA hb rfl)) ?_|refine zf ((RdL.blk hb rfl)) ?_|refine zc (RdL.blk (RdL.blkA hb rfl) rfl) ?_|refine zc (RdL.blk (RdL.blk hb rfl) rfl) ?_|refine zc ((RdL.blkA hb rfl)) ?_|refine zc ((RdL.blk hb rfl)) ?_))) ?_)
  refine VA.go (VA.yes 45 false rfl (by simp) ?_)
  (repeat (first|refine yG (yN ?_)|refine yG (yE rfl rfl rfl (RdL.blk hb rfl) ?_)|refine yG (yE rfl rfl rfl (RdL.blk hrb rfl) ?_)))
  refine VA.go (VA.callR (fun Fr w hF hs hS => Rep.reading_spec Fr w ok (hr.of hF hs)) rfl rfl (by (try refine Pd.st ?_);(repeat (first|exact Pd.nil|exact Pd.fnil|refine Pd.inner ?_|refine Pd.skip (by decide +kernel) ?_|refine zf (RdL.blk (RdL.blkA hb rfl) rfl) ?_|refine zf (RdL.blk (RdL.blk hb rfl) rfl) ?_|refine zf (RdL.blk (RdL.blk hrb rfl) rfl) ?_|refine zf ((RdL.blkA hb rfl)) ?_|refine zf ((RdL.blk hb rfl)) ?_|refine zf ((RdL.blk hrb rfl)) ?_|refine zc (RdL.blk (RdL.blkA hb rfl) rfl) ?_|refine zc (RdL.blk (RdL.blk hb rfl) rfl) ?_|refine zc (RdL.blk (RdL.blk hrb rfl) rfl) ?_|refine zc ((RdL.blkA hb rfl)) ?_|refine zc ((RdL.blk hb rfl)) ?_|refine zc ((RdL.blk hrb rfl)) ?_))) ?_)
  (repeat (first|refine yG (yN ?_)|refine yG (yE rfl rfl rfl (RdL.blk hb rfl) ?_)|refine yG (yE rfl rfl rfl (RdL.blk hrb rfl) ?_)))
  refine VC.condNE (i := (R.rds.l.length : Int)) (j := (rr.xs.length : Int)) rfl (fun h => absurd (by rw [hrl]) h) (fun _ => VC.skip ?_)
  refine VC.ent (L' := []) Imp.nil.ent ?_
  (repeat (first|refine zS ?_|refine zR ?_|refine zB ?_|refine zL ?_|refine zC ?_|refine zG (zN ?_)|refine zG (zD 0 rfl rfl rfl rfl ?_)))
  refine VO.go (VO.call (Lc := []) (fun Fr w hF hs hS => window_spec Fr w ok (hr.of hF hs)) rfl rfl ?_)
  rintro _ _ ⟨wq, rfl, rfl⟩
  refine VO.go (VO.call (Lc := []) (fun Fr w hF hs hS => log_spec Fr w ok (hr.of hF hs)) rfl rfl ?_)
  rintro _ _ ⟨lq, rfl, rfl⟩
  (repeat (first|refine zS ?_|refine zR ?_|refine zB ?_|refine zL ?_|refine zC ?_|refine zG (zN ?_)|refine zG (zU rfl rfl rfl ?_)))
  refine VC.draw (.take 0 (.take 2 (.only 1 (.only 3 (.take 4 (.take 5 (.take 6 (ts 8 4 (.only 7 (.take 12 (.take 13 (.take 14 (.take 15 (ts 17 4 (.only 16 (.take 21 (.take 22 (.take 23 (.take 24 (ts 26 4 (.only 25 (.take 30 (.take 31 (.take 32 (.take 33 (.take 35 (.only 34 (.only 36 (.take 37 (.take 38 .nil)))))))))))))))))))))))))))))) (by kernel_rfl) (by decide +kernel) ?_
  refine VA.go (VA.callR (fun Fr w hF hs hS => Win.last_spec Fr w (hS.blk 1 rfl) hc1) rfl rfl (by (try refine Pd.st ?_);(repeat (first|exact Pd.nil|exact Pd.fnil|refine Pd.inner ?_|refine Pd.skip (by decide +kernel) ?_|refine zf (RdL.blk (RdL.blk hb rfl) rfl) ?_|refine zf ((RdL.blk hb rfl)) ?_|refine zc (RdL.blk (RdL.blk hb rfl) rfl) ?_|refine zc ((RdL.blk hb rfl)) ?_))) ?_)
  refine VA.go (VA.callR (fun Fr w hF hs hS => ndlast_spec Fr w (hx.of' hF hs)) rfl rfl (by (try refine Pd.st ?_);(repeat (first|exact Pd.nil|exact Pd.fnil|refine Pd.inner ?_|refine Pd.skip (by decide +kernel) ?_|refine zf (RdL.blk (RdL.blk hb rfl) rfl) ?_|refine zf ((RdL.blk hb rfl)) ?_|refine zc (RdL.blk (RdL.blk hb rfl) rfl) ?_|refine zc ((RdL.blk hb rfl)) ?_))) ?_)
  refine VA.go (VA.yes 67 false rfl (by rw [bne_eq_false_iff_eq]; exact hlast) ?_)
  (repeat (first|refine yG (yN ?_)|refine yG (yE rfl rfl rfl (RdL.blk hb rfl) ?_)))
  refine VA.go (VA.callR (fun Fr w hF hs hS => Win.done_spec Fr w (hS.blk 1 rfl) hc1) rfl rfl (by (try refine Pd.st ?_);(repeat (first|exact Pd.nil|exact Pd.fnil|refine Pd.inner ?_|refine Pd.skip (by decide +kernel) ?_|refine zf (RdL.blk (RdL.blk hb rfl) rfl) ?_|refine zf ((RdL.blk hb rfl)) ?_|refine zc (RdL.blk (RdL.blk hb rfl) rfl) ?_|refine zc ((RdL.blk hb rfl)) ?_))) ?_)
  refine VA.go (VA.yes 76 false rfl (by simp) ?_)
  (repeat (first|refine yG (yN ?_)|refine yG (yE rfl rfl rfl (RdL.blk hb rfl) ?_)))
  refine VA.go (VA.callR (fun Fr w hF hs hS => Win.sent_spec Fr w (hS.blk 1 rfl) hc1) rfl rfl (by (try refine Pd.st ?_);(repeat (first|exact Pd.nil|exact Pd.fnil|refine Pd.inner ?_|refine Pd.skip (by decide +kernel) ?_|refine zf (RdL.blk (RdL.blk hb rfl) rfl) ?_|refine zf ((RdL.blk hb rfl)) ?_|refine zc (RdL.blk (RdL.blk hb rfl) rfl) ?_|refine zc ((RdL.blk hb rfl)) ?_))) ?_)
  refine VA.go (VA.yes 85 false rfl (by simp) ?_)
  (repeat (first|refine yG (yN ?_)|refine yG (yE rfl rfl rfl (RdL.blk hb rfl) ?_)))
  refine VA.go (VA.callR (fun Fr w hF hs hS => Win.limit_spec Fr w (hS.blk 1 rfl) hc1) rfl rfl (by (try refine Pd.st ?_);(repeat (first|exact Pd.nil|exact Pd.fnil|refine Pd.inner ?_|refine Pd.skip (by decide +kernel) ?_|refine zf (RdL.blk (RdL.blk hb rfl) rfl) ?_|refine zf ((RdL.blk hb rfl)) ?_|refine zc (RdL.blk (RdL.blk hb rfl) rfl) ?_|refine zc ((RdL.blk hb rfl)) ?_))) ?_)
  refine VA.go (VA.yes 94 false rfl (by simp) ?_)
  refine VA.go (VA.callR (fun Fr w hF hs hS => Lg.len_spec Fr w (hS.at_ 0 rfl)) rfl rfl (by (try refine Pd.st ?_);(repeat (first|exact Pd.nil|exact Pd.fnil|refine Pd.inner ?_|refine Pd.skip (by decide +kernel) ?_|refine zf (RdL.blk (RdL.blk hb rfl) rfl) ?_|refine zf ((RdL.blk hb rfl)) ?_|refine zc (RdL.blk (RdL.blk hb rfl) rfl) ?_|refine zc ((RdL.blk hb rfl)) ?_))) ?_)
  refine VA.go (VA.callR (fun Fr w hF hs hS => ndlast_spec Fr w (hx.of' hF hs)) rfl rfl (by (try refine Pd.st ?_);(repeat (first|exact Pd.nil|exact Pd.fnil|refine Pd.inner ?_|refine Pd.skip (by decide +kernel) ?_|refine zf (RdL.blk (RdL.blk hb rfl) rfl) ?_|refine zf ((RdL.blk hb rfl)) ?_|refine zc (RdL.blk (RdL.blk hb rfl) rfl) ?_|refine zc ((RdL.blk hb rfl)) ?_))) ?_)
  (repeat (first|refine yG (yN ?_)|refine yG (yE rfl rfl rfl (RdL.blk hb rfl) ?_)))
  refine VC.condNE (i := (R.log.length : Int)) (j := (R.log.length : Int)) rfl (fun h => absurd rfl h) (fun _ => VC.skip ?_)
  refine VC.seq ?_
  refine VC.meetS (σ := Unit) (fun _ => [(0, .pointer (some ⟨p, 0, none⟩)), (1, .pointer (some ⟨q, 0, none⟩))]) (fun _ => []) (fun _ => True) ?_ ?_
  · (repeat (first|refine zS ?_|refine zR ?_|refine zB ?_|refine zL ?_|refine zC ?_|refine zG (zN ?_)|refine zG (zU rfl rfl rfl ?_)))
    refine VC.loop (σ := Nat) (fun i => [(0, .pointer (some ⟨p, 0, none⟩)), (1, .pointer (some ⟨q, 0, none⟩)), (6, .pointer (some ⟨lq, 0, none⟩)), (7, .int .i64 i)]) (fun _ => [logH lq R.log]) (fun i => i ≤ R.log.length + 1) (fun i => R.log.length + 1 - i) 0 (Nat.zero_le _) (Sub.cons rfl (Sub.cons rfl (Sub.cons rfl (Sub.cons rfl (Sub.nil _))))) (Imp.pick 0 rfl Imp.nil).ent ?_
    intro i hi
    (repeat (first|refine zS ?_|refine zR ?_|refine zB ?_|refine zL ?_|refine zC ?_|refine zG (zN ?_)|refine zG (zU rfl rfl rfl ?_)))
    refine VO.go (VO.callV' (fun Fr w hF hs _ => ndlast_spec Fr w (hx.of' hF hs)) rfl ?_)
    (repeat (first|refine zS ?_|refine zR ?_|refine zB ?_|refine zL ?_|refine zC ?_|refine zG (zN ?_)|refine zG (zU rfl rfl rfl ?_)))
    refine VC.condP (p := (i : Int) ≤ (R.log.length : Int)) rfl (fun h2 => VC.skip ?_) (fun h2 => VC.exit ?_)
    rotate_left
    · exact ⟨(), trivial, (Sub.cons rfl (Sub.cons rfl (Sub.nil _))), Imp.nil.ent⟩
    refine VC.seq (VC.block ?_)
    (repeat (first|refine zS ?_|refine zR ?_|refine zB ?_|refine zL ?_|refine zC ?_|refine zG (zN ?_)|refine zG (zU rfl rfl rfl ?_)))
    refine VO.go (VO.callV' (fun Fr w hF hs hS => Lg.at_spec Fr w (hS.at_ 0 rfl) i (by omega) (by omega)) rfl ?_)
    refine VO.go (VO.alloc rfl fun b1 => ?_)
    refine VO.go (VO.stA (vs := entC ((atI R.log i).getD entZ)) (cs' := entC ((atI R.log i).getD entZ)) 0 rfl rfl rfl rfl (Nat.le_refl _) rfl rfl rfl ?_)
    (repeat (first|refine zS ?_|refine zR ?_|refine zB ?_|refine zL ?_|refine zC ?_|refine zG (zN ?_)|refine zG (zE rfl rfl (RdL.blk hb rfl) ?_)|refine zG (zU rfl rfl rfl ?_)))
    refine VO.go (VO.callV' (fun Fr w hF hs hS => rlat_spec Fr w (hx.log.of hF hs) i (by omega) (by omega)) rfl ?_)
    refine VO.go (VO.alloc rfl fun b2 => ?_)
    refine VO.go (VO.stA (vs := entC ((atI R.log i).getD entZ)) (cs' := entC ((atI R.log i).getD entZ)) 0 rfl rfl rfl rfl (Nat.le_refl _) rfl rfl rfl ?_)
    (repeat (first|refine zS ?_|refine zR ?_|refine zB ?_|refine zL ?_|refine zC ?_|refine zG (zN ?_)|refine zG (zU rfl rfl rfl ?_)))
    refine VO.go (VO.callV' (fun Fr w hF hs hS => Lg.result_spec Fr w (hS.at_ 2 rfl) i (by omega) (by omega)) rfl ?_)
    refine VO.go (VO.alloc rfl fun b3 => ?_)
    refine VO.go (VO.stA (vs := resC ((atI (logRun R.log).2 i).getD resZ)) (cs' := resC ((atI (logRun R.log).2 i).getD resZ)) 0 rfl rfl rfl rfl (Nat.le_refl _) rfl rfl rfl ?_)
    (repeat (first|refine zS ?_|refine zR ?_|refine zB ?_|refine zL ?_|refine zC ?_|refine zG (zN ?_)|refine zG (zE rfl rfl (RdL.blk hb rfl) ?_)|refine zG (zU rfl rfl rfl ?_)))
    refine VO.go (VO.callV' (fun Fr w hF hs hS => hres Fr w x.lp (hx.log.of hF hs) i (by omega) (by omega)) rfl ?_)
    refine VO.go (VO.alloc rfl fun b4 => ?_)
    refine VO.go (VO.stA (vs := resC ((atI (logRun R.log).2 i).getD resZ)) (cs' := resC ((atI (logRun R.log).2 i).getD resZ)) 0 rfl rfl rfl rfl (Nat.le_refl _) rfl rfl rfl ?_)
    (repeat (first|refine zS ?_|refine zR ?_|refine zB ?_|refine zL ?_|refine zC ?_|refine zG (zN ?_)|refine zG (zU rfl rfl rfl ?_)))
    refine VO.go (VO.ldA 3 (entC ((atI R.log i).getD entZ)) rfl rfl rfl rfl ?_)
    refine VO.go (VO.ldA 2 (entC ((atI R.log i).getD entZ)) rfl rfl rfl rfl ?_)
    refine VO.go (VO.light (light_neS guardEnt rfl rfl (ent_eq _ _)) ?_)
    refine VO.go (VO.yes 140 false rfl (by rw [(entEqB_iff _ _).2 rfl]; rfl) ?_)
    refine VO.go (VO.yes 145 false rfl (by simp) ?_)
    refine VO.go (VO.ldA 1 (resC ((atI (logRun R.log).2 i).getD resZ)) rfl rfl rfl rfl ?_)
    refine VO.go (VO.ldA 0 (resC ((atI (logRun R.log).2 i).getD resZ)) rfl rfl rfl rfl ?_)
    refine VO.go (VO.light (light_neS guardRes rfl rfl (res_eq _ _)) ?_)
    refine VO.go (VO.yes 150 false rfl (by rw [resEq_rfl]; rfl) ?_)
    (repeat (first|refine zS ?_|refine zR ?_|refine zB ?_|refine zL ?_|refine zC ?_|refine zG (zN ?_)|refine zG (zU rfl rfl rfl ?_)))
    refine VC.cond rfl (fun h => ?_) (fun _ => VC.skip ?_)
    · exfalso; simp at h
    (repeat (first|refine zS ?_|refine zR ?_|refine zB ?_|refine zL ?_|refine zC ?_|refine zG (zN ?_)|refine zG (zU rfl rfl rfl ?_)))
    refine VO.go (VO.add rfl rfl (by omega) (by omega) ?_)
    (repeat (first|refine zS ?_|refine zR ?_|refine zB ?_|refine zL ?_|refine zC ?_|refine zG (zN ?_)|refine zG (zU rfl rfl rfl ?_)))
    exact ⟨i + 1, by omega, by dsimp only; omega, (Sub.cons rfl (Sub.cons rfl (Sub.cons rfl (Sub.cons rfl (Sub.nil _))))), (Imp.pick 4 rfl Imp.nil).ent⟩
  rintro _ -
  (repeat (first|refine zS ?_|refine zR ?_|refine zB ?_|refine zL ?_|refine zC ?_|refine zG (zN ?_)|refine zG (zU rfl rfl rfl ?_)))
  refine VC.loop (σ := Nat) (fun j => [(0, .pointer (some ⟨p, 0, none⟩)), (1, .pointer (some ⟨q, 0, none⟩)), (16, .int .i64 ((j : Int) - 1))]) (fun _ => []) (fun j => j ≤ 6) (fun j => 6 - j) 0 (Nat.zero_le _) (Sub.cons rfl (Sub.cons rfl (Sub.cons rfl (Sub.nil _)))) Ent.refl ?_
  intro j hj
  (repeat (first|refine zS ?_|refine zR ?_|refine zB ?_|refine zL ?_|refine zC ?_|refine zG (zN ?_)|refine zG (zU rfl rfl rfl ?_)))
  refine VC.condP (p := (j : Int) - 1 < 5) rfl (fun h2 => VC.skip ?_) (fun h2 => VC.exit ?_)
  rotate_left
  · (repeat (first|refine zS ?_|refine zR ?_|refine zB ?_|refine zL ?_|refine zC ?_|refine zG (zN ?_)|refine zG (zU rfl rfl rfl ?_)))
    exact VC.ret (Ret.tmp 4 rfl rfl Imp.nil.ent ⟨rfl, rfl⟩)
  refine VC.seq (VC.block ?_)
  refine VC.seq (VC.region (VO.go (VO.nil ?_)))
  refine VC.seq ?_
  refine VC.meetS (σ := Unit) (fun _ => [(0, .pointer (some ⟨p, 0, none⟩)), (1, .pointer (some ⟨q, 0, none⟩)), (16, .int .i64 ((j : Int) - 1)), (17, .int .i64 (R.adm.sch.lenM ((j : Int) - 1))), (18, .int .i64 (R.adm.sch.servedM ((j : Int) - 1)))]) (fun _ => []) (fun _ => True) ?_ ?_
  · (repeat (first|refine zS ?_|refine zR ?_|refine zB ?_|refine zL ?_|refine zC ?_|refine zG (zN ?_)|refine zG (zE rfl rfl (RdL.blk hb rfl) ?_)|refine zG (zE rfl rfl (RdL.blk hab rfl) ?_)|refine zG (zU rfl rfl rfl ?_)))
    refine VO.go (VO.callV' (fun Fr w hF hs _ => Ref16.has_spec Fr w ((j : Int) - 1) (hsb.of hF hs)) rfl ?_)
    (repeat (first|refine zS ?_|refine zR ?_|refine zB ?_|refine zL ?_|refine zC ?_|refine zG (zN ?_)|refine zG (zU rfl rfl rfl ?_)))
    refine VC.condP rfl (fun h3 => ?_) (fun h3 => VC.skip ?_)
    rotate_left
    · have e := SchM.at_out h3
      have e1 : R.adm.sch.lenM ((j : Int) - 1) = 0 := by rw [SchM.lenM, e]
      have e2 : R.adm.sch.servedM ((j : Int) - 1) = 0 := by rw [SchM.servedM, e]
      rw [e1, e2]
      exact ⟨(), trivial, (Sub.cons rfl (Sub.cons rfl (Sub.cons rfl (Sub.cons rfl (Sub.cons rfl (Sub.nil _)))))), Ent.refl⟩
    obtain ⟨k, hk⟩ : ∃ k : Nat, (j : Int) - 1 = k := ⟨((j : Int) - 1).toNat, by omega⟩
    rw [hk] at h3 ⊢
    have hkl : k < R.adm.sch.cls.length := by omega
    obtain ⟨r, c, hr1, hc2, hrok1, hrc⟩ := hs.ok.row hkl
    have hrlen : r.xs.length = c.q.length := by have := congrArg List.length hrc; simpa using this
    have hat : R.adm.sch.at_ k = some c := by rw [SchM.at_nat]; exact hc2
    have e1 : R.adm.sch.lenM k = r.xs.length := by rw [SchM.lenM, hat, hrlen]
    have e2 : R.adm.sch.servedM k = c.served := by rw [SchM.servedM, hat]
    rw [e1, e2]
    refine VC.draw (ts 0 14 (.take 27 (ts 14 13 (.take 28 .nil)))) (by kernel_rfl) (by decide +kernel) ?_
    (repeat (first|refine yG (yN ?_)|refine yG (yE rfl rfl rfl (RdL.blk hb rfl) ?_)|refine yG (yE rfl rfl rfl (RdL.blk hab rfl) ?_)|refine yG (yE rfl rfl rfl (RdL.blk hsb rfl) ?_)))
    refine VA.go (VA.light rfl (light_idx k rfl rfl rfl rfl rfl rfl hkl) ?_)
    refine VA.go (VA.load rfl rfl rfl (RdL.blk (v := .slice r.addr r.xs.length r.cap) hsq (rows_v hr1)) ?_)
    (repeat (first|refine yG (yN ?_)|refine yG (yE rfl rfl rfl (RdL.blk hb rfl) ?_)|refine yG (yE rfl rfl rfl (RdL.blk hab rfl) ?_)|refine yG (yE rfl rfl rfl (RdL.blk hsb rfl) ?_)))
    refine VA.go (VA.light rfl (light_idx k rfl rfl rfl rfl rfl rfl hkl) ?_)
    refine VA.go (VA.load rfl rfl rfl (RdL.blk (v := .int .i64 c.served) hss (svs_at hc2)) ?_)
    (repeat (first|refine yG (yN ?_)|refine yG (yE rfl rfl rfl (RdL.blk hb rfl) ?_)|refine yG (yE rfl rfl rfl (RdL.blk hab rfl) ?_)|refine yG (yE rfl rfl rfl (RdL.blk hsb rfl) ?_)))
    exact ⟨(), trivial, (Sub.cons rfl (Sub.cons rfl (Sub.cons rfl (Sub.cons rfl (Sub.cons rfl (Sub.nil _)))))), Ent.refl⟩
  rintro _ -
  (repeat (first|refine zS ?_|refine zR ?_|refine zB ?_|refine zL ?_|refine zC ?_|refine zG (zN ?_)|refine zG (zU rfl rfl rfl ?_)))
  refine VO.go (VO.callV' (fun Fr w hF hs _ => waiting_spec Fr w (hr.of hF hs) ((j : Int) - 1)) rfl ?_)
  refine VO.go (VO.yes 200 false rfl (by simp) ?_)
  refine VO.go (VO.callV' (fun Fr w hF hs _ => rserved_spec Fr w (hr.of hF hs) ((j : Int) - 1)) rfl ?_)
  (repeat (first|refine zS ?_|refine zR ?_|refine zB ?_|refine zL ?_|refine zC ?_|refine zG (zN ?_)|refine zG (zU rfl rfl rfl ?_)))
  refine VC.condNE (i := R.adm.sch.servedM ((j : Int) - 1)) (j := R.adm.sch.servedM ((j : Int) - 1)) rfl (fun h => absurd rfl h) (fun _ => VC.skip ?_)
  (repeat (first|refine zS ?_|refine zR ?_|refine zB ?_|refine zL ?_|refine zC ?_|refine zG (zN ?_)|refine zG (zU rfl rfl rfl ?_)))
  refine VO.go (VO.add rfl rfl (by omega) (by omega) ?_)
  (repeat (first|refine zS ?_|refine zR ?_|refine zB ?_|refine zL ?_|refine zC ?_|refine zG (zN ?_)|refine zG (zU rfl rfl rfl ?_)))
  exact ⟨j + 1, by omega, by dsimp only; omega, Sub.cons rfl (Sub.cons rfl (Sub.cons (by show some (Value.int .i64 ((j : Int) - 1 + 1)) = some (.int .i64 (((j + 1 : Nat) : Int) - 1)); rw [show (j : Int) - 1 + 1 = ((j + 1 : Nat) : Int) - 1 by omega]) (Sub.nil _))), Ent.refl⟩
end Go.Proofs.YtbbnmgakmcppdaaGreat.Nd
namespace Go.Proofs.YtbbnmgakmcppdaaGreat.Nd
open Go Go.Proofs.YtbbnmgakmcppdaaGreat.Vg Go.Proofs.YtbbnmgakmcppdaaGreat.T Go.Proofs.YtbbnmgakmcppdaaGreat.Api Go.Proofs.YtbbnmgakmcppdaaGreat.Kv Go.Proofs.YtbbnmgakmcppdaaGreat.Ch Go.Proofs.YtbbnmgakmcppdaaGreat.Lg Go.Proofs.YtbbnmgakmcppdaaGreat.Rd Go.Proofs.YtbbnmgakmcppdaaGreat.Win Go.Proofs.YtbbnmgakmcppdaaGreat.Adm Go.Proofs.YtbbnmgakmcppdaaGreat.Sched Go.Proofs.YtbbnmgakmcppdaaGreat.Conf Go.Proofs.YtbbnmgakmcppdaaGreat.Rep
set_option linter.unusedSimpArgs false
set_option linter.unusedVariables false
attribute [local irreducible] VO VC VA

def zeroR : List Value := [.int .i64 0, .int .i64 0, .int .i64 0, .int .i64 0, .int .i64 0, .slice none 0 0, .int .i64 0, .int .i64 0, .bool false, .pointer none, .pointer none, .pointer none, .pointer none, .int .i64 0, .int .i64 0, .bool false, .int .i64 0]
def NoR (Fr : Nat → Prop) (w : World) (x : Value) : Prop := x = .pointer none ∨ ∃ p, x = .pointer (some ⟨p, 0, none⟩) ∧ Blk Fr w p zeroR
theorem NoR.of {X : Cx} {x : Value} (h : NoR X.Fr X.w0 x) {Fr' : Nat → Prop} (hF : ∀ b, X.Fr b → Fr' b) {w : World} {L : List HP} (hw : St X L w) : NoR Fr' w x := by
  rcases h with h | ⟨p, h1, h2⟩
  · exact .inl h
  · exact .inr ⟨p, h1, h2.of hF hw⟩
theorem made_no (Fr : Nat → Prop) (w : World) {x : Value} (h : NoR Fr w x) : Tri Tryz.prog 55 [x] Fr w [] (fun v L => v = .bool false ∧ L = []) := by
  rcases h with rfl | ⟨p, rfl, hb⟩
  · refine Tri.of 12 Tryz.func55 rfl (by kernel_rfl) tabOk rfl rfl ?_
    (repeat (first|refine zS ?_|refine zR ?_|refine zB ?_|refine zL ?_|refine zC ?_|refine zG (zN ?_)|refine zG (zD 0 rfl rfl rfl rfl ?_)))
    refine VO.go (VO.yes 5 false rfl rfl ?_)
    (repeat (first|refine zS ?_|refine zR ?_|refine zB ?_|refine zL ?_|refine zC ?_|refine zG (zN ?_)|refine zG (zD 0 rfl rfl rfl rfl ?_)|refine zG (zU rfl rfl rfl ?_)))
    exact VC.ret (Ret.tmp 2 rfl rfl Ent.refl ⟨rfl, rfl⟩)
  · refine Tri.of 12 Tryz.func55 rfl (by kernel_rfl) tabOk rfl rfl ?_
    (repeat (first|refine zS ?_|refine zR ?_|refine zB ?_|refine zL ?_|refine zC ?_|refine zG (zN ?_)|refine zG (zD 0 rfl rfl rfl rfl ?_)))
    refine VO.go (VO.yes 5 true rfl rfl ?_)
    (repeat (first|refine zS ?_|refine zR ?_|refine zB ?_|refine zL ?_|refine zC ?_|refine zG (zN ?_)|refine zG (zE rfl rfl (RdL.blk hb rfl) ?_)))
    exact VC.ret (Ret.tmp 2 rfl rfl Ent.refl ⟨rfl, rfl⟩)
theorem take_no (Fr : Nat → Prop) (w : World) {x : Value} (h : NoR Fr w x) (from_ : Int) (f : FrameM) (m : MemG) (now : Int) : Tri Tryz.prog 17 [x, .int .i64 from_, .agg (fgC f m).toArray, .int .i64 now] Fr w [] (fun v L => v = .slice none 0 0 ∧ L = []) := by
  refine Tri.of 160 Tryz.func17 rfl (by kernel_rfl) tabOk rfl rfl ?_
  refine VC.seq (VC.region (VO.go (VO.boxA (vs := fgC f m) rfl fun b => VO.go (VO.nil ?_))))
  (repeat (first|refine zS ?_|refine zR ?_|refine zB ?_|refine zL ?_|refine zC ?_|refine zG (zN ?_)|refine zG (zU rfl rfl rfl ?_)))
  refine VO.go (VO.callV' (fun Fr w hF hs _ => made_no Fr w (h.of hF hs)) rfl ?_)
  (repeat (first|refine zS ?_|refine zR ?_|refine zB ?_|refine zL ?_|refine zC ?_|refine zG (zN ?_)|refine zG (zU rfl rfl rfl ?_)))
  refine VC.condT rfl ?_
  (repeat (first|refine zS ?_|refine zR ?_|refine zB ?_|refine zL ?_|refine zC ?_|refine zG (zN ?_)|refine zG (zU rfl rfl rfl ?_)))
  exact VC.ret (Ret.tmp 8 rfl rfl Imp.nil.ent ⟨rfl, rfl⟩)
theorem step_no (Fr : Nat → Prop) (w : World) {x : Value} (h : NoR Fr w x) (now : Int) : Tri Tryz.prog 26 [x, .int .i64 now] Fr w [] (fun v L => v = .slice none 0 0 ∧ L = []) := by
  refine Tri.of 72 Tryz.func26 rfl (by kernel_rfl) tabOk rfl rfl ?_
  (repeat (first|refine zS ?_|refine zR ?_|refine zB ?_|refine zL ?_|refine zC ?_|refine zG (zN ?_)|refine zG (zU rfl rfl rfl ?_)))
  refine VO.go (VO.callV' (fun Fr w hF hs _ => made_no Fr w (h.of hF hs)) rfl ?_)
  (repeat (first|refine zS ?_|refine zR ?_|refine zB ?_|refine zL ?_|refine zC ?_|refine zG (zN ?_)|refine zG (zU rfl rfl rfl ?_)))
  refine VC.condT rfl ?_
  (repeat (first|refine zS ?_|refine zR ?_|refine zB ?_|refine zL ?_|refine zC ?_|refine zG (zN ?_)|refine zG (zU rfl rfl rfl ?_)))
  exact VC.ret (Ret.tmp 4 rfl rfl Imp.nil.ent ⟨rfl, rfl⟩)
theorem tick_no (Fr : Nat → Prop) (w : World) {x : Value} (h : NoR Fr w x) (now : Int) : Tri Tryz.prog 28 [x, .int .i64 now] Fr w [] (fun v L => v = .slice none 0 0 ∧ L = []) := by
  refine Tri.of 78 Tryz.func28 rfl (by kernel_rfl) tabOk rfl rfl ?_
  (repeat (first|refine zS ?_|refine zR ?_|refine zB ?_|refine zL ?_|refine zC ?_|refine zG (zN ?_)|refine zG (zU rfl rfl rfl ?_)))
  refine VO.go (VO.callV' (fun Fr w hF hs _ => made_no Fr w (h.of hF hs)) rfl ?_)
  (repeat (first|refine zS ?_|refine zR ?_|refine zB ?_|refine zL ?_|refine zC ?_|refine zG (zN ?_)|refine zG (zU rfl rfl rfl ?_)))
  refine VC.condT rfl ?_
  (repeat (first|refine zS ?_|refine zR ?_|refine zB ?_|refine zL ?_|refine zC ?_|refine zG (zN ?_)|refine zG (zU rfl rfl rfl ?_)))
  exact VC.ret (Ret.tmp 4 rfl rfl Imp.nil.ent ⟨rfl, rfl⟩)
theorem chain_no (Fr : Nat → Prop) (w : World) {x : Value} (h : NoR Fr w x) : Tri Tryz.prog 37 [x] Fr w [] (fun v L => v = .agg (chZ.cells none 0).toArray ∧ L = []) := by
  refine Tri.of 12 Tryz.func37 rfl (by kernel_rfl) tabOk rfl rfl ?_
  refine VC.seq (VC.region (VO.go (VO.alloc rfl fun b => VO.go (VO.nil ?_))))
  (repeat (first|refine zS ?_|refine zR ?_|refine zB ?_|refine zL ?_|refine zC ?_|refine zG (zN ?_)|refine zG (zU rfl rfl rfl ?_)))
  refine VO.go (VO.callV' (fun Fr w hF hs _ => made_no Fr w (h.of hF hs)) rfl ?_)
  (repeat (first|refine zS ?_|refine zR ?_|refine zB ?_|refine zL ?_|refine zC ?_|refine zG (zN ?_)|refine zG (zU rfl rfl rfl ?_)))
  refine VC.condT rfl ?_
  refine VC.seq (VC.region ?_)
  refine VO.go (VO.ldA 0 (chZ.cells none 0) rfl rfl rfl rfl ?_)
  refine VO.go (VO.stA (vs := chZ.cells none 0) (cs' := chZ.cells none 0) 0 rfl rfl rfl rfl (Nat.le_refl _) rfl rfl rfl (VO.go (VO.nil ?_)))
  exact VC.ret (Ret.cell 2 rfl rfl rfl (RdL.many 0 rfl rfl) Imp.nil.ent ⟨rfl, rfl⟩)
theorem since_no (Fr : Nat → Prop) (w : World) {x : Value} (h : NoR Fr w x) : Tri Tryz.prog 16 [x] Fr w [] (fun v L => v = .int .i64 0 ∧ L = []) := by
  refine Tri.of 10 Tryz.func16 rfl (by kernel_rfl) tabOk rfl rfl ?_
  (repeat (first|refine zS ?_|refine zR ?_|refine zB ?_|refine zL ?_|refine zC ?_|refine zG (zN ?_)|refine zG (zU rfl rfl rfl ?_)))
  refine VO.go (VO.callV' (fun Fr w hF hs _ => made_no Fr w (h.of hF hs)) rfl ?_)
  (repeat (first|refine zS ?_|refine zR ?_|refine zB ?_|refine zL ?_|refine zC ?_|refine zG (zN ?_)|refine zG (zU rfl rfl rfl ?_)))
  refine VC.condT rfl ?_
  (repeat (first|refine zS ?_|refine zR ?_|refine zB ?_|refine zL ?_|refine zC ?_|refine zG (zN ?_)|refine zG (zU rfl rfl rfl ?_)))
  exact VC.ret (Ret.tmp 2 rfl rfl Imp.nil.ent ⟨rfl, rfl⟩)
theorem whole_no (Fr : Nat → Prop) (w : World) {x : Value} (h : NoR Fr w x) : Tri Tryz.prog 15 [x] Fr w [] (fun v L => v = .bool false ∧ L = []) := by
  refine Tri.of 11 Tryz.func15 rfl (by kernel_rfl) tabOk rfl rfl ?_
  (repeat (first|refine zS ?_|refine zR ?_|refine zB ?_|refine zL ?_|refine zC ?_|refine zG (zN ?_)|refine zG (zU rfl rfl rfl ?_)))
  refine VO.go (VO.callV' (fun Fr w hF hs _ => made_no Fr w (h.of hF hs)) rfl ?_)
  refine VO.go (VO.yes 5 false rfl rfl ?_)
  (repeat (first|refine zS ?_|refine zR ?_|refine zB ?_|refine zL ?_|refine zC ?_|refine zG (zN ?_)|refine zG (zU rfl rfl rfl ?_)))
  exact VC.ret (Ret.tmp 2 rfl rfl Ent.refl ⟨rfl, rfl⟩)
theorem log_no (Fr : Nat → Prop) (w : World) {x : Value} (h : NoR Fr w x) : Tri Tryz.prog 18 [x] Fr w [] (fun v L => v = .pointer none ∧ L = []) := by
  refine Tri.of 11 Tryz.func18 rfl (by kernel_rfl) tabOk rfl rfl ?_
  (repeat (first|refine zS ?_|refine zR ?_|refine zB ?_|refine zL ?_|refine zC ?_|refine zG (zN ?_)|refine zG (zU rfl rfl rfl ?_)))
  refine VO.go (VO.callV' (fun Fr w hF hs _ => made_no Fr w (h.of hF hs)) rfl ?_)
  (repeat (first|refine zS ?_|refine zR ?_|refine zB ?_|refine zL ?_|refine zC ?_|refine zG (zN ?_)|refine zG (zU rfl rfl rfl ?_)))
  refine VC.condT rfl ?_
  (repeat (first|refine zS ?_|refine zR ?_|refine zB ?_|refine zL ?_|refine zC ?_|refine zG (zN ?_)|refine zG (zU rfl rfl rfl ?_)))
  exact VC.ret (Ret.tmp 2 rfl rfl Imp.nil.ent ⟨rfl, rfl⟩)
theorem window_no (Fr : Nat → Prop) (w : World) {x : Value} (h : NoR Fr w x) : Tri Tryz.prog 21 [x] Fr w [] (fun v L => v = .pointer none ∧ L = []) := by
  refine Tri.of 11 Tryz.func21 rfl (by kernel_rfl) tabOk rfl rfl ?_
  (repeat (first|refine zS ?_|refine zR ?_|refine zB ?_|refine zL ?_|refine zC ?_|refine zG (zN ?_)|refine zG (zU rfl rfl rfl ?_)))
  refine VO.go (VO.callV' (fun Fr w hF hs _ => made_no Fr w (h.of hF hs)) rfl ?_)
  (repeat (first|refine zS ?_|refine zR ?_|refine zB ?_|refine zL ?_|refine zC ?_|refine zG (zN ?_)|refine zG (zU rfl rfl rfl ?_)))
  refine VC.condT rfl ?_
  (repeat (first|refine zS ?_|refine zR ?_|refine zB ?_|refine zL ?_|refine zC ?_|refine zG (zN ?_)|refine zG (zU rfl rfl rfl ?_)))
  exact VC.ret (Ret.tmp 2 rfl rfl Imp.nil.ent ⟨rfl, rfl⟩)
theorem waiting_no (Fr : Nat → Prop) (w : World) {x : Value} (h : NoR Fr w x) (k : Int) : Tri Tryz.prog 42 [x, .int .i64 k] Fr w [] (fun v L => v = .int .i64 0 ∧ L = []) := by
  refine Tri.of 14 Tryz.func42 rfl (by kernel_rfl) tabOk rfl rfl ?_
  (repeat (first|refine zS ?_|refine zR ?_|refine zB ?_|refine zL ?_|refine zC ?_|refine zG (zN ?_)|refine zG (zU rfl rfl rfl ?_)))
  refine VO.go (VO.callV' (fun Fr w hF hs _ => made_no Fr w (h.of hF hs)) rfl ?_)
  (repeat (first|refine zS ?_|refine zR ?_|refine zB ?_|refine zL ?_|refine zC ?_|refine zG (zN ?_)|refine zG (zU rfl rfl rfl ?_)))
  refine VC.condT rfl ?_
  (repeat (first|refine zS ?_|refine zR ?_|refine zB ?_|refine zL ?_|refine zC ?_|refine zG (zN ?_)|refine zG (zU rfl rfl rfl ?_)))
  exact VC.ret (Ret.tmp 4 rfl rfl Imp.nil.ent ⟨rfl, rfl⟩)
theorem reading_no (Fr : Nat → Prop) (w : World) {x : Value} (h : NoR Fr w x) : Tri Tryz.prog 39 [x] Fr w [] (fun v L => v = .int .i64 0 ∧ L = []) := by
  refine Tri.of 11 Tryz.func39 rfl (by kernel_rfl) tabOk rfl rfl ?_
  (repeat (first|refine zS ?_|refine zR ?_|refine zB ?_|refine zL ?_|refine zC ?_|refine zG (zN ?_)|refine zG (zU rfl rfl rfl ?_)))
  refine VO.go (VO.callV' (fun Fr w hF hs _ => made_no Fr w (h.of hF hs)) rfl ?_)
  (repeat (first|refine zS ?_|refine zR ?_|refine zB ?_|refine zL ?_|refine zC ?_|refine zG (zN ?_)|refine zG (zU rfl rfl rfl ?_)))
  refine VC.condT rfl ?_
  (repeat (first|refine zS ?_|refine zR ?_|refine zB ?_|refine zL ?_|refine zC ?_|refine zG (zN ?_)|refine zG (zU rfl rfl rfl ?_)))
  exact VC.ret (Ret.tmp 2 rfl rfl Imp.nil.ent ⟨rfl, rfl⟩)
theorem served_no (Fr : Nat → Prop) (w : World) {x : Value} (h : NoR Fr w x) (k : Int) : Tri Tryz.prog 46 [x, .int .i64 k] Fr w [] (fun v L => v = .int .i64 0 ∧ L = []) := by
  refine Tri.of 14 Tryz.func46 rfl (by kernel_rfl) tabOk rfl rfl ?_
  (repeat (first|refine zS ?_|refine zR ?_|refine zB ?_|refine zL ?_|refine zC ?_|refine zG (zN ?_)|refine zG (zU rfl rfl rfl ?_)))
  refine VO.go (VO.callV' (fun Fr w hF hs _ => made_no Fr w (h.of hF hs)) rfl ?_)
  (repeat (first|refine zS ?_|refine zR ?_|refine zB ?_|refine zL ?_|refine zC ?_|refine zG (zN ?_)|refine zG (zU rfl rfl rfl ?_)))
  refine VC.condT rfl ?_
  (repeat (first|refine zS ?_|refine zR ?_|refine zB ?_|refine zL ?_|refine zC ?_|refine zG (zN ?_)|refine zG (zU rfl rfl rfl ?_)))
  exact VC.ret (Ret.tmp 4 rfl rfl Imp.nil.ent ⟨rfl, rfl⟩)

structure XAct where
  kind : Nat
  a : Nat
  b : Nat
  c : Nat
  op : OpM
  from_ : Int
  f : FrameM
  ma : Option Addr
  mn : Nat
  mc : Nat
abbrev xaT : TypeId := 67
def xaC (x : XAct) : List Value := .int .u8 x.kind :: .int .u8 x.a :: .int .u8 x.b :: .int .u8 x.c :: (x.op.cells ++ (.int .i64 x.from_ :: fgC x.f (x.ma, x.mn, x.mc)))
theorem xaC_len (x : XAct) : (xaC x).length = 38 := rfl
def XAct.bad (x : XAct) : Bool := decide (200 < x.op.key.size) || (decide (200 < x.op.value.size) || (decide (200 < x.f.op.key.size) || (decide (200 < x.f.op.value.size) || (decide (200 < x.f.entry.op.key.size) || (decide (200 < x.f.entry.op.value.size) || (decide (200 < x.f.res.value.size) || decide (10 < x.mn)))))))
def greatB (l : List XAct) (most : Int) : Bool := l.any XAct.bad || decide (most < l.length)
set_option maxRecDepth 100000 in
set_option maxHeartbeats 4000000 in
theorem xgreat_spec (Fr : Nat → Prop) (w : World) (a : Option Addr) (c : Nat) (l : List XAct) (most : Int) (h : RwIn xaC 38 Fr w a l) (hl : l.length ≤ 9223372036854775807) :
    Tri Tryz.prog 24 [.slice a l.length c, .int .i64 most] Fr w [] (fun v L => v = .bool (greatB l most) ∧ L = []) := by
  refine Tri.of 83 Tryz.func24 rfl (by kernel_rfl) tabOk rfl rfl ?_
  (repeat (first|refine zS ?_|refine zR ?_|refine zB ?_|refine zL ?_|refine zC ?_|refine zG (zN ?_)|refine zG (zU rfl rfl rfl ?_)))
  refine VC.loop (σ := Nat) (fun i => [(0, .slice a l.length c), (1, .int .i64 most), (5, .int .i64 i)]) (fun _ => []) (fun i => i ≤ l.length ∧ (l.take i).any XAct.bad = false) (fun i => l.length - i) 0 ⟨Nat.zero_le _, rfl⟩ (Sub.cons rfl (Sub.cons rfl (Sub.cons rfl (Sub.nil _)))) Ent.refl ?_
  rintro i ⟨hi, hall⟩
  (repeat (first|refine zS ?_|refine zR ?_|refine zB ?_|refine zL ?_|refine zC ?_|refine zG (zN ?_)|refine zG (zU rfl rfl rfl ?_)))
  refine VC.condP (p := (i : Int) < (l.length : Int)) rfl (fun h1 => VC.skip ?_) (fun h1 => VC.exit ?_)
  rotate_left
  · have hi2 : i = l.length := by omega
    subst hi2
    rw [List.take_length] at hall
    (repeat (first|refine zS ?_|refine zR ?_|refine zB ?_|refine zL ?_|refine zC ?_|refine zG (zN ?_)|refine zG (zU rfl rfl rfl ?_)))
    exact VC.ret (Ret.tmp 4 rfl rfl Ent.refl ⟨by rw [greatB, hall]; rfl, rfl⟩)
  have hi2 : i < l.length := by omega
  obtain ⟨x, hx⟩ : ∃ x, l[i]? = some x := ⟨_, List.getElem?_eq_getElem hi2⟩
  obtain ⟨mb, mo, hma, ra, rc⟩ := RwIn.rd (X := ⟨Tryz.prog, tab, tabOk, 83, Fr, w⟩) h hx
  have htake : l.take (i + 1) = l.take i ++ [x] := by rw [List.take_add_one, hx]; rfl
  rw [hma]
  refine VC.seq (VC.block ?_)
  (repeat (first|refine zS ?_|refine zR ?_|refine zB ?_|refine zL ?_|refine zC ?_|refine zG (zN ?_)|refine zG (zU rfl rfl rfl ?_)))
  refine VO.go (VO.light (light_idx i rfl rfl rfl rfl rfl rfl hi2) ?_)
  refine VO.go (VO.load rfl rfl (ra _ _ rfl rfl) ?_)
  refine VO.go (VO.alloc rfl fun xb => ?_)
  refine VO.go (VO.stA (vs := xaC x) (cs' := xaC x) 0 rfl rfl rfl rfl (Nat.le_refl _) rfl rfl rfl (VO.go (VO.nil ?_)))
  refine VC.seq ?_
  refine VC.meetS (σ := Unit) (fun _ => [(0, .slice (some ⟨mb, mo, none⟩) l.length c), (1, .int .i64 most), (5, .int .i64 i), (78, .bool x.bad)]) (fun _ => []) (fun _ => True) ?_ ?_
  · refine VC.region ?_
    refine VO.go (VO.ld 0 rfl rfl rfl rfl ?_)
    by_cases h10 : 200 < x.op.key.size
    · refine VO.go (VO.yes 22 true rfl (decide_eq_true (by omega)) ?_)
      (repeat (first|refine zS ?_|refine zR ?_|refine zB ?_|refine zL ?_|refine zC ?_|refine zG (zN ?_)|refine zG (zU rfl rfl rfl ?_)))
      refine VO.go (VO.yes 29 true rfl rfl ?_)
      (repeat (first|refine zS ?_|refine zR ?_|refine zB ?_|refine zL ?_|refine zC ?_|refine zG (zN ?_)|refine zG (zU rfl rfl rfl ?_)))
      refine VO.go (VO.yes 37 true rfl rfl ?_)
      (repeat (first|refine zS ?_|refine zR ?_|refine zB ?_|refine zL ?_|refine zC ?_|refine zG (zN ?_)|refine zG (zU rfl rfl rfl ?_)))
      refine VO.go (VO.yes 45 true rfl rfl ?_)
      (repeat (first|refine zS ?_|refine zR ?_|refine zB ?_|refine zL ?_|refine zC ?_|refine zG (zN ?_)|refine zG (zU rfl rfl rfl ?_)))
      refine VO.go (VO.yes 54 true rfl rfl ?_)
      (repeat (first|refine zS ?_|refine zR ?_|refine zB ?_|refine zL ?_|refine zC ?_|refine zG (zN ?_)|refine zG (zU rfl rfl rfl ?_)))
      refine VO.go (VO.yes 63 true rfl rfl ?_)
      (repeat (first|refine zS ?_|refine zR ?_|refine zB ?_|refine zL ?_|refine zC ?_|refine zG (zN ?_)|refine zG (zU rfl rfl rfl ?_)))
      refine VO.go (VO.yes 71 true rfl rfl ?_)
      (repeat (first|refine zS ?_|refine zR ?_|refine zB ?_|refine zL ?_|refine zC ?_|refine zG (zN ?_)|refine zG (zU rfl rfl rfl ?_)))
      refine ⟨(), trivial, Sub.cons rfl (Sub.cons rfl (Sub.cons rfl (Sub.bl rfl ?_ (Sub.nil _)))), Imp.nil.ent⟩
      rw [XAct.bad, decide_eq_true h10]; simp
    refine VO.go (VO.yes 22 false rfl (decide_eq_false (by omega)) ?_)
    refine VO.go (VO.ld 0 rfl rfl rfl rfl ?_)
    by_cases h11 : 200 < x.op.value.size
    · refine VO.go (VO.yes 29 true rfl (decide_eq_true (by omega)) ?_)
      (repeat (first|refine zS ?_|refine zR ?_|refine zB ?_|refine zL ?_|refine zC ?_|refine zG (zN ?_)|refine zG (zU rfl rfl rfl ?_)))
      refine VO.go (VO.yes 37 true rfl rfl ?_)
      (repeat (first|refine zS ?_|refine zR ?_|refine zB ?_|refine zL ?_|refine zC ?_|refine zG (zN ?_)|refine zG (zU rfl rfl rfl ?_)))
      refine VO.go (VO.yes 45 true rfl rfl ?_)
      (repeat (first|refine zS ?_|refine zR ?_|refine zB ?_|refine zL ?_|refine zC ?_|refine zG (zN ?_)|refine zG (zU rfl rfl rfl ?_)))
      refine VO.go (VO.yes 54 true rfl rfl ?_)
      (repeat (first|refine zS ?_|refine zR ?_|refine zB ?_|refine zL ?_|refine zC ?_|refine zG (zN ?_)|refine zG (zU rfl rfl rfl ?_)))
      refine VO.go (VO.yes 63 true rfl rfl ?_)
      (repeat (first|refine zS ?_|refine zR ?_|refine zB ?_|refine zL ?_|refine zC ?_|refine zG (zN ?_)|refine zG (zU rfl rfl rfl ?_)))
      refine VO.go (VO.yes 71 true rfl rfl ?_)
      (repeat (first|refine zS ?_|refine zR ?_|refine zB ?_|refine zL ?_|refine zC ?_|refine zG (zN ?_)|refine zG (zU rfl rfl rfl ?_)))
      refine ⟨(), trivial, Sub.cons rfl (Sub.cons rfl (Sub.cons rfl (Sub.bl rfl ?_ (Sub.nil _)))), Imp.nil.ent⟩
      rw [XAct.bad, decide_eq_true h11]; simp
    refine VO.go (VO.yes 29 false rfl (decide_eq_false (by omega)) ?_)
    refine VO.go (VO.ld 0 rfl rfl rfl rfl ?_)
    by_cases h12 : 200 < x.f.op.key.size
    · refine VO.go (VO.yes 37 true rfl (decide_eq_true (by omega)) ?_)
      (repeat (first|refine zS ?_|refine zR ?_|refine zB ?_|refine zL ?_|refine zC ?_|refine zG (zN ?_)|refine zG (zU rfl rfl rfl ?_)))
      refine VO.go (VO.yes 45 true rfl rfl ?_)
      (repeat (first|refine zS ?_|refine zR ?_|refine zB ?_|refine zL ?_|refine zC ?_|refine zG (zN ?_)|refine zG (zU rfl rfl rfl ?_)))
      refine VO.go (VO.yes 54 true rfl rfl ?_)
      (repeat (first|refine zS ?_|refine zR ?_|refine zB ?_|refine zL ?_|refine zC ?_|refine zG (zN ?_)|refine zG (zU rfl rfl rfl ?_)))
      refine VO.go (VO.yes 63 true rfl rfl ?_)
      (repeat (first|refine zS ?_|refine zR ?_|refine zB ?_|refine zL ?_|refine zC ?_|refine zG (zN ?_)|refine zG (zU rfl rfl rfl ?_)))
      refine VO.go (VO.yes 71 true rfl rfl ?_)
      (repeat (first|refine zS ?_|refine zR ?_|refine zB ?_|refine zL ?_|refine zC ?_|refine zG (zN ?_)|refine zG (zU rfl rfl rfl ?_)))
      refine ⟨(), trivial, Sub.cons rfl (Sub.cons rfl (Sub.cons rfl (Sub.bl rfl ?_ (Sub.nil _)))), Imp.nil.ent⟩
      rw [XAct.bad, decide_eq_true h12]; simp
    refine VO.go (VO.yes 37 false rfl (decide_eq_false (by omega)) ?_)
    refine VO.go (VO.ld 0 rfl rfl rfl rfl ?_)
    by_cases h13 : 200 < x.f.op.value.size
    · refine VO.go (VO.yes 45 true rfl (decide_eq_true (by omega)) ?_)
      (repeat (first|refine zS ?_|refine zR ?_|refine zB ?_|refine zL ?_|refine zC ?_|refine zG (zN ?_)|refine zG (zU rfl rfl rfl ?_)))
      refine VO.go (VO.yes 54 true rfl rfl ?_)
      (repeat (first|refine zS ?_|refine zR ?_|refine zB ?_|refine zL ?_|refine zC ?_|refine zG (zN ?_)|refine zG (zU rfl rfl rfl ?_)))
      refine VO.go (VO.yes 63 true rfl rfl ?_)
      (repeat (first|refine zS ?_|refine zR ?_|refine zB ?_|refine zL ?_|refine zC ?_|refine zG (zN ?_)|refine zG (zU rfl rfl rfl ?_)))
      refine VO.go (VO.yes 71 true rfl rfl ?_)
      (repeat (first|refine zS ?_|refine zR ?_|refine zB ?_|refine zL ?_|refine zC ?_|refine zG (zN ?_)|refine zG (zU rfl rfl rfl ?_)))
      refine ⟨(), trivial, Sub.cons rfl (Sub.cons rfl (Sub.cons rfl (Sub.bl rfl ?_ (Sub.nil _)))), Imp.nil.ent⟩
      rw [XAct.bad, decide_eq_true h13]; simp
    refine VO.go (VO.yes 45 false rfl (decide_eq_false (by omega)) ?_)
    refine VO.go (VO.ld 0 rfl rfl rfl rfl ?_)
    by_cases h14 : 200 < x.f.entry.op.key.size
    · refine VO.go (VO.yes 54 true rfl (decide_eq_true (by omega)) ?_)
      (repeat (first|refine zS ?_|refine zR ?_|refine zB ?_|refine zL ?_|refine zC ?_|refine zG (zN ?_)|refine zG (zU rfl rfl rfl ?_)))
      refine VO.go (VO.yes 63 true rfl rfl ?_)
      (repeat (first|refine zS ?_|refine zR ?_|refine zB ?_|refine zL ?_|refine zC ?_|refine zG (zN ?_)|refine zG (zU rfl rfl rfl ?_)))
      refine VO.go (VO.yes 71 true rfl rfl ?_)
      (repeat (first|refine zS ?_|refine zR ?_|refine zB ?_|refine zL ?_|refine zC ?_|refine zG (zN ?_)|refine zG (zU rfl rfl rfl ?_)))
      refine ⟨(), trivial, Sub.cons rfl (Sub.cons rfl (Sub.cons rfl (Sub.bl rfl ?_ (Sub.nil _)))), Imp.nil.ent⟩
      rw [XAct.bad, decide_eq_true h14]; simp
    refine VO.go (VO.yes 54 false rfl (decide_eq_false (by omega)) ?_)
    refine VO.go (VO.ld 0 rfl rfl rfl rfl ?_)
    by_cases h15 : 200 < x.f.entry.op.value.size
    · refine VO.go (VO.yes 63 true rfl (decide_eq_true (by omega)) ?_)
      (repeat (first|refine zS ?_|refine zR ?_|refine zB ?_|refine zL ?_|refine zC ?_|refine zG (zN ?_)|refine zG (zU rfl rfl rfl ?_)))
      refine VO.go (VO.yes 71 true rfl rfl ?_)
      (repeat (first|refine zS ?_|refine zR ?_|refine zB ?_|refine zL ?_|refine zC ?_|refine zG (zN ?_)|refine zG (zU rfl rfl rfl ?_)))
      refine ⟨(), trivial, Sub.cons rfl (Sub.cons rfl (Sub.cons rfl (Sub.bl rfl ?_ (Sub.nil _)))), Imp.nil.ent⟩
      rw [XAct.bad, decide_eq_true h15]; simp
    refine VO.go (VO.yes 63 false rfl (decide_eq_false (by omega)) ?_)
    refine VO.go (VO.ld 0 rfl rfl rfl rfl ?_)
    by_cases h16 : 200 < x.f.res.value.size
    · refine VO.go (VO.yes 71 true rfl (decide_eq_true (by omega)) ?_)
      (repeat (first|refine zS ?_|refine zR ?_|refine zB ?_|refine zL ?_|refine zC ?_|refine zG (zN ?_)|refine zG (zU rfl rfl rfl ?_)))
      refine ⟨(), trivial, Sub.cons rfl (Sub.cons rfl (Sub.cons rfl (Sub.bl rfl ?_ (Sub.nil _)))), Imp.nil.ent⟩
      rw [XAct.bad, decide_eq_true h16]; simp
    refine VO.go (VO.yes 71 false rfl (decide_eq_false (by omega)) ?_)
    refine VO.go (VO.ld 0 rfl rfl rfl rfl ?_)
    (repeat (first|refine zS ?_|refine zR ?_|refine zB ?_|refine zL ?_|refine zC ?_|refine zG (zN ?_)|refine zG (zU rfl rfl rfl ?_)))
    refine ⟨(), trivial, Sub.cons rfl (Sub.cons rfl (Sub.cons rfl (Sub.bl rfl ?_ (Sub.nil _)))), Imp.nil.ent⟩
    rw [XAct.bad, decide_eq_false h10, decide_eq_false h11, decide_eq_false h12, decide_eq_false h13, decide_eq_false h14, decide_eq_false h15, decide_eq_false h16]
    simp only [Bool.false_or]
    by_cases h17 : 10 < x.mn
    · rw [decide_eq_true h17]; exact decide_eq_true (by omega)
    · rw [decide_eq_false h17]; exact decide_eq_false (by omega)
  rintro _ -
  rw [← hma]
  refine VC.cond rfl (fun hb => ?_) (fun hb => VC.skip ?_)
  · (repeat (first|refine zS ?_|refine zR ?_|refine zB ?_|refine zL ?_|refine zC ?_|refine zG (zN ?_)|refine zG (zU rfl rfl rfl ?_)))
    refine VC.ret (Ret.tmp 4 rfl rfl Imp.nil.ent ⟨?_, rfl⟩)
    have : l.any XAct.bad = true := List.any_eq_true.2 ⟨x, List.mem_of_getElem? hx, hb⟩
    rw [greatB, this]; rfl
  · (repeat (first|refine zS ?_|refine zR ?_|refine zB ?_|refine zL ?_|refine zC ?_|refine zG (zN ?_)|refine zG (zU rfl rfl rfl ?_)))
    refine VO.go (VO.add rfl rfl (by omega) (by omega) ?_)
    (repeat (first|refine zS ?_|refine zR ?_|refine zB ?_|refine zL ?_|refine zC ?_|refine zG (zN ?_)|refine zG (zU rfl rfl rfl ?_)))
    refine ⟨i + 1, ⟨hi2, ?_⟩, by dsimp only; omega, Sub.cons rfl (Sub.cons rfl (Sub.cons rfl (Sub.nil _))), Ent.refl⟩
    rw [htake, List.any_append, hall]
    simp [hb]
end Go.Proofs.YtbbnmgakmcppdaaGreat.Nd
namespace Go.Proofs.YtbbnmgakmcppdaaGreat.Nd
open Go Go.Proofs.YtbbnmgakmcppdaaGreat.Vg Go.Proofs.YtbbnmgakmcppdaaGreat.T Go.Proofs.YtbbnmgakmcppdaaGreat.Api Go.Proofs.YtbbnmgakmcppdaaGreat.Kv Go.Proofs.YtbbnmgakmcppdaaGreat.Ch Go.Proofs.YtbbnmgakmcppdaaGreat.Lg Go.Proofs.YtbbnmgakmcppdaaGreat.Rd Go.Proofs.YtbbnmgakmcppdaaGreat.Win Go.Proofs.YtbbnmgakmcppdaaGreat.Adm Go.Proofs.YtbbnmgakmcppdaaGreat.Sched Go.Proofs.YtbbnmgakmcppdaaGreat.Conf Go.Proofs.YtbbnmgakmcppdaaGreat.Rep
set_option linter.unusedSimpArgs false
set_option linter.unusedVariables false
attribute [local irreducible] VO VC VA

theorem light_field {X : Cx} {e : Env} {S f : Nat} {x : Operand} {flds : Array Field} {fl : Field} {cs : List Value} {ti : TI} {v : Value} (hS : X.P.underlying S = some (.struct flds)) (hf : flds[f]? = some fl) (hx : ev e x = some (.agg cs.toArray)) (ht : tyLook X.tab fl.type = some ti) (ha : ti.und.agg = false) (hv : cs[fl.offset]? = some v) :
    Light X (.field S x f) e v := by
  intro ac hac dst ty pos after guard w
  have h : (Instr.field S (.agg cs.toArray) f).run X.P w = .ok v w := by
    have h1 := part1 (P := X.P) (X.ok.look ht) ha hv w
    unfold Instr.field
    rw [Sem.run_bind, run_underlying hS]
    simp [hf, asAgg, h1]
  simp [execOp, hac.ev hx, h]
theorem rlres0 : ResOk [] := by
  intro Fr w lp h i h0 h1
  have h1 : i ≤ 0 := h1
  obtain ⟨x, hx⟩ := RlogIn.of h
  refine Tri.of 30 Tryz.func126 rfl (by kernel_rfl) tabOk rfl rfl ?_
  refine VC.seq (VC.region (VO.go (VO.alloc rfl fun d => ?_)))
  (repeat (first|refine zS ?_|refine zR ?_|refine zB ?_|refine zL ?_|refine zC ?_|refine zG (zN ?_)|refine zG (zU rfl rfl rfl ?_)))
  refine VO.go (VO.yes 10 true rfl (decide_eq_true (by omega)) ?_)
  (repeat (first|refine zS ?_|refine zR ?_|refine zB ?_|refine zL ?_|refine zC ?_|refine zG (zN ?_)|refine zG (zU rfl rfl rfl ?_)))
  refine VC.condT rfl ?_
  refine VC.seq (VC.region ?_)
  refine VO.go (VO.light (light_build (pv := []) (resC resZ) rfl rfl rfl (by kernel_rfl) rfl) ?_)
  refine VO.go (VO.stA (vs := resC resZ) (cs' := resC resZ) 0 rfl rfl rfl rfl (Nat.le_refl _) rfl rfl rfl ?_)
  (repeat (first|refine zS ?_|refine zR ?_|refine zB ?_|refine zL ?_|refine zC ?_|refine zG (zN ?_)|refine zG (zU rfl rfl rfl ?_)))
  exact VC.ret (Ret.cellTmp 4 5 rfl rfl rfl (RdL.many 0 rfl rfl) rfl Imp.nil.ent ⟨by rw [atI_none (.inl (by omega))]; rfl, rfl⟩)
theorem newR_log (c : ConfM) (id : Int) (b : Bool) : (Rep.newR c id b).log = [] := by
  unfold Rep.newR
  split
  · rfl
  split <;> rfl
/-- The configuration as it stands, or brought within. -/
def DS (c : ConfM) (ca : Option Addr) (cc : Nat) (d : ConfM) (a : Option Addr) (cap : Nat) (H : HP) : Prop := (d = c ∧ a = ca ∧ cap = cc) ∨ (d = fitM c ∧ d.qs.length ≤ cap ∧ H = intH a cap d.qs)
theorem DS.ints {X : Cx} {c : ConfM} {ca : Option Addr} {cc : Nat} {d : ConfM} {a : Option Addr} {cap : Nat} {H : HP} (h : DS c ca cc d a cap H) (hq : IntsIn X.Fr X.w0 ca c.qs) {Fr' : Nat → Prop} (hF : ∀ b, X.Fr b → Fr' b) {w : World} {L : List HP} (hw : St X L w) (hH : SatIn Fr' [H] w) : IntsIn Fr' w a d.qs := by
  rcases h with ⟨rfl, rfl, rfl⟩ | ⟨rfl, _, rfl⟩
  · exact ints_of hq hF hw
  · exact ints_sl hH
def pieceR : Option Nat → List HP
  | none => []
  | some p => [pt p zeroR repT]
theorem noR_in {Fr : Nat → Prop} {w : World} (M : List HP) {y : Option Nat} (hs : SatIn Fr (M ++ pieceR y) w) : NoR Fr w (.pointer (y.map fun p => ⟨p, 0, none⟩)) := by
  cases y with
  | none => exact .inl rfl
  | some p => exact .inr ⟨p, rfl, hs.blk (t := repT) M.length (by simp [pieceR])⟩
structure NdP where
  i : Nat
  d : ConfM
  a : Option Addr
  cap : Nat
  H : HP
set_option maxRecDepth 100000 in
set_option maxHeartbeats 8000000 in
theorem rnone_spec (Fr : Nat → Prop) (w : World) (c : ConfM) (ca : Option Addr) (cc : Nat) (hq : IntsIn Fr w ca c.qs) (hcc : c.qs.length ≤ cc) (id : Int) (x : XAct) :
    Tri Tryz.prog 11 [.agg (c.cells ca cc).toArray, .int .i64 id, .agg (xaC x).toArray] Fr w [] (fun v L => v = .bool true ∧ L = []) := by
  refine Tri.of 133 Tryz.func11 rfl (by kernel_rfl) tabOk rfl rfl ?_
  refine VC.seq (VC.region (VO.go (VO.boxA (vs := c.cells ca cc) rfl fun cb => VO.go (VO.boxA (vs := xaC x) rfl fun xb => VO.go (VO.nil ?_)))))
  (repeat (first|refine zS ?_|refine zR ?_|refine zB ?_|refine zL ?_|refine zC ?_|refine zG (zN ?_)|refine zG (zD 0 rfl rfl rfl rfl ?_)|refine zG (zD 1 rfl rfl rfl rfl ?_)))
  by_cases hbig : 20 < c.qs.length
  · refine VO.go (VO.yes 18 true rfl (decide_eq_true (by omega)) ?_)
    (repeat (first|refine zS ?_|refine zR ?_|refine zB ?_|refine zL ?_|refine zC ?_|refine zG (zN ?_)|refine zG (zD 0 rfl rfl rfl rfl ?_)|refine zG (zU rfl rfl rfl ?_)))
    refine VC.condT rfl ?_
    (repeat (first|refine zS ?_|refine zR ?_|refine zB ?_|refine zL ?_|refine zC ?_|refine zG (zN ?_)|refine zG (zD 0 rfl rfl rfl rfl ?_)))
    refine VO.go (VO.callV (fun Fr w => led_spec Fr w) rfl ?_)
    (repeat (first|refine zS ?_|refine zR ?_|refine zB ?_|refine zL ?_|refine zC ?_|refine zG (zN ?_)|refine zG (zD 0 rfl rfl rfl rfl ?_)))
    exact VC.ret (Ret.bool 6 rfl rfl rfl Imp.nil.ent ⟨rfl, rfl⟩)
  refine VO.go (VO.yes 18 false rfl (decide_eq_false (by omega)) ?_)
  refine VO.go (VO.ldA 0 (xaC x) rfl rfl rfl rfl ?_)
  refine VO.go (VO.buildSlice (n := 1) (pv := [(0, .agg (xaC x).toArray)]) (xaC x) rfl rfl rfl rfl (by decide) (fill_one rfl rfl rfl) fun sb => ?_)
  refine VO.go (VO.callV' (fun Fr w hF _ hs => xgreat_spec Fr w (some ⟨sb, 0, none⟩) 1 [x] 1 (rw_one (rest := []) xaC_len (by rw [List.append_nil]; exact hs.blk 0 rfl)) (by show 1 ≤ _; omega)) rfl ?_)
  (repeat (first|refine zS ?_|refine zR ?_|refine zB ?_|refine zL ?_|refine zC ?_|refine zG (zN ?_)|refine zG (zU rfl rfl rfl ?_)))
  refine VC.cond rfl (fun h1 => ?_) (fun h1 => VC.skip ?_)
  · (repeat (first|refine zS ?_|refine zR ?_|refine zB ?_|refine zL ?_|refine zC ?_|refine zG (zN ?_)|refine zG (zD 0 rfl rfl rfl rfl ?_)))
    refine VO.go (VO.callV (fun Fr w => led_spec Fr w) rfl ?_)
    (repeat (first|refine zS ?_|refine zR ?_|refine zB ?_|refine zL ?_|refine zC ?_|refine zG (zN ?_)|refine zG (zD 0 rfl rfl rfl rfl ?_)))
    exact VC.ret (Ret.bool 6 rfl rfl rfl Imp.nil.ent ⟨rfl, rfl⟩)
  (repeat (first|refine zS ?_|refine zR ?_|refine zB ?_|refine zL ?_|refine zC ?_|refine zG (zN ?_)|refine zG (zU rfl rfl rfl ?_)))
  refine VC.loop (σ := Nat × Option Nat) (fun y => [(1, .int .i64 id), (3, .pointer (some ⟨cb, 0, none⟩)), (5, .pointer (some ⟨xb, 0, none⟩)), (7, .pointer (y.2.map fun p => ⟨p, 0, none⟩)), (8, .int .i64 y.1)]) (fun y => pt xb (xaC x) xaT :: pt cb (c.cells ca cc) 24 :: pieceR y.2) (fun y => y.1 ≤ 2) (fun y => 2 - y.1) (0, none) (by show 0 ≤ 2; omega)
    (Sub.cons rfl (Sub.cons rfl (Sub.cons rfl (Sub.cons rfl (Sub.cons rfl (Sub.nil _)))))) (Imp.pick 1 rfl (Imp.pick 1 rfl Imp.nil)).ent ?_
  rintro ⟨t, y⟩ ht
  dsimp only at ht ⊢
  (repeat (first|refine zS ?_|refine zR ?_|refine zB ?_|refine zL ?_|refine zC ?_|refine zG (zN ?_)|refine zG (zU rfl rfl rfl ?_)))
  refine VC.condP (p := (t : Int) < 2) rfl (fun h2 => VC.skip ?_) (fun h2 => VC.exit ?_)
  · have ht2 : t < 2 := by omega
    refine VC.seq (VC.block ?_)
    have hM : ∀ {Fr : Nat → Prop} {w : World}, SatIn Fr (pt xb (xaC x) xaT :: pt cb (c.cells ca cc) 24 :: pieceR y) w → NoR Fr w (.pointer (y.map fun p => ⟨p, 0, none⟩)) := fun {Fr w} hs => noR_in [pt xb (xaC x) xaT, pt cb (c.cells ca cc) 24] hs
    (repeat (first|refine zS ?_|refine zR ?_|refine zB ?_|refine zL ?_|refine zC ?_|refine zG (zN ?_)|refine zG (zU rfl rfl rfl ?_)))
    refine VO.go (VO.ld 0 rfl rfl rfl rfl ?_)
    refine VO.go (VO.ldA 0 (fgC x.f (x.ma, x.mn, x.mc)) rfl rfl rfl rfl ?_)
    refine VO.go (VO.callV' (fun Fr w hF _ hs => take_no Fr w (hM hs) x.from_ x.f (x.ma, x.mn, x.mc) 0) rfl ?_)
    refine VO.go (VO.yes 36 false rfl rfl ?_)
    refine VO.go (VO.callV' (fun Fr w hF _ hs => step_no Fr w (hM hs) 0) rfl ?_)
    refine VO.go (VO.yes 42 false rfl rfl ?_)
    refine VO.go (VO.callV' (fun Fr w hF _ hs => tick_no Fr w (hM hs) 0) rfl ?_)
    refine VO.go (VO.yes 48 false rfl rfl ?_)
    refine VO.go (VO.callV' (fun Fr w hF _ hs => chain_no Fr w (hM hs)) rfl ?_)
    refine VO.go (VO.light (light_field Tryz.underlying36 rfl rfl rfl rfl rfl) ?_)
    refine VO.go (VO.yes 54 false rfl rfl ?_)
    refine VO.go (VO.callV' (fun Fr w hF _ hs => since_no Fr w (hM hs)) rfl ?_)
    refine VO.go (VO.yes 59 false rfl rfl ?_)
    refine VO.go (VO.callV' (fun Fr w hF _ hs => whole_no Fr w (hM hs)) rfl ?_)
    refine VO.go (VO.yes 63 false rfl rfl ?_)
    refine VO.go (VO.callV' (fun Fr w hF _ hs => log_no Fr w (hM hs)) rfl ?_)
    refine VO.go (VO.yes 68 false rfl rfl ?_)
    refine VO.go (VO.callV' (fun Fr w hF _ hs => window_no Fr w (hM hs)) rfl ?_)
    refine VO.go (VO.yes 73 false rfl rfl ?_)
    refine VO.go (VO.callV' (fun Fr w hF _ hs => waiting_no Fr w (hM hs) 0) rfl ?_)
    refine VO.go (VO.yes 78 false rfl rfl ?_)
    refine VO.go (VO.callV' (fun Fr w hF _ hs => reading_no Fr w (hM hs)) rfl ?_)
    refine VO.go (VO.yes 83 false rfl rfl ?_)
    refine VO.go (VO.callV' (fun Fr w hF _ hs => served_no Fr w (hM hs) 0) rfl ?_)
    (repeat (first|refine zS ?_|refine zR ?_|refine zB ?_|refine zL ?_|refine zC ?_|refine zG (zN ?_)|refine zG (zU rfl rfl rfl ?_)))
    refine VC.condF rfl (VC.skip ?_)
    (repeat (first|refine zS ?_|refine zR ?_|refine zB ?_|refine zL ?_|refine zC ?_|refine zG (zN ?_)|refine zG (zU rfl rfl rfl ?_)))
    refine VO.go (VO.light (light_build (pv := []) zeroR rfl rfl rfl (by kernel_rfl) rfl) (VO.go (VO.boxA (vs := zeroR) rfl fun p => ?_)))
    (repeat (first|refine zS ?_|refine zR ?_|refine zB ?_|refine zL ?_|refine zC ?_|refine zG (zN ?_)|refine zG (zU rfl rfl rfl ?_)))
    refine VO.go (VO.add rfl rfl (by omega) (by omega) ?_)
    (repeat (first|refine zS ?_|refine zR ?_|refine zB ?_|refine zL ?_|refine zC ?_|refine zG (zN ?_)|refine zG (zU rfl rfl rfl ?_)))
    refine ⟨(t + 1, some p), ht2, by dsimp only; omega, Sub.cons rfl (Sub.cons rfl (Sub.cons rfl (Sub.cons rfl (Sub.cons rfl (Sub.nil _))))), ?_⟩
    exact (Imp.pick 1 rfl (Imp.pick 1 rfl (Imp.pick 0 rfl Imp.nil))).ent
  refine VC.ent (L' := [pt cb (c.cells ca cc) 24, hpure True]) (Imp.pick 1 rfl (Imp.pure trivial Imp.nil)).ent ?_
  (repeat (first|refine zS ?_|refine zR ?_|refine zB ?_|refine zL ?_|refine zC ?_|refine zG (zN ?_)|refine zG (zU rfl rfl rfl ?_)))
  refine VC.loop (σ := NdP) (fun y => [(1, .int .i64 id), (3, .pointer (some ⟨cb, 0, none⟩)), (9, .int .i64 y.i)]) (fun y => [pt cb (y.d.cells y.a y.cap) 24, y.H]) (fun y => y.i ≤ 2 ∧ DS c ca cc y.d y.a y.cap y.H) (fun y => 2 - y.i) ⟨0, c, ca, cc, hpure True⟩ ⟨Nat.zero_le _, .inl ⟨rfl, rfl, rfl⟩⟩
    (Sub.cons rfl (Sub.cons rfl (Sub.cons rfl (Sub.nil _)))) Ent.refl ?_
  rintro ⟨i, d, a, cap, H⟩ ⟨hi, hD⟩
  dsimp only at hi hD ⊢
  (repeat (first|refine zS ?_|refine zR ?_|refine zB ?_|refine zL ?_|refine zC ?_|refine zG (zN ?_)|refine zG (zU rfl rfl rfl ?_)))
  refine VC.condP (p := (i : Int) < 2) rfl (fun h3 => VC.skip ?_) (fun h3 => VC.exit ?_)
  rotate_left
  · (repeat (first|refine zS ?_|refine zR ?_|refine zB ?_|refine zL ?_|refine zC ?_|refine zG (zN ?_)|refine zG (zU rfl rfl rfl ?_)))
    refine VO.go (VO.callV (fun Fr w => led_spec Fr w) rfl ?_)
    (repeat (first|refine zS ?_|refine zR ?_|refine zB ?_|refine zL ?_|refine zC ?_|refine zG (zN ?_)|refine zG (zU rfl rfl rfl ?_)))
    exact VC.ret (Ret.bool 6 rfl rfl rfl Imp.nil.ent ⟨rfl, rfl⟩)
  have hdl : d.qs.length ≤ 1000 ∧ d.qs.length ≤ cap := by
    rcases hD with ⟨rfl, rfl, rfl⟩ | ⟨rfl, hc, _⟩
    · omega
    · have := qFit_len c.qs
      have e : (fitM c).qs = qFit c.qs := rfl
      rw [e] at hc ⊢
      omega
  refine VC.seq (VC.block ?_)
  refine VC.seq (VC.region ?_)
  refine VO.go (VO.ldA 0 (d.cells a cap) rfl rfl rfl rfl ?_)
  refine VO.go (VO.call (Lc := []) (fun Fr w hF hs hS => Rep.new_spec Fr w d a cap (hD.ints hq hF hs (hS.at_ 1 rfl)) trivial hdl.2 id ((i : Int) == 1)) rfl rfl ?_)
  intro v L hv
  by_cases hok : newOkB d id
  · rw [if_pos hok] at hv
    obtain ⟨p, rfl, rfl⟩ := hv
    (repeat (first|refine zS ?_|refine zR ?_|refine zB ?_|refine zL ?_|refine zC ?_|refine zG (zN ?_)|refine zG (zU rfl rfl rfl ?_)))
    refine VO.go (VO.ldA 1 (d.cells a cap) rfl rfl rfl rfl ?_)
    refine VO.go (VO.call (Lc := []) (fun Fr w hF hs hS => Nd.rnew_spec Fr w d a cap (hD.ints hq hF hs (hS.at_ 2 rfl)) hdl.1 id ((i : Int) == 1)) rfl rfl ?_)
    intro v L hv
    rw [if_pos hok] at hv
    obtain ⟨q, rfl, rfl⟩ := hv
    (repeat (first|refine zS ?_|refine zR ?_|refine zB ?_|refine zL ?_|refine zC ?_|refine zG (zN ?_)|refine zG (zU rfl rfl rfl ?_)))
    refine VO.go (VO.yes 113 false rfl rfl ?_)
    refine VO.go (VO.yes 120 false rfl rfl ?_)
    refine VO.go (VO.yes 123 true rfl rfl ?_)
    refine VO.go (VO.callV' (fun Fr w hF hs hS => alike_spec Fr w (Rep.newR_ok hok.1 id ((i : Int) == 1)) (hS.at_ 1 rfl) (hS.at_ 0 rfl) (by rw [newR_log]; exact rlres0)) rfl ?_)
    (repeat (first|refine zS ?_|refine zR ?_|refine zB ?_|refine zL ?_|refine zC ?_|refine zG (zN ?_)|refine zG (zU rfl rfl rfl ?_)))
    refine VC.condF rfl (VC.skip ?_)
    refine VC.ent (L' := [pt cb (d.cells a cap) 24, H]) (Imp.pick 2 rfl (Imp.pick 2 rfl Imp.nil)).ent ?_
    (repeat (first|refine zS ?_|refine zR ?_|refine zB ?_|refine zL ?_|refine zC ?_|refine zG (zN ?_)|refine zG (zU rfl rfl rfl ?_)))
    refine VO.go (VO.ldA 0 (d.cells a cap) rfl rfl rfl rfl ?_)
    refine VO.go (VO.call (Lc := []) (fun Fr w hF hs hS => rfit_spec Fr w d a cap (hD.ints hq hF hs (hS.at_ 1 rfl))) rfl rfl ?_)
    rintro _ _ ⟨a2, cap2, _, hcap2, rfl, rfl⟩
    refine VO.go (VO.stA (vs := (fitM d).cells a2 cap2) (cs' := (fitM d).cells a2 cap2) 1 rfl rfl rfl rfl (Nat.le_refl _) rfl rfl rfl ?_)
    (repeat (first|refine zS ?_|refine zR ?_|refine zB ?_|refine zL ?_|refine zC ?_|refine zG (zN ?_)|refine zG (zU rfl rfl rfl ?_)))
    refine VO.go (VO.add rfl rfl (by omega) (by omega) ?_)
    (repeat (first|refine zS ?_|refine zR ?_|refine zB ?_|refine zL ?_|refine zC ?_|refine zG (zN ?_)|refine zG (zU rfl rfl rfl ?_)))
    refine ⟨⟨i + 1, fitM d, a2, cap2, intH a2 cap2 (fitM d).qs⟩, ⟨by dsimp only; omega, .inr ⟨?_, hcap2, rfl⟩⟩, by dsimp only; omega, Sub.cons rfl (Sub.cons rfl (Sub.cons rfl (Sub.nil _))), (Imp.pick 1 rfl (Imp.pick 0 rfl Imp.nil)).ent⟩
    dsimp only
    rcases hD with ⟨rfl, _, _⟩ | ⟨rfl, _, _⟩
    · rfl
    · exact (fit_idem c).symm
  · rw [if_neg hok] at hv
    obtain ⟨rfl, rfl⟩ := hv
    (repeat (first|refine zS ?_|refine zR ?_|refine zB ?_|refine zL ?_|refine zC ?_|refine zG (zN ?_)|refine zG (zU rfl rfl rfl ?_)))
    refine VO.go (VO.ldA 0 (d.cells a cap) rfl rfl rfl rfl ?_)
    refine VO.go (VO.call (Lc := []) (fun Fr w hF hs hS => Nd.rnew_spec Fr w d a cap (hD.ints hq hF hs (hS.at_ 1 rfl)) hdl.1 id ((i : Int) == 1)) rfl rfl ?_)
    intro v L hv
    rw [if_neg hok] at hv
    obtain ⟨rfl, rfl⟩ := hv
    (repeat (first|refine zS ?_|refine zR ?_|refine zB ?_|refine zL ?_|refine zC ?_|refine zG (zN ?_)|refine zG (zU rfl rfl rfl ?_)))
    refine VO.go (VO.yes 113 false rfl rfl ?_)
    refine VO.go (VO.yes 120 false rfl rfl ?_)
    refine VO.go (VO.yes 123 false rfl rfl ?_)
    (repeat (first|refine zS ?_|refine zR ?_|refine zB ?_|refine zL ?_|refine zC ?_|refine zG (zN ?_)|refine zG (zU rfl rfl rfl ?_)))
    refine VC.condF rfl (VC.skip ?_)
    (repeat (first|refine zS ?_|refine zR ?_|refine zB ?_|refine zL ?_|refine zC ?_|refine zG (zN ?_)|refine zG (zU rfl rfl rfl ?_)))
    refine VO.go (VO.ldA 0 (d.cells a cap) rfl rfl rfl rfl ?_)
    refine VO.go (VO.call (Lc := []) (fun Fr w hF hs hS => rfit_spec Fr w d a cap (hD.ints hq hF hs (hS.at_ 1 rfl))) rfl rfl ?_)
    rintro _ _ ⟨a2, cap2, _, hcap2, rfl, rfl⟩
    refine VO.go (VO.stA (vs := (fitM d).cells a2 cap2) (cs' := (fitM d).cells a2 cap2) 1 rfl rfl rfl rfl (Nat.le_refl _) rfl rfl rfl ?_)
    (repeat (first|refine zS ?_|refine zR ?_|refine zB ?_|refine zL ?_|refine zC ?_|refine zG (zN ?_)|refine zG (zU rfl rfl rfl ?_)))
    refine VO.go (VO.add rfl rfl (by omega) (by omega) ?_)
    (repeat (first|refine zS ?_|refine zR ?_|refine zB ?_|refine zL ?_|refine zC ?_|refine zG (zN ?_)|refine zG (zU rfl rfl rfl ?_)))
    refine ⟨⟨i + 1, fitM d, a2, cap2, intH a2 cap2 (fitM d).qs⟩, ⟨by dsimp only; omega, .inr ⟨?_, hcap2, rfl⟩⟩, by dsimp only; omega, Sub.cons rfl (Sub.cons rfl (Sub.cons rfl (Sub.nil _))), (Imp.pick 1 rfl (Imp.pick 0 rfl Imp.nil)).ent⟩
    dsimp only
    rcases hD with ⟨rfl, _, _⟩ | ⟨rfl, _, _⟩
    · rfl
    · exact (fit_idem c).symm
end Go.Proofs.YtbbnmgakmcppdaaGreat.Nd
namespace Go.Proofs.YtbbnmgakmcppdaaGreat.Nd
open Go Go.Proofs.YtbbnmgakmcppdaaGreat.Vg Go.ChangeShapes Go.WideShapes Go.ChangeAt Go.RowKit Go.Proofs.YtbbnmgakmcppdaaGreat.Sched Go.Proofs.YtbbnmgakmcppdaaGreat.Conf Go.Proofs.YtbbnmgakmcppdaaGreat.Adm Go.Proofs.YtbbnmgakmcppdaaGreat.Api
set_option linter.unusedVariables false

set_option maxRecDepth 100000 in
theorem open_int {H : Type} {enc : TypeId × Value → H} {w : World} {base base0 : Nat} {spare : Nat → Bool} {held : Bool} {v : Value} {d : DataW H} {ps : List MemPlace} (hval : Value.okWide Tryz.prog w .any base0 3 v) (h : DataW.Trod enc Tryz.prog w base spare held 3 v d ps) :
    ∃ n, v = .int .i64 n := by
  obtain ⟨n, rfl⟩ := okWide_int Tryz.underlying3 hval
  exact ⟨n, rfl⟩
set_option maxRecDepth 100000 in
theorem xactFlat : flatT Tryz.prog 5 67 = some [5, 5, 5, 5, 3, 9, 9, 3, 3, 3, 3, 3, 3, 3, 3, 3, 3, 9, 9, 3, 3, 9, 3, 3, 3, 3, 3, 3, 3, 9, 9, 3, 3, 34, 3, 3, 3, 3] := by kernel_rfl
set_option maxRecDepth 100000 in
theorem leaf_xact {H : Type} {enc : TypeId × Value → H} {w : World} {base : Nat} {spare : Nat → Bool} {held : Bool} {cs : List Value} (hl : cs.length = 38)
    (h3 : ∀ (i : Nat) (v : Value) (u : TypeId), cs[i]? = some v → ([5, 5, 5, 5, 3, 9, 9, 3, 3, 3, 3, 3, 3, 3, 3, 3, 3, 9, 9, 3, 3, 9, 3, 3, 3, 3, 3, 3, 3, 9, 9, 3, 3, 34, 3, 3, 3, 3] : List TypeId)[i]? = some u → Leaf enc Tryz.prog w base spare held u v) : ∃ x : XAct, cs = xaC x := by
  match cs, hl, h3 with
  | u0 :: u1 :: u2 :: u3 :: u4 :: u5 :: u6 :: u7 :: u8 :: u9 :: u10 :: u11 :: u12 :: u13 :: u14 :: u15 :: u16 :: u17 :: u18 :: u19 :: u20 :: u21 :: u22 :: u23 :: u24 :: u25 :: u26 :: u27 :: u28 :: u29 :: u30 :: u31 :: u32 :: u33 :: u34 :: u35 :: u36 :: u37 :: [], _, h3 =>
  obtain ⟨n0, rfl, hw0⟩ := (h3 0 u0 _ rfl rfl).int Tryz.underlying5
  obtain ⟨n1, rfl, hw1⟩ := (h3 1 u1 _ rfl rfl).int Tryz.underlying5
  obtain ⟨n2, rfl, hw2⟩ := (h3 2 u2 _ rfl rfl).int Tryz.underlying5
  obtain ⟨n3, rfl, hw3⟩ := (h3 3 u3 _ rfl rfl).int Tryz.underlying5
  obtain ⟨n4, rfl, _⟩ := (h3 4 u4 _ rfl rfl).int Tryz.underlying3
  obtain ⟨s5, rfl, _⟩ := (h3 5 u5 _ rfl rfl).str Tryz.underlying9
  obtain ⟨s6, rfl, _⟩ := (h3 6 u6 _ rfl rfl).str Tryz.underlying9
  obtain ⟨n7, rfl, _⟩ := (h3 7 u7 _ rfl rfl).int Tryz.underlying3
  obtain ⟨n8, rfl, _⟩ := (h3 8 u8 _ rfl rfl).int Tryz.underlying3
  obtain ⟨n9, rfl, _⟩ := (h3 9 u9 _ rfl rfl).int Tryz.underlying3
  obtain ⟨n10, rfl, _⟩ := (h3 10 u10 _ rfl rfl).int Tryz.underlying3
  obtain ⟨n11, rfl, _⟩ := (h3 11 u11 _ rfl rfl).int Tryz.underlying3
  obtain ⟨n12, rfl, _⟩ := (h3 12 u12 _ rfl rfl).int Tryz.underlying3
  obtain ⟨n13, rfl, _⟩ := (h3 13 u13 _ rfl rfl).int Tryz.underlying3
  obtain ⟨n14, rfl, _⟩ := (h3 14 u14 _ rfl rfl).int Tryz.underlying3
  obtain ⟨n15, rfl, _⟩ := (h3 15 u15 _ rfl rfl).int Tryz.underlying3
  obtain ⟨n16, rfl, _⟩ := (h3 16 u16 _ rfl rfl).int Tryz.underlying3
  obtain ⟨s17, rfl, _⟩ := (h3 17 u17 _ rfl rfl).str Tryz.underlying9
  obtain ⟨s18, rfl, _⟩ := (h3 18 u18 _ rfl rfl).str Tryz.underlying9
  obtain ⟨n19, rfl, _⟩ := (h3 19 u19 _ rfl rfl).int Tryz.underlying3
  obtain ⟨n20, rfl, _⟩ := (h3 20 u20 _ rfl rfl).int Tryz.underlying3
  obtain ⟨s21, rfl, _⟩ := (h3 21 u21 _ rfl rfl).str Tryz.underlying9
  obtain ⟨n22, rfl, _⟩ := (h3 22 u22 _ rfl rfl).int Tryz.underlying3
  obtain ⟨n23, rfl, _⟩ := (h3 23 u23 _ rfl rfl).int Tryz.underlying3
  obtain ⟨n24, rfl, _⟩ := (h3 24 u24 _ rfl rfl).int Tryz.underlying3
  obtain ⟨n25, rfl, _⟩ := (h3 25 u25 _ rfl rfl).int Tryz.underlying3
  obtain ⟨n26, rfl, _⟩ := (h3 26 u26 _ rfl rfl).int Tryz.underlying3
  obtain ⟨n27, rfl, _⟩ := (h3 27 u27 _ rfl rfl).int Tryz.underlying3
  obtain ⟨n28, rfl, _⟩ := (h3 28 u28 _ rfl rfl).int Tryz.underlying3
  obtain ⟨s29, rfl, _⟩ := (h3 29 u29 _ rfl rfl).str Tryz.underlying9
  obtain ⟨s30, rfl, _⟩ := (h3 30 u30 _ rfl rfl).str Tryz.underlying9
  obtain ⟨n31, rfl, _⟩ := (h3 31 u31 _ rfl rfl).int Tryz.underlying3
  obtain ⟨n32, rfl, _⟩ := (h3 32 u32 _ rfl rfl).int Tryz.underlying3
  obtain ⟨a33, l33, k33, rfl⟩ := (h3 33 u33 _ rfl rfl).slice Tryz.underlying34
  obtain ⟨n34, rfl, _⟩ := (h3 34 u34 _ rfl rfl).int Tryz.underlying3
  obtain ⟨n35, rfl, _⟩ := (h3 35 u35 _ rfl rfl).int Tryz.underlying3
  obtain ⟨n36, rfl, _⟩ := (h3 36 u36 _ rfl rfl).int Tryz.underlying3
  obtain ⟨n37, rfl, _⟩ := (h3 37 u37 _ rfl rfl).int Tryz.underlying3
  have b0 := wf_byte hw0; have b1 := wf_byte hw1; have b2 := wf_byte hw2; have b3 := wf_byte hw3
  refine ⟨⟨n0.toNat, n1.toNat, n2.toNat, n3.toNat, ⟨n4, s5, s6, n7⟩, n8, ⟨n9, n10, n11, n12, n13, n14, n15, ⟨n16, s17, s18, n19⟩, ⟨n20, s21, n22, n23⟩, n24, ⟨n25, n26, n27, ⟨n28, s29, s30, n31⟩⟩, n32, n34, n35, n36, n37⟩, a33, l33, k33⟩, ?_⟩
  rw [xaC, Int.toNat_of_nonneg b0.1, Int.toNat_of_nonneg b1.1, Int.toNat_of_nonneg b2.1, Int.toNat_of_nonneg b3.1]
  rfl
set_option maxRecDepth 100000 in
theorem open_xact {H : Type} {enc : TypeId × Value → H} {w : World} {base0 base : Nat} {spare : Nat → Bool} {held : Bool} {v : Value} {d : DataW H} {ps : List MemPlace}
    (hval : Value.okWide Tryz.prog w .any base0 67 v) (h : DataW.Trod enc Tryz.prog w base spare held 67 v d ps) : ∃ x : XAct, v = .agg (xaC x).toArray := by
  obtain ⟨cs, rfl⟩ := okWide_agg Tryz.underlying67 hval
  obtain ⟨fuel, hf⟩ := h
  obtain ⟨h1, h2⟩ := flatT_ok 5 _ _ xactFlat fuel cs _ hf
  obtain ⟨x, rfl⟩ := leaf_xact h1 h2
  exact ⟨x, rfl⟩
theorem own_rnone : ownKnob Tryz.prog.godebug = none := by kernel_rfl
theorem laidOut_rnone : laidOutB Tryz.prog = true := by kernel_rfl
set_option maxRecDepth 100000 in
theorem rnone_lifted (os : Os) (started : os.Started) (H : Type) (enc : TypeId × Value → H) :
    ReturnsInHanded {} Tryz.checked os 11 .any (Rows.replicaNoneSpec.pre6 enc Tryz.prog Tryz.f11 Rows.replicaNoneRow.domain false) (Rows.replicaNoneSpec.post enc Tryz.prog Tryz.f11 false true false false) := by
  refine law_returns (C := Tryz.checked) own_rnone started (by kernel_rfl) Tryz.func11
    (ChangeSpec.witness6 (enc := enc) (C := Tryz.checked) false ⟨#[], #[.agg #[.int .i64 0, .int .i64 0, .int .i64 0, .slice none 0 0, .int .i64 0, .int .i64 0, .int .i64 0, .int .i64 0, .int .i64 0, .int .i64 0, .int .i64 0, .int .i64 0], .int .i64 0, .agg (xaC ⟨0, 0, 0, 0, ⟨0, ⟨#[]⟩, ⟨#[]⟩, 0⟩, 0, Api.FrameM.zero, none, 0, 0⟩).toArray], []⟩ 8 (by kernel_rfl) (by kernel_rfl) (by kernel_rfl) (by kernel_rfl))
    laidOut_rnone (by rw [Tryz.params11]; simp; exact ⟨⟨by kernel_rfl, of_decide_eq_true (by kernel_rfl)⟩, ⟨by kernel_rfl, of_decide_eq_true (by kernel_rfl)⟩, by kernel_rfl, of_decide_eq_true (by kernel_rfl)⟩) rfl rfl Tryz.underlying4
    (fun ds h => by
      rw [Tryz.params11] at h
      match ds, h with
      | [d1, d2, d3], _ => rfl) ?_
  intro W base args ds ps hval hA _ _
  rw [Tryz.params11] at hA hval
  obtain ⟨v0, vs0, d0, ds0, p0, q0, hargs, rfl, rfl, h0, r0⟩ := trodAll_cons hA
  obtain ⟨v1, vs1, d1, ds1, p1, q1, rfl, rfl, rfl, h1, r1⟩ := trodAll_cons r0
  obtain ⟨v2, vs2, d2, ds2, p2, q2, rfl, rfl, rfl, h2, r2⟩ := trodAll_cons r1
  obtain ⟨rfl, rfl, rfl⟩ := trodAll_nil r2
  obtain rfl : args = #[v0, v1, v2] := by cases args; simp_all
  obtain ⟨c, ca, cc, rfl, hcc, hq⟩ := open_conf (hval 0 24 v0 rfl rfl) h0
  obtain ⟨id, rfl⟩ := open_int (hval 1 3 v1 rfl rfl) h1
  obtain ⟨x, rfl⟩ := open_xact (hval 2 67 v2 rfl rfl) h2
  have T := rnone_spec (fun b => b < W.heap.size) W c ca cc hq hcc id x
  exact ⟨T.callable, fun hl hs => Calls.mono (T.calls hl hs) fun e W' ⟨v, L', h1, h2, h3, h4⟩ => ⟨v, L', h1, h2.1, h3, h4⟩⟩

theorem rnone_holds : Rows.ReplicaNoneSaid :=
  OpenClaim.holds_of_wide 11 Tryz.f11 rfl rfl rfl rfl rfl rfl rfl ⟨rfl, rfl, rfl, rfl, rfl⟩ rfl rfl rfl rfl rfl (by kernel_rfl) Tryz.func11 (by kernel_rfl)
    (of_decide_eq_true (by kernel_rfl)) (by unfold Func.isWrapper; first | (rw [if_pos (by decide +kernel)]; kernel_rfl) | (rw [if_neg (by decide +kernel)]; exact ⟨rfl, rfl⟩))
    (fun os started H enc _ => rnone_lifted os started H enc)
#print axioms rnone_holds
end Go.Proofs.YtbbnmgakmcppdaaGreat.Nd
