/- Reads that wait for the master's word. No condition. -/
import Derived.Test.YtbbnmgakmcppdaaGreatCh
import Derived.Test.YtbbnmgakmcppdaaGreatLg
namespace Go.Proofs.YtbbnmgakmcppdaaGreat.Rd
open Go Go.Proofs.YtbbnmgakmcppdaaGreat.Vg Go.Proofs.YtbbnmgakmcppdaaGreat.T Go.Proofs.YtbbnmgakmcppdaaGreat.Api Go.Proofs.YtbbnmgakmcppdaaGreat.Kv Go.Proofs.YtbbnmgakmcppdaaGreat.Ch
set_option linter.unusedSimpArgs false
set_option linter.unusedVariables false
attribute [local irreducible] VO VC VA

theorem small_bytes {n k b M : Nat} (h : n ≤ k) (hk : k * b ≤ M) : n * b ≤ M := Nat.le_trans (Nat.mul_le_mul_right b h) hk
/-- Where members lie, how many there are, and how many there would be room for. -/
abbrev MemG := Option Addr × Nat × Nat
def fgC (f : FrameM) (m : MemG) : List Value :=
  [.int .i64 f.kind, .int .i64 f.epoch, .int .i64 f.client, .int .i64 f.seq, .int .i64 f.try_, .int .i64 f.cls, .int .i64 f.deadline,
   .int .i64 f.op.kind, .string f.op.key, .string f.op.value, .int .i64 f.op.version,
   .int .i64 f.res.code, .string f.res.value, .int .i64 f.res.version, .int .i64 f.res.at_, .int .i64 f.reason,
   .int .i64 f.entry.index, .int .i64 f.entry.client, .int .i64 f.entry.seq, .int .i64 f.entry.op.kind, .string f.entry.op.key, .string f.entry.op.value, .int .i64 f.entry.op.version,
   .int .i64 f.cepoch, .slice m.1 m.2.1 m.2.2, .int .i64 f.drain, .int .i64 f.index, .int .i64 f.grant, .int .i64 f.have_]
theorem fgC_fmc (f : FrameM) (m : MemS) : fmc (f, m) = fgC f (m.1, 0, m.2) := rfl
abbrev frT : TypeId := 46
structure RdM where
  id : Int
  f : FrameM
  r : ResM
abbrev RdR := RdM × MemG
def rdC (x : RdR) : List Value := .int .i64 x.1.id :: (fgC x.1.f x.2 ++ resC x.1.r)
theorem rdC_len (x : RdR) : (rdC x).length = 34 := rfl
theorem rdC_one (x : RdR) : (rdC x).all Value.oneCell' = true := rfl
abbrev rdT : TypeId := 131
abbrev rdsT : TypeId := 186
structure RdsM where
  cap : Int
  last : Int
  l : List RdM
structure RdsS where
  a : Option Addr
  c : Nat
  rows : List RdR
def rdsCs (R : RdsM) (x : RdsS) : List Value := [.int .i64 R.cap, .int .i64 R.last, .slice x.a x.rows.length x.c]
def rdsL (p : Nat) (R : RdsM) (x : RdsS) : List HP := [pt p (rdsCs R x) rdsT, slH rdT 34 x.a x.rows.length x.c (flat rdC x.rows)]
def RdsOk (R : RdsM) (x : RdsS) : Prop := x.rows.map Prod.fst = R.l
def rdsH (p : Nat) (R : RdsM) : HP := hex fun x => hsep (hpure (RdsOk R x) :: rdsL p R x)
structure RdsIn (Fr : Nat → Prop) (w : World) (p : Nat) (R : RdsM) (x : RdsS) : Prop where
  ok : RdsOk R x
  blk : Blk Fr w p (rdsCs R x)
  rows : RwIn rdC 34 Fr w x.a x.rows
theorem RdsIn.of {Fr : Nat → Prop} {w : World} {p : Nat} {R : RdsM} (h : SatIn Fr [rdsH p R] w) : ∃ x, RdsIn Fr w p R x := by
  obtain ⟨x, h⟩ := h.ex
  have h := h.sep
  exact ⟨x, h.pure 0 rfl, h.blk 1 rfl, RwIn.slH rdC_len (h.at_ 2 rfl)⟩
theorem HOpn.rds (p : Nat) (R : RdsM) : HOpn (rdsH p R) (fun x => RdsOk R x) (fun x => rdsL p R x) := by
  rintro w ids ⟨s, h⟩ hn
  obtain ⟨F, G, rfl, ⟨rfl, h1⟩, h2⟩ := h
  exact ⟨s, h1, G, h2, by simpa using hn, fun b hb => by simpa using hb⟩
theorem Imp.rds {p : Nat} {R : RdsM} {L M : List HP} (x : RdsS) (hs : RdsOk R x) (h : Imp L (rdsL p R x ++ M)) : Imp L (rdsH p R :: M) :=
  Imp.ex x (Imp.sep (Imp.trans h (Imp.app (L := rdsL p R x) (M := _ :: rdsL p R x) (Imp.pure hs Imp.refl) Imp.refl)))
theorem RdsOk.len {R : RdsM} {x : RdsS} (h : RdsOk R x) : x.rows.length = R.l.length := by rw [← h]; simp
def RdsM.new (cap : Int) : RdsM := ⟨cap, 0, []⟩
theorem new_spec (Fr : Nat → Prop) (w : World) {c : Int} (h0 : 1 ≤ c) (h1 : c ≤ 16) : Tri Tryz.prog 53 [.int .i64 c] Fr w [] (fun v L => ∃ q, v = .tuple #[.pointer (some ⟨q, 0, none⟩), .int .i64 0] ∧ L = [rdsH q (RdsM.new c)]) := by
  refine Tri.of 13 Tryz.func53 rfl (by kernel_rfl) tabOk rfl rfl ?_
  (repeat (first|refine zS ?_|refine zR ?_|refine zB ?_|refine zL ?_|refine zC ?_|refine zG (zN ?_)|refine zG (zD 0 rfl rfl rfl rfl ?_)))
  refine VO.go (VO.yes 6 false rfl (decide_eq_false (by omega)) ?_)
  (repeat (first|refine zS ?_|refine zR ?_|refine zB ?_|refine zL ?_|refine zC ?_|refine zG (zN ?_)|refine zG (zD 0 rfl rfl rfl rfl ?_)|refine zG (zU rfl rfl rfl ?_)))
  refine VC.condP rfl (fun h => by omega) (fun _ => VC.skip ?_)
  (repeat (first|refine zS ?_|refine zR ?_|refine zB ?_|refine zL ?_|refine zC ?_|refine zG (zN ?_)|refine zG (zD 0 rfl rfl rfl rfl ?_)))
  refine VO.go (VO.light (light_build (pv := [(0, .int .i64 c)]) (rdsCs (RdsM.new c) ⟨none, 0, []⟩) rfl rfl rfl (by kernel_rfl) rfl) ?_)
  refine VO.go (VO.boxA (vs := rdsCs (RdsM.new c) ⟨none, 0, []⟩) rfl fun q => ?_)
  (repeat (first|refine zS ?_|refine zR ?_|refine zB ?_|refine zL ?_|refine zC ?_|refine zG (zN ?_)|refine zG (zD 0 rfl rfl rfl rfl ?_)))
  exact VC.ret (Ret.tmp2 2 3 rfl rfl rfl (Imp.rds (R := RdsM.new c) ⟨none, 0, []⟩ rfl (Imp.pick 0 rfl (Imp.slNil Imp.nil))).ent ⟨q, rfl, rfl⟩)
section
variable {p : Nat} {R : RdsM}
theorem none_spec (Fr : Nat → Prop) (w : World) {c : Int} {cs : List Value} (h : Blk Fr w p (.int .i64 c :: cs)) (hc : 1 ≤ c) : Tri Tryz.prog 184 [.pointer (some ⟨p, 0, none⟩)] Fr w [] (fun v L => v = .bool false ∧ L = []) := by
  refine Tri.of 12 Tryz.func184 rfl (by kernel_rfl) tabOk rfl rfl ?_
  (repeat (first|refine zS ?_|refine zR ?_|refine zB ?_|refine zL ?_|refine zC ?_|refine zG (zN ?_)|refine zG (zD 0 rfl rfl rfl rfl ?_)))
  refine VO.go (VO.split 5 rfl rfl (fun h => by cases h) (fun _ => ?_))
  (repeat (first|refine zS ?_|refine zR ?_|refine zB ?_|refine zL ?_|refine zC ?_|refine zG (zN ?_)|refine zG (zE rfl rfl (RdL.blk h rfl) ?_)))
  exact VC.ret (Ret.bool 2 rfl rfl (by simp; omega) Ent.refl ⟨rfl, rfl⟩)
theorem len_spec (Fr : Nat → Prop) (w : World) (h : SatIn Fr [rdsH p R] w) (hc : 1 ≤ R.cap) : Tri Tryz.prog 122 [.pointer (some ⟨p, 0, none⟩)] Fr w [] (fun v L => v = .int .i64 R.l.length ∧ L = []) := by
  obtain ⟨x, hx⟩ := RdsIn.of h
  have hb := hx.blk
  have hlen := hx.ok.len
  refine Tri.of 10 Tryz.func122 rfl (by kernel_rfl) tabOk rfl rfl ?_
  (repeat (first|refine zS ?_|refine zR ?_|refine zB ?_|refine zL ?_|refine zC ?_|refine zG (zN ?_)|refine zG (zD 0 rfl rfl rfl rfl ?_)))
  refine VO.go (VO.callV' (fun Fr w hF hs _ => none_spec Fr w (hb.of hF hs) hc) rfl ?_)
  (repeat (first|refine zS ?_|refine zR ?_|refine zB ?_|refine zL ?_|refine zC ?_|refine zG (zN ?_)|refine zG (zD 0 rfl rfl rfl rfl ?_)))
  refine VC.condF rfl (VC.skip ?_)
  (repeat (first|refine zS ?_|refine zR ?_|refine zB ?_|refine zL ?_|refine zC ?_|refine zG (zN ?_)|refine zG (zE rfl rfl (RdL.blk hb rfl) ?_)))
  exact VC.ret (Ret.int 2 rfl rfl (by rw [hlen]) Ent.refl ⟨rfl, rfl⟩)
def RdsM.lastI (R : RdsM) : Int := match R.l.getLast? with
  | some x => x.id
  | none => 0
theorem last_spec (Fr : Nat → Prop) (w : World) (h : SatIn Fr [rdsH p R] w) (hc : 1 ≤ R.cap) (hl : R.l.length ≤ 1000000) : Tri Tryz.prog 103 [.pointer (some ⟨p, 0, none⟩)] Fr w [] (fun v L => v = .tuple #[.int .i64 R.lastI, .bool (!R.l.isEmpty)] ∧ L = []) := by
  obtain ⟨x, hx⟩ := RdsIn.of h
  have hb := hx.blk
  have hlen := hx.ok.len
  refine Tri.of 20 Tryz.func103 rfl (by kernel_rfl) tabOk rfl rfl ?_
  (repeat (first|refine zS ?_|refine zR ?_|refine zB ?_|refine zL ?_|refine zC ?_|refine zG (zN ?_)|refine zG (zD 0 rfl rfl rfl rfl ?_)))
  refine VO.go (VO.callV' (fun Fr w hF hs _ => len_spec Fr w (h.of hF hs) hc) rfl ?_)
  (repeat (first|refine zS ?_|refine zR ?_|refine zB ?_|refine zL ?_|refine zC ?_|refine zG (zN ?_)|refine zG (zD 0 rfl rfl rfl rfl ?_)))
  refine VC.condE rfl (fun h1 => ?_) (fun h1 => VC.skip ?_)
  · have h0 : R.l = [] := List.eq_nil_of_length_eq_zero (by omega)
    (repeat (first|refine zS ?_|refine zR ?_|refine zB ?_|refine zL ?_|refine zC ?_|refine zG (zN ?_)|refine zG (zD 0 rfl rfl rfl rfl ?_)))
    exact VC.ret (Ret.tmp2 2 3 rfl rfl rfl Ent.refl ⟨by rw [RdsM.lastI, h0]; rfl, rfl⟩)
  · have hpos : 0 < x.rows.length := by omega
    obtain ⟨y, hy⟩ : ∃ y, x.rows[x.rows.length - 1]? = some y := ⟨_, List.getElem?_eq_getElem (by omega)⟩
    have hgl : R.l.getLast? = some y.1 := by rw [List.getLast?_eq_getElem?, ← hx.ok, List.getElem?_map, List.length_map, hy]; rfl
    obtain ⟨eb, eo, hea, ra, rc⟩ := RwIn.rd (X := ⟨Tryz.prog, tab, tabOk, 20, Fr, w⟩) hx.rows hy
    have hb2 : Blk Fr w p [.int .i64 R.cap, .int .i64 R.last, .slice (some ⟨eb, eo, none⟩) x.rows.length x.c] := by rw [← hea]; exact hb
    refine VC.seq (VC.draw (ts 0 15 .nil) (by kernel_rfl) (by decide +kernel) ?_)
    (repeat (first|refine yG (yN ?_)|refine yG (yE rfl rfl rfl (RdL.blk hb2 rfl) ?_)))
    refine VA.go (VA.sub' rfl rfl rfl (by omega) (by omega) ?_)
    refine VA.go (VA.light rfl (light_idx (x.rows.length - 1) rfl rfl rfl rfl rfl (by omega) (by omega)) ?_)
    (repeat (first|refine yG (yN ?_)|refine yG (yD 0 rfl rfl rfl rfl rfl ?_)))
    refine VA.go (VA.load rfl rfl rfl (rc _ _ 0 _ rfl rfl) ?_)
    (repeat (first|refine yG (yN ?_)|refine yG (yD 0 rfl rfl rfl rfl rfl ?_)))
    exact VC.ret (Ret.tmp2 2 3 rfl rfl rfl Ent.refl ⟨by
      rw [RdsM.lastI, hgl]
      cases hR : R.l with
      | nil => exfalso; apply h1; rw [hR]; rfl
      | cons _ _ => rfl, rfl⟩)
end
theorem cloneM_spec (Fr : Nat → Prop) (w : World) {a : Option Addr} {cap : Nat} {l : List MemM} (h : RwIn memC 2 Fr w a l) (hl : l.length ≤ 1000000) :
    Tri Tryz.prog 222 [.slice a l.length cap] Fr w [] (fun v L => ∃ a' c', v = .slice a' l.length c' ∧ L = [slH memT 2 a' l.length c' (flat memC l)]) := by
  refine Tri.of 8 Tryz.func222 rfl (by kernel_rfl) tabOk rfl rfl ?_
  cases a with
  | none =>
    obtain rfl : l = [] := by
      cases l with
      | nil => rfl
      | cons x l => obtain ⟨b, o, h1, _⟩ := h.at_ (by simp); cases h1
    (repeat (first|refine zS ?_|refine zR ?_|refine zB ?_|refine zL ?_|refine zC ?_|refine zG (zN ?_)|refine zG (zD 0 rfl rfl rfl rfl ?_)))
    refine VC.condT rfl ?_
    (repeat (first|refine zS ?_|refine zR ?_|refine zB ?_|refine zL ?_|refine zC ?_|refine zG (zN ?_)|refine zG (zD 0 rfl rfl rfl rfl ?_)))
    exact VC.ret (Ret.tmp 2 rfl rfl (Imp.slNil Imp.nil).ent ⟨none, 0, rfl, rfl⟩)
  | some a =>
    (repeat (first|refine zS ?_|refine zR ?_|refine zB ?_|refine zL ?_|refine zC ?_|refine zG (zN ?_)|refine zG (zD 0 rfl rfl rfl rfl ?_)))
    refine VC.condF rfl (VC.skip ?_)
    refine VC.seq (VC.region (VO.go (VO.buildSlice (n := 0) (pv := []) [] rfl rfl rfl rfl (by decide) rfl fun b => ?_)))
    refine VO.ent (L' := [slH memT 2 (some ⟨b, 0, none⟩) 0 0 []]) (Imp.sl (M := []) (cs := []) (rest := []) rfl (Nat.le_refl _) rfl (Imp.refl (L := [pt b [] memT]))).ent ?_
    refine VO.go (VO.append (m := l.length) (news := flat memC l) 0 rfl rfl rfl rfl rfl rfl rfl (RwIn.row memC_len h) (flat_all memC_one _) (by show (0 + l.length) * 16 ≤ _; omega) (by omega) fun a' c' _ => ?_)
    rw [Nat.zero_add, List.nil_append]
    (repeat (first|refine zS ?_|refine zR ?_|refine zB ?_|refine zL ?_|refine zC ?_|refine zG (zN ?_)|refine zG (zD 0 rfl rfl rfl rfl ?_)))
    exact VC.ret (Ret.tmp 2 rfl rfl Ent.refl ⟨a', c', rfl, rfl⟩)
set_option maxRecDepth 100000 in
theorem own_spec (Fr : Nat → Prop) (w : World) (f : FrameM) {a : Option Addr} {cap : Nat} {ms : List MemM} (h : RwIn memC 2 Fr w a ms) (hl : ms.length ≤ 1000000) : Tri Tryz.prog 194 [.agg (fgC f (a, ms.length, cap)).toArray] Fr w [] (fun v L => (∃ m, v = .agg (fgC f m).toArray) ∧ L = []) := by
  refine Tri.of 10 Tryz.func194 rfl (by kernel_rfl) tabOk rfl rfl ?_
  refine VC.seq (VC.region (VO.go (VO.boxA (vs := fgC f (a, ms.length, cap)) rfl (fun b => VO.go (VO.alloc rfl fun c => VO.go (VO.nil ?_))))))
  (repeat (first|refine zS ?_|refine zR ?_|refine zB ?_|refine zL ?_|refine zC ?_|refine zG (zN ?_)|refine zG (zD 0 rfl rfl rfl rfl ?_)|refine zG (zD 1 rfl rfl rfl rfl ?_)))
  refine VO.go (VO.call (Lc := []) (fun Fr w hF hs _ => cloneM_spec Fr w (h.of hF hs) hl) rfl rfl ?_)
  rintro _ _ ⟨a', c', rfl, rfl⟩
  refine VO.go (VO.st 2 (cs' := fgC f (a', ms.length, c')) rfl rfl rfl rfl (by show 24 < 29; omega) rfl rfl (VO.go (VO.nil ?_)))
  refine VC.seq (VC.region (VO.go (VO.ldA 2 (fgC f (a', ms.length, c')) rfl rfl rfl rfl (VO.go (VO.stA (vs := fgC f (a', ms.length, c')) (cs' := fgC f (a', ms.length, c')) 1 rfl rfl rfl rfl (Nat.le_refl _) rfl rfl rfl (VO.go (VO.nil ?_)))))))
  exact VC.ret (Ret.cell 2 rfl rfl rfl (RdL.many 1 rfl rfl) Imp.nil.ent ⟨⟨_, rfl⟩, rfl⟩)
/-- What a read that is put makes of them. -/
def RdsM.put (R : RdsM) (f : FrameM) (r : ResM) : RdsM := if (R.l.length : Int) < R.cap then { R with last := R.last + 1, l := R.l ++ [⟨R.last + 1, f, r⟩] } else R
set_option maxRecDepth 100000 in
set_option maxHeartbeats 2000000 in
theorem put_spec (Fr : Nat → Prop) (w : World) (p : Nat) (R : RdsM) (hc : 1 ≤ R.cap) (hc1 : R.cap ≤ 16) (h0 : 0 ≤ R.last) (h1 : R.last ≤ 1000000000) (f : FrameM) {a : Option Addr} {cap : Nat} {ms : List MemM} (h : RwIn memC 2 Fr w a ms) (hl : ms.length ≤ 1000000) (r : ResM) :
    Tri Tryz.prog 135 [.pointer (some ⟨p, 0, none⟩), .agg (fgC f (a, ms.length, cap)).toArray, .agg (resC r).toArray] Fr w [rdsH p R]
      (fun v L => v = (if (R.l.length : Int) < R.cap then .tuple #[.int .i64 (R.last + 1), .int .i64 0] else .tuple #[.int .i64 0, .int .i64 60]) ∧ L = [rdsH p (R.put f r)]) := by
  refine Tri.of 50 Tryz.func135 rfl (by kernel_rfl) tabOk rfl rfl ?_
  refine VC.seq (VC.region (VO.go (VO.boxA (vs := fgC f (a, ms.length, cap)) rfl fun fb => VO.go (VO.boxA (vs := resC r) rfl fun rb => VO.go (VO.nil ?_)))))
  refine VC.opn 2 rfl (HOpn.rds p R) ?_
  rintro x hx
  have hlen := hx.len
  unfold rdsL
  show VC _ _ _ [pt p (rdsCs R x) rdsT, slH rdT 34 x.a x.rows.length x.c (flat rdC x.rows), pt rb (resC r) 42, pt fb (fgC f (a, ms.length, cap)) frT] _
  (repeat (first|refine zS ?_|refine zR ?_|refine zB ?_|refine zL ?_|refine zC ?_|refine zG (zN ?_)|refine zG (zD 0 rfl rfl rfl rfl ?_)))
  refine VO.go (VO.callV' (fun Fr w hF hs hS => none_spec Fr w (hS.blk 0 rfl) hc) rfl ?_)
  (repeat (first|refine zS ?_|refine zR ?_|refine zB ?_|refine zL ?_|refine zC ?_|refine zG (zN ?_)|refine zG (zD 0 rfl rfl rfl rfl ?_)))
  refine VC.condF rfl ?_
  refine VC.seq (VC.draw (ts 0 11 .nil) (by kernel_rfl) (by decide +kernel) ?_)
  (repeat (first|refine yG (yN ?_)|refine yG (yD 0 rfl rfl rfl rfl rfl ?_)))
  by_cases hfull : (R.l.length : Int) < R.cap
  · refine VC.condP rfl (fun h => by omega) (fun _ => VC.skip ?_)
    (repeat (first|refine zS ?_|refine zR ?_|refine zB ?_|refine zL ?_|refine zC ?_|refine zG (zN ?_)|refine zG (zD 0 rfl rfl rfl rfl ?_)))
    refine VO.go (VO.add rfl rfl (by omega) (by omega) ?_)
    refine VO.go (VO.st 0 (cs' := [.int .i64 R.cap, .int .i64 (R.last + 1), .slice x.a x.rows.length x.c]) rfl rfl rfl rfl (Nat.le_of_ble_eq_true rfl) rfl rfl ?_)
    refine VO.go (VO.nil ?_)
    refine VC.seq (VC.draw (ts 0 10 (.take 11 (.only 10 (.take 12 (.only 13 (.only 14 (ts 15 2 (.only 17 .nil)))))))) (by kernel_rfl) (by decide +kernel) ?_)
    (repeat (first|refine yG (yN ?_)|refine yG (yD 0 rfl rfl rfl rfl rfl ?_)))
    refine VA.go (VA.ldA 3 (fgC f (a, ms.length, cap)) rfl rfl rfl rfl rfl ?_)
    refine VA.go (VA.ldA 2 (resC r) rfl rfl rfl rfl rfl ?_)
    refine VA.go (VA.callP (φ := fun v => ∃ m, v = .agg (fgC f m).toArray) (fun Fr w hF hs hS => own_spec Fr w f (h.of hF hs) hl) rfl rfl (by (try refine Pd.st ?_);(repeat (first|exact Pd.nil|exact Pd.fnil|refine Pd.inner ?_|refine Pd.skip (by decide +kernel) ?_|refine zf (zo 0 rfl rfl) ?_|refine zf (zo 1 rfl rfl) ?_|refine zf (zo 2 rfl rfl) ?_|refine zf (zo 3 rfl rfl) ?_|refine zf (zm 0 rfl rfl) ?_|refine zf (zm 1 rfl rfl) ?_|refine zf (zm 2 rfl rfl) ?_|refine zf (zm 3 rfl rfl) ?_|refine zc (zo 0 rfl rfl) ?_|refine zc (zo 1 rfl rfl) ?_|refine zc (zo 2 rfl rfl) ?_|refine zc (zo 3 rfl rfl) ?_|refine zc (zm 0 rfl rfl) ?_|refine zc (zm 1 rfl rfl) ?_|refine zc (zm 2 rfl rfl) ?_|refine zc (zm 3 rfl rfl) ?_))) ?_)
    rintro _ ⟨m, rfl⟩
    refine VA.go (VA.light rfl (light_build (pv := [(0, .int .i64 (R.last + 1)), (1, .agg (fgC f m).toArray), (2, .agg (resC r).toArray)]) (rdC (⟨R.last + 1, f, r⟩, m)) rfl rfl rfl (by kernel_rfl) rfl) ?_)
    refine VA.go (VA.opP (OpT.buildSlice (n := 1) (pv := [(0, .agg (rdC (⟨R.last + 1, f, r⟩, m)).toArray)]) (cells := rdC (⟨R.last + 1, f, r⟩, m)) rfl rfl rfl rfl (by decide) (fill_one rfl rfl rfl)) rfl ?_ ?_)
    · rintro _ _ ⟨nb, rfl, rfl⟩
      exact (by (try refine Pd.st ?_);(repeat (first|exact Pd.nil|exact Pd.fnil|refine Pd.inner ?_|refine Pd.skip (by decide +kernel) ?_|refine zf (zo 0 rfl rfl) ?_|refine zf (zo 1 rfl rfl) ?_|refine zf (zo 2 rfl rfl) ?_|refine zf (zo 3 rfl rfl) ?_|refine zf (zo 4 rfl rfl) ?_|refine zf (zm 0 rfl rfl) ?_|refine zf (zm 1 rfl rfl) ?_|refine zf (zm 2 rfl rfl) ?_|refine zf (zm 3 rfl rfl) ?_|refine zf (zm 4 rfl rfl) ?_|refine zc (zo 0 rfl rfl) ?_|refine zc (zo 1 rfl rfl) ?_|refine zc (zo 2 rfl rfl) ?_|refine zc (zo 3 rfl rfl) ?_|refine zc (zo 4 rfl rfl) ?_|refine zc (zm 0 rfl rfl) ?_|refine zc (zm 1 rfl rfl) ?_|refine zc (zm 2 rfl rfl) ?_|refine zc (zm 3 rfl rfl) ?_|refine zc (zm 4 rfl rfl) ?_)))
    rintro _ _ ⟨nb, rfl, rfl⟩
    refine VA.go (VA.opP (OpT.append (m := 1) (news := rdC (⟨R.last + 1, f, r⟩, m)) 2 rfl rfl rfl rfl rfl rfl rfl (RdRow.pt 0 rfl rfl rfl) rfl (small_bytes (k := 101) (by omega) (by decide)) (by omega)) rfl ?_ ?_)
    · rintro _ _ ⟨a1, c1, rfl, hc1, rfl⟩
      exact (by (try refine Pd.st ?_);(repeat (first|exact Pd.nil|exact Pd.fnil|refine Pd.inner ?_|refine Pd.skip (by decide +kernel) ?_|refine zf (zo 0 rfl rfl) ?_|refine zf (zo 1 rfl rfl) ?_|refine zf (zo 2 rfl rfl) ?_|refine zf (zo 3 rfl rfl) ?_|refine zf (zo 4 rfl rfl) ?_|refine zf (zm 0 rfl rfl) ?_|refine zf (zm 1 rfl rfl) ?_|refine zf (zm 2 rfl rfl) ?_|refine zf (zm 3 rfl rfl) ?_|refine zf (zm 4 rfl rfl) ?_|refine zc (zo 0 rfl rfl) ?_|refine zc (zo 1 rfl rfl) ?_|refine zc (zo 2 rfl rfl) ?_|refine zc (zo 3 rfl rfl) ?_|refine zc (zo 4 rfl rfl) ?_|refine zc (zm 0 rfl rfl) ?_|refine zc (zm 1 rfl rfl) ?_|refine zc (zm 2 rfl rfl) ?_|refine zc (zm 3 rfl rfl) ?_|refine zc (zm 4 rfl rfl) ?_)))
    rintro _ _ ⟨a1, c1, rfl, hc1, rfl⟩
    (repeat (first|refine yG (yN ?_)|refine yG (yD 0 rfl rfl rfl rfl rfl ?_)|refine yG (yD 1 rfl rfl rfl rfl rfl ?_)|refine yG (yD 2 rfl rfl rfl rfl rfl ?_)|refine yG (yD 3 rfl rfl rfl rfl rfl ?_)|refine yG (yD 4 rfl rfl rfl rfl rfl ?_)))
    refine VA.go (VA.st 2 (cs' := [.int .i64 R.cap, .int .i64 (R.last + 1), .slice a1 (x.rows.length + 1) c1]) rfl rfl rfl rfl rfl (Nat.le_of_ble_eq_true rfl) rfl rfl (by (try refine Pd.st ?_);(repeat (first|exact Pd.nil|exact Pd.fnil|refine Pd.inner ?_|refine Pd.skip (by decide +kernel) ?_|refine zf (zo 0 rfl rfl) ?_|refine zf (zo 1 rfl rfl) ?_|refine zf (zo 2 rfl rfl) ?_|refine zf (zo 3 rfl rfl) ?_|refine zf (zo 4 rfl rfl) ?_|refine zf (zm 0 rfl rfl) ?_|refine zf (zm 1 rfl rfl) ?_|refine zf (zm 2 rfl rfl) ?_|refine zf (zm 3 rfl rfl) ?_|refine zf (zm 4 rfl rfl) ?_|refine zc (zo 0 rfl rfl) ?_|refine zc (zo 1 rfl rfl) ?_|refine zc (zo 2 rfl rfl) ?_|refine zc (zo 3 rfl rfl) ?_|refine zc (zo 4 rfl rfl) ?_|refine zc (zm 0 rfl rfl) ?_|refine zc (zm 1 rfl rfl) ?_|refine zc (zm 2 rfl rfl) ?_|refine zc (zm 3 rfl rfl) ?_|refine zc (zm 4 rfl rfl) ?_))) ?_)
    (repeat (first|refine yG (yN ?_)|refine yG (yD 0 rfl rfl rfl rfl rfl ?_)|refine yG (yD 1 rfl rfl rfl rfl rfl ?_)|refine yG (yD 2 rfl rfl rfl rfl rfl ?_)|refine yG (yD 3 rfl rfl rfl rfl rfl ?_)|refine yG (yD 4 rfl rfl rfl rfl rfl ?_)))
    (repeat (first|refine zS ?_|refine zR ?_|refine zB ?_|refine zL ?_|refine zC ?_|refine zG (zN ?_)|refine zG (zD 0 rfl rfl rfl rfl ?_)|refine zG (zD 1 rfl rfl rfl rfl ?_)|refine zG (zD 2 rfl rfl rfl rfl ?_)))
    have hput : R.put f r = { R with last := R.last + 1, l := R.l ++ [⟨R.last + 1, f, r⟩] } := by rw [RdsM.put, if_pos hfull]
    refine VC.ret (Ret.tmp2 6 7 rfl rfl rfl (Imp.rds ⟨a1, c1, x.rows ++ [(⟨R.last + 1, f, r⟩, m)]⟩ (R := R.put f r) ?_ ?_).ent ⟨by rw [if_pos hfull], rfl⟩)
    · rw [hput]; show List.map _ _ = _; rw [List.map_append, hx]; rfl
    · rw [hput]
      unfold rdsL rdsCs
      rw [List.length_append, flat_append, flat_cons, flat_nil, List.append_nil]
      exact Imp.pick 2 rfl (Imp.pick 0 rfl Imp.nil)
  · refine VC.condP rfl (fun h => ?_) (fun h => by omega)
    have hput : R.put f r = R := by rw [RdsM.put, if_neg hfull]
    (repeat (first|refine zS ?_|refine zR ?_|refine zB ?_|refine zL ?_|refine zC ?_|refine zG (zN ?_)|refine zG (zD 0 rfl rfl rfl rfl ?_)))
    exact VC.ret (Ret.tmp2 6 7 rfl rfl rfl (Imp.rds x hx (Imp.pick 0 rfl (Imp.pick 0 rfl Imp.nil))).ent ⟨by rw [if_neg hfull], by rw [hput]⟩)
end Go.Proofs.YtbbnmgakmcppdaaGreat.Rd
