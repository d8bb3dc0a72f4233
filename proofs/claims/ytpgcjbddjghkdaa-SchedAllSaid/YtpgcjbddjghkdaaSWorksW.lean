/- SchedWorks, walked through. No condition but the kinds' bounds. -/
import Derived.Test.YtpgcjbddjghkdaaSWorks
import Derived.Test.YtpgcjbddjghkdaaSCreditW
namespace Go.Proofs.Ytpgcjbddjghkdaa.SLaw
open Go Go.Proofs.Ytpgcjbddjghkdaa.Vg Go.Proofs.Ytpgcjbddjghkdaa.T Go.Proofs.Ytpgcjbddjghkdaa.Api Go.Proofs.Ytpgcjbddjghkdaa.Ring Go.Proofs.Ytpgcjbddjghkdaa.Sched
set_option linter.unusedSimpArgs false
set_option linter.unusedVariables false
attribute [local irreducible] VO VC VA

structure TurnM where
  cls : Int
  bytes : Int
  pop : Bool
def TurnM.cells (x : TurnM) : List Value := [.int .u8 x.cls, .int .u8 x.bytes, .bool x.pop]
structure TurnsIn (Fr : Nat → Prop) (w : World) (a : Option Addr) (l : List TurnM) : Prop where
  at_ : l ≠ [] → ∃ b off, a = some ⟨b, off, none⟩ ∧ Fr b ∧ ∀ i x, l[i]? = some x → (0 ≤ x.cls ∧ x.cls ≤ 255 ∧ 0 ≤ x.bytes ∧ x.bytes ≤ 255) ∧ ∀ j v, x.cells[j]? = some v → w.cell? ⟨b, off + i * 3 + j, none⟩ = some v

def rowsL (rows : List IL) : List HP := rows.map (IL.h 3)
def wL (p ib : Nat) (S : SchM) (rows : List IL) : List HP := schH p S :: pt ib (rows.map IL.v) 51 :: rowsL rows
theorem wL_v {rows : List IL} {k : Nat} {r : IL} (hr : rows[k]? = some r) : (rows.map IL.v)[0 + k * 1]? = some r.v := by rw [Nat.zero_add, Nat.mul_one, List.getElem?_map, hr]; rfl
theorem wL_h {rows : List IL} {k : Nat} {r : IL} {b : Nat} (hr : rows[k]? = some r) (hb : r.blk = some b) : (rowsL rows)[k]? = some (pt b r.cells 3) := by
  simp [rowsL, hr, IL.h, hb]

set_option maxRecDepth 100000 in
theorem works_spec (Fr : Nat → Prop) (w : World) (a b c : Int) (ha : 0 ≤ a ∧ a ≤ 65535) (hb : 0 ≤ b ∧ b ≤ 65535) (hc : 0 ≤ c ∧ c ≤ 65535) (ta : Option Addr) (tc : Nat) (l : List TurnM) (hl : TurnsIn Fr w ta l) :
    Tri Try.prog 7 [.agg ([.int .u16 a, .int .u16 b, .int .u16 c] : List Value).toArray, .slice ta l.length tc] Fr w [] (fun v L => v = .bool true ∧ L = []) := by
  refine Tri.of 224 Try.func7 rfl (by kernel_rfl) tabOk rfl rfl ?_
  refine VC.seq (VC.region (VO.go (VO.boxA (vs := [.int .u16 a, .int .u16 b, .int .u16 c]) rfl fun ab => VO.go (VO.nil ?_))))
  (repeat (first | refine VC.seq ?_ | refine VC.region ?_ | refine VC.block ?_ | refine VC.label ?_ | refine VC.scope ?_ | refine VO.go (VO.nil ?_) | refine VO.go (VO.ld 0 rfl rfl rfl rfl ?_)))
  refine VC.condP rfl (fun h0 => ?_) (fun h0 => VC.skip ?_)
  · (repeat (first | refine VC.seq ?_ | refine VC.region ?_ | refine VC.block ?_ | refine VC.label ?_ | refine VC.scope ?_ | refine VO.go (VO.nil ?_) | refine VO.go (VO.ld 0 rfl rfl rfl rfl ?_)))
    refine VO.go (VO.callV (fun Fr w => turned_spec Fr w) rfl (VO.go (VO.nil ?_)))
    exact VC.ret (Ret.bool 4 rfl rfl rfl Imp.nil.ent ⟨rfl, rfl⟩)
  have hlen : l.length ≤ 100 := by omega
  refine VC.seq (VC.region (VO.go (VO.light (light_idxA 0 rfl rfl rfl rfl rfl rfl (by omega)) ?_)))
  refine VO.go (VO.ld 0 rfl rfl rfl rfl (VO.go (VO.conv a rfl rfl rfl rfl rfl (i64_small ha.1 ha.2) ?_)))
  refine VO.go (VO.light (light_rem rfl rfl ha.1 (by omega)) ?_)
  refine VO.go (VO.add rfl rfl (by omega) (by omega) ?_)
  refine VO.go (VO.light (light_idxA 1 rfl rfl rfl rfl rfl rfl (by omega)) ?_)
  refine VO.go (VO.ld 0 rfl rfl rfl rfl (VO.go (VO.conv b rfl rfl rfl rfl rfl (i64_small hb.1 hb.2) ?_)))
  refine VO.go (VO.light (light_rem rfl rfl hb.1 (by omega)) ?_)
  refine VO.go (VO.add rfl rfl (by omega) (by omega) ?_)
  refine VO.go (VO.light (light_idxA 2 rfl rfl rfl rfl rfl rfl (by omega)) ?_)
  refine VO.go (VO.ld 0 rfl rfl rfl rfl (VO.go (VO.conv c rfl rfl rfl rfl rfl (i64_small hc.1 hc.2) ?_)))
  refine VO.go (VO.light (light_rem rfl rfl hc.1 (by omega)) ?_)
  refine VO.go (VO.add rfl rfl (by omega) (by omega) ?_)
  generalize hq0 : 96 + a % 1000 = q0
  generalize hq1 : 96 + b % 500 = q1
  generalize hq2 : 96 + c % 50 = q2
  have hok : newOk [q0, q1, q2] 16 = true := by simp [newOk, quantumOk]; omega
  refine VO.go (VO.buildSlice (n := 3) (pv := [(0, .int .i64 q0), (1, .int .i64 q1), (2, .int .i64 q2)]) [.int .i64 q0, .int .i64 q1, .int .i64 q2] rfl rfl rfl rfl (by decide) rfl fun qb => VO.go (VO.nil ?_))
  (repeat (first | refine VC.seq ?_ | refine VC.region ?_ | refine VC.block ?_ | refine VC.label ?_ | refine VC.scope ?_ | refine VO.go (VO.nil ?_) | refine VO.go (VO.ld 0 rfl rfl rfl rfl ?_)))
  refine VO.go (VO.call (Lc := []) (Lr := [pt qb [.int .i64 q0, .int .i64 q1, .int .i64 q2] 3, pt ab [.int .u16 a, .int .u16 b, .int .u16 c] 27]) (fun Fr w hF _ hs => sched_new_ok Fr w _ 3 [q0, q1, q2] 16 (IntsIn.blk (hs.blk 0 rfl) rfl) hok) rfl rfl ?_)
  rintro _ _ ⟨p, rfl, rfl⟩
  (repeat (first | refine VC.seq ?_ | refine VC.region ?_ | refine VC.block ?_ | refine VC.label ?_ | refine VC.scope ?_ | refine VO.go (VO.nil ?_) | refine VO.go (VO.ld 0 rfl rfl rfl rfl ?_)))
  refine VC.condNE rfl (fun h => absurd rfl h) (fun _ => VC.skip ?_)
  refine VC.seq (VC.region (VO.go (VO.alloc rfl fun ib => VO.go (VO.nil ?_))))
  (repeat (first | refine VC.seq ?_ | refine VC.region ?_ | refine VC.block ?_ | refine VC.label ?_ | refine VC.scope ?_ | refine VO.go (VO.nil ?_) | refine VO.go (VO.ld 0 rfl rfl rfl rfl ?_)))
  refine VC.loop (σ := Nat × SchM × List IL) (fun x => [(1, .slice ta l.length tc), (6, .pointer (some ⟨p, 0, none⟩)), (8, .pointer (some ⟨ib, 0, none⟩)), (9, .int .i64 x.1)]) (fun x => wL p ib x.2.1 x.2.2) (fun x => x.1 ≤ l.length ∧ WInv x.1 x.2.1 x.2.2) (fun x => l.length - x.1) (0, SchM.new [q0, q1, q2] 16, [IL.none, IL.none, IL.none]) ⟨Nat.zero_le _, WInv.start hok⟩ (Sub.cons rfl (Sub.cons rfl (Sub.cons rfl (Sub.cons rfl (Sub.nil _))))) ?_ ?_
  · refine (Imp.pick 1 rfl (Imp.pick 0 rfl (Imp.pure trivial (Imp.pure trivial (Imp.pure trivial Imp.nil))))).ent
  rintro ⟨i, S, rows⟩ ⟨hi, hW⟩
  dsimp only at hi hW ⊢
  (repeat (first | refine VC.seq ?_ | refine VC.region ?_ | refine VC.block ?_ | refine VC.label ?_ | refine VC.scope ?_ | refine VO.go (VO.nil ?_) | refine VO.go (VO.ld 0 rfl rfl rfl rfl ?_)))
  refine VC.condP rfl (fun h1 => ?_) (fun h1 => ?_)
  · have hi2 : i < l.length := by omega
    obtain ⟨tb, toff, rfl, hF, hcell⟩ := hl.at_ (fun e => by rw [e] at hi2; simp at hi2)
    obtain ⟨⟨hx1, hx2, hx3, hx4⟩, hcl⟩ := hcell i _ (List.getElem?_eq_getElem hi2)
    generalize l[i] = x at hx1 hx2 hx3 hx4 hcl
    have hc0 := hcl 0 _ rfl
    have hc1 := hcl 1 _ rfl
    have hc2 := hcl 2 _ rfl
    refine VC.skip ?_
    (repeat (first | refine VC.seq ?_ | refine VC.region ?_ | refine VC.block ?_ | refine VC.label ?_ | refine VC.scope ?_ | refine VO.go (VO.nil ?_) | refine VO.go (VO.ld 0 rfl rfl rfl rfl ?_)))
    refine VO.go (VO.light (light_idx i rfl rfl rfl rfl rfl rfl hi2) ?_)
    refine VO.go (VO.load rfl rfl (RdL.rd (v := .int .u8 x.cls) hF hc0) (VO.go (VO.conv x.cls rfl rfl rfl rfl rfl (i64_small hx1 (by omega)) (VO.go (VO.light (light_rem rfl rfl hx1 (by omega)) (VO.go (VO.nil ?_)))))))
    obtain ⟨k, hk⟩ := Int.eq_ofNat_of_zero_le (show 0 ≤ x.cls % 3 by omega)
    have hk3 : k < 3 := by omega
    rw [hk]
    refine VC.meet (σ := SchM × List IL) (fun _ => [(1, .slice (some ⟨tb, toff, none⟩) l.length tc), (6, .pointer (some ⟨p, 0, none⟩)), (8, .pointer (some ⟨ib, 0, none⟩)), (9, .int .i64 i)]) (fun y => wL p ib y.1 y.2) (fun y => WInv ((i + 1 : Nat) : Int) y.1 y.2) ?_ ?_
    · (repeat (first | refine VC.seq ?_ | refine VC.region ?_ | refine VC.block ?_ | refine VC.label ?_ | refine VC.scope ?_ | refine VO.go (VO.nil ?_) | refine VO.go (VO.ld 0 rfl rfl rfl rfl ?_)))
      refine VO.go (VO.light (light_idx i rfl rfl rfl rfl rfl rfl hi2) ?_)
      refine VO.go (VO.load rfl rfl (RdL.rd (v := .int .u8 x.bytes) hF hc1) (VO.go (VO.nil ?_)))
      refine VC.condP rfl (fun h2 => ?_) (fun h2 => ?_)
      · (repeat (first | refine VC.seq ?_ | refine VC.region ?_ | refine VC.block ?_ | refine VC.label ?_ | refine VC.scope ?_ | refine VO.go (VO.nil ?_) | refine VO.go (VO.ld 0 rfl rfl rfl rfl ?_)))
        refine VO.go (VO.sub' rfl rfl (by omega) (by omega) ?_)
        refine VO.go (VO.call (Lc := [schH p S]) (Lr := pt ib (rows.map IL.v) 51 :: rowsL rows) (fun Fr w _ _ _ => expire_spec Fr w p S ((i : Int) - 3)) rfl rfl ?_)
        rintro _ _ ⟨ga, gc, gs, hgs, rfl, rfl⟩
        refine VO.go (VO.nil ?_)
        generalize hnow : (i : Int) - 3 = now at hgs
        (repeat (first | refine VC.seq ?_ | refine VC.region ?_ | refine VC.block ?_ | refine VC.label ?_ | refine VC.scope ?_ | refine VO.go (VO.nil ?_) | refine VO.go (VO.ld 0 rfl rfl rfl rfl ?_)))
        refine VC.loop (σ := Nat × Nat × List IL) (fun y => [(1, .slice (some ⟨tb, toff, none⟩) l.length tc), (6, .pointer (some ⟨p, 0, none⟩)), (8, .pointer (some ⟨ib, 0, none⟩)), (9, .int .i64 i), (11, .slice ga gs.length gc), (12, .int .i64 y.2.1), (13, .int .i64 y.1)]) (fun y => schH p (S.expM now) :: frH ga gc gs :: pt ib (y.2.2.map IL.v) 51 :: rowsL y.2.2) (fun y => y.1 ≤ 3 ∧ ∃ qr, EInv i now S (S.goneM now) y.1 y.2.1 y.2.2 qr) (fun y => 3 - y.1) (0, 0, rows) ⟨by show 0 ≤ 3; omega, _, EInv.start hW⟩ (Sub.cons rfl (Sub.cons rfl (Sub.cons rfl (Sub.cons rfl (Sub.cons rfl (Sub.cons rfl (Sub.cons rfl (Sub.nil _)))))))) Ent.refl ?_
        rintro ⟨m, at0, rows0⟩ ⟨hm, qr0, hE0⟩
        dsimp only at hm hE0 ⊢
        (repeat (first | refine VC.seq ?_ | refine VC.region ?_ | refine VC.block ?_ | refine VC.label ?_ | refine VC.scope ?_ | refine VO.go (VO.nil ?_) | refine VO.go (VO.ld 0 rfl rfl rfl rfl ?_)))
        refine VC.condP rfl (fun h4 => ?_) (fun h4 => ?_)
        · have hm3 : m < 3 := by omega
          refine VC.skip ?_
          (repeat (first | refine VC.seq ?_ | refine VC.region ?_ | refine VC.block ?_ | refine VC.label ?_ | refine VC.scope ?_ | refine VO.go (VO.nil ?_) | refine VO.go (VO.ld 0 rfl rfl rfl rfl ?_)))
          refine VC.loop (σ := Nat × List IL) (fun y => [(1, .slice (some ⟨tb, toff, none⟩) l.length tc), (6, .pointer (some ⟨p, 0, none⟩)), (8, .pointer (some ⟨ib, 0, none⟩)), (9, .int .i64 i), (11, .slice ga gs.length gc), (12, .int .i64 y.1), (13, .int .i64 m)]) (fun y => schH p (S.expM now) :: frH ga gc gs :: pt ib (y.2.map IL.v) 51 :: rowsL y.2) (fun y => ∃ qr, EInv i now S (S.goneM now) m y.1 y.2 qr) (fun y => (S.goneM now).length - y.1) (at0, rows0) ⟨qr0, hE0⟩ (Sub.cons rfl (Sub.cons rfl (Sub.cons rfl (Sub.cons rfl (Sub.cons rfl (Sub.cons rfl (Sub.cons rfl (Sub.nil _)))))))) Ent.refl ?_
          rintro ⟨at1, rows1⟩ ⟨qr1, hE⟩
          dsimp only at hE ⊢
          obtain ⟨r, q, hr, hq, hrok, hl2, hg⟩ := hE.row hm3
          have hroom := hrok.room
          have hvm := wL_v hr
          (repeat (first | refine VC.seq ?_ | refine VC.region ?_ | refine VC.block ?_ | refine VC.label ?_ | refine VC.scope ?_ | refine VO.go (VO.nil ?_) | refine VO.go (VO.ld 0 rfl rfl rfl rfl ?_)))
          refine VO.go (VO.light (light_idxA m rfl rfl rfl rfl rfl rfl hm3) (VO.go (VO.ld 2 rfl rfl rfl hvm ?_)))
          refine VO.go (VO.split 77 rfl rfl (fun h5 => ?_) (fun h5 => ?_))
          · have h5 : (0 : Int) < r.xs.length := of_decide_eq_true h5
            obtain ⟨rb, roff, hb1, hb2, hb3⟩ := hrok.at_ (fun e => by rw [e] at h5; simp at h5)
            obtain ⟨x0, xs0, hrx⟩ : ∃ x0 xs0, r.xs = x0 :: xs0 := by
              cases hh : r.xs with
              | nil => rw [hh] at h5; simp at h5
              | cons a l => exact ⟨a, l, rfl⟩
            obtain ⟨raddr, rcap, rblk, rcells, rxs⟩ := r
            dsimp only at hb1 hb2 hb3 hrx hroom h5
            subst hb1; subst hb2; subst hrx
            have hpt := wL_h hr rfl
            have hx0 : rcells[roff + 0 * 1]? = some (.int .i64 x0) := hb3 0 x0 rfl
            refine VO.go (VO.light (light_idxA m rfl rfl rfl rfl rfl rfl hm3) (VO.go (VO.ld 2 rfl rfl rfl hvm ?_)))
            refine VO.go (VO.light (light_idx 0 rfl rfl rfl rfl rfl rfl (by simp)) (VO.go (VO.ld (m + 3) rfl hpt rfl hx0 ?_)))
            refine VO.go (VO.sub' rfl rfl (by omega) (by omega) ?_)
            refine VO.go (VO.nil (VC.condP rfl (fun h6 => VC.skip ?_) (fun h6 => VC.exit ?_)))
            · rw [hnow] at h6
              obtain ⟨f, qr', hG, hfs, hfc, hE'⟩ := hE.take hm3 hr rfl h6
              have hgi : (gs.map Prod.fst)[at1]? = some f := by rw [hgs]; exact hG
              rw [List.getElem?_map] at hgi
              obtain ⟨⟨f', mm⟩, hgm, rfl⟩ := Option.map_eq_some_iff.1 hgi
              dsimp only at hfs hfc
              have hglt : at1 < gs.length := (List.getElem?_eq_some_iff.1 hgm).1
              have hGl : gs.length = (S.goneM now).length := by rw [← hgs, List.length_map]
              have hg64 : gs.length ≤ 64 := by
                have := hW.wf.fewG S.cls.length now
                rw [List.take_length] at this
                rw [hGl]; exact this
              refine VC.opn 1 rfl (HOpn.sl _ _ _ _ _ _) fun y hy => ?_
              obtain ⟨hy1, hy2, hy3⟩ := hy
              cases y with
              | none => exact absurd hy3.2.1 (by omega)
              | some y =>
              obtain ⟨gb, grest⟩ := y
              obtain ⟨rfl, hy3⟩ := hy3
              have hc3 : (flat fmc gs ++ grest)[0 + at1 * 29 + 3]? = some (.int .i64 f'.seq) := by rw [Nat.zero_add]; exact flat_cell fmc_len hgm rfl grest
              have hc5 : (flat fmc gs ++ grest)[0 + at1 * 29 + 5]? = some (.int .i64 f'.cls) := by rw [Nat.zero_add]; exact flat_cell fmc_len hgm rfl grest
              refine VC.block ?_
              refine VC.seq ?_
              refine VC.seq ?_
              refine VC.draw (ts 0 26 .nil) (by kernel_rfl) (by kernel_rfl) ?_
              refine VA.go (VA.yes 91 false rfl (decide_eq_false (by omega)) ?_)
              refine VA.go (VA.light rfl (light_idx at1 rfl rfl rfl rfl rfl rfl hglt) ?_)
              refine VA.go (VA.ld 0 rfl rfl rfl rfl hc3 (VA.go (VA.light rfl (light_idxA m rfl rfl rfl rfl rfl rfl hm3) ?_)))
              refine VA.go (VA.ld 2 rfl rfl rfl rfl hvm (VA.go (VA.light rfl (light_idx 0 rfl rfl rfl rfl rfl rfl (by simp)) ?_)))
              refine VA.go (VA.ld (m + 3) rfl rfl hpt rfl hx0 ?_)
              refine VA.go (VA.yes 104 false rfl (by rw [hfs]; exact bne_self_eq_false _) ?_)
              refine VA.go (VA.light rfl (light_idx at1 rfl rfl rfl rfl rfl rfl hglt) ?_)
              refine VA.go (VA.ld 0 rfl rfl rfl rfl hc5 ?_)
              (repeat (first | refine VA.go (VA.nil ?_) | refine VA.go (VA.ld 0 rfl rfl rfl rfl rfl ?_)))
              refine VC.condNE rfl (fun h => absurd hfc h) (fun _ => VC.skip ?_)
              refine VC.draw (ts 0 9 (.only 9 .nil)) (by kernel_rfl) (by kernel_rfl) ?_
              refine VA.go (VA.add rfl rfl rfl (by omega) (by omega) ?_)
              refine VA.go (VA.light rfl (light_idxA m rfl rfl rfl rfl rfl rfl hm3) (VA.go (VA.ld 2 rfl rfl rfl rfl hvm ?_)))
              refine VA.go (VA.light rfl (light_tail (n := xs0.length) rfl rfl rfl rfl rfl hroom) (VA.go (VA.light rfl (light_idxA m rfl rfl rfl rfl rfl rfl hm3) ?_)))
              have hst : (rows1.map IL.v).set (0 + m * 1) (.slice (some (if rcap = 1 then ⟨rb, roff, none⟩ else ⟨rb, roff + 1, none⟩)) xs0.length (rcap - 1)) = (rows1.set m (IL.tail ⟨some ⟨rb, roff, none⟩, rcap, some rb, rcells, x0 :: xs0⟩)).map IL.v := by
                rw [List.map_set, Nat.zero_add, Nat.mul_one]; rfl
              refine VA.go (VA.st 2 rfl rfl rfl rfl rfl (by rw [List.length_map, hE.three]; show 0 + m * 1 < 3; omega) hst rfl (by (try refine Pd.st ?_); (repeat (first | exact Pd.nil | exact Pd.fnil | refine Pd.inner ?_ | refine Pd.skip (by decide +kernel) ?_ | refine Pd.fcons (RdL.one 0 rfl rfl) ?_ | refine Pd.fcons (RdL.many 0 rfl rfl) ?_ | refine Pd.fcons (RdL.blk (RdL.one 2 rfl hvm) rfl) ?_ | refine Pd.fcons ((RdL.one 2 rfl hvm)) ?_ | refine Pd.cons (RdL.one 0 rfl rfl) ?_ | refine Pd.cons (RdL.many 0 rfl rfl) ?_ | refine Pd.cons (RdL.blk (RdL.one 2 rfl hvm) rfl) ?_ | refine Pd.cons ((RdL.one 2 rfl hvm)) ?_))) ?_)
              (repeat (first | refine VA.go (VA.nil ?_) | refine VA.go (VA.ld 0 rfl rfl rfl rfl rfl ?_)))
              refine ⟨(at1 + 1, _), ⟨qr', hE'⟩, by dsimp only; omega, Sub.cons rfl (Sub.cons rfl (Sub.cons rfl (Sub.cons rfl (Sub.cons rfl (Sub.cons rfl (Sub.cons rfl (Sub.nil _))))))), ?_⟩
              have e9 : rowsL (rows1.set m (IL.tail ⟨some ⟨rb, roff, none⟩, rcap, some rb, rcells, x0 :: xs0⟩)) = rowsL rows1 := by
                simp only [rowsL, List.map_set]
                exact list_set_same (by rw [List.getElem?_map, hr]; rfl)
              dsimp only
              rw [e9]
              refine (Imp.pick 1 rfl ?_).ent
              exact Imp.sl (rest := grest) hy1 hy2 hy3 Imp.refl
            · rw [hnow] at h6
              (repeat (first | refine VC.seq ?_ | refine VC.region ?_ | refine VC.block ?_ | refine VC.label ?_ | refine VC.scope ?_ | refine VO.go (VO.nil ?_) | refine VO.go (VO.ld 0 rfl rfl rfl rfl ?_)))
              refine VO.go (VO.add rfl rfl (by omega) (by omega) ?_)
              (repeat (first | refine VC.seq ?_ | refine VC.region ?_ | refine VC.block ?_ | refine VC.label ?_ | refine VC.scope ?_ | refine VO.go (VO.nil ?_) | refine VO.go (VO.ld 0 rfl rfl rfl rfl ?_)))
              exact ⟨(m + 1, at1, rows1), ⟨hm3, qr1, hE.next hm3 hr (fun y hy => by obtain rfl := Option.some.inj hy; exact h6)⟩, by dsimp only; omega, Sub.cons rfl (Sub.cons rfl (Sub.cons rfl (Sub.cons rfl (Sub.cons rfl (Sub.cons rfl (Sub.cons rfl (Sub.nil _))))))), Ent.refl⟩
          · have h5 : ¬ (0 : Int) < r.xs.length := of_decide_eq_false h5
            have hnil : r.xs = [] := List.eq_nil_of_length_eq_zero (by omega)
            refine VO.go (VO.nil (VC.condF rfl (VC.exit ?_)))
            (repeat (first | refine VC.seq ?_ | refine VC.region ?_ | refine VC.block ?_ | refine VC.label ?_ | refine VC.scope ?_ | refine VO.go (VO.nil ?_) | refine VO.go (VO.ld 0 rfl rfl rfl rfl ?_)))
            refine VO.go (VO.add rfl rfl (by omega) (by omega) ?_)
            (repeat (first | refine VC.seq ?_ | refine VC.region ?_ | refine VC.block ?_ | refine VC.label ?_ | refine VC.scope ?_ | refine VO.go (VO.nil ?_) | refine VO.go (VO.ld 0 rfl rfl rfl rfl ?_)))
            exact ⟨(m + 1, at1, rows1), ⟨hm3, qr1, hE.next hm3 hr (by rw [hnil]; intro y hy; cases hy)⟩, by dsimp only; omega, Sub.cons rfl (Sub.cons rfl (Sub.cons rfl (Sub.cons rfl (Sub.cons rfl (Sub.cons rfl (Sub.cons rfl (Sub.nil _))))))), Ent.refl⟩
        · have hm3 : m = 3 := by omega
          subst hm3
          obtain ⟨hd1, hd2⟩ := hE0.done_all hW.wf hW.cap hW.qs3
          have hgl : gs.length = (S.goneM now).length := by rw [← hgs, List.length_map]
          refine VC.exit ?_
          (repeat (first | refine VC.seq ?_ | refine VC.region ?_ | refine VC.block ?_ | refine VC.label ?_ | refine VC.scope ?_ | refine VO.go (VO.nil ?_) | refine VO.go (VO.ld 0 rfl rfl rfl rfl ?_)))
          refine VC.condNE rfl (fun h => absurd (by omega) h) (fun _ => VC.skip ?_)
          exact ⟨(S.expM now, rows0), hd2.mono (by omega), Sub.cons rfl (Sub.cons rfl (Sub.cons rfl (Sub.cons rfl (Sub.nil _)))), (Imp.cons Imp.tl).ent⟩
      · (repeat (first | refine VC.seq ?_ | refine VC.region ?_ | refine VC.block ?_ | refine VC.label ?_ | refine VC.scope ?_ | refine VO.go (VO.nil ?_) | refine VO.go (VO.ld 0 rfl rfl rfl rfl ?_)))
        refine VO.go (VO.light (light_idx i rfl rfl rfl rfl rfl rfl hi2) ?_)
        refine VO.go (VO.load rfl rfl (RdL.rd (v := .bool x.pop) hF hc2) (VO.go (VO.nil ?_)))
        refine VC.cond (t := x.pop) rfl (fun h3 => ?_) (fun h3 => ?_)
        · obtain ⟨r0, r1, r2, hrows⟩ : ∃ r0 r1 r2, rows = [r0, r1, r2] := by
            match rows, hW.three with
            | [r0, r1, r2], _ => exact ⟨r0, r1, r2, rfl⟩
          have g0 : rows[0]? = some r0 := by rw [hrows]; rfl
          have g1 : rows[1]? = some r1 := by rw [hrows]; rfl
          have g2 : rows[2]? = some r2 := by rw [hrows]; rfl
          have w0 := hW.few (List.mem_of_getElem? g0)
          have w1 := hW.few (List.mem_of_getElem? g1)
          have w2 := hW.few (List.mem_of_getElem? g2)
          cases hpm : S.popM with
          | none =>
            have hz := hW.idle hpm
            have z0 := hz r0 (List.mem_of_getElem? g0)
            have z1 := hz r1 (List.mem_of_getElem? g1)
            have z2 := hz r2 (List.mem_of_getElem? g2)
            (repeat (first | refine VC.seq ?_ | refine VC.region ?_ | refine VC.block ?_ | refine VC.label ?_ | refine VC.scope ?_ | refine VO.go (VO.nil ?_) | refine VO.go (VO.ld 0 rfl rfl rfl rfl ?_)))
            refine VO.go (VO.callAt 0 (ψ := fun v H => v = .tuple #[.agg (fmc fmz).toArray, .bool false] ∧ H = schH p S) rfl (fun Fr w _ _ _ => Sched.pop_any Fr w p S hW.wf) rfl (fun v L1 h => by unfold Sched.popR at h; rw [hpm] at h; exact ⟨_, h.2, h.1, rfl⟩) ?_)
            rintro _ _ ⟨rfl, rfl⟩
            refine VO.go (VO.alloc rfl fun xb => VO.go (VO.stA (vs := fmc fmz) (cs' := fmc fmz) 0 rfl rfl rfl rfl (Nat.le_refl _) rfl rfl rfl (VO.go (VO.nil ?_))))
            (repeat (first | refine VC.seq ?_ | refine VC.region ?_ | refine VC.block ?_ | refine VC.label ?_ | refine VC.scope ?_ | refine VO.go (VO.nil ?_) | refine VO.go (VO.ld 0 rfl rfl rfl rfl ?_)))
            refine VO.go (VO.light (light_idxA 0 rfl rfl rfl rfl rfl rfl (by omega)) (VO.go (VO.ld 2 rfl rfl rfl (wL_v g0) ?_)))
            refine VO.go (VO.light (light_idxA 1 rfl rfl rfl rfl rfl rfl (by omega)) (VO.go (VO.ld 2 rfl rfl rfl (wL_v g1) ?_)))
            refine VO.go (VO.add rfl rfl (by omega) (by omega) ?_)
            refine VO.go (VO.light (light_idxA 2 rfl rfl rfl rfl rfl rfl (by omega)) (VO.go (VO.ld 2 rfl rfl rfl (wL_v g2) ?_)))
            refine VO.go (VO.add rfl rfl (by omega) (by omega) (VO.go (VO.nil ?_)))
            refine VC.cond (t := false) (by rw [z0, z1, z2]; rfl) (fun h => by cases h) (fun _ => VC.skip ?_)
            (repeat (first | refine VC.seq ?_ | refine VC.region ?_ | refine VC.block ?_ | refine VC.label ?_ | refine VC.scope ?_ | refine VO.go (VO.nil ?_) | refine VO.go (VO.ld 0 rfl rfl rfl rfl ?_)))
            refine VC.condF rfl (VC.skip ?_)
            exact ⟨(S, rows), hW.mono (by omega), Sub.cons rfl (Sub.cons rfl (Sub.cons rfl (Sub.cons rfl (Sub.nil _)))), Imp.tl.ent⟩
          | some fs =>
            obtain ⟨f, S1⟩ := fs
            obtain ⟨m, r, xs, hm3, hfm, hr, hrok, hrx, hnew⟩ := hW.pop hpm
            have hrlen := hW.few (List.mem_of_getElem? hr)
            have hroom := hrok.room
            obtain ⟨rb, roff, hb1, hb2, hb3⟩ := hrok.at_ (by rw [hrx]; simp)
            have hsum : (0 : Int) < r0.xs.length + r1.xs.length + r2.xs.length := by
              have : 0 < r.xs.length := by rw [hrx]; simp
              rw [hrows] at hr
              match m, hr with
              | 0, hr => obtain rfl := Option.some.inj hr; omega
              | 1, hr => obtain rfl := Option.some.inj hr; omega
              | 2, hr => obtain rfl := Option.some.inj hr; omega
            (repeat (first | refine VC.seq ?_ | refine VC.region ?_ | refine VC.block ?_ | refine VC.label ?_ | refine VC.scope ?_ | refine VO.go (VO.nil ?_) | refine VO.go (VO.ld 0 rfl rfl rfl rfl ?_)))
            refine VO.go (VO.callAt 0 (ψ := fun v H => (∃ mm, v = .tuple #[.agg (fmc (f, mm)).toArray, .bool true]) ∧ H = schH p S1) rfl (fun Fr w _ _ _ => Sched.pop_any Fr w p S hW.wf) rfl (fun v L1 h => by unfold Sched.popR at h; rw [hpm] at h; exact ⟨_, h.2, h.1, rfl⟩) ?_)
            rintro _ _ ⟨⟨mm, rfl⟩, rfl⟩
            refine VO.go (VO.alloc rfl fun xb => VO.go (VO.stA (vs := fmc (f, mm)) (cs' := fmc (f, mm)) 0 rfl rfl rfl rfl (Nat.le_refl _) rfl rfl rfl (VO.go (VO.nil ?_))))
            (repeat (first | refine VC.seq ?_ | refine VC.region ?_ | refine VC.block ?_ | refine VC.label ?_ | refine VC.scope ?_ | refine VO.go (VO.nil ?_) | refine VO.go (VO.ld 0 rfl rfl rfl rfl ?_)))
            refine VO.go (VO.light (light_idxA 0 rfl rfl rfl rfl rfl rfl (by omega)) (VO.go (VO.ld 2 rfl rfl rfl (wL_v g0) ?_)))
            refine VO.go (VO.light (light_idxA 1 rfl rfl rfl rfl rfl rfl (by omega)) (VO.go (VO.ld 2 rfl rfl rfl (wL_v g1) ?_)))
            refine VO.go (VO.add rfl rfl (by omega) (by omega) ?_)
            refine VO.go (VO.light (light_idxA 2 rfl rfl rfl rfl rfl rfl (by omega)) (VO.go (VO.ld 2 rfl rfl rfl (wL_v g2) ?_)))
            refine VO.go (VO.add rfl rfl (by omega) (by omega) (VO.go (VO.nil ?_)))
            refine VC.cond (t := false) (congrArg (fun y => some (Value.bool (true != y))) (decide_eq_true hsum)) (fun h => by cases h) (fun _ => VC.skip ?_)
            (repeat (first | refine VC.seq ?_ | refine VC.region ?_ | refine VC.block ?_ | refine VC.label ?_ | refine VC.scope ?_ | refine VO.go (VO.nil ?_) | refine VO.go (VO.ld 0 rfl rfl rfl rfl ?_)))
            refine VC.condT rfl ?_
            obtain ⟨raddr, rcap, rblk, rcells, rxs⟩ := r
            dsimp only at hb1 hb2 hb3 hrx hrlen hroom
            subst hb1; subst hb2
            have hvm := wL_v hr
            have hpt := wL_h hr rfl
            have hseq : rcells[roff + 0 * 1]? = some (.int .i64 f.seq) := hb3 0 f.seq (by rw [hrx]; rfl)
            refine VC.seq ?_
            refine VC.seq ?_
            refine VC.draw (ts 0 27 .nil) (by kernel_rfl) (by kernel_rfl) ?_
            (repeat (first | refine VA.go (VA.nil ?_) | refine VA.go (VA.ld 0 rfl rfl rfl rfl rfl ?_)))
            refine VA.go (VA.yes 153 false rfl (decide_eq_false (show ¬ f.cls < 0 by omega)) ?_)
            (repeat (first | refine VA.go (VA.nil ?_) | refine VA.go (VA.ld 0 rfl rfl rfl rfl rfl ?_)))
            refine VA.go (VA.yes 158 false rfl (decide_eq_false (show ¬ 2 < f.cls by omega)) ?_)
            refine VA.go (VA.ld 0 rfl rfl rfl rfl rfl (VA.go (VA.light rfl (light_idxA m rfl rfl rfl rfl rfl hfm hm3) ?_)))
            refine VA.go (VA.ld 2 rfl rfl rfl rfl hvm ?_)
            have hne : (((rxs.length : Nat) : Int) == 0) = false := beq_eq_false_iff_ne.2 (by rw [hrx]; simp; omega)
            refine VA.go (VA.yes 166 false rfl hne ?_)
            refine VA.go (VA.ld 0 rfl rfl rfl rfl rfl (VA.go (VA.light rfl (light_idxA m rfl rfl rfl rfl rfl hfm hm3) ?_)))
            refine VA.go (VA.ld 2 rfl rfl rfl rfl hvm ?_)
            refine VA.go (VA.light rfl (light_idx 0 rfl rfl rfl rfl rfl rfl (by rw [hrx]; simp)) ?_)
            refine VA.go (VA.ld (m + 3) rfl rfl hpt rfl hseq ?_)
            (repeat (first | refine VA.go (VA.nil ?_) | refine VA.go (VA.ld 0 rfl rfl rfl rfl rfl ?_)))
            refine VC.condNE rfl (fun h => absurd rfl h) (fun _ => VC.skip ?_)
            refine VC.draw (ts 0 8 (.only 8 .nil)) (by kernel_rfl) (by kernel_rfl) ?_
            refine VA.go (VA.ld 0 rfl rfl rfl rfl rfl (VA.go (VA.ld 0 rfl rfl rfl rfl rfl (VA.go (VA.light rfl (light_idxA m rfl rfl rfl rfl rfl hfm hm3) ?_)))))
            refine VA.go (VA.ld 2 rfl rfl rfl rfl hvm ?_)
            subst hrx
            refine VA.go (VA.light rfl (light_tail (n := xs.length) rfl rfl rfl rfl rfl hroom) (VA.go (VA.light rfl (light_idxA m rfl rfl rfl rfl rfl hfm hm3) ?_)))
            have hst : (rows.map IL.v).set (0 + m * 1) (.slice (some (if rcap = 1 then ⟨rb, roff, none⟩ else ⟨rb, roff + 1, none⟩)) xs.length (rcap - 1)) = (rows.set m (IL.tail ⟨some ⟨rb, roff, none⟩, rcap, some rb, rcells, f.seq :: xs⟩)).map IL.v := by
              rw [List.map_set, Nat.zero_add, Nat.mul_one]; rfl
            refine VA.go (VA.st 2 rfl rfl rfl rfl rfl (by rw [List.length_map, hW.three]; show 0 + m * 1 < 3; omega) hst rfl (by (try refine Pd.st ?_); (repeat (first | exact Pd.nil | exact Pd.fnil | refine Pd.inner ?_ | refine Pd.skip (by decide +kernel) ?_ | refine Pd.fcons (RdL.one 0 rfl rfl) ?_ | refine Pd.fcons (RdL.many 0 rfl rfl) ?_ | refine Pd.fcons (RdL.blk (RdL.one 2 rfl hvm) rfl) ?_ | refine Pd.fcons ((RdL.one 2 rfl hvm)) ?_ | refine Pd.cons (RdL.one 0 rfl rfl) ?_ | refine Pd.cons (RdL.many 0 rfl rfl) ?_ | refine Pd.cons (RdL.blk (RdL.one 2 rfl hvm) rfl) ?_ | refine Pd.cons ((RdL.one 2 rfl hvm)) ?_))) ?_)
            (repeat (first | refine VA.go (VA.nil ?_) | refine VA.go (VA.ld 0 rfl rfl rfl rfl rfl ?_)))
            refine ⟨(S1, _), (hnew.mono (by omega)), Sub.cons rfl (Sub.cons rfl (Sub.cons rfl (Sub.cons rfl (Sub.nil _)))), (Imp.trans Imp.tl (Imp.of_eq ?_)).ent⟩
            show _ :: _ :: rowsL rows = _ :: _ :: rowsL (rows.set m _)
            have e9 : rowsL (rows.set m (IL.tail ⟨some ⟨rb, roff, none⟩, rcap, some rb, rcells, f.seq :: xs⟩)) = rowsL rows := by
              simp only [rowsL, List.map_set]
              exact list_set_same (by rw [List.getElem?_map, hr]; rfl)
            rw [e9]
        · have hb64 : 0 ≤ x.bytes % 64 ∧ x.bytes % 64 ≤ 63 := by omega
          (repeat (first | refine VC.seq ?_ | refine VC.region ?_ | refine VC.block ?_ | refine VC.label ?_ | refine VC.scope ?_ | refine VO.go (VO.nil ?_) | refine VO.go (VO.ld 0 rfl rfl rfl rfl ?_)))
          refine VO.go (VO.light (light_idx i rfl rfl rfl rfl rfl rfl hi2) ?_)
          refine VO.go (VO.load rfl rfl (RdL.rd (v := .int .u8 x.bytes) hF hc1) (VO.go (VO.conv x.bytes rfl rfl rfl rfl rfl (i64_small hx3 (by omega)) (VO.go (VO.light (light_rem rfl rfl hx3 (by omega)) ?_)))))
          refine VO.go (VO.add rfl rfl (by omega) (by omega) ?_)
          refine VO.go (VO.callV (fun Fr w => put_spec Fr w k (17 + x.bytes % 64) i (by omega) (by omega)) rfl ?_)
          generalize hf : putM k (17 + x.bytes % 64) i = f0
          refine VO.go (VO.alloc rfl fun fb => VO.go (VO.stA (vs := fmc (f0, (none, 0))) (cs' := fmc (f0, (none, 0))) 0 rfl rfl rfl rfl (Nat.le_refl _) rfl rfl rfl (VO.go (VO.nil ?_))))
          (repeat (first | refine VC.seq ?_ | refine VC.region ?_ | refine VC.block ?_ | refine VC.label ?_ | refine VC.scope ?_ | refine VO.go (VO.nil ?_) | refine VO.go (VO.ld 0 rfl rfl rfl rfl ?_)))
          refine VO.go (VO.st 0 (cs' := fmc ({ f0 with deadline := i }, (none, 0))) rfl rfl rfl rfl (by show 6 < 29; omega) rfl rfl (VO.go (VO.nil ?_)))
          (repeat (first | refine VC.seq ?_ | refine VC.region ?_ | refine VC.block ?_ | refine VC.label ?_ | refine VC.scope ?_ | refine VO.go (VO.nil ?_) | refine VO.go (VO.ld 0 rfl rfl rfl rfl ?_)))
          refine VO.go (VO.ldA 0 (fmc ({ f0 with deadline := i }, (none, 0))) rfl rfl rfl rfl ?_)
          obtain ⟨r, q, hr, hq, hrok, hl2, hg⟩ := hW.row hk3
          have hcase := hW.push (f := { f0 with deadline := i }) hk3 (by rw [← hf]; rfl) (by rw [← hf]; rfl) rfl (by rw [← hf]; exact put_check k _ i (by omega) (by omega)) hr
          refine VO.go (VO.callAt 1 (ψ := fun v H => v = .int .i64 (S.pushM { f0 with deadline := i }).1 ∧ H = schH p (S.pushM { f0 with deadline := i }).2) rfl (fun Fr w _ _ _ => Sched.push_spec Fr w p S ({ f0 with deadline := i }, (none, 0))) rfl (fun v L1 ⟨h1, h2⟩ => ⟨_, h2, h1, rfl⟩) ?_)
          rintro _ _ ⟨rfl, rfl⟩
          refine VO.go (VO.nil ?_)
          rcases hcase with ⟨he, hroom, hnew⟩ | ⟨he, hnew⟩
          · refine VC.condE rfl (fun _ => ?_) (fun h => absurd he h)
            have hfew := hW.few (List.mem_of_getElem? hr)
            refine VC.region (VO.go (VO.light (light_idxA k rfl rfl rfl rfl rfl rfl hk3) (VO.go (VO.ld 2 rfl rfl rfl (wL_v hr) ?_))))
            refine VO.ent (Imp.slNil (el := 3) (esz := 1) Imp.refl).ent ?_
            refine VO.go (VO.append (m := r.xs.length) (news := r.xs.map fun x => .int .i64 x) 0 rfl rfl rfl rfl rfl rfl rfl (IL.rd hrok (t := 3) (k + 4) (fun b hb => wL_h hr hb)) (by simp [Value.oneCell']) (by show (0 + r.xs.length) * 8 ≤ _; omega) (by omega) fun a1 c1 hc1' => ?_)
            refine VO.go (VO.buildSlice (n := 1) (pv := [(0, .int .i64 i)]) [.int .i64 i] rfl rfl rfl rfl (by decide) rfl fun nb => ?_)
            refine VO.go (VO.append (m := 1) (news := [.int .i64 i]) 1 rfl rfl rfl rfl rfl rfl rfl (RdRow.pt 0 rfl rfl rfl) rfl (by show (0 + r.xs.length + 1) * 8 ≤ _; omega) (by omega) fun a2 c2 hc2' => ?_)
            refine VO.opn 0 rfl (HOpn.sl _ _ _ _ _ _) fun y hy => ?_
            obtain ⟨hy1, hy2, hy3⟩ := hy
            cases y with
            | none => exact absurd hy3.2.1 (by omega)
            | some y =>
              obtain ⟨b2, rest⟩ := y
              obtain ⟨rfl, hy3⟩ := hy3
              dsimp only
              have hL1 : (r.xs ++ [(i : Int)]).length = r.xs.length + 1 := by simp
              have hst : (rows.map IL.v).set (0 + k * 1) (.slice (some ⟨b2, 0, none⟩) (0 + r.xs.length + 1) c2) = (rows.set k (IL.new b2 c2 (r.xs ++ [(i : Int)]) rest)).map IL.v := by
                rw [List.map_set, Nat.zero_add, Nat.mul_one]
                show _ = (rows.map IL.v).set k (.slice (some ⟨b2, 0, none⟩) (r.xs ++ [(i : Int)]).length c2)
                rw [hL1, Nat.zero_add]
              refine VO.go (VO.light (light_idxA k rfl rfl rfl rfl rfl rfl hk3) (VO.go (VO.st 4 rfl rfl rfl rfl (by rw [List.length_map, hW.three]; show 0 + k * 1 < 3; omega) hst rfl (VO.go (VO.nil ?_)))))
              refine ⟨(_, rows.set k (IL.new b2 c2 (r.xs ++ [(i : Int)]) rest)), hnew _ (IL.new_ok (by rw [hL1]; omega)) rfl, Sub.cons rfl (Sub.cons rfl (Sub.cons rfl (Sub.cons rfl (Sub.nil _)))), ?_⟩
              refine (Imp.pick 3 rfl ?_).ent
              refine Imp.pick 3 rfl ?_
              have e9 : rowsL (rows.set k (IL.new b2 c2 (r.xs ++ [(i : Int)]) rest)) = (rowsL rows).set k (pt b2 ((r.xs ++ [(i : Int)]).map (fun x => Value.int .i64 x) ++ rest) 3) := by
                simp only [rowsL, List.map_set]; rfl
              show Imp _ (rowsL (rows.set k (IL.new b2 c2 (r.xs ++ [(i : Int)]) rest)))
              rw [e9, List.map_append, List.map_singleton]
              refine Imp.trans (Imp.cons (Imp.trans Imp.tl Imp.tl)) (Imp.put k ?_)
              show k < (rowsL rows).length
              simp only [rowsL, List.length_map, hW.three]; exact hk3
          · refine VC.condE rfl (fun h => by rw [he] at h; cases h) (fun _ => VC.skip ?_)
            exact ⟨(_, rows), hnew, Sub.cons rfl (Sub.cons rfl (Sub.cons rfl (Sub.cons rfl (Sub.nil _)))), Imp.tl.ent⟩
    · rintro ⟨S, rows⟩ hW
      dsimp only at hW ⊢
      (repeat (first | refine VC.seq ?_ | refine VC.region ?_ | refine VC.block ?_ | refine VC.label ?_ | refine VC.scope ?_ | refine VO.go (VO.nil ?_) | refine VO.go (VO.ld 0 rfl rfl rfl rfl ?_)))
      refine VC.loop (σ := Nat) (fun m => [(1, .slice (some ⟨tb, toff, none⟩) l.length tc), (6, .pointer (some ⟨p, 0, none⟩)), (8, .pointer (some ⟨ib, 0, none⟩)), (9, .int .i64 i), (17, .int .i64 m)]) (fun _ => wL p ib S rows) (fun m => m ≤ 3) (fun m => 3 - m) 0 (by omega) (Sub.cons rfl (Sub.cons rfl (Sub.cons rfl (Sub.cons rfl (Sub.cons rfl (Sub.nil _)))))) Ent.refl ?_
      intro m hm
      (repeat (first | refine VC.seq ?_ | refine VC.region ?_ | refine VC.block ?_ | refine VC.label ?_ | refine VC.scope ?_ | refine VO.go (VO.nil ?_) | refine VO.go (VO.ld 0 rfl rfl rfl rfl ?_)))
      refine VC.condP rfl (fun h4 => ?_) (fun h4 => ?_)
      · have hm3 : m < 3 := by omega
        obtain ⟨r, q, hr, hq, hrok, hl2, hg⟩ := hW.row hm3
        have hlen2 : S.lenM m = r.xs.length := by rw [len_qs, hq, ← hl2, List.length_map]
        refine VC.skip ?_
        (repeat (first | refine VC.seq ?_ | refine VC.region ?_ | refine VC.block ?_ | refine VC.label ?_ | refine VC.scope ?_ | refine VO.go (VO.nil ?_) | refine VO.go (VO.ld 0 rfl rfl rfl rfl ?_)))
        refine VC.draw (ts 0 2 (ts 3 4 (.only 2 (.take 7 .nil)))) (by kernel_rfl) (by kernel_rfl) ?_
        refine VA.go (VA.light rfl (light_idxA m rfl rfl rfl rfl rfl rfl hm3) ?_)
        refine VA.go (VA.ld 1 rfl rfl rfl rfl (wL_v hr) ?_)
        refine VA.go (VA.callP (φ := fun v => v = .int .i64 (S.lenM m)) (fun Fr w hF _ hs => Sched.len_spec Fr w m (hs.at_ 0 rfl)) rfl rfl (by (try refine Pd.st ?_); (repeat (first | exact Pd.nil | exact Pd.fnil | refine Pd.inner ?_ | refine Pd.skip (by decide +kernel) ?_ | refine Pd.fcons (RdL.blk (RdL.one 1 rfl (wL_v hr)) rfl) ?_ | refine Pd.fcons ((RdL.one 1 rfl (wL_v hr))) ?_ | refine Pd.cons (RdL.blk (RdL.one 1 rfl (wL_v hr)) rfl) ?_ | refine Pd.cons ((RdL.one 1 rfl (wL_v hr))) ?_))) ?_)
        rintro _ rfl
        (repeat (first | refine VA.go (VA.nil ?_) | refine VA.go (VA.ld 0 rfl rfl rfl rfl rfl ?_)))
        refine VC.condNE rfl (fun h => absurd hlen2 h) (fun _ => VC.skip ?_)
        (repeat (first | refine VC.seq ?_ | refine VC.region ?_ | refine VC.block ?_ | refine VC.label ?_ | refine VC.scope ?_ | refine VO.go (VO.nil ?_) | refine VO.go (VO.ld 0 rfl rfl rfl rfl ?_)))
        refine VO.go (VO.add rfl rfl (by omega) (by omega) ?_)
        (repeat (first | refine VC.seq ?_ | refine VC.region ?_ | refine VC.block ?_ | refine VC.label ?_ | refine VC.scope ?_ | refine VO.go (VO.nil ?_) | refine VO.go (VO.ld 0 rfl rfl rfl rfl ?_)))
        exact ⟨m + 1, hm3, by dsimp only; omega, Sub.cons rfl (Sub.cons rfl (Sub.cons rfl (Sub.cons rfl (Sub.cons rfl (Sub.nil _))))), Ent.refl⟩
      · refine VC.exit ?_
        (repeat (first | refine VC.seq ?_ | refine VC.region ?_ | refine VC.block ?_ | refine VC.label ?_ | refine VC.scope ?_ | refine VO.go (VO.nil ?_) | refine VO.go (VO.ld 0 rfl rfl rfl rfl ?_)))
        refine VO.go (VO.add rfl rfl (by omega) (by omega) ?_)
        (repeat (first | refine VC.seq ?_ | refine VC.region ?_ | refine VC.block ?_ | refine VC.label ?_ | refine VC.scope ?_ | refine VO.go (VO.nil ?_) | refine VO.go (VO.ld 0 rfl rfl rfl rfl ?_)))
        exact ⟨(i + 1, S, rows), ⟨hi2, hW⟩, by dsimp only; omega, Sub.cons rfl (Sub.cons rfl (Sub.cons rfl (Sub.cons rfl (Sub.nil _)))), Ent.refl⟩
  · refine VC.exit ?_
    (repeat (first | refine VC.seq ?_ | refine VC.region ?_ | refine VC.block ?_ | refine VC.label ?_ | refine VC.scope ?_ | refine VO.go (VO.nil ?_) | refine VO.go (VO.ld 0 rfl rfl rfl rfl ?_)))
    refine VO.go (VO.callV (fun Fr w => turned_spec Fr w) rfl (VO.go (VO.nil ?_)))
    exact VC.ret (Ret.bool 4 rfl rfl rfl Imp.nil.ent ⟨rfl, rfl⟩)
end Go.Proofs.Ytpgcjbddjghkdaa.SLaw
