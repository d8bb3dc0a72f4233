/- SchedAll, walked through. No condition but the kinds' bounds. -/
import Derived.Test.YtpgcjbddjghkdaaSAll
import Derived.Test.YtpgcjbddjghkdaaSWorksW
namespace Go.Proofs.Ytpgcjbddjghkdaa.SLaw
open Go Go.Proofs.Ytpgcjbddjghkdaa.Vg Go.Proofs.Ytpgcjbddjghkdaa.T Go.Proofs.Ytpgcjbddjghkdaa.Api Go.Proofs.Ytpgcjbddjghkdaa.Ring Go.Proofs.Ytpgcjbddjghkdaa.Sched
set_option linter.unusedSimpArgs false
set_option linter.unusedVariables false
attribute [local irreducible] VO VC VA

/-- A list that only grows. -/
structure G1 where
  a : Option Addr
  cap : Nat
  xs : List Int
def G1.v (g : G1) : Value := .slice g.a g.xs.length g.cap
def G1.h (g : G1) : HP := slH 3 1 g.a g.xs.length g.cap (g.xs.map fun x => .int .i64 x)
def G1.il (g : G1) : IL := IL.new 0 g.xs.length g.xs []
theorem g1_open : ∀ (gs : List G1) (F : List Nat) (w : World), Sats (gs.map G1.h) F w → ∃ rows : List IL, rows.map IL.v = gs.map G1.v ∧ rows.map IL.xs = gs.map G1.xs ∧ (∀ r ∈ rows, r.Ok) ∧ Sats (rowsL rows) F w
  | [], F, w, h => ⟨[], rfl, rfl, fun r hr => (by cases hr), h⟩
  | g :: gs, F, w, ⟨ids, G, hF, hid, hG⟩ => by
    obtain ⟨rows, h1, h2, h3, h4⟩ := g1_open gs G w hG
    obtain ⟨hc, ⟨ha, hn, hcap, hids⟩ | ⟨b, rest, ha, hids, hn, hl, hh⟩⟩ := hid
    · obtain ⟨a, cap, xs⟩ := g
      dsimp only at ha hn hcap
      subst ha; subst hcap
      obtain rfl := List.eq_nil_of_length_eq_zero hn
      refine ⟨IL.none :: rows, by simp only [List.map_cons, h1]; rfl, by simp only [List.map_cons, h2]; rfl, fun r hr => ?_, ids, G, hF, ⟨hids, trivial⟩, h4⟩
      rcases List.mem_cons.1 hr with rfl | hr
      · exact IL.none_ok
      · exact h3 r hr
    · obtain ⟨a, cap, xs⟩ := g
      dsimp only at ha hn hl hh
      subst ha
      refine ⟨IL.new b cap xs rest :: rows, by simp only [List.map_cons, h1]; rfl, by simp only [List.map_cons, h2]; rfl, fun r hr => ?_, ids, G, hF, ⟨hids, hh⟩, h4⟩
      rcases List.mem_cons.1 hr with rfl | hr
      · exact IL.new_ok hn
      · exact h3 r hr
def gL (p ib : Nat) (S : SchM) (gs : List G1) : List HP := schH p S :: pt ib (gs.map G1.v) 51 :: gs.map G1.h
theorem gL_v {gs : List G1} {k : Nat} {g : G1} (hr : gs[k]? = some g) : (gs.map G1.v)[0 + k * 1]? = some g.v := by rw [Nat.zero_add, Nat.mul_one, List.getElem?_map, hr]; rfl
theorem gL_open {X : Cx} {p ib : Nat} {S : SchM} {gs : List G1} (w : World) (h : St X (gL p ib S gs) w) : ∃ rows : List IL, (rows.map IL.v = gs.map G1.v ∧ rows.map IL.xs = gs.map G1.xs ∧ ∀ r ∈ rows, r.Ok) ∧ St X (wL p ib S rows) w := by
  obtain ⟨F, hs, hn, hb⟩ := h.sat
  obtain ⟨A, B, rfl, hA, hB⟩ := Sats.append (L := [schH p S, pt ib (gs.map G1.v) 51]) (M := gs.map G1.h) |>.1 hs
  obtain ⟨rows, h1, h2, h3, h4⟩ := g1_open gs B w hB
  refine ⟨rows, ⟨h1, h2, h3⟩, ⟨⟨A ++ B, ?_, hn, hb⟩, h.keep, h.low⟩⟩
  have := Sats.append (L := [schH p S, pt ib (rows.map IL.v) 51]) (M := rowsL rows) |>.2 ⟨A, B, rfl, by rw [h1]; exact hA, h4⟩
  exact this
theorem g1_il_ok (gs : List G1) : ∀ r ∈ gs.map G1.il, r.Ok := fun r hr => by
  obtain ⟨g, _, rfl⟩ := List.mem_map.1 hr
  exact IL.new_ok (Nat.le_refl _)
def sumL (gs : List G1) : Nat := (gs.map fun g => g.xs.length).sum

theorem sumL_set : ∀ (gs : List G1) (k : Nat) (g g' : G1), gs[k]? = some g → g'.xs.length = g.xs.length + 1 → sumL (gs.set k g') = sumL gs + 1
  | [], k, g, g', h, _ => by simp at h
  | x :: gs, 0, g, g', h, hl => by
    obtain rfl := Option.some.inj h
    simp only [sumL, List.set_cons_zero, List.map_cons, List.sum_cons, hl]; omega
  | x :: gs, k + 1, g, g', h, hl => by
    have := sumL_set gs k g g' (by simpa using h) hl
    simp only [sumL, List.set_cons_succ, List.map_cons, List.sum_cons] at this ⊢
    omega

theorem sumL_le : ∀ (gs : List G1), (∀ g ∈ gs, g.xs.length ≤ 16) → sumL gs ≤ gs.length * 16
  | [], _ => by simp [sumL]
  | g :: gs, h => by
    have := sumL_le gs (fun x hx => h x (List.mem_cons_of_mem _ hx))
    have := h g (by simp)
    simp only [sumL, List.map_cons, List.sum_cons, List.length_cons] at *
    omega

structure AInv (q0 q1 q2 : Int) (i : Nat) (S : SchM) (gs : List G1) : Prop where
  w : VInv S (gs.map G1.il)
  fine : Fine S
  calm : CalmS q0 q1 q2 S
  room : ∀ g ∈ gs, g.xs.length ≤ g.cap

def Lg (q0 q1 q2 : Int) : Nat → Int
  | 0 => 0
  | 1 => (q0 + 96) / 17 + 1
  | 2 => (q0 + 96) / 17 + 1 + (q1 + 96) / 17 + 1
  | _ => (q0 + 96) / 17 + 1 + (q1 + 96) / 17 + 1 + (q2 + 96) / 17 + 1
theorem Lg_succ (q0 q1 q2 : Int) {k : Nat} (h : k < 3) : Lg q0 q1 q2 k + (Q3 q0 q1 q2 k + 96) / 17 + 1 = Lg q0 q1 q2 (k + 1) := by
  match k, h with
  | 0, _ => simp [Lg, Q3]
  | 1, _ => rfl
  | 2, _ => rfl
def ilSum (rows : List IL) : Nat := (rows.map fun r => r.xs.length).sum
theorem ilSum_le : ∀ (rows : List IL), (∀ r ∈ rows, r.xs.length ≤ 16) → ilSum rows ≤ rows.length * 16
  | [], _ => by simp [ilSum]
  | r :: rows, h => by
    have := ilSum_le rows (fun x hx => h x (List.mem_cons_of_mem _ hx))
    have := h r (by simp)
    simp only [ilSum, List.map_cons, List.sum_cons, List.length_cons] at *
    omega
theorem ilSum_set : ∀ (rows : List IL) (k : Nat) (r r' : IL), rows[k]? = some r → r.xs.length = r'.xs.length + 1 → ilSum rows = ilSum (rows.set k r') + 1
  | [], k, r, r', h, _ => by simp at h
  | x :: rows, 0, r, r', h, hl => by
    obtain rfl := Option.some.inj h
    simp only [ilSum, List.set_cons_zero, List.map_cons, List.sum_cons, hl]; omega
  | x :: rows, k + 1, r, r', h, hl => by
    have := ilSum_set rows k r r' (by simpa using h) hl
    simp only [ilSum, List.set_cons_succ, List.map_cons, List.sum_cons] at this ⊢
    omega
def agoF (l : List Int) (k : Nat) : Int := l[k]?.getD 0
structure AllI (q0 q1 q2 : Int) (x : Nat × SchM × List IL × List Int) : Prop where
  v : VInv x.2.1 x.2.2.1
  fine : Fine x.2.1
  bal : Bal (Q3 q0 q1 q2) (agoF x.2.2.2) x.2.1
  sum : x.1 = ilSum x.2.2.1
  ago : x.2.2.2.length = 3
  most : ∀ (k : Nat) (v : Int), x.2.2.2[k]? = some v → 0 ≤ v ∧ v ≤ Lg q0 q1 q2 3
def newAgo (f : FrameM) (rows : List IL) (l : List Int) (k : Nat) : Int := if f.cls = k ∨ (rows[k]?.map IL.xs) = some [] then 0 else agoF l k + 1

set_option maxRecDepth 100000 in
theorem all_spec (Fr : Nat → Prop) (w : World) (a b c : Int) (ha : 0 ≤ a ∧ a ≤ 65535) (hb : 0 ≤ b ∧ b ≤ 65535) (hc : 0 ≤ c ∧ c ≤ 65535) (ta : Option Addr) (tc : Nat) (l : List TurnM) (hl : TurnsIn Fr w ta l) :
    Tri Try.prog 6 [.agg ([.int .u16 a, .int .u16 b, .int .u16 c] : List Value).toArray, .slice ta l.length tc] Fr w [] (fun v L => v = .bool true ∧ L = []) := by
  refine Tri.of 198 Try.func6 rfl (by kernel_rfl) tabOk rfl rfl ?_
  refine VC.seq (VC.region (VO.go (VO.boxA (vs := [.int .u16 a, .int .u16 b, .int .u16 c]) rfl fun ab => VO.go (VO.nil ?_))))
  (repeat (first | refine VC.seq ?_ | refine VC.region ?_ | refine VC.block ?_ | refine VC.label ?_ | refine VC.scope ?_ | refine VO.go (VO.nil ?_) | refine VO.go (VO.ld 0 rfl rfl rfl rfl ?_)))
  refine VC.condP rfl (fun h0 => ?_) (fun h0 => VC.skip ?_)
  · (repeat (first | refine VC.seq ?_ | refine VC.region ?_ | refine VC.block ?_ | refine VC.label ?_ | refine VC.scope ?_ | refine VO.go (VO.nil ?_) | refine VO.go (VO.ld 0 rfl rfl rfl rfl ?_)))
    refine VO.go (VO.callV (fun Fr w => turned_spec Fr w) rfl (VO.go (VO.nil ?_)))
    exact VC.ret (Ret.bool 4 rfl rfl rfl Imp.nil.ent ⟨rfl, rfl⟩)
  have hlen : l.length ≤ 60 := by omega
  refine VC.seq (VC.region (VO.go (VO.light (light_idxA 0 rfl rfl rfl rfl rfl rfl (by omega)) ?_)))
  refine VO.go (VO.ld 0 rfl rfl rfl rfl (VO.go (VO.conv a rfl rfl rfl rfl rfl (i64_small ha.1 ha.2) ?_)))
  refine VO.go (VO.light (light_rem rfl rfl ha.1 (by omega)) ?_)
  refine VO.go (VO.add rfl rfl (by omega) (by omega) ?_)
  refine VO.go (VO.light (light_idxA 1 rfl rfl rfl rfl rfl rfl (by omega)) ?_)
  refine VO.go (VO.ld 0 rfl rfl rfl rfl (VO.go (VO.conv b rfl rfl rfl rfl rfl (i64_small hb.1 hb.2) ?_)))
  refine VO.go (VO.light (light_rem rfl rfl hb.1 (by omega)) ?_)
  refine VO.go (VO.add rfl rfl (by omega) (by omega) ?_)
  refine VO.go (VO.light (light_idxA 2 rfl rfl rfl rfl rfl rfl (by omega)) ?_)
  refine VO.go (VO.ld 0 rfl rfl rfl rfl (VO.go (VO.conv c rfl rfl rfl rfl rfl (i64_small hc.1 hc.2) ?_)))
  refine VO.go (VO.light (light_rem rfl rfl hc.1 (by omega)) ?_)
  refine VO.go (VO.add rfl rfl (by omega) (by omega) ?_)
  generalize hq0 : 96 + a % 1000 = q0
  generalize hq1 : 96 + b % 500 = q1
  generalize hq2 : 96 + c % 50 = q2
  have hok : newOk [q0, q1, q2] 16 = true := by simp [newOk, quantumOk]; omega
  refine VO.go (VO.buildSlice (n := 3) (pv := [(0, .int .i64 q0), (1, .int .i64 q1), (2, .int .i64 q2)]) [.int .i64 q0, .int .i64 q1, .int .i64 q2] rfl rfl rfl rfl (by decide) rfl fun qb => VO.go (VO.nil ?_))
  (repeat (first | refine VC.seq ?_ | refine VC.region ?_ | refine VC.block ?_ | refine VC.label ?_ | refine VC.scope ?_ | refine VO.go (VO.nil ?_) | refine VO.go (VO.ld 0 rfl rfl rfl rfl ?_)))
  refine VO.go (VO.call (Lc := []) (Lr := [pt qb [.int .i64 q0, .int .i64 q1, .int .i64 q2] 3, pt ab [.int .u16 a, .int .u16 b, .int .u16 c] 27]) (fun Fr w hF _ hs => sched_new_ok Fr w _ 3 [q0, q1, q2] 16 (IntsIn.blk (hs.blk 0 rfl) rfl) hok) rfl rfl ?_)
  rintro _ _ ⟨p, rfl, rfl⟩
  (repeat (first | refine VC.seq ?_ | refine VC.region ?_ | refine VC.block ?_ | refine VC.label ?_ | refine VC.scope ?_ | refine VO.go (VO.nil ?_) | refine VO.go (VO.ld 0 rfl rfl rfl rfl ?_)))
  refine VC.condNE rfl (fun h => absurd rfl h) (fun _ => VC.skip ?_)
  have hQ0 : 96 ≤ q0 ∧ q0 ≤ 1100 := by omega
  have hQ1 : 96 ≤ q1 ∧ q1 ≤ 1100 := by omega
  have hQ2 : 96 ≤ q2 ∧ q2 ≤ 1100 := by omega
  refine VC.seq (VC.region (VO.go (VO.alloc rfl fun ib => VO.go (VO.nil ?_))))
  (repeat (first | refine VC.seq ?_ | refine VC.region ?_ | refine VC.block ?_ | refine VC.label ?_ | refine VC.scope ?_ | refine VO.go (VO.nil ?_) | refine VO.go (VO.ld 0 rfl rfl rfl rfl ?_)))
  refine VC.loop (σ := Nat × SchM × List G1) (fun x => [(1, .slice ta l.length tc), (5, .slice (some ⟨qb, 0, none⟩) 3 3), (6, .pointer (some ⟨p, 0, none⟩)), (8, .pointer (some ⟨ib, 0, none⟩)), (9, .int .i64 (sumL x.2.2)), (10, .int .i64 x.1)]) (fun x => gL p ib x.2.1 x.2.2 ++ [pt qb [.int .i64 q0, .int .i64 q1, .int .i64 q2] 3]) (fun x => x.1 ≤ l.length ∧ AInv q0 q1 q2 x.1 x.2.1 x.2.2) (fun x => l.length - x.1) (0, SchM.new [q0, q1, q2] 16, [⟨none, 0, []⟩, ⟨none, 0, []⟩, ⟨none, 0, []⟩]) ⟨Nat.zero_le _, ?_⟩ (Sub.cons rfl (Sub.cons rfl (Sub.cons rfl (Sub.cons rfl (Sub.cons rfl (Sub.cons rfl (Sub.nil _))))))) ?_ ?_
  · have hW0 := WInv.start hok
    refine ⟨vinv_xs (rows' := [G1.il ⟨none, 0, []⟩, G1.il ⟨none, 0, []⟩, G1.il ⟨none, 0, []⟩]) (rows := [IL.none, IL.none, IL.none]) rfl ⟨hW0.wf, hW0.cap, hW0.three, hW0.qs3, hW0.ok, fun k r q h1 h2 => (hW0.link k r q h1 h2).1⟩ (g1_il_ok [⟨none, 0, []⟩, ⟨none, 0, []⟩, ⟨none, 0, []⟩]), ?_, ⟨rfl, rfl, clsNew q0, clsNew q1, clsNew q2, rfl, rfl, rfl, rfl, rfl, rfl, rfl⟩, fun g hg => ?_⟩
    · intro k q hq f hf
      match k, hq with
      | 0, hq => obtain rfl : [] = q := Option.some.inj hq; cases hf
      | 1, hq => obtain rfl : [] = q := Option.some.inj hq; cases hf
      | 2, hq => obtain rfl : [] = q := Option.some.inj hq; cases hf
      | n + 3, hq => cases hq
    · simp only [List.mem_cons, List.not_mem_nil, or_false, or_self] at hg
      subst hg; exact Nat.le_refl _
  · refine (Imp.pick 1 rfl (Imp.pick 0 rfl (Imp.slNil (Imp.slNil (Imp.slNil ?_))))).ent
    exact Imp.app (L := [_]) (M := [_]) Imp.refl Imp.nil
  rintro ⟨i, S, gs⟩ ⟨hi, hA⟩
  dsimp only at hi hA ⊢
  (repeat (first | refine VC.seq ?_ | refine VC.region ?_ | refine VC.block ?_ | refine VC.label ?_ | refine VC.scope ?_ | refine VO.go (VO.nil ?_) | refine VO.go (VO.ld 0 rfl rfl rfl rfl ?_)))
  refine VC.condP rfl (fun h1 => ?_) (fun h1 => ?_)
  · have hi2 : i < l.length := by omega
    obtain ⟨tb, toff, rfl, hF, hcell⟩ := hl.at_ (fun e => by rw [e] at hi2; simp at hi2)
    obtain ⟨⟨hx1, hx2, hx3, hx4⟩, hcl⟩ := hcell i _ (List.getElem?_eq_getElem hi2)
    generalize l[i] = x at hx1 hx2 hx3 hx4 hcl
    have hc0 := hcl 0 _ rfl
    have hc1 := hcl 1 _ rfl
    refine VC.skip ?_
    (repeat (first | refine VC.seq ?_ | refine VC.region ?_ | refine VC.block ?_ | refine VC.label ?_ | refine VC.scope ?_ | refine VO.go (VO.nil ?_) | refine VO.go (VO.ld 0 rfl rfl rfl rfl ?_)))
    refine VO.go (VO.light (light_idx i rfl rfl rfl rfl rfl rfl hi2) ?_)
    refine VO.go (VO.load rfl rfl (RdL.rd (v := .int .u8 x.cls) hF hc0) (VO.go (VO.conv x.cls rfl rfl rfl rfl rfl (i64_small hx1 (by omega)) (VO.go (VO.light (light_rem rfl rfl hx1 (by omega)) (VO.go (VO.nil ?_)))))))
    obtain ⟨k, hk⟩ := Int.eq_ofNat_of_zero_le (show 0 ≤ x.cls % 3 by omega)
    have hk3 : k < 3 := by omega
    rw [hk]
    have hb64 : 0 ≤ x.bytes % 64 ∧ x.bytes % 64 ≤ 63 := by omega
    obtain ⟨g, hg⟩ : ∃ g, gs[k]? = some g := ⟨_, List.getElem?_eq_getElem (by have := hA.w.three; rw [List.length_map] at this; omega)⟩
    have hgroom := hA.room g (List.mem_of_getElem? hg)
    have hgil : (gs.map G1.il)[k]? = some g.il := by rw [List.getElem?_map, hg]; rfl
    have hgl : gs.length = 3 := by have := hA.w.three; rwa [List.length_map] at this
    obtain ⟨r', q, hr', hq, _, hl2⟩ := hA.w.row hk3
    rw [hgil] at hr'
    obtain rfl := Option.some.inj hr'
    have hxq : g.xs.length = q.length := by
      have : g.il.xs = g.xs := rfl
      rw [← this, ← hl2, List.length_map]
    (repeat (first | refine VC.seq ?_ | refine VC.region ?_ | refine VC.block ?_ | refine VC.label ?_ | refine VC.scope ?_ | refine VO.go (VO.nil ?_) | refine VO.go (VO.ld 0 rfl rfl rfl rfl ?_)))
    refine VO.go (VO.light (light_idx i rfl rfl rfl rfl rfl rfl hi2) ?_)
    refine VO.go (VO.load rfl rfl (RdL.rd (v := .int .u8 x.bytes) hF hc1) (VO.go (VO.conv x.bytes rfl rfl rfl rfl rfl (i64_small hx3 (by omega)) (VO.go (VO.light (light_rem rfl rfl hx3 (by omega)) ?_)))))
    refine VO.go (VO.add rfl rfl (by omega) (by omega) ?_)
    refine VO.go (VO.callV (fun Fr w => put_spec Fr w k (17 + x.bytes % 64) i (by omega) (by omega)) rfl ?_)
    have hf1 : (putM k (17 + x.bytes % 64) i).cls = (k : Nat) := rfl
    have hf2 : (putM k (17 + x.bytes % 64) i).seq = i := rfl
    have hf3 := put_check k (17 + x.bytes % 64) i (by omega) (by omega)
    have hf4 := put_cost k (17 + x.bytes % 64) i (by omega) (by omega)
    generalize putM k (17 + x.bytes % 64) i = f0 at hf1 hf2 hf3 hf4
    have hfine := hA.fine.push hf1 hq hf3 hf4
    have hcalm := hA.calm.push f0
    have hcase := hA.w.push hk3 hf1 hf3 hgil
    have hfew : g.xs.length ≤ 16 := hA.w.few (r := g.il) (List.mem_of_getElem? hgil)
    have hsum : sumL gs ≤ 60 := by
      have := sumL_le gs (fun y hy => hA.w.few (r := y.il) (List.mem_map.2 ⟨y, hy, rfl⟩))
      omega
    refine VO.go (VO.callAt 0 (ψ := fun v H => v = .int .i64 (S.pushM f0).1 ∧ H = schH p (S.pushM f0).2) rfl (fun Fr w _ _ _ => Sched.push_spec Fr w p S (f0, (none, 0))) rfl (fun v L1 ⟨h1, h2⟩ => ⟨_, h2, h1, rfl⟩) ?_)
    rintro _ _ ⟨rfl, rfl⟩
    (repeat (first | refine VC.seq ?_ | refine VC.region ?_ | refine VC.block ?_ | refine VC.label ?_ | refine VC.scope ?_ | refine VO.go (VO.nil ?_) | refine VO.go (VO.ld 0 rfl rfl rfl rfl ?_)))
    refine VO.go (VO.light (light_idxA k rfl rfl rfl rfl rfl rfl hk3) (VO.go (VO.ld 1 rfl rfl rfl (gL_v hg) (VO.go (VO.nil ?_)))))
    rcases hcase with ⟨he, hroom, hnew⟩ | ⟨he, hroom, hnew⟩
    · have hroom : g.xs.length < 16 := hroom
      rw [he]
      refine VC.cond (t := false) (congrArg (fun y => some (Value.bool (true != y))) (decide_eq_true (show (g.xs.length : Int) < 16 by omega))) (fun h => by cases h) (fun _ => VC.skip ?_)
      (repeat (first | refine VC.seq ?_ | refine VC.region ?_ | refine VC.block ?_ | refine VC.label ?_ | refine VC.scope ?_ | refine VO.go (VO.nil ?_) | refine VO.go (VO.ld 0 rfl rfl rfl rfl ?_)))
      refine VC.condE rfl (fun _ => ?_) (fun h => absurd rfl h)
      refine VC.seq (VC.region (VO.go (VO.light (light_idxA k rfl rfl rfl rfl rfl rfl hk3) (VO.go (VO.ld 1 rfl rfl rfl (gL_v hg) ?_)))))
      refine VO.go (VO.buildSlice (n := 1) (pv := [(0, .int .i64 i)]) [.int .i64 i] rfl rfl rfl rfl (by decide) rfl fun nb => ?_)
      have hLk : (gs.map G1.h ++ [pt qb [.int .i64 q0, .int .i64 q1, .int .i64 q2] 3])[k]? = some (slH 3 1 g.a g.xs.length g.cap (g.xs.map fun x => .int .i64 x)) := by
        rw [List.getElem?_append_left (by simp; omega), List.getElem?_map, hg]; rfl
      refine VO.go (VO.append (m := 1) (news := [.int .i64 i]) (k + 3) rfl rfl hLk rfl rfl rfl rfl (RdRow.pt 0 rfl rfl rfl) rfl (by show (g.xs.length + 1) * 8 ≤ _; omega) (by omega) fun a1 c1 hc1' => ?_)
      have hL1 : (g.xs ++ [(i : Int)]).length = g.xs.length + 1 := by simp
      have hst : (gs.map G1.v).set (0 + k * 1) (.slice a1 (g.xs.length + 1) c1) = (gs.set k ⟨a1, c1, g.xs ++ [(i : Int)]⟩).map G1.v := by
        rw [List.map_set, Nat.zero_add, Nat.mul_one]
        show _ = (gs.map G1.v).set k (.slice a1 (g.xs ++ [(i : Int)]).length c1)
        rw [hL1]
      refine VO.go (VO.light (light_idxA k rfl rfl rfl rfl rfl rfl hk3) (VO.go (VO.st 3 rfl rfl rfl rfl (by rw [List.length_map, hgl]; show 0 + k * 1 < 3; omega) hst rfl (VO.go (VO.nil ?_)))))
      (repeat (first | refine VC.seq ?_ | refine VC.region ?_ | refine VC.block ?_ | refine VC.label ?_ | refine VC.scope ?_ | refine VO.go (VO.nil ?_) | refine VO.go (VO.ld 0 rfl rfl rfl rfl ?_)))
      refine VO.go (VO.add rfl rfl (by omega) (by omega) ?_)
      (repeat (first | refine VC.seq ?_ | refine VC.region ?_ | refine VC.block ?_ | refine VC.label ?_ | refine VC.scope ?_ | refine VO.go (VO.nil ?_) | refine VO.go (VO.ld 0 rfl rfl rfl rfl ?_)))
      refine VO.go (VO.add rfl rfl (by omega) (by omega) ?_)
      (repeat (first | refine VC.seq ?_ | refine VC.region ?_ | refine VC.block ?_ | refine VC.label ?_ | refine VC.scope ?_ | refine VO.go (VO.nil ?_) | refine VO.go (VO.ld 0 rfl rfl rfl rfl ?_)))
      have hss := sumL_set gs k g ⟨a1, c1, g.xs ++ [(i : Int)]⟩ hg hL1
      refine ⟨(i + 1, (S.pushM f0).2, gs.set k ⟨a1, c1, g.xs ++ [(i : Int)]⟩), ⟨hi2, ?_, hfine, hcalm, ?_⟩, by dsimp only; omega, Sub.cons rfl (Sub.cons rfl (Sub.cons rfl (Sub.cons rfl (Sub.int rfl (by dsimp only; rw [hss]; push_cast; rfl) (Sub.cons rfl (Sub.nil _)))))), ?_⟩
      · have := hnew (G1.il ⟨a1, c1, g.xs ++ [(i : Int)]⟩) (IL.new_ok (Nat.le_refl _)) (by rw [hf2]; rfl)
        rw [List.map_set]; exact this
      · intro y hy
        rcases List.mem_or_eq_of_mem_set hy with hy | rfl
        · exact hA.room y hy
        · dsimp only; rw [hL1]; exact hc1'
      · refine (Imp.pick 2 rfl ?_).ent
        refine Imp.pick 2 rfl ?_
        have e8 : slH 3 1 a1 (g.xs.length + 1) c1 ((g.xs.map fun x => Value.int .i64 x) ++ [.int .i64 i]) = G1.h ⟨a1, c1, g.xs ++ [(i : Int)]⟩ := by
          simp only [G1.h, hL1, List.map_append, List.map_singleton]
        have e9 : (gs.set k ⟨a1, c1, g.xs ++ [(i : Int)]⟩).map G1.h ++ [pt qb [.int .i64 q0, .int .i64 q1, .int .i64 q2] 3] = (gs.map G1.h ++ [pt qb [.int .i64 q0, .int .i64 q1, .int .i64 q2] 3]).set k (G1.h ⟨a1, c1, g.xs ++ [(i : Int)]⟩) := by
          rw [List.set_append_left _ _ (by simp; omega), List.map_set]
        show Imp (slH 3 1 a1 (g.xs.length + 1) c1 ((g.xs.map fun x => Value.int .i64 x) ++ [.int .i64 i]) :: pt nb [.int .i64 i] 3 :: (gs.map G1.h ++ [pt qb [.int .i64 q0, .int .i64 q1, .int .i64 q2] 3]).eraseIdx k) _
        rw [e8]
        refine Imp.trans (Imp.cons Imp.tl) ?_
        show Imp _ ((gs.set k ⟨a1, c1, g.xs ++ [(i : Int)]⟩).map G1.h ++ [pt qb [.int .i64 q0, .int .i64 q1, .int .i64 q2] 3])
        rw [e9]
        exact Imp.perm (perm_set _ (by simp; omega))
    · have hroom : ¬ g.xs.length < 16 := hroom
      rw [he]
      refine VC.cond (t := false) (congrArg (fun y => some (Value.bool (false != y))) (decide_eq_false (show ¬ (g.xs.length : Int) < 16 by omega))) (fun h => by cases h) (fun _ => VC.skip ?_)
      (repeat (first | refine VC.seq ?_ | refine VC.region ?_ | refine VC.block ?_ | refine VC.label ?_ | refine VC.scope ?_ | refine VO.go (VO.nil ?_) | refine VO.go (VO.ld 0 rfl rfl rfl rfl ?_)))
      refine VC.condE rfl (fun h => by cases h) (fun _ => VC.skip ?_)
      (repeat (first | refine VC.seq ?_ | refine VC.region ?_ | refine VC.block ?_ | refine VC.label ?_ | refine VC.scope ?_ | refine VO.go (VO.nil ?_) | refine VO.go (VO.ld 0 rfl rfl rfl rfl ?_)))
      refine VO.go (VO.add rfl rfl (by omega) (by omega) ?_)
      (repeat (first | refine VC.seq ?_ | refine VC.region ?_ | refine VC.block ?_ | refine VC.label ?_ | refine VC.scope ?_ | refine VO.go (VO.nil ?_) | refine VO.go (VO.ld 0 rfl rfl rfl rfl ?_)))
      exact ⟨(i + 1, (S.pushM f0).2, gs), ⟨hi2, hnew, hfine, hcalm, hA.room⟩, by dsimp only; omega, Sub.cons rfl (Sub.cons rfl (Sub.cons rfl (Sub.cons rfl (Sub.cons rfl (Sub.cons rfl (Sub.nil _)))))), Ent.refl⟩
  · have hgl : gs.length = 3 := by have := hA.w.three; rwa [List.length_map] at this
    refine VC.exit ?_
    (repeat (first | refine VC.seq ?_ | refine VC.region ?_ | refine VC.block ?_ | refine VC.label ?_ | refine VC.scope ?_ | refine VO.go (VO.nil ?_) | refine VO.go (VO.ld 0 rfl rfl rfl rfl ?_)))
    refine VC.loop (σ := Nat) (fun m => [(5, .slice (some ⟨qb, 0, none⟩) 3 3), (6, .pointer (some ⟨p, 0, none⟩)), (8, .pointer (some ⟨ib, 0, none⟩)), (9, .int .i64 (sumL gs)), (13, .int .i64 (Lg q0 q1 q2 m)), (14, .int .i64 m)]) (fun _ => gL p ib S gs ++ [pt qb [.int .i64 q0, .int .i64 q1, .int .i64 q2] 3]) (fun m => m ≤ 3) (fun m => 3 - m) 0 (by omega) (Sub.cons rfl (Sub.cons rfl (Sub.cons rfl (Sub.cons rfl (Sub.cons rfl (Sub.cons rfl (Sub.nil _))))))) Ent.refl ?_
    intro m hm
    (repeat (first | refine VC.seq ?_ | refine VC.region ?_ | refine VC.block ?_ | refine VC.label ?_ | refine VC.scope ?_ | refine VO.go (VO.nil ?_) | refine VO.go (VO.ld 0 rfl rfl rfl rfl ?_)))
    refine VC.condP rfl (fun h2 => ?_) (fun h2 => ?_)
    · have hm3 : m < 3 := by omega
      have hqm : ([.int .i64 q0, .int .i64 q1, .int .i64 q2] : List Value)[0 + m * 1]? = some (.int .i64 (Q3 q0 q1 q2 m)) := by
        match m, hm3 with
        | 0, _ => rfl
        | 1, _ => rfl
        | 2, _ => rfl
      have hq3 : 96 ≤ Q3 q0 q1 q2 m ∧ Q3 q0 q1 q2 m ≤ 1100 := by
        match m, hm3 with
        | 0, _ => exact hQ0
        | 1, _ => exact hQ1
        | 2, _ => exact hQ2
      have hlg : 0 ≤ Lg q0 q1 q2 m ∧ Lg q0 q1 q2 m ≤ 1000 := by
        match m, hm3 with
        | 0, _ => simp [Lg]
        | 1, _ => simp only [Lg]; omega
        | 2, _ => simp only [Lg]; omega
      have hLq : (gL p ib S gs ++ [pt qb [.int .i64 q0, .int .i64 q1, .int .i64 q2] 3])[5]? = some (pt qb [.int .i64 q0, .int .i64 q1, .int .i64 q2] 3) := by
        rw [List.getElem?_append_right (by simp [gL, hgl])]; simp [gL, hgl]
      have hnext := Lg_succ q0 q1 q2 hm3
      refine VC.skip ?_
      (repeat (first | refine VC.seq ?_ | refine VC.region ?_ | refine VC.block ?_ | refine VC.label ?_ | refine VC.scope ?_ | refine VO.go (VO.nil ?_) | refine VO.go (VO.ld 0 rfl rfl rfl rfl ?_)))
      refine VO.go (VO.light (light_idx m rfl rfl rfl rfl rfl rfl hm3) (VO.go (VO.ld 5 rfl hLq rfl hqm ?_)))
      refine VO.go (VO.add rfl rfl (by omega) (by omega) ?_)
      refine VO.go (VO.light (light_quo ((Q3 q0 q1 q2 m + 96) / 17) rfl rfl (by omega) (by omega) (i64_in _ (by omega) (by omega))) ?_)
      refine VO.go (VO.add rfl rfl (by omega) (by omega) ?_)
      refine VO.go (VO.add rfl rfl (by omega) (by omega) (VO.go (VO.nil ?_)))
      (repeat (first | refine VC.seq ?_ | refine VC.region ?_ | refine VC.block ?_ | refine VC.label ?_ | refine VC.scope ?_ | refine VO.go (VO.nil ?_) | refine VO.go (VO.ld 0 rfl rfl rfl rfl ?_)))
      refine VO.go (VO.add rfl rfl (by omega) (by omega) ?_)
      (repeat (first | refine VC.seq ?_ | refine VC.region ?_ | refine VC.block ?_ | refine VC.label ?_ | refine VC.scope ?_ | refine VO.go (VO.nil ?_) | refine VO.go (VO.ld 0 rfl rfl rfl rfl ?_)))
      exact ⟨m + 1, hm3, by dsimp only; omega, Sub.cons rfl (Sub.cons rfl (Sub.cons rfl (Sub.cons rfl (Sub.int rfl hnext (Sub.cons rfl (Sub.nil _)))))), Ent.refl⟩
    have hm3 : m = 3 := by omega
    subst hm3
    refine VC.exit ?_
    refine VC.ent (L' := gL p ib S gs) (Imp.trans (Imp.app (L := gL p ib S gs) Imp.refl Imp.nil) (Imp.of_eq (List.append_nil _))).ent ?_
    refine VC.exs _ _ gL_open fun rows hrows => ?_
    obtain ⟨hr1, hr2, hr3⟩ := hrows
    have hV : VInv S rows := vinv_xs (by rw [hr2, List.map_map]; rfl) hA.w hr3
    have hsum : sumL gs = ilSum rows := by
      have e1 : (rows.map IL.xs).map List.length = (gs.map G1.xs).map List.length := by rw [hr2]
      rw [List.map_map, List.map_map] at e1
      unfold sumL ilSum
      exact congrArg List.sum e1.symm
    rw [hsum]
    have hbal := hA.calm.bal (by omega) (by omega) (by omega)
    refine VC.seq (VC.region (VO.go (VO.alloc rfl fun ab2 => VO.go (VO.nil ?_))))
    (repeat (first | refine VC.seq ?_ | refine VC.region ?_ | refine VC.block ?_ | refine VC.label ?_ | refine VC.scope ?_ | refine VO.go (VO.nil ?_) | refine VO.go (VO.ld 0 rfl rfl rfl rfl ?_)))
    refine VC.loop (σ := Nat × SchM × List IL × List Int) (fun x => [(6, .pointer (some ⟨p, 0, none⟩)), (8, .pointer (some ⟨ib, 0, none⟩)), (9, .int .i64 x.1), (13, .int .i64 (Lg q0 q1 q2 3)), (15, .pointer (some ⟨ab2, 0, none⟩))]) (fun x => pt ab2 (x.2.2.2.map fun y => Value.int .i64 y) 55 :: wL p ib x.2.1 x.2.2.1) (AllI q0 q1 q2) (fun x => x.1) (ilSum rows, S, rows, [0, 0, 0]) ⟨hV, hA.fine, ?_, rfl, rfl, ?_⟩ (Sub.cons rfl (Sub.cons rfl (Sub.cons rfl (Sub.cons rfl (Sub.cons rfl (Sub.nil _)))))) Ent.refl ?_
    · have e : agoF [0, 0, 0] = fun _ => 0 := by
        funext k
        match k with
        | 0 => rfl
        | 1 => rfl
        | 2 => rfl
        | n + 3 => rfl
      dsimp only
      rw [e]; exact hbal
    · intro k v hv
      have : v = 0 := by
        match k, hv with
        | 0, hv => exact (Option.some.inj hv).symm
        | 1, hv => exact (Option.some.inj hv).symm
        | 2, hv => exact (Option.some.inj hv).symm
        | n + 3, hv => cases hv
      subst this
      simp only [Lg]; omega
    rintro ⟨all, S, rows, ago⟩ hI
    have hV := hI.v; have hfine := hI.fine; have hbal := hI.bal; have hall := hI.sum; have hago := hI.ago; have hmost := hI.most
    dsimp only at hV hfine hbal hall hago hmost ⊢
    (repeat (first | refine VC.seq ?_ | refine VC.region ?_ | refine VC.block ?_ | refine VC.label ?_ | refine VC.scope ?_ | refine VO.go (VO.nil ?_) | refine VO.go (VO.ld 0 rfl rfl rfl rfl ?_)))
    refine VC.condP rfl (fun h3 => ?_) (fun h3 => ?_)
    · have hpm : ∃ f S1, S.popM = some (f, S1) := by
        cases hp : S.popM with
        | some fs => exact ⟨fs.1, fs.2, rfl⟩
        | none =>
          have hz := hV.idle hp
          have : ilSum rows = 0 := by
            unfold ilSum
            rw [List.sum_eq_zero_iff_forall_eq_nat]
            intro n hn
            obtain ⟨r, hr, rfl⟩ := List.mem_map.1 hn
            rw [hz r hr]; rfl
          omega
      obtain ⟨f, S1, hpm⟩ := hpm
      obtain ⟨m, r, xs, hm3, hfm, hr, hrok, hrx, hnew⟩ := hV.pop hfine hpm
      have hfine1 := hfine.pop hV.wf hpm
      have hbal1 : ∀ a', Sched.Next (agoF ago) a' f S1 → Bal (Q3 q0 q1 q2) a' S1 := by
        have hp9 : S.popF 9 = some (f, S1) := by
          unfold SchM.popM at hpm
          split at hpm
          · cases hpm
          · exact hpm
        exact bal_pop hV.wf hfine hbal hp9
      have hrlen := hV.few (List.mem_of_getElem? hr)
      have hroom := hrok.room
      obtain ⟨rb, roff, hb1, hb2, hb3⟩ := hrok.at_ (by rw [hrx]; simp)
      refine VC.skip ?_
      (repeat (first | refine VC.seq ?_ | refine VC.region ?_ | refine VC.block ?_ | refine VC.label ?_ | refine VC.scope ?_ | refine VO.go (VO.nil ?_) | refine VO.go (VO.ld 0 rfl rfl rfl rfl ?_)))
      refine VO.go (VO.callAt 1 (ψ := fun v H => (∃ mm, v = .tuple #[.agg (fmc (f, mm)).toArray, .bool true]) ∧ H = schH p S1) rfl (fun Fr w _ _ _ => Sched.pop_any Fr w p S hV.wf) rfl (fun v L1 h => by unfold Sched.popR at h; rw [hpm] at h; exact ⟨_, h.2, h.1, rfl⟩) ?_)
      rintro _ _ ⟨⟨mm, rfl⟩, rfl⟩
      refine VO.go (VO.alloc rfl fun xb => VO.go (VO.stA (vs := fmc (f, mm)) (cs' := fmc (f, mm)) 0 rfl rfl rfl rfl (Nat.le_refl _) rfl rfl rfl (VO.go (VO.nil ?_))))
      obtain ⟨raddr, rcap, rblk, rcells, rxs⟩ := r
      dsimp only at hb1 hb2 hb3 hrx hrlen hroom
      subst hb1; subst hb2
      have hvm := wL_v hr
      have hpt := wL_h hr rfl
      have hseq : rcells[roff + 0 * 1]? = some (.int .i64 f.seq) := hb3 0 f.seq (by rw [hrx]; rfl)
      have hne : (((rxs.length : Nat) : Int) == 0) = false := beq_eq_false_iff_ne.2 (by rw [hrx]; simp; omega)
      refine VC.seq ?_
      refine VC.seq ?_
      refine VC.draw (ts 0 31 .nil) (by kernel_rfl) (by kernel_rfl) ?_
      refine VA.go (VA.yes 118 false rfl rfl ?_)
      refine VA.go (VA.ld 0 rfl rfl rfl rfl rfl (VA.go (VA.yes 123 false rfl (decide_eq_false (show ¬ f.cls < 0 by omega)) ?_)))
      refine VA.go (VA.ld 0 rfl rfl rfl rfl rfl (VA.go (VA.yes 128 false rfl (decide_eq_false (show ¬ 2 < f.cls by omega)) ?_)))
      refine VA.go (VA.ld 0 rfl rfl rfl rfl rfl (VA.go (VA.light rfl (light_idxA m rfl rfl rfl rfl rfl hfm hm3) ?_)))
      refine VA.go (VA.ld 3 rfl rfl rfl rfl hvm ?_)
      refine VA.go (VA.yes 136 false rfl hne ?_)
      refine VA.go (VA.ld 0 rfl rfl rfl rfl rfl (VA.go (VA.light rfl (light_idxA m rfl rfl rfl rfl rfl hfm hm3) ?_)))
      refine VA.go (VA.ld 3 rfl rfl rfl rfl hvm ?_)
      refine VA.go (VA.light rfl (light_idx 0 rfl rfl rfl rfl rfl rfl (by rw [hrx]; simp)) ?_)
      refine VA.go (VA.ld (m + 4) rfl rfl hpt rfl hseq ?_)
      (repeat (first | refine VA.go (VA.nil ?_) | refine VA.go (VA.ld 0 rfl rfl rfl rfl rfl ?_)))
      refine VC.condNE rfl (fun h => absurd rfl h) (fun _ => VC.skip ?_)
      refine VC.seq ?_
      refine VC.draw (ts 0 8 (.only 8 .nil)) (by kernel_rfl) (by kernel_rfl) ?_
      refine VA.go (VA.ld 0 rfl rfl rfl rfl rfl (VA.go (VA.ld 0 rfl rfl rfl rfl rfl (VA.go (VA.light rfl (light_idxA m rfl rfl rfl rfl rfl hfm hm3) ?_)))))
      refine VA.go (VA.ld 3 rfl rfl rfl rfl hvm ?_)
      subst hrx
      refine VA.go (VA.light rfl (light_tail (n := xs.length) rfl rfl rfl rfl rfl hroom) (VA.go (VA.light rfl (light_idxA m rfl rfl rfl rfl rfl hfm hm3) ?_)))
      have hst : (rows.map IL.v).set (0 + m * 1) (.slice (some (if rcap = 1 then ⟨rb, roff, none⟩ else ⟨rb, roff + 1, none⟩)) xs.length (rcap - 1)) = (rows.set m (IL.tail ⟨some ⟨rb, roff, none⟩, rcap, some rb, rcells, f.seq :: xs⟩)).map IL.v := by
        rw [List.map_set, Nat.zero_add, Nat.mul_one]; rfl
      refine VA.go (VA.st 3 rfl rfl rfl rfl rfl (by rw [List.length_map, hV.three]; show 0 + m * 1 < 3; omega) hst rfl (by (try refine Pd.st ?_); (repeat (first | exact Pd.nil | exact Pd.fnil | refine Pd.inner ?_ | refine Pd.skip (by decide +kernel) ?_ | refine Pd.fcons (RdL.one 0 rfl rfl) ?_ | refine Pd.fcons (RdL.many 0 rfl rfl) ?_ | refine Pd.fcons (RdL.blk (RdL.one 3 rfl hvm) rfl) ?_ | refine Pd.fcons ((RdL.one 3 rfl hvm)) ?_ | refine Pd.cons (RdL.one 0 rfl rfl) ?_ | refine Pd.cons (RdL.many 0 rfl rfl) ?_ | refine Pd.cons (RdL.blk (RdL.one 3 rfl hvm) rfl) ?_ | refine Pd.cons ((RdL.one 3 rfl hvm)) ?_))) ?_)
      (repeat (first | refine VA.go (VA.nil ?_) | refine VA.go (VA.ld 0 rfl rfl rfl rfl rfl ?_)))
      have e9 : rowsL (rows.set m (IL.tail ⟨some ⟨rb, roff, none⟩, rcap, some rb, rcells, f.seq :: xs⟩)) = rowsL rows := by
        simp only [rowsL, List.map_set]
        exact list_set_same (by rw [List.getElem?_map, hr]; rfl)
      generalize hrows1 : rows.set m (IL.tail ⟨some ⟨rb, roff, none⟩, rcap, some rb, rcells, f.seq :: xs⟩) = rows1 at hnew e9 ⊢
      have hsum1 : all = ilSum rows1 + 1 := by
        rw [hall, ← hrows1]; exact ilSum_set rows m _ _ hr rfl
      (repeat (first | refine VC.seq ?_ | refine VC.region ?_ | refine VC.block ?_ | refine VC.label ?_ | refine VC.scope ?_ | refine VO.go (VO.nil ?_) | refine VO.go (VO.ld 0 rfl rfl rfl rfl ?_)))
      refine VC.loop (σ := Nat × List Int) (fun y => [(6, .pointer (some ⟨p, 0, none⟩)), (8, .pointer (some ⟨ib, 0, none⟩)), (9, .int .i64 all), (13, .int .i64 (Lg q0 q1 q2 3)), (15, .pointer (some ⟨ab2, 0, none⟩)), (16, .pointer (some ⟨xb, 0, none⟩)), (18, .int .i64 y.1)]) (fun y => pt xb (fmc (f, mm)) 44 :: pt ab2 (y.2.map fun z => Value.int .i64 z) 55 :: wL p ib S1 rows1) (fun y => y.1 ≤ 3 ∧ y.2.length = 3 ∧ ∀ j, j < 3 → y.2[j]? = some (if j < y.1 then newAgo f rows1 ago j else agoF ago j)) (fun y => 3 - y.1) (0, ago) ⟨by show 0 ≤ 3; omega, hago, fun j hj => ?_⟩ (Sub.cons rfl (Sub.cons rfl (Sub.cons rfl (Sub.cons rfl (Sub.cons rfl (Sub.cons rfl (Sub.cons rfl (Sub.nil _)))))))) (Ent.of_eq ?_) ?_
      · rw [if_neg (Nat.not_lt_zero j)]
        have : j < ago.length := by rw [hago]; exact hj
        rw [agoF, List.getElem?_eq_getElem this]; rfl
      · show _ :: _ :: _ :: _ :: rowsL rows = _ :: _ :: _ :: _ :: rowsL rows1
        rw [e9]
      have hnext : Sched.Next (agoF ago) (newAgo f rows1 ago) f S1 := by
        intro j y hy hyne
        have hj3 : j < 3 := by rw [← hnew.qs3]; exact (List.getElem?_eq_some_iff.1 hy).1
        obtain ⟨r2, q2', hr2, hq2', _, hl2⟩ := hnew.row hj3
        rw [hy] at hq2'
        obtain rfl := Option.some.inj hq2'
        unfold newAgo
        have hx2 : r2.xs ≠ [] := fun e => by rw [e] at hl2; exact hyne (List.map_eq_nil_iff.1 hl2)
        by_cases hfj : f.cls = (j : Int)
        · rw [if_pos (.inl hfj), if_pos hfj]
        · rw [if_neg hfj, if_neg]
          rintro (h | h)
          · exact hfj h
          · rw [hr2] at h; exact hx2 (Option.some.inj h)
      have hbal2 := hbal1 _ hnext
      have hlg3 : full q0 + full q1 + full q2 ≤ Lg q0 q1 q2 3 ∧ 0 ≤ Lg q0 q1 q2 3 := by simp only [full, Lg]; omega
      have hmost2 : ∀ j, j < 3 → 0 ≤ newAgo f rows1 ago j ∧ newAgo f rows1 ago j ≤ Lg q0 q1 q2 3 := by
        intro j hj3
        obtain ⟨r2, q2', hr2, hq2', _, hl2⟩ := hnew.row hj3
        have hlow : 0 ≤ newAgo f rows1 ago j := by
          unfold newAgo
          split
          · exact Int.le_refl _
          · have hjl : j < ago.length := by rw [hago]; exact hj3
            have e := List.getElem?_eq_getElem hjl
            have := (hmost j _ e).1
            rw [agoF, e]; show 0 ≤ ago[j] + 1; omega
        refine ⟨hlow, ?_⟩
        by_cases hx2 : q2' = []
        · have : newAgo f rows1 ago j = 0 := by
            unfold newAgo
            rw [if_pos]
            right; rw [hr2]; rw [hx2] at hl2; show some r2.xs = some []; rw [← hl2]; rfl
          rw [this]; exact hlg3.2
        · have := (hbal2.most hnew.wf hq2' hx2).1
          omega
      rintro ⟨c', l'⟩ ⟨hc', hl'3, hl'⟩
      dsimp only at hc' hl'3 hl' ⊢
      (repeat (first | refine VC.seq ?_ | refine VC.region ?_ | refine VC.block ?_ | refine VC.label ?_ | refine VC.scope ?_ | refine VO.go (VO.nil ?_) | refine VO.go (VO.ld 0 rfl rfl rfl rfl ?_)))
      refine VC.condP rfl (fun h4 => ?_) (fun h4 => ?_)
      · have hc3 : c' < 3 := by omega
        have hat : l'[c']? = some (agoF ago c') := by rw [hl' c' hc3, if_neg (Nat.lt_irrefl c')]
        have hmc : 0 ≤ agoF ago c' ∧ agoF ago c' ≤ Lg q0 q1 q2 3 := by
          have : c' < ago.length := by rw [hago]; exact hc3
          have e := List.getElem?_eq_getElem this
          have := hmost c' _ e
          rw [agoF, e]; exact this
        have hlg : Lg q0 q1 q2 3 ≤ 1000 := by simp only [Lg]; omega
        obtain ⟨r1, q1', hr1, hq1, hr1ok, hl1⟩ := hnew.row hc3
        have hv1 := wL_v hr1
        have hcell0 : (l'.map fun z => Value.int .i64 z)[0 + c' * 1]? = some (.int .i64 (agoF ago c')) := by rw [Nat.zero_add, Nat.mul_one, List.getElem?_map, hat]; rfl
        have hset : ∀ z : Int, (l'.map fun z => Value.int .i64 z).set (0 + c' * 1) (.int .i64 z) = (l'.set c' z).map fun z => Value.int .i64 z := fun z => by rw [Nat.zero_add, Nat.mul_one, List.map_set]
        have hset2 : ∀ y z : Int, ((l'.set c' y).map fun z => Value.int .i64 z).set (0 + c' * 1) (.int .i64 z) = (l'.set c' z).map fun z => Value.int .i64 z := fun y z => by rw [Nat.zero_add, Nat.mul_one, ← List.map_set, List.set_set]
        have hcell1 : ∀ z : Int, ((l'.set c' z).map fun z => Value.int .i64 z)[0 + c' * 1]? = some (.int .i64 z) := fun z => by rw [Nat.zero_add, Nat.mul_one, List.getElem?_map, List.getElem?_set_self (by omega)]; rfl
        have hlen1 : ∀ y : List Int, y.length = 3 → 0 + c' * 1 < (y.map fun z => Value.int .i64 z).length := fun y hy => by rw [List.length_map, hy]; omega
        have hrx1 : (rows1[c']?.map IL.xs) = some r1.xs := by rw [hr1]; rfl
        have next : ∀ z : Int, z = newAgo f rows1 ago c' → ((c' + 1 : Nat) ≤ 3 ∧ (l'.set c' z).length = 3 ∧ ∀ j, j < 3 → (l'.set c' z)[j]? = some (if j < c' + 1 then newAgo f rows1 ago j else agoF ago j)) := fun z hz => by
          refine ⟨hc3, by simpa using hl'3, fun j hj => ?_⟩
          by_cases hjc : c' = j
          · subst hjc
            rw [List.getElem?_set_self (by omega), if_pos (Nat.lt_succ_self c'), hz]
          · rw [List.getElem?_set_ne hjc, hl' j hj]
            by_cases h9 : j < c'
            · rw [if_pos h9, if_pos (by omega)]
            · rw [if_neg h9, if_neg (by omega)]
        refine VC.skip ?_
        (repeat (first | refine VC.seq ?_ | refine VC.region ?_ | refine VC.block ?_ | refine VC.label ?_ | refine VC.scope ?_ | refine VO.go (VO.nil ?_) | refine VO.go (VO.ld 0 rfl rfl rfl rfl ?_)))
        refine VO.go (VO.light (light_idxA c' rfl rfl rfl rfl rfl rfl hc3) (VO.go (VO.ld 1 rfl rfl rfl hcell0 ?_)))
        refine VO.go (VO.add rfl rfl (by omega) (by omega) ?_)
        refine VO.go (VO.light (light_idxA c' rfl rfl rfl rfl rfl rfl hc3) (VO.go (VO.st 1 rfl rfl rfl rfl (hlen1 l' hl'3) (hset _) rfl (VO.go (VO.nil ?_)))))
        refine VC.meet (σ := Int) (fun _ => [(6, .pointer (some ⟨p, 0, none⟩)), (8, .pointer (some ⟨ib, 0, none⟩)), (9, .int .i64 all), (13, .int .i64 (Lg q0 q1 q2 3)), (15, .pointer (some ⟨ab2, 0, none⟩)), (16, .pointer (some ⟨xb, 0, none⟩)), (18, .int .i64 c')]) (fun z => pt xb (fmc (f, mm)) 44 :: pt ab2 ((l'.set c' z).map fun z => Value.int .i64 z) 55 :: wL p ib S1 rows1) (fun z => z = newAgo f rows1 ago c') ?_ ?_
        · (repeat (first | refine VC.seq ?_ | refine VC.region ?_ | refine VC.block ?_ | refine VC.label ?_ | refine VC.scope ?_ | refine VO.go (VO.nil ?_) | refine VO.go (VO.ld 0 rfl rfl rfl rfl ?_)))
          refine VO.go (VO.split 168 rfl rfl (fun h5 => ?_) (fun h5 => ?_))
          · have h5 : (c' : Int) = f.cls := eq_of_beq h5
            refine VO.go (VO.nil (VC.condT rfl ?_))
            (repeat (first | refine VC.seq ?_ | refine VC.region ?_ | refine VC.block ?_ | refine VC.label ?_ | refine VC.scope ?_ | refine VO.go (VO.nil ?_) | refine VO.go (VO.ld 0 rfl rfl rfl rfl ?_)))
            refine VO.go (VO.light (light_idxA c' rfl rfl rfl rfl rfl rfl hc3) (VO.go (VO.st 1 rfl rfl rfl rfl (hlen1 _ (by simpa using hl'3)) (hset2 _ 0) rfl (VO.go (VO.nil ?_)))))
            refine ⟨0, ?_, Sub.cons rfl (Sub.cons rfl (Sub.cons rfl (Sub.cons rfl (Sub.cons rfl (Sub.cons rfl (Sub.cons rfl (Sub.nil _))))))), Ent.refl⟩
            unfold newAgo
            rw [if_pos (.inl h5.symm)]
          · have h5 : (c' : Int) ≠ f.cls := ne_of_beq_false h5
            refine VO.go (VO.light (light_idxA c' rfl rfl rfl rfl rfl rfl hc3) (VO.go (VO.ld 3 rfl rfl rfl hv1 (VO.go (VO.nil ?_)))))
            refine VC.condE rfl (fun h6 => ?_) (fun h6 => VC.skip ?_)
            · have h6 : r1.xs = [] := List.eq_nil_of_length_eq_zero (by omega)
              (repeat (first | refine VC.seq ?_ | refine VC.region ?_ | refine VC.block ?_ | refine VC.label ?_ | refine VC.scope ?_ | refine VO.go (VO.nil ?_) | refine VO.go (VO.ld 0 rfl rfl rfl rfl ?_)))
              refine VO.go (VO.light (light_idxA c' rfl rfl rfl rfl rfl rfl hc3) (VO.go (VO.st 1 rfl rfl rfl rfl (hlen1 _ (by simpa using hl'3)) (hset2 _ 0) rfl (VO.go (VO.nil ?_)))))
              refine ⟨0, ?_, Sub.cons rfl (Sub.cons rfl (Sub.cons rfl (Sub.cons rfl (Sub.cons rfl (Sub.cons rfl (Sub.cons rfl (Sub.nil _))))))), Ent.refl⟩
              unfold newAgo
              rw [if_pos (.inr (by rw [hrx1, h6]))]
            · refine ⟨agoF ago c' + 1, ?_, Sub.cons rfl (Sub.cons rfl (Sub.cons rfl (Sub.cons rfl (Sub.cons rfl (Sub.cons rfl (Sub.cons rfl (Sub.nil _))))))), Ent.refl⟩
              unfold newAgo
              rw [if_neg]
              rintro (h | h)
              · exact h5 h.symm
              · rw [hrx1] at h
                rw [Option.some.inj h] at h6
                exact h6 rfl
        · rintro z rfl
          have hb2 := hmost2 c' hc3
          (repeat (first | refine VC.seq ?_ | refine VC.region ?_ | refine VC.block ?_ | refine VC.label ?_ | refine VC.scope ?_ | refine VO.go (VO.nil ?_) | refine VO.go (VO.ld 0 rfl rfl rfl rfl ?_)))
          refine VO.go (VO.light (light_idxA c' rfl rfl rfl rfl rfl rfl hc3) (VO.go (VO.ld 1 rfl rfl rfl (hcell1 _) (VO.go (VO.nil ?_)))))
          refine VC.condP rfl (fun h7 => absurd h7 (by omega)) (fun _ => VC.skip ?_)
          (repeat (first | refine VC.seq ?_ | refine VC.region ?_ | refine VC.block ?_ | refine VC.label ?_ | refine VC.scope ?_ | refine VO.go (VO.nil ?_) | refine VO.go (VO.ld 0 rfl rfl rfl rfl ?_)))
          refine VO.go (VO.add rfl rfl (by omega) (by omega) ?_)
          (repeat (first | refine VC.seq ?_ | refine VC.region ?_ | refine VC.block ?_ | refine VC.label ?_ | refine VC.scope ?_ | refine VO.go (VO.nil ?_) | refine VO.go (VO.ld 0 rfl rfl rfl rfl ?_)))
          exact ⟨(c' + 1, l'.set c' (newAgo f rows1 ago c')), next _ rfl, by dsimp only; omega, Sub.cons rfl (Sub.cons rfl (Sub.cons rfl (Sub.cons rfl (Sub.cons rfl (Sub.cons rfl (Sub.cons rfl (Sub.nil _))))))), Ent.refl⟩
      · have hc3 : c' = 3 := by omega
        subst hc3
        refine VC.exit ?_
        (repeat (first | refine VC.seq ?_ | refine VC.region ?_ | refine VC.block ?_ | refine VC.label ?_ | refine VC.scope ?_ | refine VO.go (VO.nil ?_) | refine VO.go (VO.ld 0 rfl rfl rfl rfl ?_)))
        refine VO.go (VO.sub' rfl rfl (by omega) (by have := ilSum_le rows1 (fun r hr => hnew.few hr); have := hnew.three; omega) ?_)
        (repeat (first | refine VC.seq ?_ | refine VC.region ?_ | refine VC.block ?_ | refine VC.label ?_ | refine VC.scope ?_ | refine VO.go (VO.nil ?_) | refine VO.go (VO.ld 0 rfl rfl rfl rfl ?_)))
        have hL' : ∀ j, j < 3 → l'[j]? = some (newAgo f rows1 ago j) := fun j hj => by rw [hl' j hj, if_pos hj]
        refine ⟨(ilSum rows1, S1, rows1, l'), ⟨hnew, hfine1, ?_, rfl, hl'3, fun j v hv => ?_⟩, by dsimp only; omega, Sub.cons rfl (Sub.cons rfl (Sub.int rfl (by dsimp only; omega) (Sub.cons rfl (Sub.cons rfl (Sub.nil _))))), Imp.tl.ent⟩
        · dsimp only
          exact hbal1 _ (fun j y hy hyne => by
            have hj3 : j < 3 := by rw [← hnew.qs3]; exact (List.getElem?_eq_some_iff.1 hy).1
            rw [← hnext j y hy hyne, agoF, hL' j hj3]; rfl)
        · dsimp only at hv
          have hj3 : j < 3 := by rw [← hl'3]; exact (List.getElem?_eq_some_iff.1 hv).1
          rw [hL' j hj3] at hv
          obtain rfl := Option.some.inj hv
          exact hmost2 j hj3
    · have hall0 : all = 0 := by omega
      have hz : ∀ r ∈ rows, r.xs = [] := fun r hr => by
        rw [hall0] at hall
        have := List.sum_eq_zero_iff_forall_eq_nat.1 hall.symm r.xs.length (List.mem_map.2 ⟨r, hr, rfl⟩)
        exact List.eq_nil_of_length_eq_zero this
      obtain ⟨hpm, hwait⟩ := hV.empty hz
      refine VC.exit ?_
      (repeat (first | refine VC.seq ?_ | refine VC.region ?_ | refine VC.block ?_ | refine VC.label ?_ | refine VC.scope ?_ | refine VO.go (VO.nil ?_) | refine VO.go (VO.ld 0 rfl rfl rfl rfl ?_)))
      refine VO.go (VO.callAt 1 (ψ := fun v H => v = .tuple #[.agg (fmc fmz).toArray, .bool false] ∧ H = schH p S) rfl (fun Fr w _ _ _ => Sched.pop_any Fr w p S hV.wf) rfl (fun v L1 h => by unfold Sched.popR at h; rw [hpm] at h; exact ⟨_, h.2, h.1, rfl⟩) ?_)
      rintro _ _ ⟨rfl, rfl⟩
      refine VO.go (VO.alloc rfl fun xb => VO.go (VO.stA (vs := fmc fmz) (cs' := fmc fmz) 0 rfl rfl rfl rfl (Nat.le_refl _) rfl rfl rfl (VO.go (VO.nil ?_))))
      (repeat (first | refine VC.seq ?_ | refine VC.region ?_ | refine VC.block ?_ | refine VC.label ?_ | refine VC.scope ?_ | refine VO.go (VO.nil ?_) | refine VO.go (VO.ld 0 rfl rfl rfl rfl ?_)))
      refine VO.go (VO.yes 189 true rfl rfl ?_)
      refine VO.go (VO.call (Lc := []) (fun Fr w hF _ hs => waiting_spec Fr w (hs.at_ 2 rfl)) rfl rfl ?_)
      rintro _ _ ⟨wa, wc, wgs, hw, rfl, rfl⟩
      have hwn : wgs = [] := by rw [hwait] at hw; exact List.map_eq_nil_iff.1 hw
      subst hwn
      refine VO.go (VO.yes 195 true rfl rfl ?_)
      refine VO.go (VO.callV (fun Fr w => turned_spec Fr w) rfl (VO.go (VO.nil ?_)))
      exact VC.ret (Ret.bool 4 rfl rfl rfl Imp.nil.ent ⟨rfl, rfl⟩)
end Go.Proofs.Ytpgcjbddjghkdaa.SLaw
