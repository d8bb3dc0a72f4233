/- The scheduler: what expires. No condition. -/
import Derived.Test.YtbbnmgakmcppdaaGreatSched
namespace Go.Proofs.YtbbnmgakmcppdaaGreat.Sched
open Go Go.Proofs.YtbbnmgakmcppdaaGreat.Vg Go.Proofs.YtbbnmgakmcppdaaGreat.T Go.Proofs.YtbbnmgakmcppdaaGreat.Api Go.Proofs.YtbbnmgakmcppdaaGreat.Ring
set_option linter.unusedSimpArgs false
set_option linter.unusedVariables false
attribute [local irreducible] VO VC VA

/-- A list of frames that this code made. -/
def frH (a : Option Addr) (c : Nat) (gs : List FM) : HP := slH 46 29 a gs.length c (flat fmc gs)
theorem frH_snoc (a : Option Addr) (c : Nat) (gs : List FM) (g : FM) : slH 46 29 a (gs.length + 1) c (flat fmc gs ++ fmc g) = frH a c (gs ++ [g]) := by
  simp [frH, flat_append, flat_cons, flat_nil]

def SchM.waitM (S : SchM) : List FrameM := S.cls.flatMap ClsM.q
theorem SchM.Wf.few {S : SchM} (h : S.Wf) (i : Nat) : ((S.cls.take i).flatMap ClsM.q).length ≤ 64 := by
  have hq := h.qs; have hn := h.n1; have hc := h.cap1
  have : ∀ (l : List ClsM), (∀ c ∈ l, c.q.length ≤ 16) → (l.flatMap ClsM.q).length ≤ l.length * 16 := by
    intro l
    induction l with
    | nil => intro _; simp
    | cons c l ih => intro hl; rw [List.flatMap_cons, List.length_append, List.length_cons]; have := hl c (by simp); have := ih (fun c hc => hl c (by simp [hc])); omega
  have h2 := this (S.cls.take i) (fun c hc => by have := hq c (List.mem_of_mem_take hc); omega)
  have : (S.cls.take i).length ≤ 4 := by rw [List.length_take]; omega
  omega

/-! ### Expire -/
def gone (now : Int) (f : FrameM) : Bool := decide (f.deadline < now)
def stay (now : Int) (f : FrameM) : Bool := !gone now f
def ClsM.expC (now : Int) (c : ClsM) : ClsM := ⟨c.q.filter (stay now), c.quantum, if c.q.filter (stay now) = [] then 0 else c.credit, c.served⟩
def SchM.goneM (S : SchM) (now : Int) : List FrameM := S.cls.flatMap fun c => c.q.filter (gone now)
def SchM.expM (S : SchM) (now : Int) : SchM := { S with cls := S.cls.map (ClsM.expC now) }

theorem ClsM.Wf.exp {c : ClsM} (h : c.Wf) (now : Int) : (c.expC now).Wf := by
  have := h.q0; have := h.c0; have := h.c1
  refine ⟨h.q0, h.q1, ?_, ?_, h.s0, h.s1⟩
  · show (0 : Int) ≤ if _ then 0 else c.credit
    split <;> omega
  · show (if _ then 0 else c.credit) ≤ c.quantum + 95
    split <;> omega

abbrev ExpS := Nat × SchM × SchS × Option Addr × Nat × List FM
structure ExpI (S0 : SchM) (now : Int) (s0 : SchS) (x : ExpS) : Prop where
  le : x.1 ≤ S0.cls.length
  ok : SchOk x.2.1 x.2.2.1
  cls : ∀ k, x.2.1.cls[k]? = (S0.cls[k]?).map (if k < x.1 then ClsM.expC now else id)
  cap : x.2.1.cap = S0.cap
  turn : x.2.1.turn = S0.turn
  fresh : x.2.1.fresh = S0.fresh
  cb : x.2.2.1.cb = s0.cb
  ccap : x.2.2.1.ccap = s0.ccap
  rows : x.2.2.1.rows.length = s0.rows.length
  room : x.2.2.2.2.2.length ≤ x.2.2.2.2.1
  gs : x.2.2.2.2.2.map Prod.fst = (S0.cls.take x.1).flatMap fun c => c.q.filter (gone now)

structure ExpJ (cl : ClsM) (now : Int) (gs0 : List FrameM) (x : Nat × List FrameM × Option Addr × Nat × List FM) : Prop where
  le : x.1 ≤ cl.q.length
  cur : x.2.1 = cl.q.drop x.1 ++ (cl.q.take x.1).filter (stay now)
  room : x.2.2.2.2.length ≤ x.2.2.2.1
  gs : x.2.2.2.2.map Prod.fst = gs0 ++ (cl.q.take x.1).filter (gone now)

theorem SchM.Wf.fewG {S : SchM} (h : S.Wf) (i : Nat) (now : Int) : ((S.cls.take i).flatMap fun c => c.q.filter (gone now)).length ≤ 64 := by
  have hq := h.qs; have hn := h.n1; have hc := h.cap1
  have : ∀ (l : List ClsM), (∀ c ∈ l, c.q.length ≤ 16) → (l.flatMap fun c => c.q.filter (gone now)).length ≤ l.length * 16 := by
    intro l
    induction l with
    | nil => intro _; simp
    | cons c l ih => intro hl; rw [List.flatMap_cons, List.length_append, List.length_cons]; have := hl c (by simp); have := ih (fun c hc => hl c (by simp [hc])); have := List.length_filter_le (gone now) c.q; omega
  have h2 := this (S.cls.take i) (fun c hc => by have := hq c (List.mem_of_mem_take hc); omega)
  have : (S.cls.take i).length ≤ 4 := by rw [List.length_take]; omega
  omega

set_option maxRecDepth 100000 in
theorem expire_spec (Fr : Nat → Prop) (w : World) (p : Nat) (S0 : SchM) (now : Int) :
    Tri Tryz.prog 224 [.pointer (some ⟨p, 0, none⟩), .int .i64 now] Fr w [schH p S0] (fun v L => ∃ a c gs, gs.map Prod.fst = S0.goneM now ∧ v = .slice a gs.length c ∧ L = [schH p (S0.expM now), frH a c gs]) := by
  refine Tri.of 67 Tryz.func224 rfl (by kernel_rfl) tabOk rfl rfl ?_
  refine VC.opn 0 rfl (HOpn.sch p S0) fun s0 h0 => ?_
  refine VC.ent (L' := schL p S0 s0) (Imp.of_eq (List.append_nil _)).ent ?_
  have hn := h0.len
  have hn0 := h0.wf.n0
  have hn4 := h0.wf.n1
  (repeat (first|refine zS ?_|refine zR ?_|refine zB ?_|refine zL ?_|refine zC ?_|refine zG (zN ?_)|refine zG (zD 0 rfl rfl rfl rfl ?_)))
  refine VO.go (VO.callV' (fun Fr w hF _ hs => none_spec Fr w (hs.blk 0 rfl)) rfl (VO.go (VO.nil ?_)))
  refine VC.condP rfl (fun h => by omega) (fun _ => VC.skip ?_)
  (repeat (first|refine zS ?_|refine zR ?_|refine zB ?_|refine zL ?_|refine zC ?_|refine zG (zN ?_)|refine zG (zD 0 rfl rfl rfl rfl ?_)))
  refine VC.loop (σ := ExpS) (fun x => [(0, .pointer (some ⟨p, 0, none⟩)), (1, .int .i64 now), (5, .slice x.2.2.2.1 x.2.2.2.2.2.length x.2.2.2.2.1), (16, .int .i64 s0.rows.length), (17, .int .i64 x.1)]) (fun x => frH x.2.2.2.1 x.2.2.2.2.1 x.2.2.2.2.2 :: schL p x.2.1 x.2.2.1) (ExpI S0 now s0) (fun x => 4 - x.1) (0, S0, s0, none, 0, []) ⟨Nat.zero_le _, h0, fun k => by simp, rfl, rfl, rfl, rfl, rfl, rfl, Nat.le_refl _, rfl⟩ (Sub.cons rfl (Sub.cons rfl (Sub.cons rfl (Sub.cons rfl (Sub.cons rfl (Sub.nil _)))))) (Imp.slNil Imp.refl).ent ?_
  rintro ⟨i, S, s, a, c, gs⟩ ⟨hi, h, hcls, hcap, hturn, hfresh, hcb, hccap, hrows, hroom, hgs⟩
  dsimp only at hi h hcls hcap hturn hfresh hcb hccap hrows hroom hgs ⊢
  (repeat (first|refine zS ?_|refine zR ?_|refine zB ?_|refine zL ?_|refine zC ?_|refine zG (zN ?_)|refine zG (zD 0 rfl rfl rfl rfl ?_)))
  refine VC.condP rfl (fun h1 => ?_) (fun h1 => ?_)
  · have hk0 : i < S0.cls.length := by omega
    obtain ⟨c0, hc0⟩ : ∃ c0, S0.cls[i]? = some c0 := ⟨_, List.getElem?_eq_getElem hk0⟩
    have hc0' : S.cls[i]? = some c0 := by rw [hcls i, hc0, if_neg (Nat.lt_irrefl i)]; rfl
    have hk : i < S.cls.length := (List.getElem?_eq_some_iff.1 hc0').1
    obtain ⟨q, cl, hr, hc⟩ := h.row hk
    obtain rfl : cl = c0 := by rw [hc] at hc0'; exact Option.some.inj hc0'
    have hql := h.wf.qs cl (List.mem_of_getElem? hc)
    have hcap16 := h.wf.cap1
    have hki : i < s.rows.length := by omega
    have hcell : ∀ {j : Nat} {v : Value}, (clsCs (q, cl))[j]? = some v → (flat clsCs s.rows ++ s.rest)[0 + i * 4 + j]? = some v := fun {j v} hj => by rw [Nat.zero_add]; exact cls_cell hr hj _
    refine VC.skip ?_
    (repeat (first|refine zS ?_|refine zR ?_|refine zB ?_|refine zL ?_|refine zC ?_|refine zG (zN ?_)|refine zG (zD 0 rfl rfl rfl rfl ?_)|refine zG (zD 1 rfl rfl rfl rfl ?_)))
    refine VO.go (VO.light (light_idx i rfl rfl rfl rfl rfl rfl hki) ?_)
    (repeat (first|refine zS ?_|refine zR ?_|refine zB ?_|refine zL ?_|refine zC ?_|refine zG (zN ?_)|refine zG (zD 0 rfl rfl rfl rfl ?_)|refine zG (zD 1 rfl rfl rfl rfl ?_)))
    refine VO.go (VO.ld 2 rfl rfl rfl (hcell (j := 0) rfl) ?_)
    refine VO.go (VO.callV' (fun Fr w hF _ hs => Ring.len_spec (q := cl.q) (cap := S.cap) Fr w (hs.at_ (i + 3) (by simp [schL, hr]))) rfl (VO.go (VO.nil ?_)))
    (repeat (first|refine zS ?_|refine zR ?_|refine zB ?_|refine zL ?_|refine zC ?_|refine zG (zN ?_)|refine zG (zD 0 rfl rfl rfl rfl ?_)))
    refine VC.loop (σ := Nat × List FrameM × Option Addr × Nat × List FM) (fun x => [(0, .pointer (some ⟨p, 0, none⟩)), (1, .int .i64 now), (5, .slice x.2.2.1 x.2.2.2.2.length x.2.2.2.1), (7, .pointer (some ⟨s.cb, 0 + i * 4, none⟩)), (16, .int .i64 s0.rows.length), (17, .int .i64 i), (30, .int .i64 cl.q.length), (31, .int .i64 x.1)]) (fun x => frH x.2.2.1 x.2.2.2.1 x.2.2.2.2 :: pt p (schCs S s) 228 :: pt s.cb (flat clsCs s.rows ++ s.rest) 233 :: (s.rows.map fun r => ringH r.1 r.2.q S.cap).set i (ringH q x.2.1 S.cap)) (ExpJ cl now ((S0.cls.take i).flatMap fun c => c.q.filter (gone now))) (fun x => 16 - x.1) (0, cl.q, a, c, gs) ⟨Nat.zero_le _, by simp, hroom, by simpa using hgs⟩ (Sub.cons rfl (Sub.cons rfl (Sub.cons rfl (Sub.cons rfl (Sub.cons rfl (Sub.cons rfl (Sub.cons rfl (Sub.cons rfl (Sub.nil _))))))))) (Ent.of_eq (by dsimp only; rw [← rings_same hr]; rfl)) ?_
    rintro ⟨j, cur, a, c, gs⟩ ⟨hj, hcur, hroom, hgs⟩
    dsimp only at hj hcur hroom hgs ⊢
    have hfew := h0.wf.fewG i now
    have hgl : gs.length ≤ 80 := by
      have := congrArg List.length hgs
      have h3 := List.length_filter_le (gone now) (cl.q.take j)
      have h4 := List.length_take_le j cl.q
      rw [List.length_map, List.length_append] at this
      omega
    have hrl : (s.rows.map fun r => ringH r.1 r.2.q S.cap).length = s.rows.length := by simp
    (repeat (first|refine zS ?_|refine zR ?_|refine zB ?_|refine zL ?_|refine zC ?_|refine zG (zN ?_)|refine zG (zD 0 rfl rfl rfl rfl ?_)))
    refine VC.condP rfl (fun h2 => ?_) (fun h2 => ?_)
    · have hj2 : j < cl.q.length := by omega
      have hf := List.getElem?_eq_getElem hj2
      have hdrop : cl.q.drop j = cl.q[j] :: cl.q.drop (j + 1) := List.drop_eq_getElem_cons hj2
      generalize cl.q[j] = f at hf hdrop
      have htake : cl.q.take (j + 1) = cl.q.take j ++ [f] := by rw [List.take_add_one, hf]; rfl
      have hcur2 : cur = f :: (cl.q.drop (j + 1) ++ (cl.q.take j).filter (stay now)) := by rw [hcur, hdrop]; rfl
      refine VC.skip ?_
      (repeat (first|refine zS ?_|refine zR ?_|refine zB ?_|refine zL ?_|refine zC ?_|refine zG (zN ?_)|refine zG (zD 0 rfl rfl rfl rfl ?_)))
      refine VO.go (VO.ld 2 rfl rfl rfl (hcell (j := 0) rfl) ?_)
      refine VO.go (VO.callAt (i + 3) (H := ringH q cur S.cap) (ψ := fun v H => (∃ m, v = .tuple #[.agg (fmc (f, m)).toArray, .bool true]) ∧ H = ringH q (cl.q.drop (j + 1) ++ (cl.q.take j).filter (stay now)) S.cap) (by simp [hki]) (fun Fr w _ _ _ => Ring.pop_spec Fr w q cur S.cap) rfl (fun v L1 h1 => by rw [hcur2] at h1; exact ⟨_, h1.2, h1.1, rfl⟩) ?_)
      rintro _ _ ⟨⟨m, rfl⟩, rfl⟩
      refine VO.go (VO.alloc rfl fun b8 => VO.go (VO.stA (vs := fmc (f, m)) (cs' := fmc (f, m)) 0 rfl rfl rfl rfl (Nat.le_refl _) rfl rfl rfl (VO.go (VO.nil ?_))))
      (repeat (first|refine zS ?_|refine zR ?_|refine zB ?_|refine zL ?_|refine zC ?_|refine zG (zN ?_)|refine zG (zD 0 rfl rfl rfl rfl ?_)))
      refine VC.condP rfl (fun h3 => ?_) (fun h3 => ?_)
      · have h3 : f.deadline < now := h3
        have hg : gone now f = true := by simp [gone, h3]
        have hs : stay now f = false := by simp [stay, hg]
        (repeat (first|refine zS ?_|refine zR ?_|refine zB ?_|refine zL ?_|refine zC ?_|refine zG (zN ?_)|refine zG (zD 0 rfl rfl rfl rfl ?_)))
        refine VO.go (VO.ldA 0 (fmc (f, m)) rfl rfl rfl rfl ?_)
        refine VO.go (VO.buildSlice (n := 1) (pv := [(0, .agg (fmc (f, m)).toArray)]) (fmc (f, m)) rfl rfl rfl rfl (by decide) (fill_one rfl rfl rfl) fun nb => ?_)
        refine VO.go (VO.append (m := 1) (news := fmc (f, m)) 2 rfl rfl rfl rfl rfl rfl rfl (RdRow.pt 0 rfl rfl rfl) rfl (by show (gs.length + 1) * 288 ≤ _; omega) (by omega) fun a' c' hc' => VO.go (VO.nil ?_))
        (repeat (first|refine zS ?_|refine zR ?_|refine zB ?_|refine zL ?_|refine zC ?_|refine zG (zN ?_)|refine zG (zD 0 rfl rfl rfl rfl ?_)))
        refine VO.go (VO.add rfl rfl (by omega) (by omega) ?_)
        (repeat (first|refine zS ?_|refine zR ?_|refine zB ?_|refine zL ?_|refine zC ?_|refine zG (zN ?_)|refine zG (zD 0 rfl rfl rfl rfl ?_)))
        have hL : (gs ++ [(f, m)]).length = gs.length + 1 := by simp
        refine ⟨(j + 1, cl.q.drop (j + 1) ++ (cl.q.take j).filter (stay now), a', c', gs ++ [(f, m)]), ⟨hj2, by dsimp only; rw [htake, List.filter_append]; simp [hs], by dsimp only; rw [hL]; exact hc', ?_⟩, by dsimp only; omega, Sub.cons rfl (Sub.cons rfl (Sub.cons (by rw [hL]; rfl) (Sub.cons rfl (Sub.cons rfl (Sub.cons rfl (Sub.cons rfl (Sub.cons rfl (Sub.nil _)))))))), ?_⟩
        · dsimp only; rw [List.map_append, hgs, htake, List.filter_append, List.append_assoc]; simp [hg]
        · dsimp only
          rw [← frH_snoc]
          refine (Imp.cons (Imp.trans Imp.tl (Imp.trans Imp.tl (Imp.of_eq ?_)))).ent
          show _ :: _ :: ((s.rows.map fun r => ringH r.1 r.2.q S.cap).set i (ringH q cur S.cap)).set i _ = _
          rw [List.set_set]
      · have h3 : ¬ f.deadline < now := h3
        have hg : gone now f = false := by simp [gone]; omega
        have hs : stay now f = true := by simp [stay, hg]
        have hlt : (cl.q.drop (j + 1) ++ (cl.q.take j).filter (stay now)).length < S.cap := by
          have h4 := List.length_filter_le (stay now) (cl.q.take j)
          have h5 := List.length_take_le j cl.q
          rw [List.length_append, List.length_drop]
          omega
        refine VC.draw (ts 0 5 (.only 5 .nil)) (by kernel_rfl) (by kernel_rfl) ?_
        have hc3 : (flat clsCs s.rows ++ s.rest)[0 + i * 4]? = some (.pointer (some ⟨q, 0, none⟩)) := hcell (j := 0) rfl
        refine VA.go (VA.ld 3 rfl rfl rfl rfl hc3 (VA.go (VA.ldA 0 (fmc (f, m)) rfl rfl rfl rfl rfl ?_)))
        refine VA.go (VA.callAt (i + 4) (H := ringH q (cl.q.drop (j + 1) ++ (cl.q.take j).filter (stay now)) S.cap) (ψ := fun v H => H = ringH q (cl.q.drop (j + 1) ++ (cl.q.take j).filter (stay now) ++ [f]) S.cap) (by simp [hki]) (fun Fr w _ _ _ => Ring.push_spec Fr w q _ S.cap (f, m)) rfl rfl (fun v L1 h1 => ⟨_, h1.2, by rw [if_pos hlt]⟩) ?_ ?_)
        · rintro _ _ rfl
          exact (by (try refine Pd.st ?_);(repeat (first|exact Pd.nil|exact Pd.fnil|refine Pd.inner ?_|refine Pd.skip (by decide +kernel) ?_|refine zf (zo 0 rfl rfl) ?_|refine zf (zm 0 rfl rfl) ?_|refine zf (RdL.blk (RdL.one 3 rfl hc3) rfl) ?_|refine zf ((RdL.one 3 rfl hc3)) ?_|refine zc (zo 0 rfl rfl) ?_|refine zc (zm 0 rfl rfl) ?_|refine zc (RdL.blk (RdL.one 3 rfl hc3) rfl) ?_|refine zc ((RdL.one 3 rfl hc3)) ?_)))
        rintro _ _ rfl
        (repeat (first|refine yG (yN ?_)|refine yG (yD 0 rfl rfl rfl rfl rfl ?_)))
        (repeat (first|refine zS ?_|refine zR ?_|refine zB ?_|refine zL ?_|refine zC ?_|refine zG (zN ?_)|refine zG (zD 0 rfl rfl rfl rfl ?_)))
        refine VO.go (VO.add rfl rfl (by omega) (by omega) ?_)
        (repeat (first|refine zS ?_|refine zR ?_|refine zB ?_|refine zL ?_|refine zC ?_|refine zG (zN ?_)|refine zG (zD 0 rfl rfl rfl rfl ?_)))
        refine ⟨(j + 1, cl.q.drop (j + 1) ++ (cl.q.take j).filter (stay now) ++ [f], a, c, gs), ⟨hj2, by dsimp only; rw [htake, List.filter_append, List.append_assoc]; simp [hs], hroom, by dsimp only; rw [hgs, htake, List.filter_append]; simp [hg]⟩, by dsimp only; omega, Sub.cons rfl (Sub.cons rfl (Sub.cons rfl (Sub.cons rfl (Sub.cons rfl (Sub.cons rfl (Sub.cons rfl (Sub.cons rfl (Sub.nil _)))))))), ?_⟩
        refine (Imp.trans Imp.tl (Imp.cons (Imp.of_eq ?_))).ent
        show _ :: _ :: (((s.rows.map fun r => ringH r.1 r.2.q S.cap).set i (ringH q cur S.cap)).set i _).set i _ = _
        rw [List.set_set, List.set_set]
    · have hj2 : j = cl.q.length := by omega
      subst hj2
      rw [List.take_length] at hgs
      have hcur3 : cur = cl.q.filter (stay now) := by rw [hcur]; simp
      subst hcur3
      have hle2 := List.length_filter_le (stay now) cl.q
      have hwf' : SchM.Wf ⟨S.cls.set i (cl.expC now), S.cap, S.turn, S.fresh⟩ := h.wf.set hc ((h.wf.cls cl (List.mem_of_getElem? hc)).exp now) (by show (cl.q.filter (stay now)).length ≤ S.cap; omega) (fun hl => by
        have := h.wf.low i cl hc hl
        show (if cl.q.filter (stay now) = [] then 0 else cl.credit) ≤ 95
        split <;> omega)
      have hnext : ExpI S0 now s0 (i + 1, ⟨S.cls.set i (cl.expC now), S.cap, S.turn, S.fresh⟩, { s with rows := s.rows.set i (q, cl.expC now) }, a, c, gs) := by
        refine ⟨hk0, h.row' hr hwf', fun k => ?_, hcap, hturn, hfresh, hcb, hccap, by simpa using hrows, hroom, ?_⟩
        · dsimp only
          by_cases hik : i = k
          · subst hik
            rw [List.getElem?_set_self hk, hc0, if_pos (Nat.lt_succ_self i)]; rfl
          · rw [List.getElem?_set_ne hik, hcls k]
            congr 1
            by_cases h9 : k < i
            · rw [if_pos h9, if_pos (by omega)]
            · rw [if_neg h9, if_neg (by omega)]
        · dsimp only; rw [hgs, List.take_add_one, hc0, List.flatMap_append]; simp
      refine VC.exit ?_
      (repeat (first|refine zS ?_|refine zR ?_|refine zB ?_|refine zL ?_|refine zC ?_|refine zG (zN ?_)|refine zG (zD 0 rfl rfl rfl rfl ?_)))
      refine VO.go (VO.ld 2 rfl rfl rfl (hcell (j := 0) rfl) ?_)
      refine VO.go (VO.callV' (fun Fr w hF _ hs => Ring.len_spec (q := cl.q.filter (stay now)) (cap := S.cap) Fr w (hs.at_ (i + 3) (by simp [hki]))) rfl (VO.go (VO.nil ?_)))
      refine VC.condE rfl (fun hz => ?_) (fun hz => VC.skip ?_)
      · have hz : cl.q.filter (stay now) = [] := List.eq_nil_of_length_eq_zero (by omega)
        have hcr : (cl.expC now).credit = 0 := by show (if cl.q.filter (stay now) = [] then 0 else cl.credit) = 0; rw [if_pos hz]
        (repeat (first|refine zS ?_|refine zR ?_|refine zB ?_|refine zL ?_|refine zC ?_|refine zG (zN ?_)|refine zG (zD 0 rfl rfl rfl rfl ?_)))
        refine VO.go (VO.st 2 rfl rfl rfl rfl (by rw [List.length_append, flat_len clsCs_len]; show 0 + i * 4 + 2 < _; omega) (flat_stc hr (by omega) (r' := (q, cl.c0)) rfl s.rest) rfl (VO.go (VO.nil ?_)))
        (repeat (first|refine zS ?_|refine zR ?_|refine zB ?_|refine zL ?_|refine zC ?_|refine zG (zN ?_)|refine zG (zD 0 rfl rfl rfl rfl ?_)))
        refine VO.go (VO.add rfl rfl (by omega) (by omega) ?_)
        (repeat (first|refine zS ?_|refine zR ?_|refine zB ?_|refine zL ?_|refine zC ?_|refine zG (zN ?_)|refine zG (zD 0 rfl rfl rfl rfl ?_)))
        refine ⟨_, hnext, by dsimp only; omega, Sub.cons rfl (Sub.cons rfl (Sub.cons rfl (Sub.cons rfl (Sub.cons rfl (Sub.nil _))))), (Imp.cons (Imp.of_eq ?_)).ent⟩
        exact schL_row (cA := cl.c0) (c' := cl.expC now) hr (by simp only [clsCs]; rw [hcr]; rfl) rfl rfl
      · have hz : cl.q.filter (stay now) ≠ [] := fun e => hz (by rw [e]; rfl)
        have hcr : (cl.expC now).credit = cl.credit := by show (if cl.q.filter (stay now) = [] then 0 else cl.credit) = _; rw [if_neg hz]
        (repeat (first|refine zS ?_|refine zR ?_|refine zB ?_|refine zL ?_|refine zC ?_|refine zG (zN ?_)|refine zG (zD 0 rfl rfl rfl rfl ?_)))
        refine VO.go (VO.add rfl rfl (by omega) (by omega) ?_)
        (repeat (first|refine zS ?_|refine zR ?_|refine zB ?_|refine zL ?_|refine zC ?_|refine zG (zN ?_)|refine zG (zD 0 rfl rfl rfl rfl ?_)))
        refine ⟨_, hnext, by dsimp only; omega, Sub.cons rfl (Sub.cons rfl (Sub.cons rfl (Sub.cons rfl (Sub.cons rfl (Sub.nil _))))), (Imp.cons (Imp.of_eq ?_)).ent⟩
        rw [flat_same hr (b := (q, cl)) rfl]
        exact schL_row (cA := cl) (c' := cl.expC now) hr (by simp only [clsCs]; rw [hcr]; rfl) rfl rfl
  · have hk : i = S0.cls.length := by omega
    subst hk
    rw [List.take_length] at hgs
    refine VC.exit ?_
    (repeat (first|refine zS ?_|refine zR ?_|refine zB ?_|refine zL ?_|refine zC ?_|refine zG (zN ?_)|refine zG (zD 0 rfl rfl rfl rfl ?_)))
    have e : S = S0.expM now := by
      obtain ⟨cls, cap, turn, fresh⟩ := S
      dsimp only at hcls hcap hturn hfresh
      subst hcap; subst hturn; subst hfresh
      show SchM.mk _ _ _ _ = SchM.mk _ _ _ _
      congr 1
      apply List.ext_getElem?
      intro k
      rw [hcls k, List.getElem?_map]
      by_cases h9 : k < S0.cls.length
      · rw [if_pos h9]
      · rw [List.getElem?_eq_none (by omega)]; rfl
    subst e
    refine VC.ret (Ret.tmp 4 rfl rfl (Imp.trans (Imp.perm (List.perm_append_comm (l₁ := [_]))) (Imp.app (sch_shut h) Imp.refl)).ent ⟨a, c, gs, hgs, rfl, rfl⟩)
end Go.Proofs.YtbbnmgakmcppdaaGreat.Sched
