/- Configurations: Check, and the document's Fit. Condition: a list of quanta that is read. -/
import Derived.Test.YtbbnmgakmcppdaaGreatConf
namespace Go.Proofs.YtbbnmgakmcppdaaGreat.Conf
open Go Go.Proofs.YtbbnmgakmcppdaaGreat.Vg Go.Proofs.YtbbnmgakmcppdaaGreat.T Go.Proofs.YtbbnmgakmcppdaaGreat.Sched
set_option linter.unusedSimpArgs false
set_option linter.unusedVariables false
attribute [local irreducible] VO VC VA

def checkM (c : ConfM) : Int := if c = fitM c then 0 else 2
theorem conf_ext {c d : ConfM} (h0 : c.nodes = d.nodes) (h1 : c.chain = d.chain) (h2 : c.clients = d.clients) (h3 : c.qs = d.qs) (h4 : c.queue = d.queue) (h5 : c.window = d.window) (h6 : c.reads = d.reads) (h7 : c.link = d.link) (h8 : c.patience = d.patience) (h9 : c.timeout = d.timeout) (h10 : c.budget = d.budget) (h11 : c.refill = d.refill) : c = d := by
  cases c; cases d; simp_all

set_option maxHeartbeats 2000000 in
set_option maxRecDepth 100000 in
theorem check_spec (Fr : Nat → Prop) (w : World) (c : ConfM) (a : Option Addr) (cap : Nat) (hq : IntsIn Fr w a c.qs) (ha : AdOk a) (hcap : c.qs.length ≤ cap) : Tri Tryz.prog 129 [.agg (c.cells a cap).toArray] Fr w []
    (fun v L => v = .int .i64 (checkM c) ∧ L = []) := by
  refine Tri.of 91 Tryz.func129 rfl (by kernel_rfl) tabOk rfl rfl ?_
  refine VC.seq (VC.region (VO.go (VO.boxA (vs := c.cells a cap) rfl fun x => VO.go (VO.nil ?_))))
  refine VC.seq (VC.region (VO.go (VO.ldA 0 (c.cells a cap) rfl rfl rfl rfl ?_)))
  refine VO.go (VO.call (Lc := []) (fun Fr w hF hs _ => fit_spec Fr w c a cap (ints_of hq hF hs) ha hcap) rfl rfl ?_)
  rintro _ _ ⟨a', cap', ha', hcap', rfl, rfl⟩
  refine VO.go (VO.alloc rfl fun f => VO.go (VO.stA (vs := (fitM c).cells a' cap') (cs' := (fitM c).cells a' cap') 0 rfl rfl rfl rfl (Nat.le_refl _) rfl rfl rfl (VO.go (VO.nil ?_))))
  refine VC.meet (σ := Bool) (fun b => [(4, .bool b)]) (fun _ => []) (fun b => b = decide (c = fitM c)) ?_ ?_
  rotate_left
  · rintro b rfl
    refine VC.seq (VC.seq (VC.region (VO.go (VO.nil ?_))))
    refine VC.condN rfl (fun h => ?_) (fun h => VC.skip ?_)
    · have h := of_decide_eq_false h
      (repeat (first|refine zS ?_|refine zR ?_|refine zB ?_|refine zL ?_|refine zC ?_|refine zG (zN ?_)|refine zG (zD 0 rfl rfl rfl rfl ?_)))
      exact VC.ret (Ret.int 2 rfl rfl (by rw [checkM, if_neg h]) Ent.refl ⟨rfl, rfl⟩)
    · have h := of_decide_eq_true h
      (repeat (first|refine zS ?_|refine zR ?_|refine zB ?_|refine zL ?_|refine zC ?_|refine zG (zN ?_)|refine zG (zD 0 rfl rfl rfl rfl ?_)))
      exact VC.ret (Ret.int 2 rfl rfl (by rw [checkM, if_pos h]) Ent.refl ⟨rfl, rfl⟩)
  refine VC.region ?_
  refine VO.go (VO.ld 2 rfl rfl rfl rfl (VO.go (VO.ld 0 rfl rfl rfl rfl ?_)))
  refine VO.go (VO.split 12 rfl rfl (fun h0 => ?_) (fun h0 => ?_))
  rotate_left
  · refine VO.go (VO.yes 19 false rfl rfl ?_)
    refine VO.go (VO.yes 26 false rfl rfl ?_)
    refine VO.go (VO.yes 33 false rfl rfl ?_)
    refine VO.go (VO.yes 40 false rfl rfl ?_)
    refine VO.go (VO.yes 47 false rfl rfl ?_)
    refine VO.go (VO.yes 54 false rfl rfl ?_)
    refine VO.go (VO.yes 61 false rfl rfl ?_)
    refine VO.go (VO.yes 68 false rfl rfl ?_)
    refine VO.go (VO.yes 75 false rfl rfl ?_)
    refine VO.go (VO.yes 82 false rfl rfl ?_)
    refine VO.go (VO.nil ⟨false, ?_, Sub.cons rfl (Sub.nil _), Imp.nil.ent⟩)
    show false = decide _; symm; apply decide_eq_false; intro e
    exact (beq_eq_false_iff_ne.1 h0) (congrArg ConfM.nodes e)
  refine VO.go (VO.ld 2 rfl rfl rfl rfl (VO.go (VO.ld 0 rfl rfl rfl rfl ?_)))
  refine VO.go (VO.split 19 rfl rfl (fun h1 => ?_) (fun h1 => ?_))
  rotate_left
  · refine VO.go (VO.yes 26 false rfl rfl ?_)
    refine VO.go (VO.yes 33 false rfl rfl ?_)
    refine VO.go (VO.yes 40 false rfl rfl ?_)
    refine VO.go (VO.yes 47 false rfl rfl ?_)
    refine VO.go (VO.yes 54 false rfl rfl ?_)
    refine VO.go (VO.yes 61 false rfl rfl ?_)
    refine VO.go (VO.yes 68 false rfl rfl ?_)
    refine VO.go (VO.yes 75 false rfl rfl ?_)
    refine VO.go (VO.yes 82 false rfl rfl ?_)
    refine VO.go (VO.nil ⟨false, ?_, Sub.cons rfl (Sub.nil _), Imp.nil.ent⟩)
    show false = decide _; symm; apply decide_eq_false; intro e
    exact (beq_eq_false_iff_ne.1 h1) (congrArg ConfM.chain e)
  refine VO.go (VO.ld 2 rfl rfl rfl rfl (VO.go (VO.ld 0 rfl rfl rfl rfl ?_)))
  refine VO.go (VO.split 26 rfl rfl (fun h2 => ?_) (fun h2 => ?_))
  rotate_left
  · refine VO.go (VO.yes 33 false rfl rfl ?_)
    refine VO.go (VO.yes 40 false rfl rfl ?_)
    refine VO.go (VO.yes 47 false rfl rfl ?_)
    refine VO.go (VO.yes 54 false rfl rfl ?_)
    refine VO.go (VO.yes 61 false rfl rfl ?_)
    refine VO.go (VO.yes 68 false rfl rfl ?_)
    refine VO.go (VO.yes 75 false rfl rfl ?_)
    refine VO.go (VO.yes 82 false rfl rfl ?_)
    refine VO.go (VO.nil ⟨false, ?_, Sub.cons rfl (Sub.nil _), Imp.nil.ent⟩)
    show false = decide _; symm; apply decide_eq_false; intro e
    exact (beq_eq_false_iff_ne.1 h2) (congrArg ConfM.clients e)
  refine VO.go (VO.ld 2 rfl rfl rfl rfl (VO.go (VO.ld 0 rfl rfl rfl rfl ?_)))
  refine VO.go (VO.callV' (fun Fr w hF hs h2 => equal_spec Fr w a a' cap cap' c.qs (fitM c).qs (ints_of hq hF hs) (ints_sl (h2.at_ 1 rfl)) (by have := (qFit_len c.qs).2; show (qFit c.qs).length ≤ 1000; omega)) rfl ?_)
  refine VO.go (VO.split 33 rfl rfl (fun h3 => ?_) (fun h3 => ?_))
  rotate_left
  · refine VO.go (VO.yes 40 false rfl rfl ?_)
    refine VO.go (VO.yes 47 false rfl rfl ?_)
    refine VO.go (VO.yes 54 false rfl rfl ?_)
    refine VO.go (VO.yes 61 false rfl rfl ?_)
    refine VO.go (VO.yes 68 false rfl rfl ?_)
    refine VO.go (VO.yes 75 false rfl rfl ?_)
    refine VO.go (VO.yes 82 false rfl rfl ?_)
    refine VO.go (VO.nil ⟨false, ?_, Sub.cons rfl (Sub.nil _), Imp.nil.ent⟩)
    show false = decide _; symm; apply decide_eq_false; intro e
    exact (of_decide_eq_false h3) (congrArg ConfM.qs e)
  refine VO.go (VO.ld 2 rfl rfl rfl rfl (VO.go (VO.ld 0 rfl rfl rfl rfl ?_)))
  refine VO.go (VO.split 40 rfl rfl (fun h4 => ?_) (fun h4 => ?_))
  rotate_left
  · refine VO.go (VO.yes 47 false rfl rfl ?_)
    refine VO.go (VO.yes 54 false rfl rfl ?_)
    refine VO.go (VO.yes 61 false rfl rfl ?_)
    refine VO.go (VO.yes 68 false rfl rfl ?_)
    refine VO.go (VO.yes 75 false rfl rfl ?_)
    refine VO.go (VO.yes 82 false rfl rfl ?_)
    refine VO.go (VO.nil ⟨false, ?_, Sub.cons rfl (Sub.nil _), Imp.nil.ent⟩)
    show false = decide _; symm; apply decide_eq_false; intro e
    exact (beq_eq_false_iff_ne.1 h4) (congrArg ConfM.queue e)
  refine VO.go (VO.ld 2 rfl rfl rfl rfl (VO.go (VO.ld 0 rfl rfl rfl rfl ?_)))
  refine VO.go (VO.split 47 rfl rfl (fun h5 => ?_) (fun h5 => ?_))
  rotate_left
  · refine VO.go (VO.yes 54 false rfl rfl ?_)
    refine VO.go (VO.yes 61 false rfl rfl ?_)
    refine VO.go (VO.yes 68 false rfl rfl ?_)
    refine VO.go (VO.yes 75 false rfl rfl ?_)
    refine VO.go (VO.yes 82 false rfl rfl ?_)
    refine VO.go (VO.nil ⟨false, ?_, Sub.cons rfl (Sub.nil _), Imp.nil.ent⟩)
    show false = decide _; symm; apply decide_eq_false; intro e
    exact (beq_eq_false_iff_ne.1 h5) (congrArg ConfM.window e)
  refine VO.go (VO.ld 2 rfl rfl rfl rfl (VO.go (VO.ld 0 rfl rfl rfl rfl ?_)))
  refine VO.go (VO.split 54 rfl rfl (fun h6 => ?_) (fun h6 => ?_))
  rotate_left
  · refine VO.go (VO.yes 61 false rfl rfl ?_)
    refine VO.go (VO.yes 68 false rfl rfl ?_)
    refine VO.go (VO.yes 75 false rfl rfl ?_)
    refine VO.go (VO.yes 82 false rfl rfl ?_)
    refine VO.go (VO.nil ⟨false, ?_, Sub.cons rfl (Sub.nil _), Imp.nil.ent⟩)
    show false = decide _; symm; apply decide_eq_false; intro e
    exact (beq_eq_false_iff_ne.1 h6) (congrArg ConfM.reads e)
  refine VO.go (VO.ld 2 rfl rfl rfl rfl (VO.go (VO.ld 0 rfl rfl rfl rfl ?_)))
  refine VO.go (VO.split 61 rfl rfl (fun h7 => ?_) (fun h7 => ?_))
  rotate_left
  · refine VO.go (VO.yes 68 false rfl rfl ?_)
    refine VO.go (VO.yes 75 false rfl rfl ?_)
    refine VO.go (VO.yes 82 false rfl rfl ?_)
    refine VO.go (VO.nil ⟨false, ?_, Sub.cons rfl (Sub.nil _), Imp.nil.ent⟩)
    show false = decide _; symm; apply decide_eq_false; intro e
    exact (beq_eq_false_iff_ne.1 h7) (congrArg ConfM.link e)
  refine VO.go (VO.ld 2 rfl rfl rfl rfl (VO.go (VO.ld 0 rfl rfl rfl rfl ?_)))
  refine VO.go (VO.split 68 rfl rfl (fun h8 => ?_) (fun h8 => ?_))
  rotate_left
  · refine VO.go (VO.yes 75 false rfl rfl ?_)
    refine VO.go (VO.yes 82 false rfl rfl ?_)
    refine VO.go (VO.nil ⟨false, ?_, Sub.cons rfl (Sub.nil _), Imp.nil.ent⟩)
    show false = decide _; symm; apply decide_eq_false; intro e
    exact (beq_eq_false_iff_ne.1 h8) (congrArg ConfM.patience e)
  refine VO.go (VO.ld 2 rfl rfl rfl rfl (VO.go (VO.ld 0 rfl rfl rfl rfl ?_)))
  refine VO.go (VO.split 75 rfl rfl (fun h9 => ?_) (fun h9 => ?_))
  rotate_left
  · refine VO.go (VO.yes 82 false rfl rfl ?_)
    refine VO.go (VO.nil ⟨false, ?_, Sub.cons rfl (Sub.nil _), Imp.nil.ent⟩)
    show false = decide _; symm; apply decide_eq_false; intro e
    exact (beq_eq_false_iff_ne.1 h9) (congrArg ConfM.timeout e)
  refine VO.go (VO.ld 2 rfl rfl rfl rfl (VO.go (VO.ld 0 rfl rfl rfl rfl ?_)))
  refine VO.go (VO.split 82 rfl rfl (fun h10 => ?_) (fun h10 => ?_))
  rotate_left
  · refine VO.go (VO.nil ⟨false, ?_, Sub.cons rfl (Sub.nil _), Imp.nil.ent⟩)
    show false = decide _; symm; apply decide_eq_false; intro e
    exact (beq_eq_false_iff_ne.1 h10) (congrArg ConfM.budget e)
  refine VO.go (VO.ld 2 rfl rfl rfl rfl (VO.go (VO.ld 0 rfl rfl rfl rfl ?_)))
  refine VO.go (VO.nil ⟨(c.refill == (fitM c).refill), ?_, Sub.cons rfl (Sub.nil _), Imp.nil.ent⟩)
  show (c.refill == (fitM c).refill) = decide _
  rw [Bool.eq_iff_iff, beq_iff_eq, decide_eq_true_iff]
  refine ⟨fun h11 => conf_ext (eq_of_beq h0) (eq_of_beq h1) (eq_of_beq h2) (of_decide_eq_true h3) (eq_of_beq h4) (eq_of_beq h5) (eq_of_beq h6) (eq_of_beq h7) (eq_of_beq h8) (eq_of_beq h9) (eq_of_beq h10) h11, fun e => congrArg ConfM.refill e⟩

/-! ### The document's -/
theorem rnear_spec (Fr : Nat → Prop) (w : World) (x lo hi : Int) : Tri Tryz.prog 48 [.int .i64 x, .int .i64 lo, .int .i64 hi] Fr w [] (fun v L => v = .int .i64 (near x lo hi) ∧ L = []) := by
  refine Tri.of 12 Tryz.func48 rfl (by kernel_rfl) tabOk rfl rfl ?_
  (repeat (first|refine zS ?_|refine zR ?_|refine zB ?_|refine zL ?_|refine zC ?_|refine zG (zN ?_)|refine zG (zD 0 rfl rfl rfl rfl ?_)))
  exact VC.ret (Ret.int 6 rfl rfl (near_alt x lo hi) Ent.refl ⟨rfl, rfl⟩)

theorem light_conf {X : Cx} (hX : X.tab = tab) {e : Env} {parts : Array (Nat × Operand)} {x0 x1 x2 x4 x5 x6 x7 x8 x9 x10 x11 : Int}
    (hp : evP e parts.toList = some [(0, .int .i64 x0), (1, .int .i64 x1), (2, .int .i64 x2), (4, .int .i64 x4), (5, .int .i64 x5), (6, .int .i64 x6), (7, .int .i64 x7), (8, .int .i64 x8), (9, .int .i64 x9), (10, .int .i64 x10), (11, .int .i64 x11)]) :
    Light X (.build 24 parts) e (.agg ([.int .i64 x0, .int .i64 x1, .int .i64 x2, .slice none 0 0, .int .i64 x4, .int .i64 x5, .int .i64 x6, .int .i64 x7, .int .i64 x8, .int .i64 x9, .int .i64 x10, .int .i64 x11] : List Value).toArray) :=
  light_build _ (by rw [hX]; rfl) rfl hp (by kernel_rfl) rfl
theorem HOpn.adok (el esz : Nat) (a : Option Addr) (n cap : Nat) (cs : List Value) : HOpn (ι := Unit) (slH el esz a n cap cs) (fun _ => AdOk a) (fun _ => [slH el esz a n cap cs]) := by
  intro w ids h hn
  exact ⟨(), trivial, ids, ⟨ids, [], by simp, h, rfl⟩, hn, fun b h => h⟩
structure FitI (qs : List Int) (x : Nat × Option Addr × Nat) : Prop where
  le : x.1 ≤ (qs.take 4).length
  room : x.1 ≤ x.2.2
set_option maxHeartbeats 2000000 in
set_option maxRecDepth 100000 in
theorem rfit_spec (Fr : Nat → Prop) (w : World) (c : ConfM) (a : Option Addr) (cap : Nat) (hq : IntsIn Fr w a c.qs) : Tri Tryz.prog 13 [.agg (c.cells a cap).toArray] Fr w []
    (fun v L => ∃ a' cap', AdOk a' ∧ (fitM c).qs.length ≤ cap' ∧ v = .agg ((fitM c).cells a' cap').toArray ∧ L = [intH a' cap' (fitM c).qs]) := by
  refine Tri.of 74 Tryz.func13 rfl (by kernel_rfl) tabOk rfl rfl ?_
  refine VC.seq (VC.region (VO.go (VO.boxA (vs := c.cells a cap) rfl fun x => VO.go (VO.alloc rfl fun r => VO.go (VO.nil ?_)))))
  refine VC.seq (VC.region (VO.go (VO.ld 1 rfl rfl rfl rfl ?_)))
  refine VO.go (VO.callV (fun Fr w => rnear_spec Fr w c.nodes 1 6) rfl (VO.go (VO.nil ?_)))
  refine VC.meet (σ := Nat) (fun d => [(1, .pointer (some ⟨x, 0, none⟩)), (2, .pointer (some ⟨r, 0, none⟩)), (4, .pointer (some ⟨d, 0, none⟩))])
    (fun d => [pt d [.int .i64 (near c.nodes 1 6), .int .i64 (near c.chain 1 (near c.nodes 1 6)), .int .i64 (near c.clients 1 6), .slice none 0 0, .int .i64 (near c.queue 1 16), .int .i64 (near c.window 1 16), .int .i64 (near c.reads 1 16), .int .i64 (near c.link 4 64), .int .i64 (near c.patience 4 64), .int .i64 (near c.timeout 4 64), .int .i64 (near c.budget 0 16), .int .i64 (near c.refill 1 1099511627776)] 24, pt r T.t24.zs 24, pt x (c.cells a cap) 24]) (fun _ => True) ?_ ?_
  · refine VC.draw (.take 0 (.take 1 (.take 2 (.take 3 (.take 5 (.take 6 (.take 8 (.take 9 (.take 11 (.take 12 (.take 14 (.take 15 (.take 17 (.take 18 (.take 20 (.take 21 (.take 23 (.take 24 (.take 26 (.take 27 (.take 29 (.take 30 (.two 4 33 (.two 7 33 (.two 10 33 (.two 13 33 (.two 16 33 (.two 19 33 (.two 22 33 (.two 25 33 (.two 28 33 (.two 31 33 (.take 32 (.only 33 (.only 34 .nil))) (.only 31 (.take 32 (.only 34 .nil)))) (.only 28 (.only 31 (.take 32 (.only 34 .nil))))) (.only 25 (.only 28 (.only 31 (.take 32 (.only 34 .nil)))))) (.only 22 (.only 25 (.only 28 (.only 31 (.take 32 (.only 34 .nil))))))) (.only 19 (.only 22 (.only 25 (.only 28 (.only 31 (.take 32 (.only 34 .nil)))))))) (.only 16 (.only 19 (.only 22 (.only 25 (.only 28 (.only 31 (.take 32 (.only 34 .nil))))))))) (.only 13 (.only 16 (.only 19 (.only 22 (.only 25 (.only 28 (.only 31 (.take 32 (.only 34 .nil)))))))))) (.only 10 (.only 13 (.only 16 (.only 19 (.only 22 (.only 25 (.only 28 (.only 31 (.take 32 (.only 34 .nil))))))))))) (.only 7 (.only 10 (.only 13 (.only 16 (.only 19 (.only 22 (.only 25 (.only 28 (.only 31 (.take 32 (.only 34 .nil)))))))))))) (.only 4 (.only 7 (.only 10 (.only 13 (.only 16 (.only 19 (.only 22 (.only 25 (.only 28 (.only 31 (.take 32 (.only 34 .nil))))))))))))))))))))))))))))))))))) (by kernel_rfl) (by decide +kernel) ?_
    (repeat (first|refine yG (yN ?_)|refine yG (yD 0 rfl rfl rfl rfl rfl ?_)|refine yG (yD 1 rfl rfl rfl rfl rfl ?_)))
    refine VA.keepS (cond := fun L' => pt x (c.cells a cap) 24 ∈ L') (fun S hS => ?_) (fun L' hL' => ?_)
    rotate_left
    · obtain ⟨i, hi⟩ := List.getElem?_of_mem hL'
      exact (by (try refine Pd.st ?_);(repeat (first|exact Pd.nil|exact Pd.fnil|refine Pd.inner ?_|refine Pd.skip (by decide +kernel) ?_|refine zf (RdL.blk (RdL.one i hi rfl) rfl) ?_|refine zf ((RdL.one i hi rfl)) ?_|refine zc (RdL.blk (RdL.one i hi rfl) rfl) ?_|refine zc ((RdL.one i hi rfl)) ?_)))
    refine VA.go (VA.two rfl rfl rfl rfl rfl (OpT.callP (φ := fun v => v = .int .i64 (near c.chain 1 (near c.nodes 1 6))) (fun Fr w _ _ _ => rnear_spec Fr w _ _ _) rfl) rfl rfl rfl (OpT.alloc rfl) (fun v L' h => by obtain ⟨_, rfl⟩ := h; exact Pd.st (by (repeat refine Pd.filter ?_); exact hS _ (.tail _ (.head _)))) (fun v L' h => by obtain ⟨d, _, rfl⟩ := h; exact Pd.st (by (repeat refine Pd.filter ?_); exact hS _ (.tail _ (.tail _ (.head _))))) ?_ ?_)
    rotate_left
    · rintro _ _ ⟨d, rfl, rfl⟩
      refine VA.go (VA.opP (OpT.callP (φ := fun v => v = .int .i64 (near c.chain 1 (near c.nodes 1 6))) (fun Fr w _ _ _ => rnear_spec Fr w _ _ _) rfl) rfl (fun v L' h => by obtain ⟨_, rfl⟩ := h; exact (by (repeat refine Pd.filter ?_); exact hS _ (.tail _ (.tail _ (.head _))))) ?_)
      rintro _ _ ⟨rfl, rfl⟩
      refine VA.go (VA.opP (OpT.callP (φ := fun v => v = .int .i64 (near c.clients 1 6)) (fun Fr w _ _ _ => rnear_spec Fr w _ _ _) rfl) rfl (fun v L' h => by obtain ⟨_, rfl⟩ := h; exact (by (repeat refine Pd.filter ?_); exact hS _ (.tail _ (.tail _ (.head _))))) ?_)
      rintro _ _ ⟨rfl, rfl⟩
      refine VA.go (VA.opP (OpT.callP (φ := fun v => v = .int .i64 (near c.queue 1 16)) (fun Fr w _ _ _ => rnear_spec Fr w _ _ _) rfl) rfl (fun v L' h => by obtain ⟨_, rfl⟩ := h; exact (by (repeat refine Pd.filter ?_); exact hS _ (.tail _ (.tail _ (.head _))))) ?_)
      rintro _ _ ⟨rfl, rfl⟩
      refine VA.go (VA.opP (OpT.callP (φ := fun v => v = .int .i64 (near c.window 1 16)) (fun Fr w _ _ _ => rnear_spec Fr w _ _ _) rfl) rfl (fun v L' h => by obtain ⟨_, rfl⟩ := h; exact (by (repeat refine Pd.filter ?_); exact hS _ (.tail _ (.tail _ (.head _))))) ?_)
      rintro _ _ ⟨rfl, rfl⟩
      refine VA.go (VA.opP (OpT.callP (φ := fun v => v = .int .i64 (near c.reads 1 16)) (fun Fr w _ _ _ => rnear_spec Fr w _ _ _) rfl) rfl (fun v L' h => by obtain ⟨_, rfl⟩ := h; exact (by (repeat refine Pd.filter ?_); exact hS _ (.tail _ (.tail _ (.head _))))) ?_)
      rintro _ _ ⟨rfl, rfl⟩
      refine VA.go (VA.opP (OpT.callP (φ := fun v => v = .int .i64 (near c.link 4 64)) (fun Fr w _ _ _ => rnear_spec Fr w _ _ _) rfl) rfl (fun v L' h => by obtain ⟨_, rfl⟩ := h; exact (by (repeat refine Pd.filter ?_); exact hS _ (.tail _ (.tail _ (.head _))))) ?_)
      rintro _ _ ⟨rfl, rfl⟩
      refine VA.go (VA.opP (OpT.callP (φ := fun v => v = .int .i64 (near c.patience 4 64)) (fun Fr w _ _ _ => rnear_spec Fr w _ _ _) rfl) rfl (fun v L' h => by obtain ⟨_, rfl⟩ := h; exact (by (repeat refine Pd.filter ?_); exact hS _ (.tail _ (.tail _ (.head _))))) ?_)
      rintro _ _ ⟨rfl, rfl⟩
      refine VA.go (VA.opP (OpT.callP (φ := fun v => v = .int .i64 (near c.timeout 4 64)) (fun Fr w _ _ _ => rnear_spec Fr w _ _ _) rfl) rfl (fun v L' h => by obtain ⟨_, rfl⟩ := h; exact (by (repeat refine Pd.filter ?_); exact hS _ (.tail _ (.tail _ (.head _))))) ?_)
      rintro _ _ ⟨rfl, rfl⟩
      refine VA.go (VA.opP (OpT.callP (φ := fun v => v = .int .i64 (near c.budget 0 16)) (fun Fr w _ _ _ => rnear_spec Fr w _ _ _) rfl) rfl (fun v L' h => by obtain ⟨_, rfl⟩ := h; exact (by (repeat refine Pd.filter ?_); exact hS _ (.tail _ (.tail _ (.head _))))) ?_)
      rintro _ _ ⟨rfl, rfl⟩
      refine VA.go (VA.opP (OpT.callP (φ := fun v => v = .int .i64 (near c.refill 1 1099511627776)) (fun Fr w _ _ _ => rnear_spec Fr w _ _ _) rfl) rfl (fun v L' h => by obtain ⟨_, rfl⟩ := h; exact (by (repeat refine Pd.filter ?_); exact hS _ (.tail _ (.tail _ (.head _))))) ?_)
      rintro _ _ ⟨rfl, rfl⟩
      refine VA.go (VA.light rfl (light_conf rfl rfl) ?_)
      refine VA.go (VA.stA (vs := [.int .i64 (near c.nodes 1 6), .int .i64 (near c.chain 1 (near c.nodes 1 6)), .int .i64 (near c.clients 1 6), .slice none 0 0, .int .i64 (near c.queue 1 16), .int .i64 (near c.window 1 16), .int .i64 (near c.reads 1 16), .int .i64 (near c.link 4 64), .int .i64 (near c.patience 4 64), .int .i64 (near c.timeout 4 64), .int .i64 (near c.budget 0 16), .int .i64 (near c.refill 1 1099511627776)]) (cs' := [.int .i64 (near c.nodes 1 6), .int .i64 (near c.chain 1 (near c.nodes 1 6)), .int .i64 (near c.clients 1 6), .slice none 0 0, .int .i64 (near c.queue 1 16), .int .i64 (near c.window 1 16), .int .i64 (near c.reads 1 16), .int .i64 (near c.link 4 64), .int .i64 (near c.patience 4 64), .int .i64 (near c.timeout 4 64), .int .i64 (near c.budget 0 16), .int .i64 (near c.refill 1 1099511627776)]) 0 rfl rfl rfl rfl rfl (Nat.le_refl _) rfl rfl rfl (by (repeat refine Pd.filter ?_); exact hS _ (.tail _ (.tail _ (.head _)))) (VA.go (VA.nil ?_)))
      exact ⟨d, trivial, Sub.cons rfl (Sub.cons rfl (Sub.cons rfl (Sub.nil _))), Ent.refl⟩
    rintro _ _ ⟨rfl, rfl⟩
    refine VA.go (VA.two rfl rfl rfl rfl rfl (OpT.callP (φ := fun v => v = .int .i64 (near c.clients 1 6)) (fun Fr w _ _ _ => rnear_spec Fr w _ _ _) rfl) rfl rfl rfl (OpT.alloc rfl) (fun v L' h => by obtain ⟨_, rfl⟩ := h; exact Pd.st (by (repeat refine Pd.filter ?_); exact hS _ (.tail _ (.head _)))) (fun v L' h => by obtain ⟨d, _, rfl⟩ := h; exact Pd.st (by (repeat refine Pd.filter ?_); exact hS _ (.tail _ (.tail _ (.head _))))) ?_ ?_)
    rotate_left
    · rintro _ _ ⟨d, rfl, rfl⟩
      refine VA.go (VA.opP (OpT.callP (φ := fun v => v = .int .i64 (near c.clients 1 6)) (fun Fr w _ _ _ => rnear_spec Fr w _ _ _) rfl) rfl (fun v L' h => by obtain ⟨_, rfl⟩ := h; exact (by (repeat refine Pd.filter ?_); exact hS _ (.tail _ (.tail _ (.head _))))) ?_)
      rintro _ _ ⟨rfl, rfl⟩
      refine VA.go (VA.opP (OpT.callP (φ := fun v => v = .int .i64 (near c.queue 1 16)) (fun Fr w _ _ _ => rnear_spec Fr w _ _ _) rfl) rfl (fun v L' h => by obtain ⟨_, rfl⟩ := h; exact (by (repeat refine Pd.filter ?_); exact hS _ (.tail _ (.tail _ (.head _))))) ?_)
      rintro _ _ ⟨rfl, rfl⟩
      refine VA.go (VA.opP (OpT.callP (φ := fun v => v = .int .i64 (near c.window 1 16)) (fun Fr w _ _ _ => rnear_spec Fr w _ _ _) rfl) rfl (fun v L' h => by obtain ⟨_, rfl⟩ := h; exact (by (repeat refine Pd.filter ?_); exact hS _ (.tail _ (.tail _ (.head _))))) ?_)
      rintro _ _ ⟨rfl, rfl⟩
      refine VA.go (VA.opP (OpT.callP (φ := fun v => v = .int .i64 (near c.reads 1 16)) (fun Fr w _ _ _ => rnear_spec Fr w _ _ _) rfl) rfl (fun v L' h => by obtain ⟨_, rfl⟩ := h; exact (by (repeat refine Pd.filter ?_); exact hS _ (.tail _ (.tail _ (.head _))))) ?_)
      rintro _ _ ⟨rfl, rfl⟩
      refine VA.go (VA.opP (OpT.callP (φ := fun v => v = .int .i64 (near c.link 4 64)) (fun Fr w _ _ _ => rnear_spec Fr w _ _ _) rfl) rfl (fun v L' h => by obtain ⟨_, rfl⟩ := h; exact (by (repeat refine Pd.filter ?_); exact hS _ (.tail _ (.tail _ (.head _))))) ?_)
      rintro _ _ ⟨rfl, rfl⟩
      refine VA.go (VA.opP (OpT.callP (φ := fun v => v = .int .i64 (near c.patience 4 64)) (fun Fr w _ _ _ => rnear_spec Fr w _ _ _) rfl) rfl (fun v L' h => by obtain ⟨_, rfl⟩ := h; exact (by (repeat refine Pd.filter ?_); exact hS _ (.tail _ (.tail _ (.head _))))) ?_)
      rintro _ _ ⟨rfl, rfl⟩
      refine VA.go (VA.opP (OpT.callP (φ := fun v => v = .int .i64 (near c.timeout 4 64)) (fun Fr w _ _ _ => rnear_spec Fr w _ _ _) rfl) rfl (fun v L' h => by obtain ⟨_, rfl⟩ := h; exact (by (repeat refine Pd.filter ?_); exact hS _ (.tail _ (.tail _ (.head _))))) ?_)
      rintro _ _ ⟨rfl, rfl⟩
      refine VA.go (VA.opP (OpT.callP (φ := fun v => v = .int .i64 (near c.budget 0 16)) (fun Fr w _ _ _ => rnear_spec Fr w _ _ _) rfl) rfl (fun v L' h => by obtain ⟨_, rfl⟩ := h; exact (by (repeat refine Pd.filter ?_); exact hS _ (.tail _ (.tail _ (.head _))))) ?_)
      rintro _ _ ⟨rfl, rfl⟩
      refine VA.go (VA.opP (OpT.callP (φ := fun v => v = .int .i64 (near c.refill 1 1099511627776)) (fun Fr w _ _ _ => rnear_spec Fr w _ _ _) rfl) rfl (fun v L' h => by obtain ⟨_, rfl⟩ := h; exact (by (repeat refine Pd.filter ?_); exact hS _ (.tail _ (.tail _ (.head _))))) ?_)
      rintro _ _ ⟨rfl, rfl⟩
      refine VA.go (VA.light rfl (light_conf rfl rfl) ?_)
      refine VA.go (VA.stA (vs := [.int .i64 (near c.nodes 1 6), .int .i64 (near c.chain 1 (near c.nodes 1 6)), .int .i64 (near c.clients 1 6), .slice none 0 0, .int .i64 (near c.queue 1 16), .int .i64 (near c.window 1 16), .int .i64 (near c.reads 1 16), .int .i64 (near c.link 4 64), .int .i64 (near c.patience 4 64), .int .i64 (near c.timeout 4 64), .int .i64 (near c.budget 0 16), .int .i64 (near c.refill 1 1099511627776)]) (cs' := [.int .i64 (near c.nodes 1 6), .int .i64 (near c.chain 1 (near c.nodes 1 6)), .int .i64 (near c.clients 1 6), .slice none 0 0, .int .i64 (near c.queue 1 16), .int .i64 (near c.window 1 16), .int .i64 (near c.reads 1 16), .int .i64 (near c.link 4 64), .int .i64 (near c.patience 4 64), .int .i64 (near c.timeout 4 64), .int .i64 (near c.budget 0 16), .int .i64 (near c.refill 1 1099511627776)]) 0 rfl rfl rfl rfl rfl (Nat.le_refl _) rfl rfl rfl (by (repeat refine Pd.filter ?_); exact hS _ (.tail _ (.tail _ (.head _)))) (VA.go (VA.nil ?_)))
      exact ⟨d, trivial, Sub.cons rfl (Sub.cons rfl (Sub.cons rfl (Sub.nil _))), Ent.refl⟩
    rintro _ _ ⟨rfl, rfl⟩
    refine VA.go (VA.two rfl rfl rfl rfl rfl (OpT.callP (φ := fun v => v = .int .i64 (near c.queue 1 16)) (fun Fr w _ _ _ => rnear_spec Fr w _ _ _) rfl) rfl rfl rfl (OpT.alloc rfl) (fun v L' h => by obtain ⟨_, rfl⟩ := h; exact Pd.st (by (repeat refine Pd.filter ?_); exact hS _ (.tail _ (.head _)))) (fun v L' h => by obtain ⟨d, _, rfl⟩ := h; exact Pd.st (by (repeat refine Pd.filter ?_); exact hS _ (.tail _ (.tail _ (.head _))))) ?_ ?_)
    rotate_left
    · rintro _ _ ⟨d, rfl, rfl⟩
      refine VA.go (VA.opP (OpT.callP (φ := fun v => v = .int .i64 (near c.queue 1 16)) (fun Fr w _ _ _ => rnear_spec Fr w _ _ _) rfl) rfl (fun v L' h => by obtain ⟨_, rfl⟩ := h; exact (by (repeat refine Pd.filter ?_); exact hS _ (.tail _ (.tail _ (.head _))))) ?_)
      rintro _ _ ⟨rfl, rfl⟩
      refine VA.go (VA.opP (OpT.callP (φ := fun v => v = .int .i64 (near c.window 1 16)) (fun Fr w _ _ _ => rnear_spec Fr w _ _ _) rfl) rfl (fun v L' h => by obtain ⟨_, rfl⟩ := h; exact (by (repeat refine Pd.filter ?_); exact hS _ (.tail _ (.tail _ (.head _))))) ?_)
      rintro _ _ ⟨rfl, rfl⟩
      refine VA.go (VA.opP (OpT.callP (φ := fun v => v = .int .i64 (near c.reads 1 16)) (fun Fr w _ _ _ => rnear_spec Fr w _ _ _) rfl) rfl (fun v L' h => by obtain ⟨_, rfl⟩ := h; exact (by (repeat refine Pd.filter ?_); exact hS _ (.tail _ (.tail _ (.head _))))) ?_)
      rintro _ _ ⟨rfl, rfl⟩
      refine VA.go (VA.opP (OpT.callP (φ := fun v => v = .int .i64 (near c.link 4 64)) (fun Fr w _ _ _ => rnear_spec Fr w _ _ _) rfl) rfl (fun v L' h => by obtain ⟨_, rfl⟩ := h; exact (by (repeat refine Pd.filter ?_); exact hS _ (.tail _ (.tail _ (.head _))))) ?_)
      rintro _ _ ⟨rfl, rfl⟩
      refine VA.go (VA.opP (OpT.callP (φ := fun v => v = .int .i64 (near c.patience 4 64)) (fun Fr w _ _ _ => rnear_spec Fr w _ _ _) rfl) rfl (fun v L' h => by obtain ⟨_, rfl⟩ := h; exact (by (repeat refine Pd.filter ?_); exact hS _ (.tail _ (.tail _ (.head _))))) ?_)
      rintro _ _ ⟨rfl, rfl⟩
      refine VA.go (VA.opP (OpT.callP (φ := fun v => v = .int .i64 (near c.timeout 4 64)) (fun Fr w _ _ _ => rnear_spec Fr w _ _ _) rfl) rfl (fun v L' h => by obtain ⟨_, rfl⟩ := h; exact (by (repeat refine Pd.filter ?_); exact hS _ (.tail _ (.tail _ (.head _))))) ?_)
      rintro _ _ ⟨rfl, rfl⟩
      refine VA.go (VA.opP (OpT.callP (φ := fun v => v = .int .i64 (near c.budget 0 16)) (fun Fr w _ _ _ => rnear_spec Fr w _ _ _) rfl) rfl (fun v L' h => by obtain ⟨_, rfl⟩ := h; exact (by (repeat refine Pd.filter ?_); exact hS _ (.tail _ (.tail _ (.head _))))) ?_)
      rintro _ _ ⟨rfl, rfl⟩
      refine VA.go (VA.opP (OpT.callP (φ := fun v => v = .int .i64 (near c.refill 1 1099511627776)) (fun Fr w _ _ _ => rnear_spec Fr w _ _ _) rfl) rfl (fun v L' h => by obtain ⟨_, rfl⟩ := h; exact (by (repeat refine Pd.filter ?_); exact hS _ (.tail _ (.tail _ (.head _))))) ?_)
      rintro _ _ ⟨rfl, rfl⟩
      refine VA.go (VA.light rfl (light_conf rfl rfl) ?_)
      refine VA.go (VA.stA (vs := [.int .i64 (near c.nodes 1 6), .int .i64 (near c.chain 1 (near c.nodes 1 6)), .int .i64 (near c.clients 1 6), .slice none 0 0, .int .i64 (near c.queue 1 16), .int .i64 (near c.window 1 16), .int .i64 (near c.reads 1 16), .int .i64 (near c.link 4 64), .int .i64 (near c.patience 4 64), .int .i64 (near c.timeout 4 64), .int .i64 (near c.budget 0 16), .int .i64 (near c.refill 1 1099511627776)]) (cs' := [.int .i64 (near c.nodes 1 6), .int .i64 (near c.chain 1 (near c.nodes 1 6)), .int .i64 (near c.clients 1 6), .slice none 0 0, .int .i64 (near c.queue 1 16), .int .i64 (near c.window 1 16), .int .i64 (near c.reads 1 16), .int .i64 (near c.link 4 64), .int .i64 (near c.patience 4 64), .int .i64 (near c.timeout 4 64), .int .i64 (near c.budget 0 16), .int .i64 (near c.refill 1 1099511627776)]) 0 rfl rfl rfl rfl rfl (Nat.le_refl _) rfl rfl rfl (by (repeat refine Pd.filter ?_); exact hS _ (.tail _ (.tail _ (.head _)))) (VA.go (VA.nil ?_)))
      exact ⟨d, trivial, Sub.cons rfl (Sub.cons rfl (Sub.cons rfl (Sub.nil _))), Ent.refl⟩
    rintro _ _ ⟨rfl, rfl⟩
    refine VA.go (VA.two rfl rfl rfl rfl rfl (OpT.callP (φ := fun v => v = .int .i64 (near c.window 1 16)) (fun Fr w _ _ _ => rnear_spec Fr w _ _ _) rfl) rfl rfl rfl (OpT.alloc rfl) (fun v L' h => by obtain ⟨_, rfl⟩ := h; exact Pd.st (by (repeat refine Pd.filter ?_); exact hS _ (.tail _ (.head _)))) (fun v L' h => by obtain ⟨d, _, rfl⟩ := h; exact Pd.st (by (repeat refine Pd.filter ?_); exact hS _ (.tail _ (.tail _ (.head _))))) ?_ ?_)
    rotate_left
    · rintro _ _ ⟨d, rfl, rfl⟩
      refine VA.go (VA.opP (OpT.callP (φ := fun v => v = .int .i64 (near c.window 1 16)) (fun Fr w _ _ _ => rnear_spec Fr w _ _ _) rfl) rfl (fun v L' h => by obtain ⟨_, rfl⟩ := h; exact (by (repeat refine Pd.filter ?_); exact hS _ (.tail _ (.tail _ (.head _))))) ?_)
      rintro _ _ ⟨rfl, rfl⟩
      refine VA.go (VA.opP (OpT.callP (φ := fun v => v = .int .i64 (near c.reads 1 16)) (fun Fr w _ _ _ => rnear_spec Fr w _ _ _) rfl) rfl (fun v L' h => by obtain ⟨_, rfl⟩ := h; exact (by (repeat refine Pd.filter ?_); exact hS _ (.tail _ (.tail _ (.head _))))) ?_)
      rintro _ _ ⟨rfl, rfl⟩
      refine VA.go (VA.opP (OpT.callP (φ := fun v => v = .int .i64 (near c.link 4 64)) (fun Fr w _ _ _ => rnear_spec Fr w _ _ _) rfl) rfl (fun v L' h => by obtain ⟨_, rfl⟩ := h; exact (by (repeat refine Pd.filter ?_); exact hS _ (.tail _ (.tail _ (.head _))))) ?_)
      rintro _ _ ⟨rfl, rfl⟩
      refine VA.go (VA.opP (OpT.callP (φ := fun v => v = .int .i64 (near c.patience 4 64)) (fun Fr w _ _ _ => rnear_spec Fr w _ _ _) rfl) rfl (fun v L' h => by obtain ⟨_, rfl⟩ := h; exact (by (repeat refine Pd.filter ?_); exact hS _ (.tail _ (.tail _ (.head _))))) ?_)
      rintro _ _ ⟨rfl, rfl⟩
      refine VA.go (VA.opP (OpT.callP (φ := fun v => v = .int .i64 (near c.timeout 4 64)) (fun Fr w _ _ _ => rnear_spec Fr w _ _ _) rfl) rfl (fun v L' h => by obtain ⟨_, rfl⟩ := h; exact (by (repeat refine Pd.filter ?_); exact hS _ (.tail _ (.tail _ (.head _))))) ?_)
      rintro _ _ ⟨rfl, rfl⟩
      refine VA.go (VA.opP (OpT.callP (φ := fun v => v = .int .i64 (near c.budget 0 16)) (fun Fr w _ _ _ => rnear_spec Fr w _ _ _) rfl) rfl (fun v L' h => by obtain ⟨_, rfl⟩ := h; exact (by (repeat refine Pd.filter ?_); exact hS _ (.tail _ (.tail _ (.head _))))) ?_)
      rintro _ _ ⟨rfl, rfl⟩
      refine VA.go (VA.opP (OpT.callP (φ := fun v => v = .int .i64 (near c.refill 1 1099511627776)) (fun Fr w _ _ _ => rnear_spec Fr w _ _ _) rfl) rfl (fun v L' h => by obtain ⟨_, rfl⟩ := h; exact (by (repeat refine Pd.filter ?_); exact hS _ (.tail _ (.tail _ (.head _))))) ?_)
      rintro _ _ ⟨rfl, rfl⟩
      refine VA.go (VA.light rfl (light_conf rfl rfl) ?_)
      refine VA.go (VA.stA (vs := [.int .i64 (near c.nodes 1 6), .int .i64 (near c.chain 1 (near c.nodes 1 6)), .int .i64 (near c.clients 1 6), .slice none 0 0, .int .i64 (near c.queue 1 16), .int .i64 (near c.window 1 16), .int .i64 (near c.reads 1 16), .int .i64 (near c.link 4 64), .int .i64 (near c.patience 4 64), .int .i64 (near c.timeout 4 64), .int .i64 (near c.budget 0 16), .int .i64 (near c.refill 1 1099511627776)]) (cs' := [.int .i64 (near c.nodes 1 6), .int .i64 (near c.chain 1 (near c.nodes 1 6)), .int .i64 (near c.clients 1 6), .slice none 0 0, .int .i64 (near c.queue 1 16), .int .i64 (near c.window 1 16), .int .i64 (near c.reads 1 16), .int .i64 (near c.link 4 64), .int .i64 (near c.patience 4 64), .int .i64 (near c.timeout 4 64), .int .i64 (near c.budget 0 16), .int .i64 (near c.refill 1 1099511627776)]) 0 rfl rfl rfl rfl rfl (Nat.le_refl _) rfl rfl rfl (by (repeat refine Pd.filter ?_); exact hS _ (.tail _ (.tail _ (.head _)))) (VA.go (VA.nil ?_)))
      exact ⟨d, trivial, Sub.cons rfl (Sub.cons rfl (Sub.cons rfl (Sub.nil _))), Ent.refl⟩
    rintro _ _ ⟨rfl, rfl⟩
    refine VA.go (VA.two rfl rfl rfl rfl rfl (OpT.callP (φ := fun v => v = .int .i64 (near c.reads 1 16)) (fun Fr w _ _ _ => rnear_spec Fr w _ _ _) rfl) rfl rfl rfl (OpT.alloc rfl) (fun v L' h => by obtain ⟨_, rfl⟩ := h; exact Pd.st (by (repeat refine Pd.filter ?_); exact hS _ (.tail _ (.head _)))) (fun v L' h => by obtain ⟨d, _, rfl⟩ := h; exact Pd.st (by (repeat refine Pd.filter ?_); exact hS _ (.tail _ (.tail _ (.head _))))) ?_ ?_)
    rotate_left
    · rintro _ _ ⟨d, rfl, rfl⟩
      refine VA.go (VA.opP (OpT.callP (φ := fun v => v = .int .i64 (near c.reads 1 16)) (fun Fr w _ _ _ => rnear_spec Fr w _ _ _) rfl) rfl (fun v L' h => by obtain ⟨_, rfl⟩ := h; exact (by (repeat refine Pd.filter ?_); exact hS _ (.tail _ (.tail _ (.head _))))) ?_)
      rintro _ _ ⟨rfl, rfl⟩
      refine VA.go (VA.opP (OpT.callP (φ := fun v => v = .int .i64 (near c.link 4 64)) (fun Fr w _ _ _ => rnear_spec Fr w _ _ _) rfl) rfl (fun v L' h => by obtain ⟨_, rfl⟩ := h; exact (by (repeat refine Pd.filter ?_); exact hS _ (.tail _ (.tail _ (.head _))))) ?_)
      rintro _ _ ⟨rfl, rfl⟩
      refine VA.go (VA.opP (OpT.callP (φ := fun v => v = .int .i64 (near c.patience 4 64)) (fun Fr w _ _ _ => rnear_spec Fr w _ _ _) rfl) rfl (fun v L' h => by obtain ⟨_, rfl⟩ := h; exact (by (repeat refine Pd.filter ?_); exact hS _ (.tail _ (.tail _ (.head _))))) ?_)
      rintro _ _ ⟨rfl, rfl⟩
      refine VA.go (VA.opP (OpT.callP (φ := fun v => v = .int .i64 (near c.timeout 4 64)) (fun Fr w _ _ _ => rnear_spec Fr w _ _ _) rfl) rfl (fun v L' h => by obtain ⟨_, rfl⟩ := h; exact (by (repeat refine Pd.filter ?_); exact hS _ (.tail _ (.tail _ (.head _))))) ?_)
      rintro _ _ ⟨rfl, rfl⟩
      refine VA.go (VA.opP (OpT.callP (φ := fun v => v = .int .i64 (near c.budget 0 16)) (fun Fr w _ _ _ => rnear_spec Fr w _ _ _) rfl) rfl (fun v L' h => by obtain ⟨_, rfl⟩ := h; exact (by (repeat refine Pd.filter ?_); exact hS _ (.tail _ (.tail _ (.head _))))) ?_)
      rintro _ _ ⟨rfl, rfl⟩
      refine VA.go (VA.opP (OpT.callP (φ := fun v => v = .int .i64 (near c.refill 1 1099511627776)) (fun Fr w _ _ _ => rnear_spec Fr w _ _ _) rfl) rfl (fun v L' h => by obtain ⟨_, rfl⟩ := h; exact (by (repeat refine Pd.filter ?_); exact hS _ (.tail _ (.tail _ (.head _))))) ?_)
      rintro _ _ ⟨rfl, rfl⟩
      refine VA.go (VA.light rfl (light_conf rfl rfl) ?_)
      refine VA.go (VA.stA (vs := [.int .i64 (near c.nodes 1 6), .int .i64 (near c.chain 1 (near c.nodes 1 6)), .int .i64 (near c.clients 1 6), .slice none 0 0, .int .i64 (near c.queue 1 16), .int .i64 (near c.window 1 16), .int .i64 (near c.reads 1 16), .int .i64 (near c.link 4 64), .int .i64 (near c.patience 4 64), .int .i64 (near c.timeout 4 64), .int .i64 (near c.budget 0 16), .int .i64 (near c.refill 1 1099511627776)]) (cs' := [.int .i64 (near c.nodes 1 6), .int .i64 (near c.chain 1 (near c.nodes 1 6)), .int .i64 (near c.clients 1 6), .slice none 0 0, .int .i64 (near c.queue 1 16), .int .i64 (near c.window 1 16), .int .i64 (near c.reads 1 16), .int .i64 (near c.link 4 64), .int .i64 (near c.patience 4 64), .int .i64 (near c.timeout 4 64), .int .i64 (near c.budget 0 16), .int .i64 (near c.refill 1 1099511627776)]) 0 rfl rfl rfl rfl rfl (Nat.le_refl _) rfl rfl rfl (by (repeat refine Pd.filter ?_); exact hS _ (.tail _ (.tail _ (.head _)))) (VA.go (VA.nil ?_)))
      exact ⟨d, trivial, Sub.cons rfl (Sub.cons rfl (Sub.cons rfl (Sub.nil _))), Ent.refl⟩
    rintro _ _ ⟨rfl, rfl⟩
    refine VA.go (VA.two rfl rfl rfl rfl rfl (OpT.callP (φ := fun v => v = .int .i64 (near c.link 4 64)) (fun Fr w _ _ _ => rnear_spec Fr w _ _ _) rfl) rfl rfl rfl (OpT.alloc rfl) (fun v L' h => by obtain ⟨_, rfl⟩ := h; exact Pd.st (by (repeat refine Pd.filter ?_); exact hS _ (.tail _ (.head _)))) (fun v L' h => by obtain ⟨d, _, rfl⟩ := h; exact Pd.st (by (repeat refine Pd.filter ?_); exact hS _ (.tail _ (.tail _ (.head _))))) ?_ ?_)
    rotate_left
    · rintro _ _ ⟨d, rfl, rfl⟩
      refine VA.go (VA.opP (OpT.callP (φ := fun v => v = .int .i64 (near c.link 4 64)) (fun Fr w _ _ _ => rnear_spec Fr w _ _ _) rfl) rfl (fun v L' h => by obtain ⟨_, rfl⟩ := h; exact (by (repeat refine Pd.filter ?_); exact hS _ (.tail _ (.tail _ (.head _))))) ?_)
      rintro _ _ ⟨rfl, rfl⟩
      refine VA.go (VA.opP (OpT.callP (φ := fun v => v = .int .i64 (near c.patience 4 64)) (fun Fr w _ _ _ => rnear_spec Fr w _ _ _) rfl) rfl (fun v L' h => by obtain ⟨_, rfl⟩ := h; exact (by (repeat refine Pd.filter ?_); exact hS _ (.tail _ (.tail _ (.head _))))) ?_)
      rintro _ _ ⟨rfl, rfl⟩
      refine VA.go (VA.opP (OpT.callP (φ := fun v => v = .int .i64 (near c.timeout 4 64)) (fun Fr w _ _ _ => rnear_spec Fr w _ _ _) rfl) rfl (fun v L' h => by obtain ⟨_, rfl⟩ := h; exact (by (repeat refine Pd.filter ?_); exact hS _ (.tail _ (.tail _ (.head _))))) ?_)
      rintro _ _ ⟨rfl, rfl⟩
      refine VA.go (VA.opP (OpT.callP (φ := fun v => v = .int .i64 (near c.budget 0 16)) (fun Fr w _ _ _ => rnear_spec Fr w _ _ _) rfl) rfl (fun v L' h => by obtain ⟨_, rfl⟩ := h; exact (by (repeat refine Pd.filter ?_); exact hS _ (.tail _ (.tail _ (.head _))))) ?_)
      rintro _ _ ⟨rfl, rfl⟩
      refine VA.go (VA.opP (OpT.callP (φ := fun v => v = .int .i64 (near c.refill 1 1099511627776)) (fun Fr w _ _ _ => rnear_spec Fr w _ _ _) rfl) rfl (fun v L' h => by obtain ⟨_, rfl⟩ := h; exact (by (repeat refine Pd.filter ?_); exact hS _ (.tail _ (.tail _ (.head _))))) ?_)
      rintro _ _ ⟨rfl, rfl⟩
      refine VA.go (VA.light rfl (light_conf rfl rfl) ?_)
      refine VA.go (VA.stA (vs := [.int .i64 (near c.nodes 1 6), .int .i64 (near c.chain 1 (near c.nodes 1 6)), .int .i64 (near c.clients 1 6), .slice none 0 0, .int .i64 (near c.queue 1 16), .int .i64 (near c.window 1 16), .int .i64 (near c.reads 1 16), .int .i64 (near c.link 4 64), .int .i64 (near c.patience 4 64), .int .i64 (near c.timeout 4 64), .int .i64 (near c.budget 0 16), .int .i64 (near c.refill 1 1099511627776)]) (cs' := [.int .i64 (near c.nodes 1 6), .int .i64 (near c.chain 1 (near c.nodes 1 6)), .int .i64 (near c.clients 1 6), .slice none 0 0, .int .i64 (near c.queue 1 16), .int .i64 (near c.window 1 16), .int .i64 (near c.reads 1 16), .int .i64 (near c.link 4 64), .int .i64 (near c.patience 4 64), .int .i64 (near c.timeout 4 64), .int .i64 (near c.budget 0 16), .int .i64 (near c.refill 1 1099511627776)]) 0 rfl rfl rfl rfl rfl (Nat.le_refl _) rfl rfl rfl (by (repeat refine Pd.filter ?_); exact hS _ (.tail _ (.tail _ (.head _)))) (VA.go (VA.nil ?_)))
      exact ⟨d, trivial, Sub.cons rfl (Sub.cons rfl (Sub.cons rfl (Sub.nil _))), Ent.refl⟩
    rintro _ _ ⟨rfl, rfl⟩
    refine VA.go (VA.two rfl rfl rfl rfl rfl (OpT.callP (φ := fun v => v = .int .i64 (near c.patience 4 64)) (fun Fr w _ _ _ => rnear_spec Fr w _ _ _) rfl) rfl rfl rfl (OpT.alloc rfl) (fun v L' h => by obtain ⟨_, rfl⟩ := h; exact Pd.st (by (repeat refine Pd.filter ?_); exact hS _ (.tail _ (.head _)))) (fun v L' h => by obtain ⟨d, _, rfl⟩ := h; exact Pd.st (by (repeat refine Pd.filter ?_); exact hS _ (.tail _ (.tail _ (.head _))))) ?_ ?_)
    rotate_left
    · rintro _ _ ⟨d, rfl, rfl⟩
      refine VA.go (VA.opP (OpT.callP (φ := fun v => v = .int .i64 (near c.patience 4 64)) (fun Fr w _ _ _ => rnear_spec Fr w _ _ _) rfl) rfl (fun v L' h => by obtain ⟨_, rfl⟩ := h; exact (by (repeat refine Pd.filter ?_); exact hS _ (.tail _ (.tail _ (.head _))))) ?_)
      rintro _ _ ⟨rfl, rfl⟩
      refine VA.go (VA.opP (OpT.callP (φ := fun v => v = .int .i64 (near c.timeout 4 64)) (fun Fr w _ _ _ => rnear_spec Fr w _ _ _) rfl) rfl (fun v L' h => by obtain ⟨_, rfl⟩ := h; exact (by (repeat refine Pd.filter ?_); exact hS _ (.tail _ (.tail _ (.head _))))) ?_)
      rintro _ _ ⟨rfl, rfl⟩
      refine VA.go (VA.opP (OpT.callP (φ := fun v => v = .int .i64 (near c.budget 0 16)) (fun Fr w _ _ _ => rnear_spec Fr w _ _ _) rfl) rfl (fun v L' h => by obtain ⟨_, rfl⟩ := h; exact (by (repeat refine Pd.filter ?_); exact hS _ (.tail _ (.tail _ (.head _))))) ?_)
      rintro _ _ ⟨rfl, rfl⟩
      refine VA.go (VA.opP (OpT.callP (φ := fun v => v = .int .i64 (near c.refill 1 1099511627776)) (fun Fr w _ _ _ => rnear_spec Fr w _ _ _) rfl) rfl (fun v L' h => by obtain ⟨_, rfl⟩ := h; exact (by (repeat refine Pd.filter ?_); exact hS _ (.tail _ (.tail _ (.head _))))) ?_)
      rintro _ _ ⟨rfl, rfl⟩
      refine VA.go (VA.light rfl (light_conf rfl rfl) ?_)
      refine VA.go (VA.stA (vs := [.int .i64 (near c.nodes 1 6), .int .i64 (near c.chain 1 (near c.nodes 1 6)), .int .i64 (near c.clients 1 6), .slice none 0 0, .int .i64 (near c.queue 1 16), .int .i64 (near c.window 1 16), .int .i64 (near c.reads 1 16), .int .i64 (near c.link 4 64), .int .i64 (near c.patience 4 64), .int .i64 (near c.timeout 4 64), .int .i64 (near c.budget 0 16), .int .i64 (near c.refill 1 1099511627776)]) (cs' := [.int .i64 (near c.nodes 1 6), .int .i64 (near c.chain 1 (near c.nodes 1 6)), .int .i64 (near c.clients 1 6), .slice none 0 0, .int .i64 (near c.queue 1 16), .int .i64 (near c.window 1 16), .int .i64 (near c.reads 1 16), .int .i64 (near c.link 4 64), .int .i64 (near c.patience 4 64), .int .i64 (near c.timeout 4 64), .int .i64 (near c.budget 0 16), .int .i64 (near c.refill 1 1099511627776)]) 0 rfl rfl rfl rfl rfl (Nat.le_refl _) rfl rfl rfl (by (repeat refine Pd.filter ?_); exact hS _ (.tail _ (.tail _ (.head _)))) (VA.go (VA.nil ?_)))
      exact ⟨d, trivial, Sub.cons rfl (Sub.cons rfl (Sub.cons rfl (Sub.nil _))), Ent.refl⟩
    rintro _ _ ⟨rfl, rfl⟩
    refine VA.go (VA.two rfl rfl rfl rfl rfl (OpT.callP (φ := fun v => v = .int .i64 (near c.timeout 4 64)) (fun Fr w _ _ _ => rnear_spec Fr w _ _ _) rfl) rfl rfl rfl (OpT.alloc rfl) (fun v L' h => by obtain ⟨_, rfl⟩ := h; exact Pd.st (by (repeat refine Pd.filter ?_); exact hS _ (.tail _ (.head _)))) (fun v L' h => by obtain ⟨d, _, rfl⟩ := h; exact Pd.st (by (repeat refine Pd.filter ?_); exact hS _ (.tail _ (.tail _ (.head _))))) ?_ ?_)
    rotate_left
    · rintro _ _ ⟨d, rfl, rfl⟩
      refine VA.go (VA.opP (OpT.callP (φ := fun v => v = .int .i64 (near c.timeout 4 64)) (fun Fr w _ _ _ => rnear_spec Fr w _ _ _) rfl) rfl (fun v L' h => by obtain ⟨_, rfl⟩ := h; exact (by (repeat refine Pd.filter ?_); exact hS _ (.tail _ (.tail _ (.head _))))) ?_)
      rintro _ _ ⟨rfl, rfl⟩
      refine VA.go (VA.opP (OpT.callP (φ := fun v => v = .int .i64 (near c.budget 0 16)) (fun Fr w _ _ _ => rnear_spec Fr w _ _ _) rfl) rfl (fun v L' h => by obtain ⟨_, rfl⟩ := h; exact (by (repeat refine Pd.filter ?_); exact hS _ (.tail _ (.tail _ (.head _))))) ?_)
      rintro _ _ ⟨rfl, rfl⟩
      refine VA.go (VA.opP (OpT.callP (φ := fun v => v = .int .i64 (near c.refill 1 1099511627776)) (fun Fr w _ _ _ => rnear_spec Fr w _ _ _) rfl) rfl (fun v L' h => by obtain ⟨_, rfl⟩ := h; exact (by (repeat refine Pd.filter ?_); exact hS _ (.tail _ (.tail _ (.head _))))) ?_)
      rintro _ _ ⟨rfl, rfl⟩
      refine VA.go (VA.light rfl (light_conf rfl rfl) ?_)
      refine VA.go (VA.stA (vs := [.int .i64 (near c.nodes 1 6), .int .i64 (near c.chain 1 (near c.nodes 1 6)), .int .i64 (near c.clients 1 6), .slice none 0 0, .int .i64 (near c.queue 1 16), .int .i64 (near c.window 1 16), .int .i64 (near c.reads 1 16), .int .i64 (near c.link 4 64), .int .i64 (near c.patience 4 64), .int .i64 (near c.timeout 4 64), .int .i64 (near c.budget 0 16), .int .i64 (near c.refill 1 1099511627776)]) (cs' := [.int .i64 (near c.nodes 1 6), .int .i64 (near c.chain 1 (near c.nodes 1 6)), .int .i64 (near c.clients 1 6), .slice none 0 0, .int .i64 (near c.queue 1 16), .int .i64 (near c.window 1 16), .int .i64 (near c.reads 1 16), .int .i64 (near c.link 4 64), .int .i64 (near c.patience 4 64), .int .i64 (near c.timeout 4 64), .int .i64 (near c.budget 0 16), .int .i64 (near c.refill 1 1099511627776)]) 0 rfl rfl rfl rfl rfl (Nat.le_refl _) rfl rfl rfl (by (repeat refine Pd.filter ?_); exact hS _ (.tail _ (.tail _ (.head _)))) (VA.go (VA.nil ?_)))
      exact ⟨d, trivial, Sub.cons rfl (Sub.cons rfl (Sub.cons rfl (Sub.nil _))), Ent.refl⟩
    rintro _ _ ⟨rfl, rfl⟩
    refine VA.go (VA.two rfl rfl rfl rfl rfl (OpT.callP (φ := fun v => v = .int .i64 (near c.budget 0 16)) (fun Fr w _ _ _ => rnear_spec Fr w _ _ _) rfl) rfl rfl rfl (OpT.alloc rfl) (fun v L' h => by obtain ⟨_, rfl⟩ := h; exact Pd.st (by (repeat refine Pd.filter ?_); exact hS _ (.tail _ (.head _)))) (fun v L' h => by obtain ⟨d, _, rfl⟩ := h; exact Pd.st (by (repeat refine Pd.filter ?_); exact hS _ (.tail _ (.tail _ (.head _))))) ?_ ?_)
    rotate_left
    · rintro _ _ ⟨d, rfl, rfl⟩
      refine VA.go (VA.opP (OpT.callP (φ := fun v => v = .int .i64 (near c.budget 0 16)) (fun Fr w _ _ _ => rnear_spec Fr w _ _ _) rfl) rfl (fun v L' h => by obtain ⟨_, rfl⟩ := h; exact (by (repeat refine Pd.filter ?_); exact hS _ (.tail _ (.tail _ (.head _))))) ?_)
      rintro _ _ ⟨rfl, rfl⟩
      refine VA.go (VA.opP (OpT.callP (φ := fun v => v = .int .i64 (near c.refill 1 1099511627776)) (fun Fr w _ _ _ => rnear_spec Fr w _ _ _) rfl) rfl (fun v L' h => by obtain ⟨_, rfl⟩ := h; exact (by (repeat refine Pd.filter ?_); exact hS _ (.tail _ (.tail _ (.head _))))) ?_)
      rintro _ _ ⟨rfl, rfl⟩
      refine VA.go (VA.light rfl (light_conf rfl rfl) ?_)
      refine VA.go (VA.stA (vs := [.int .i64 (near c.nodes 1 6), .int .i64 (near c.chain 1 (near c.nodes 1 6)), .int .i64 (near c.clients 1 6), .slice none 0 0, .int .i64 (near c.queue 1 16), .int .i64 (near c.window 1 16), .int .i64 (near c.reads 1 16), .int .i64 (near c.link 4 64), .int .i64 (near c.patience 4 64), .int .i64 (near c.timeout 4 64), .int .i64 (near c.budget 0 16), .int .i64 (near c.refill 1 1099511627776)]) (cs' := [.int .i64 (near c.nodes 1 6), .int .i64 (near c.chain 1 (near c.nodes 1 6)), .int .i64 (near c.clients 1 6), .slice none 0 0, .int .i64 (near c.queue 1 16), .int .i64 (near c.window 1 16), .int .i64 (near c.reads 1 16), .int .i64 (near c.link 4 64), .int .i64 (near c.patience 4 64), .int .i64 (near c.timeout 4 64), .int .i64 (near c.budget 0 16), .int .i64 (near c.refill 1 1099511627776)]) 0 rfl rfl rfl rfl rfl (Nat.le_refl _) rfl rfl rfl (by (repeat refine Pd.filter ?_); exact hS _ (.tail _ (.tail _ (.head _)))) (VA.go (VA.nil ?_)))
      exact ⟨d, trivial, Sub.cons rfl (Sub.cons rfl (Sub.cons rfl (Sub.nil _))), Ent.refl⟩
    rintro _ _ ⟨rfl, rfl⟩
    refine VA.go (VA.two rfl rfl rfl rfl rfl (OpT.callP (φ := fun v => v = .int .i64 (near c.refill 1 1099511627776)) (fun Fr w _ _ _ => rnear_spec Fr w _ _ _) rfl) rfl rfl rfl (OpT.alloc rfl) (fun v L' h => by obtain ⟨_, rfl⟩ := h; exact Pd.st (by (repeat refine Pd.filter ?_); exact hS _ (.tail _ (.head _)))) (fun v L' h => by obtain ⟨d, _, rfl⟩ := h; exact Pd.st (by (repeat refine Pd.filter ?_); exact hS _ (.tail _ (.tail _ (.head _))))) ?_ ?_)
    rotate_left
    · rintro _ _ ⟨d, rfl, rfl⟩
      refine VA.go (VA.opP (OpT.callP (φ := fun v => v = .int .i64 (near c.refill 1 1099511627776)) (fun Fr w _ _ _ => rnear_spec Fr w _ _ _) rfl) rfl (fun v L' h => by obtain ⟨_, rfl⟩ := h; exact (by (repeat refine Pd.filter ?_); exact hS _ (.tail _ (.tail _ (.head _))))) ?_)
      rintro _ _ ⟨rfl, rfl⟩
      refine VA.go (VA.light rfl (light_conf rfl rfl) ?_)
      refine VA.go (VA.stA (vs := [.int .i64 (near c.nodes 1 6), .int .i64 (near c.chain 1 (near c.nodes 1 6)), .int .i64 (near c.clients 1 6), .slice none 0 0, .int .i64 (near c.queue 1 16), .int .i64 (near c.window 1 16), .int .i64 (near c.reads 1 16), .int .i64 (near c.link 4 64), .int .i64 (near c.patience 4 64), .int .i64 (near c.timeout 4 64), .int .i64 (near c.budget 0 16), .int .i64 (near c.refill 1 1099511627776)]) (cs' := [.int .i64 (near c.nodes 1 6), .int .i64 (near c.chain 1 (near c.nodes 1 6)), .int .i64 (near c.clients 1 6), .slice none 0 0, .int .i64 (near c.queue 1 16), .int .i64 (near c.window 1 16), .int .i64 (near c.reads 1 16), .int .i64 (near c.link 4 64), .int .i64 (near c.patience 4 64), .int .i64 (near c.timeout 4 64), .int .i64 (near c.budget 0 16), .int .i64 (near c.refill 1 1099511627776)]) 0 rfl rfl rfl rfl rfl (Nat.le_refl _) rfl rfl rfl (by (repeat refine Pd.filter ?_); exact hS _ (.tail _ (.tail _ (.head _)))) (VA.go (VA.nil ?_)))
      exact ⟨d, trivial, Sub.cons rfl (Sub.cons rfl (Sub.cons rfl (Sub.nil _))), Ent.refl⟩
    rintro _ _ ⟨rfl, rfl⟩
    refine VA.go (VA.light rfl (light_conf rfl rfl) ?_)
    refine VA.go (VA.opP (OpT.alloc rfl) rfl (fun v L' h => by obtain ⟨d, _, rfl⟩ := h; exact (by (repeat refine Pd.filter ?_); exact hS _ (.tail _ (.tail _ (.head _))))) ?_)
    rintro _ _ ⟨d, rfl, rfl⟩
    refine VA.go (VA.stA (vs := [.int .i64 (near c.nodes 1 6), .int .i64 (near c.chain 1 (near c.nodes 1 6)), .int .i64 (near c.clients 1 6), .slice none 0 0, .int .i64 (near c.queue 1 16), .int .i64 (near c.window 1 16), .int .i64 (near c.reads 1 16), .int .i64 (near c.link 4 64), .int .i64 (near c.patience 4 64), .int .i64 (near c.timeout 4 64), .int .i64 (near c.budget 0 16), .int .i64 (near c.refill 1 1099511627776)]) (cs' := [.int .i64 (near c.nodes 1 6), .int .i64 (near c.chain 1 (near c.nodes 1 6)), .int .i64 (near c.clients 1 6), .slice none 0 0, .int .i64 (near c.queue 1 16), .int .i64 (near c.window 1 16), .int .i64 (near c.reads 1 16), .int .i64 (near c.link 4 64), .int .i64 (near c.patience 4 64), .int .i64 (near c.timeout 4 64), .int .i64 (near c.budget 0 16), .int .i64 (near c.refill 1 1099511627776)]) 0 rfl rfl rfl rfl rfl (Nat.le_refl _) rfl rfl rfl (by (repeat refine Pd.filter ?_); exact hS _ (.tail _ (.tail _ (.head _)))) (VA.go (VA.nil ?_)))
    exact ⟨d, trivial, Sub.cons rfl (Sub.cons rfl (Sub.cons rfl (Sub.nil _))), Ent.refl⟩
  rintro d _
  have ht4 := List.length_take_le 4 c.qs
  have htl : (c.qs.take 4).length = if c.qs.length ≤ 4 then c.qs.length else 4 := by rw [List.length_take]; split <;> omega
  refine VC.meet (σ := Option Addr × Nat) (fun _ => [(1, .pointer (some ⟨x, 0, none⟩)), (2, .pointer (some ⟨r, 0, none⟩)), (4, .pointer (some ⟨d, 0, none⟩))])
    (fun y => [slH 3 1 y.1 (c.qs.take 4).length y.2 (intCs ((c.qs.take 4).map qNear)), pt d [.int .i64 (near c.nodes 1 6), .int .i64 (near c.chain 1 (near c.nodes 1 6)), .int .i64 (near c.clients 1 6), .slice y.1 (c.qs.take 4).length y.2, .int .i64 (near c.queue 1 16), .int .i64 (near c.window 1 16), .int .i64 (near c.reads 1 16), .int .i64 (near c.link 4 64), .int .i64 (near c.patience 4 64), .int .i64 (near c.timeout 4 64), .int .i64 (near c.budget 0 16), .int .i64 (near c.refill 1 1099511627776)] 24, pt r T.t24.zs 24]) (fun y => (c.qs.take 4).length ≤ y.2) ?_ ?_
  · refine VC.seq (VC.region (VO.go (VO.nil (VC.block ?_))))
    refine VC.loop (σ := Nat × Option Addr × Nat) (fun y => [(1, .pointer (some ⟨x, 0, none⟩)), (2, .pointer (some ⟨r, 0, none⟩)), (4, .pointer (some ⟨d, 0, none⟩)), (5, .int .i64 y.1)])
      (fun y => [slH 3 1 y.2.1 y.1 y.2.2 (intCs ((c.qs.take y.1).map qNear)), pt d [.int .i64 (near c.nodes 1 6), .int .i64 (near c.chain 1 (near c.nodes 1 6)), .int .i64 (near c.clients 1 6), .slice y.2.1 y.1 y.2.2, .int .i64 (near c.queue 1 16), .int .i64 (near c.window 1 16), .int .i64 (near c.reads 1 16), .int .i64 (near c.link 4 64), .int .i64 (near c.patience 4 64), .int .i64 (near c.timeout 4 64), .int .i64 (near c.budget 0 16), .int .i64 (near c.refill 1 1099511627776)] 24, pt r T.t24.zs 24, pt x (c.cells a cap) 24]) (FitI c.qs) (fun y => 4 - y.1) (0, none, 0) ⟨Nat.zero_le _, Nat.le_refl _⟩ (Sub.cons rfl (Sub.cons rfl (Sub.cons rfl (Sub.cons rfl (Sub.nil _))))) (Imp.slNil Imp.refl).ent ?_
    rintro ⟨i, ai, ci⟩ ⟨hi, hroom⟩
    dsimp only at hi hroom ⊢
    refine VC.seq (VC.seq (VC.region (VO.go (VO.ld 3 rfl rfl rfl rfl ?_))))
    refine VO.go (VO.split 47 rfl rfl (fun h1 => ?_) (fun h1 => VO.go (VO.nil (VC.condF rfl (VC.exit ?_)))))
    rotate_left
    · have h1 := of_decide_eq_false h1
      have hi2 : i = (c.qs.take 4).length := by rw [htl] at hi ⊢; split at hi <;> split <;> omega
      have hi3 : c.qs.take i = c.qs.take 4 := by rw [hi2, List.length_take]; rw [List.take_eq_take_iff]; omega
      refine ⟨(ai, ci), by rw [← hi2]; exact hroom, Sub.cons rfl (Sub.cons rfl (Sub.cons rfl (Sub.nil _))), ?_⟩
      dsimp only
      rw [← hi2, ← hi3]
      exact (Imp.app (L := [_, _, _]) (M := [_, _, _]) Imp.refl Imp.nil).ent
    have h1 := of_decide_eq_true h1
    refine VO.go (VO.nil (VC.condP rfl (fun h2 => VC.skip ?_) (fun h2 => VC.exit ?_)))
    rotate_left
    · have hi2 : i = (c.qs.take 4).length := by rw [htl] at hi ⊢; split at hi <;> split <;> omega
      have hi3 : c.qs.take i = c.qs.take 4 := by rw [hi2, List.length_take]; rw [List.take_eq_take_iff]; omega
      refine ⟨(ai, ci), by rw [← hi2]; exact hroom, Sub.cons rfl (Sub.cons rfl (Sub.cons rfl (Sub.nil _))), ?_⟩
      dsimp only
      rw [← hi2, ← hi3]
      exact (Imp.app (L := [_, _, _]) (M := [_, _, _]) Imp.refl Imp.nil).ent
    have hiq : i < c.qs.length := by omega
    obtain ⟨qb, qo, hqa, hFq, hcq⟩ := hq.at_ (fun e => by rw [e] at hiq; simp at hiq)
    have hy := List.getElem?_eq_getElem hiq
    generalize c.qs[i] = y at hy
    have hsl : some (Value.slice a c.qs.length cap) = some (Value.slice (some ⟨qb, qo, none⟩) c.qs.length cap) := by rw [hqa]
    have htk : c.qs.take (i + 1) = c.qs.take i ++ [y] := by rw [List.take_add_one, hy]; rfl
    have hcell : w.cell? ⟨qb, qo + i * 1, none⟩ = some (.int .i64 y) := by rw [Nat.mul_one]; exact hcq i y hy
    have PQ : ∀ {L : List HP}, RdL (⟨Tryz.prog, tab, tabOk, 74, Fr, w⟩ : Cx) L T.t3 qb (qo + i * T.t3.size) (.int .i64 y) := RdL.rd hFq hcell
    refine VC.seq (VC.block (VC.draw (ts 0 7 (.only 7 (.only 8 (.only 9 (.take 10 (.only 11 .nil)))))) (by kernel_rfl) (by decide +kernel) ?_))
    (repeat (first|refine yG (yN ?_)|refine yG (yD 0 rfl rfl rfl rfl rfl ?_)|refine yG (yD 1 rfl rfl rfl rfl rfl ?_)|refine yG (yD 2 rfl rfl rfl rfl rfl ?_)|refine yG (yD 3 rfl rfl rfl rfl rfl ?_)))
    refine VA.go (VA.light rfl (light_idx i hsl rfl rfl rfl rfl rfl hiq) ?_)
    refine VA.go (VA.load rfl rfl rfl (RdL.rd (v := .int .i64 y) hFq hcell) ?_)
    refine VA.go (VA.callP (φ := fun v => v = .int .i64 (qNear y)) (fun Fr w _ _ _ => rnear_spec Fr w _ _ _) rfl rfl (by (try refine Pd.st ?_);(repeat (first|exact Pd.nil|exact Pd.fnil|refine Pd.inner ?_|refine Pd.skip (by decide +kernel) ?_|refine zf (zo 0 rfl rfl) ?_|refine zf (zo 1 rfl rfl) ?_|refine zf (zo 2 rfl rfl) ?_|refine zf (zo 3 rfl rfl) ?_|refine zf (zm 0 rfl rfl) ?_|refine zf (zm 1 rfl rfl) ?_|refine zf (zm 2 rfl rfl) ?_|refine zf (zm 3 rfl rfl) ?_|refine zf (RdL.blk PQ rfl) ?_|refine zf (PQ) ?_|refine zc (zo 0 rfl rfl) ?_|refine zc (zo 1 rfl rfl) ?_|refine zc (zo 2 rfl rfl) ?_|refine zc (zo 3 rfl rfl) ?_|refine zc (zm 0 rfl rfl) ?_|refine zc (zm 1 rfl rfl) ?_|refine zc (zm 2 rfl rfl) ?_|refine zc (zm 3 rfl rfl) ?_|refine zc (RdL.blk PQ rfl) ?_|refine zc (PQ) ?_))) ?_)
    rintro _ rfl
    refine VA.go (VA.opP (OpT.buildSlice (n := 1) (pv := [(0, .int .i64 (qNear y))]) (cells := [.int .i64 (qNear y)]) rfl rfl rfl rfl (by decide) rfl) rfl ?_ ?_)
    · rintro _ _ ⟨nb, rfl, rfl⟩
      exact (by (try refine Pd.st ?_);(repeat (first|exact Pd.nil|exact Pd.fnil|refine Pd.inner ?_|refine Pd.skip (by decide +kernel) ?_|refine zf (zo 0 rfl rfl) ?_|refine zf (zo 1 rfl rfl) ?_|refine zf (zo 2 rfl rfl) ?_|refine zf (zo 3 rfl rfl) ?_|refine zf (zo 4 rfl rfl) ?_|refine zf (zm 0 rfl rfl) ?_|refine zf (zm 1 rfl rfl) ?_|refine zf (zm 2 rfl rfl) ?_|refine zf (zm 3 rfl rfl) ?_|refine zf (zm 4 rfl rfl) ?_|refine zf (RdL.blk PQ rfl) ?_|refine zf (PQ) ?_|refine zc (zo 0 rfl rfl) ?_|refine zc (zo 1 rfl rfl) ?_|refine zc (zo 2 rfl rfl) ?_|refine zc (zo 3 rfl rfl) ?_|refine zc (zo 4 rfl rfl) ?_|refine zc (zm 0 rfl rfl) ?_|refine zc (zm 1 rfl rfl) ?_|refine zc (zm 2 rfl rfl) ?_|refine zc (zm 3 rfl rfl) ?_|refine zc (zm 4 rfl rfl) ?_|refine zc (RdL.blk PQ rfl) ?_|refine zc (PQ) ?_)))
    rintro _ _ ⟨nb, rfl, rfl⟩
    refine VA.go (VA.opP (OpT.append (m := 1) (news := [.int .i64 (qNear y)]) 1 rfl rfl rfl rfl rfl rfl rfl (RdRow.pt 0 rfl rfl rfl) rfl (by show (i + 1) * 8 ≤ _; omega) (by omega)) rfl ?_ ?_)
    · rintro _ _ ⟨a2, c2, rfl, hc2, rfl⟩
      exact (by (try refine Pd.st ?_);(repeat (first|exact Pd.nil|exact Pd.fnil|refine Pd.inner ?_|refine Pd.skip (by decide +kernel) ?_|refine zf (zo 0 rfl rfl) ?_|refine zf (zo 1 rfl rfl) ?_|refine zf (zo 2 rfl rfl) ?_|refine zf (zo 3 rfl rfl) ?_|refine zf (zo 4 rfl rfl) ?_|refine zf (zm 0 rfl rfl) ?_|refine zf (zm 1 rfl rfl) ?_|refine zf (zm 2 rfl rfl) ?_|refine zf (zm 3 rfl rfl) ?_|refine zf (zm 4 rfl rfl) ?_|refine zf (RdL.blk PQ rfl) ?_|refine zf (PQ) ?_|refine zc (zo 0 rfl rfl) ?_|refine zc (zo 1 rfl rfl) ?_|refine zc (zo 2 rfl rfl) ?_|refine zc (zo 3 rfl rfl) ?_|refine zc (zo 4 rfl rfl) ?_|refine zc (zm 0 rfl rfl) ?_|refine zc (zm 1 rfl rfl) ?_|refine zc (zm 2 rfl rfl) ?_|refine zc (zm 3 rfl rfl) ?_|refine zc (zm 4 rfl rfl) ?_|refine zc (RdL.blk PQ rfl) ?_|refine zc (PQ) ?_)))
    rintro _ _ ⟨a2, c2, rfl, hc2, rfl⟩
    (repeat (first|refine yG (yN ?_)|refine yG (yD 0 rfl rfl rfl rfl rfl ?_)|refine yG (yD 1 rfl rfl rfl rfl rfl ?_)|refine yG (yD 2 rfl rfl rfl rfl rfl ?_)|refine yG (yD 3 rfl rfl rfl rfl rfl ?_)|refine yG (yD 4 rfl rfl rfl rfl rfl ?_)))
    refine VA.go (VA.st 2 rfl rfl rfl rfl rfl (by show 3 < 12; omega) rfl rfl (by (try refine Pd.st ?_);(repeat (first|exact Pd.nil|exact Pd.fnil|refine Pd.inner ?_|refine Pd.skip (by decide +kernel) ?_|refine zf (zo 0 rfl rfl) ?_|refine zf (zo 1 rfl rfl) ?_|refine zf (zo 2 rfl rfl) ?_|refine zf (zo 3 rfl rfl) ?_|refine zf (zo 4 rfl rfl) ?_|refine zf (zm 0 rfl rfl) ?_|refine zf (zm 1 rfl rfl) ?_|refine zf (zm 2 rfl rfl) ?_|refine zf (zm 3 rfl rfl) ?_|refine zf (zm 4 rfl rfl) ?_|refine zf (RdL.blk PQ rfl) ?_|refine zf (PQ) ?_|refine zc (zo 0 rfl rfl) ?_|refine zc (zo 1 rfl rfl) ?_|refine zc (zo 2 rfl rfl) ?_|refine zc (zo 3 rfl rfl) ?_|refine zc (zo 4 rfl rfl) ?_|refine zc (zm 0 rfl rfl) ?_|refine zc (zm 1 rfl rfl) ?_|refine zc (zm 2 rfl rfl) ?_|refine zc (zm 3 rfl rfl) ?_|refine zc (zm 4 rfl rfl) ?_|refine zc (RdL.blk PQ rfl) ?_|refine zc (PQ) ?_))) (VA.go (VA.nil ?_)))
    (repeat (first|refine zS ?_|refine zR ?_|refine zB ?_|refine zL ?_|refine zC ?_|refine zG (zN ?_)|refine zG (zD 0 rfl rfl rfl rfl ?_)))
    refine VO.go (VO.add rfl rfl (by omega) (by omega) ?_)
    (repeat (first|refine zS ?_|refine zR ?_|refine zB ?_|refine zL ?_|refine zC ?_|refine zG (zN ?_)|refine zG (zD 0 rfl rfl rfl rfl ?_)))
    refine ⟨(i + 1, a2, c2), ⟨by rw [htl]; split <;> omega, hc2⟩, by dsimp only; omega, Sub.cons rfl (Sub.cons rfl (Sub.cons rfl (Sub.cons rfl (Sub.nil _)))), ?_⟩
    dsimp only
    rw [htk]
    have e : intCs ((c.qs.take i ++ [y]).map qNear) = intCs ((c.qs.take i).map qNear) ++ [.int .i64 (qNear y)] := by simp [intCs]
    rw [e]
    exact (Imp.cons Imp.tl).ent
  rintro ⟨ai, ci⟩ hroom
  dsimp only at hroom ⊢
  have hf1 := qFit_len c.qs
  refine VC.meet (σ := Option Addr × Nat) (fun _ => [(2, .pointer (some ⟨r, 0, none⟩)), (4, .pointer (some ⟨d, 0, none⟩))])
    (fun y => [intH y.1 y.2 (qFit c.qs), pt d ((fitM c).cells y.1 y.2) 24, pt r T.t24.zs 24]) (fun y => (qFit c.qs).length ≤ y.2 ∧ AdOk y.1) ?_ ?_
  · refine VC.seq (VC.region (VO.go (VO.ld 1 rfl rfl rfl rfl (VO.go (VO.nil ?_)))))
    refine VC.condE rfl (fun hz => ?_) (fun hz => ?_)
    · have hz : c.qs.take 4 = [] := List.eq_nil_of_length_eq_zero (by omega)
      have hqf : qFit c.qs = [96] := by unfold qFit qFirst; rw [if_pos hz]; rfl
      refine VC.region (VO.go (VO.ld 1 rfl rfl rfl rfl ?_))
      refine VO.go (VO.buildSlice (n := 1) (pv := [(0, .int .i64 96)]) [.int .i64 96] rfl rfl rfl rfl (by decide) rfl fun nb => ?_)
      refine VO.go (VO.append (m := 1) (news := [.int .i64 96]) 1 rfl rfl rfl rfl rfl rfl rfl (RdRow.pt 0 rfl rfl rfl) rfl (by show ((c.qs.take 4).length + 1) * 8 ≤ _; omega) (by omega) fun a2 c2 hc2 => ?_)
      refine VO.opn 0 rfl (HOpn.adok _ _ _ _ _ _) fun _ had => ?_
      refine VO.go (VO.st 2 rfl rfl rfl rfl (by show 3 < 12; omega) rfl rfl (VO.go (VO.nil ?_)))
      have e1 : intCs ((c.qs.take 4).map qNear) ++ [.int .i64 96] = intCs (qFit c.qs) := by rw [hqf, hz]; rfl
      have e2 : (c.qs.take 4).length + 1 = (qFit c.qs).length := by rw [hqf, hz]; rfl
      refine ⟨(a2, c2), ⟨by rw [← e2]; exact hc2, had⟩, Sub.cons rfl (Sub.cons rfl (Sub.nil _)), ?_⟩
      rw [e1, e2]
      exact (Imp.cons Imp.tl).ent
    · have hz : ¬ c.qs.take 4 = [] := fun e => hz (by rw [e]; rfl)
      have hqf : qFit c.qs = (c.qs.take 4).map qNear := by unfold qFit qFirst; rw [if_neg hz]
      refine VC.opn 0 rfl (HOpn.adok _ _ _ _ _ _) fun _ had => VC.skip ?_
      have e1 : intCs ((c.qs.take 4).map qNear) = intCs (qFit c.qs) := by rw [hqf]
      have e2 : (c.qs.take 4).length = (qFit c.qs).length := by rw [hqf, List.length_map]
      refine ⟨(ai, ci), ⟨by rw [← e2]; exact hroom, had⟩, Sub.cons rfl (Sub.cons rfl (Sub.nil _)), ?_⟩
      rw [e1, e2]
      exact Ent.refl
  rintro ⟨af, cf⟩ ⟨hcf, haf⟩
  dsimp only at hcf haf ⊢
  refine VC.seq (VC.region (VO.go (VO.ldA 1 ((fitM c).cells af cf) rfl rfl rfl rfl ?_)))
  refine VO.go (VO.stA (vs := (fitM c).cells af cf) (cs' := (fitM c).cells af cf) 2 rfl rfl rfl rfl (Nat.le_refl _) rfl rfl rfl (VO.go (VO.nil ?_)))
  exact VC.ret (Ret.cell 2 rfl rfl rfl (RdL.many 2 rfl rfl) (L' := [intH af cf (qFit c.qs)]) (Imp.app (L := [_]) (M := [_]) Imp.refl Imp.nil).ent ⟨af, cf, haf, hcf, rfl, rfl⟩)
end Go.Proofs.YtbbnmgakmcppdaaGreat.Conf
