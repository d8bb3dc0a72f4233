/- The statements of layer 17: what they share: a call, and the chapter's clients. No condition. -/
import Derived.Test.YtbbnmgakmcppdaaGreatAdm4
namespace Go.Proofs.YtbbnmgakmcppdaaGreat.Adm
open Go Go.Proofs.YtbbnmgakmcppdaaGreat.Vg Go.Proofs.YtbbnmgakmcppdaaGreat.T Go.Proofs.YtbbnmgakmcppdaaGreat.Api Go.Proofs.YtbbnmgakmcppdaaGreat.Sched Go.Proofs.YtbbnmgakmcppdaaGreat.Conf
set_option linter.unusedSimpArgs false
set_option linter.unusedVariables false
attribute [local irreducible] VO VC VA

/-! ### What stays -/
theorem offer_wf {A : AdmM} (h : A.Wf) (f : FrameM) (now : Int) : (A.offerM f now).2.Wf := by
  unfold AdmM.offerM
  repeat' split
  all_goals first | exact h | exact (h.waitM f now).barM _ _ _ | exact h.waitM f now
theorem barM_clients (A : AdmM) (k s t : Int) : (A.barM k s t).2.clients = A.clients := by unfold AdmM.barM; split; exact barF_clients _ _ _ _; rfl
theorem barM_sch (A : AdmM) (k s t : Int) : (A.barM k s t).2.sch = A.sch := by unfold AdmM.barM; split; exact barF_sch _ _ _ _; rfl
theorem wait_clients (A : AdmM) (f : FrameM) (now : Int) : (A.waitM f now).2.clients = A.clients := by
  unfold AdmM.waitM
  repeat' split
  all_goals rfl
theorem offer_clients (A : AdmM) (f : FrameM) (now : Int) : (A.offerM f now).2.clients = A.clients := by
  unfold AdmM.offerM
  repeat' split
  all_goals first | rfl | (rw [barM_clients]; exact wait_clients A f now) | exact wait_clients A f now
theorem wait_sch (A : AdmM) (f : FrameM) (now : Int) : (A.waitM f now).2.sch = A.sch ∨ (A.waitM f now).2.sch = (A.sch.pushM f).2 := by
  unfold AdmM.waitM
  repeat' split
  all_goals first | exact .inl rfl | exact .inr rfl
theorem may_cls {A : AdmM} {f : FrameM} (h : A.may f = true) : (∃ k : Nat, f.cls = k ∧ k < A.sch.cls.length) ∧ opCheck f.op = 0 := by
  simp only [AdmM.may, Bool.and_eq_true, decide_eq_true_eq, beq_iff_eq] at h
  obtain ⟨n, hn⟩ := Int.eq_ofNat_of_zero_le h.1.1.1.1.1.2
  exact ⟨⟨n, hn, by have := h.1.1.1.1.2; omega⟩, h.1.2⟩
theorem push_calls {n : Int} {S : SchM} {f : FrameM} (hC : ∀ q ∈ S.qs, ∀ g ∈ q, okC n g) (hf : okC n f) {k : Nat} (hk : f.cls = k) (hlt : k < S.cls.length) (ho : opCheck f.op = 0) : ∀ q ∈ (S.pushM f).2.qs, ∀ g ∈ q, okC n g := by
  have hc : S.qs[k]? = some (S.cls[k].q) := by simp [SchM.qs, List.getElem?_eq_getElem hlt]
  obtain ⟨_, h2, _⟩ := push_qs hk hc ho
  rw [h2]
  split
  · intro q hq g hg
    rcases List.mem_or_eq_of_mem_set hq with hq | rfl
    · exact hC q hq g hg
    · rcases List.mem_append.1 hg with hg | hg
      · exact hC _ (List.mem_of_getElem? hc) g hg
      · obtain rfl := List.mem_singleton.1 hg; exact hf
  · exact hC
theorem offer_calls {A : AdmM} (hC : A.Calls) (f : FrameM) (now : Int) : (A.offerM f now).2.Calls := by
  intro q hq g hg
  rw [offer_clients]
  have key : A.may f = true → ∀ q ∈ (A.waitM f now).2.sch.qs, ∀ g ∈ q, okC A.clients g := fun hm => by
    obtain ⟨⟨k, hk, hlt⟩, ho⟩ := may_cls hm
    obtain ⟨h1, h2, h3⟩ := may_client hm
    rcases wait_sch A f now with e | e
    · rw [e]; exact hC
    · rw [e]; exact push_calls hC ⟨of_decide_eq_true h1, h2, h3⟩ hk hlt ho
  unfold AdmM.offerM at hq
  split at hq
  · rename_i hm
    split at hq
    · rw [barM_sch] at hq; exact key hm q hq g hg
    · exact key hm q hq g hg
  · exact hC q hq g hg
theorem pop_calls {n : Int} {S : SchM} (h : S.Wf) (hC : ∀ q ∈ S.qs, ∀ g ∈ q, okC n g) : ∀ q ∈ (popV S).2.2.qs, ∀ g ∈ q, okC n g := by
  cases ho : (popV S).2.1 with
  | true =>
    obtain ⟨k, q, h1, h2⟩ := popV_ok h ho
    rw [h2]
    intro q' hq' g hg
    rcases List.mem_or_eq_of_mem_set hq' with hq' | rfl
    · exact hC q' hq' g hg
    · exact hC _ (List.mem_of_getElem? h1) g (List.mem_cons_of_mem _ hg)
  | false => rw [(popV_no h ho).2]; exact hC
theorem next_calls {A : AdmM} (h : A.Wf) (hC : A.Calls) (now : Int) : (A.nextM now).Calls := by
  obtain ⟨h1, h2, h3⟩ := expire_wf h now
  have := pop_calls h1.sch (exp_calls h hC now)
  unfold AdmM.nextM
  split <;> exact this
theorem newA_calls (c : ConfM) : (newA c).Calls := by
  intro q hq g hg
  simp only [newA, SchM.qs, SchM.new, List.map_map, List.mem_map] at hq
  obtain ⟨x, _, rfl⟩ := hq
  simp [clsNew] at hg

/-! ### The chapter's clients -/
def callM (client seq try_ deadline : Int) : FrameM := { FrameM.zero with kind := 1, client := client, seq := seq, try_ := try_, deadline := deadline, op := ⟨3, ⟨#[107]⟩, ⟨#[]⟩, 0⟩ }
theorem near_idem {x lo hi : Int} (h : lo ≤ hi) : near (near x lo hi) lo hi = near x lo hi := near_same (near_in h).1 (near_in h).2
theorem qFit_idem (qs : List Int) : qFit (qFit qs) = qFit qs := by
  have h := qFit_len qs
  have h1 : qFirst (qFit qs) = qFit qs := by
    have e : (qFit qs).take 4 = qFit qs := List.take_of_length_le h.2
    unfold qFirst
    rw [e, if_neg]
    intro e2; rw [e2] at h; simp at h
  have h2 : (qFit qs).map qNear = qFit qs := by
    have : ∀ x ∈ qFit qs, qNear x = x := fun x hx => by
      obtain ⟨y, _, rfl⟩ := List.mem_map.1 hx
      exact near_idem (by omega)
    rw [List.map_congr_left this]; simp
  show (qFirst (qFit qs)).map qNear = qFit qs
  rw [h1, h2]
theorem fit_idem (c : ConfM) : fitM c = fitM (fitM c) := by
  have hn := near_in (x := c.nodes) (lo := 1) (hi := 6) (by omega)
  have e1 := near_idem (x := c.nodes) (lo := 1) (hi := 6) (by omega)
  have e2 : near (near c.chain 1 (near c.nodes 1 6)) 1 (near (near c.nodes 1 6) 1 6) = near c.chain 1 (near c.nodes 1 6) := by rw [e1]; exact near_idem hn.1
  simp only [fitM, ConfM.mk.injEq]
  exact ⟨e1.symm, e2.symm, (near_idem (by omega)).symm, (qFit_idem _).symm, (near_idem (by omega)).symm, (near_idem (by omega)).symm, (near_idem (by omega)).symm, (near_idem (by omega)).symm, (near_idem (by omega)).symm, (near_idem (by omega)).symm, (near_idem (by omega)).symm, (near_idem (by omega)).symm⟩

theorem new_fit (Fr : Nat → Prop) (w : World) (c : ConfM) (a : Option Addr) (cap : Nat) (hq : IntsIn Fr w a (fitM c).qs) (ha : AdOk a) (hcap : (fitM c).qs.length ≤ cap) : Tri Tryz.prog 52 [.agg ((fitM c).cells a cap).toArray] Fr w []
    (fun v L => ∃ p, v = .tuple #[.pointer (some ⟨p, 0, none⟩), .int .i64 0] ∧ L = [admH p (newA (fitM c))]) := by
  have := new_spec Fr w (fitM c) a cap hq ha hcap
  simpa only [if_pos (fit_idem c)] using this

def oC : ConfM := ⟨0, 0, 2, [], 1, 0, 0, 0, 0, 0, 0, 0⟩
def oA0 : AdmM := newA (fitM oC)
def oA1 : AdmM := (oA0.offerM (callM 0 1 1 5) 0).2
def oA2 : AdmM := (oA1.offerM (callM 0 1 1 5) 0).2
def oA3 : AdmM := (oA2.offerM (callM 1 1 1 5) 0).2
def oA4 : AdmM := oA3.nextM 0
def oA5 : AdmM := (oA4.offerM (callM 1 1 1 5) 0).2
theorem o_ok : (oA0.offerM (callM 0 1 1 5) 0).1 = 0 ∧ (oA1.offerM (callM 0 1 1 5) 0).1 = 6 ∧ (oA2.offerM (callM 1 1 1 5) 0).1 = 1 ∧ (popV (oA3.expireM 0).sch).2.1 = true ∧ (popV (oA3.expireM 0).sch).1.client = 0 ∧ (oA3.sch.goneM 0).length = 0 ∧ (oA4.offerM (callM 1 1 1 5) 0).1 = 7 ∧ (oA5.offerM (callM 1 1 2 5) 6).1 = 2 := by decide +kernel
theorem oA0_wf : oA0.Wf := newA_wf (fit_idem oC)
theorem oA3_wf : oA3.Wf := offer_wf (offer_wf (offer_wf oA0_wf _ _) _ _) _ _
theorem oA3_calls : oA3.Calls := offer_calls (offer_calls (offer_calls (newA_calls _) _ _) _ _) _ _

theorem offer_is {Fr : Nat → Prop} {w : World} {p : Nat} {A A' : AdmM} {r : Int} (f : FrameM) (now : Int) (h1 : (A.offerM f now).1 = r) (h2 : (A.offerM f now).2 = A') : Tri Tryz.prog 199 [.pointer (some ⟨p, 0, none⟩), .agg (fmc (f, (none, 0))).toArray, .int .i64 now] Fr w [admH p A] (fun v L => v = .int .i64 r ∧ L = [admH p A']) := by
  have := offer_spec Fr w p A (f, (none, 0)) now
  rw [h1, h2] at this
  exact this

end Go.Proofs.YtbbnmgakmcppdaaGreat.Adm
