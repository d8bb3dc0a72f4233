/- Texts of the proof, put together and shortened. No condition. -/
import Derived.Test.YtbbnmgakmcppdaaGreatZw4
set_option maxRecDepth 100000
set_option maxHeartbeats 16000000
set_option linter.unusedVariables false
set_option linter.unusedSectionVars false
set_option linter.unusedSimpArgs false
namespace Go.Proofs.YtbbnmgakmcppdaaGreat
variable (Fr : Nat → Prop) (w : World)
namespace Nd
open Go Vg Api Kv Ch Lg Rd Win Adm Sched Conf Rep Ref16 Rk
def Goes (n m : NdM) (Q : RepM) (S : List SndM) : Prop := REq Q m ∧ m.out = n.out ++ S
theorem Goes.trans {n m l : NdM} {Q P : RepM} {S T : List SndM} (h : Goes n m Q S) (k : Goes m l P T) : Goes n l P (S ++ T) := ⟨k.1, by rw [k.2, h.2, List.append_assoc]⟩
theorem Goes.none {n m : NdM} {Q : RepM} (h : REq Q m) (ho : m.out = n.out) : Goes n m Q [] := ⟨h, by rw [ho, List.append_nil]⟩
section
variable {C : ConfM} {R : RepM} {n : NdM}
theorem REq.out (e : REq R n) (o : List SndM) : REq R { n with out := o } := ⟨e.id, e.ch, e.since, e.whole, e.log, e.done, e.sent, e.limit, e.have_, e.linked, e.adm, e.rds, e.st, e.bs⟩
theorem REq.send (e : REq R n) (to : Int) (f : FrameM) : Goes n (n.send to f) R [(to, f)] := ⟨e.out _, rfl⟩
theorem REq.greet (e : REq R n) (i : RInv C R) : Goes n (n.greet C) R R.greetM := by
 unfold NdM.greet RepM.greetM
 rw [e.ahead i]
 split
 ·exact Goes.none e rfl
 ·have : n.grant C = if R.drainsB = true then R.win.last else R.win.done + R.win.cap := by
   unfold NdM.grant
   rw [e.drains i, e.len i, e.done, i.cap, i.wcap]
  rw [this, e.ch, e.done, e.len i]
  exact e.send _ _
theorem REq.base (e : REq R n) (i : RInv C R) : Goes n n.base R R.baseM := by
 unfold NdM.base RepM.baseM
 rw [e.whole, e.next i, e.ch]
 by_cases h : R.whole = true ∧ 0 ≤ R.nextM
 ·have hp : 0 ≤ n.place := by
   rw [e.place i]
   have := h.2
   unfold RepM.nextM nextOf at this
   split at this
   ·exact absurd this yy
   ·omega
  rw [if_pos h, if_pos ⟨h.1, hp, h.2⟩, e.st h.1]
  exact e.send _ _
 ·rw [if_neg h, if_neg (fun k => h ⟨k.1, k.2.2⟩)]
  exact Goes.none e rfl
theorem REq.alive (e : REq R n) : Goes n n.alive R R.masterM := by
 unfold NdM.alive RepM.masterM
 rw [e.ch, e.whole]
 exact e.send _ _
theorem REq.finish (e : REq R n) (i : RInv C R) : Goes n n.finish R.finishR R.finishM := by
 have hw := i.fit.ok.win
 have d0 := hw.done0; have d1 := hw.done1
 unfold NdM.finish RepM.finishR RepM.finishM
 rw [e.tail i]
 split
 ·have hk : ((n.log.length : Int) - n.done).toNat = (R.win.last - R.win.done).toNat := by rw [e.len i, e.done]
  rw [hk]
  have hdone : R.win.ack R.win.last = { R.win with done := R.win.last } := by
   unfold WinM.ack WinM.ackB
   by_cases h : R.win.done < R.win.last
   ·rw [if_pos yc]
   ·have : R.win.done = R.win.last := by omega
    rw [if_neg yc, ← this]
  rw [hdone]
  refine ⟨⟨e.id, e.ch, e.since, e.whole, e.log, ?_, e.sent, e.limit, e.have_, e.linked, e.adm, e.rds, e.st, e.bs⟩, ?_⟩
  ·show n.done + _ = R.win.last
   rw [e.done]; omega
  ·show n.out ++ _ = n.out ++ replies R _
   congr 1
   unfold replies
   refine List.map_congr_left fun j _ => ?_
   unfold NdM.replyN replyOf
   rw [e.log, e.done]
 ·exact Goes.none e rfl
theorem REq.becomeB (e : REq R n) (i : RInv C R) : n.becomeB = R.becomeB := by
 unfold NdM.becomeB RepM.becomeB
 rw [e.inB i, e.whole, e.len i]
 congr 2
 have := e.bs
 by_cases h : 0 ≤ n.bs
 ·have hb : R.base = n.bs := by omega
  have h1 : R.base ≠ -1 := by omega
  rw [DT h, DT h1, hb]
 ·have hb : R.base = -1 := by omega
  rw [show decide (0 ≤ n.bs) = false from DF h, show decide (R.base ≠ -1) = false from DF (fun k => k hb)]
  rfl
theorem RInv.whole (i : RInv C R) {b : Bool} (hb : R.whole = true → b = true) (s : Int) : RInv C { R with whole := b, start := s } :=
 ⟨⟨⟨i.fit.ok.ch, i.fit.ok.win, i.fit.ok.last, i.fit.ok.logc, i.fit.ok.logi, i.fit.ok.rc0, i.fit.ok.rc1, i.fit.ok.rl, i.fit.ok.rn0, i.fit.ok.rn1, i.fit.ok.rcl, i.fit.ok.calls, i.fit.ok.wf⟩, i.fit.most, i.fit.cap0, i.fit.cap1, i.fit.cl⟩, i.cl, i.acl, i.cap, i.wcap, i.qs, i.si, i.lok, i.ch, i.sn, i.ahead, i.rd, fun h => ⟨hb (i.rw h).1, (i.rw h).2⟩⟩
theorem RInv.become (i : RInv C R) : RInv C R.becomeR := by
 unfold RepM.becomeR; split
 ·exact i.whole (fun _ => rfl) _
 ·exact i
theorem REq.becomes (e : REq R n) (i : RInv C R) : Goes n n.becomes R.becomeR R.becomeM := by
 unfold NdM.becomes RepM.becomeM
 rw [e.becomeB i]
 by_cases h : R.becomeB = true
 ·rw [if_pos h, if_pos h]
  have e2 : REq R.becomeR { n with whole := true, st := n.log.length } := by
   unfold RepM.becomeR
   rw [if_pos h]
   exact ⟨e.id, e.ch, e.since, Z, e.log, e.done, e.sent, e.limit, e.have_, e.linked, e.adm, e.rds, fun _ => e.len i, e.bs⟩
  exact (e2.base i.become).1 |> fun h1 => ⟨h1, (e2.base i.become).2⟩
 ·rw [if_neg h, if_neg h]
  refine Goes.none ?_ rfl
  unfold RepM.becomeR
  rw [if_neg h]; exact e
theorem RInv.finish (i : RInv C R) : RInv C R.finishR := by
 have f : R.finishR.Fit := i.fit.stays (finish_stays R) (finishR_ok i.fit.ok)
 unfold RepM.finishR at f ⊢
 split
 ·rename_i h
  rw [if_pos h] at f
  have h1 : (R.win.ack R.win.last).cap = R.win.cap := by unfold WinM.ack; split <;> rfl
  have h2 := i.ahead
  refine ⟨f, i.cl, i.acl, i.cap, h1.trans i.wcap, i.qs, i.si, i.lok, i.ch, i.sn, ?_, i.rd, i.rw⟩
  show (R.win.ack R.win.last).last ≤ _
  rw [h1, ack_last]
  have : R.win.done ≤ (R.win.ack R.win.last).done := by
   unfold WinM.ack WinM.ackB
   split
   ·rename_i h3; simp at h3; show R.win.done ≤ R.win.last; omega
   ·omega
  show R.win.last ≤ (R.win.ack R.win.last).done + _
  omega
 ·exact i
theorem REq.adm' (e : REq R n) {D A : AdmM} (h : AEq D A) : REq { R with adm := A } { n with adm := D } := ⟨e.id, e.ch, e.since, e.whole, e.log, e.done, e.sent, e.limit, e.have_, e.linked, h, e.rds, e.st, e.bs⟩
theorem RInv.adm' (i : RInv C R) {A : AdmM} (g : AG R.adm A) (wf : A.Wf) (hC : A.Calls) : RInv C { R with adm := A } :=
 ⟨⟨adm_ok i.fit.ok hC wf, i.fit.most, i.fit.cap0, i.fit.cap1, i.fit.cl⟩, i.cl, g.cl.trans i.acl, i.cap, i.wcap, g.qs.trans i.qs, g.si, i.lok, i.ch, i.sn, i.ahead, i.rd, i.rw⟩
theorem REq.wrong (e : REq R n) (f : FrameM) (b : Bool) : n.wrong f b = if R.knownB f = false then 5 else if b = false then 4 else if R.whole = false then 8 else 0 := by
 unfold NdM.wrong RepM.knownB
 rw [e.ch, e.whole]
 by_cases h : f.epoch = R.ch.epoch
 ·have h1 : ¬ (f.epoch ≠ R.ch.epoch) := fun k => k h
  have h2 : ¬ ((f.epoch == R.ch.epoch) = false) := by simp [h]
  rw [if_neg h1, if_neg h2]
 ·have h2 : (f.epoch == R.ch.epoch) = false := by simp [h]
  rw [if_pos h, if_pos h2]
theorem REq.read (e : REq R n) (i : RInv C R) (f : FrameM) (now : Int) : Goes n (n.read f now) (readR R f now).1 (readR R f now).2 := by
 have hm := i.fit.most
 unfold NdM.read readR
 have hr : readReason R f now = if n.wrong f n.tail ≠ 0 then n.wrong f n.tail else if f.deadline < now then 2 else if R.most ≤ R.rds.l.length then 1 else 0 := by
  rw [e.wrong, e.tail i]
  unfold readReason
  repeat' split
  all_goals simp_all
 have href : ∀ x, n.refuse f x = n.send (32 + f.client) (refuseF R.ch.epoch f x) := fun x => by rw [NdM.refuse, e.ch]
 by_cases h1 : n.wrong f n.tail ≠ 0
 ·have h5 : readReason R f now = n.wrong f n.tail := by rw [hr, if_pos h1]
  rw [h5, if_pos h1, if_pos h1, href]
  exact e.send _ _
 rw [if_neg h1]
 by_cases h2 : f.deadline < now
 ·have h5 : readReason R f now = 2 := by rw [hr, if_neg h1, if_pos h2]
  rw [h5, if_pos h2, href]
  exact e.send _ _
 rw [if_neg h2, e.rds]
 by_cases h3 : (R.rds.l.length : Int) < R.rds.cap
 ·have h4 : ¬ R.most ≤ (R.rds.l.length : Int) := by omega
  have h5 : readReason R f now = 0 := by rw [hr, if_neg h1, if_neg h2, if_neg h4]
  rw [h5, if_pos h3, e.log, e.ch, if_neg (show ¬ (0 : Int) ≠ 0 from fun h => h rfl)]
  exact ⟨⟨e.id, Z, e.since, e.whole, Z, e.done, e.sent, e.limit, e.have_, e.linked, e.adm, Z, e.st, e.bs⟩, Z⟩
 ·have h4 : R.most ≤ (R.rds.l.length : Int) := by omega
  have h5 : readReason R f now = 1 := by rw [hr, if_neg h1, if_neg h2, if_pos h4]
  rw [h5, if_neg h3, href]
  exact e.send _ _
theorem run_codes : ∀ (es : List EntryM) (x : KvM × List ResM), (∀ r ∈ x.2, r.code ≠ 0) → (∀ e ∈ es, opCheck e.op = 0 ∧ e.op.kind ≠ 1 ∧ 1 ≤ e.index ∧ e.index ≤ 4096) → ∀ r ∈ (es.foldl logStep x).2, r.code ≠ 0
 | [], x, hx, _ => hx
 | e :: es, x, hx, hg => by
  refine run_codes es (logStep x e) (fun r hr => ?_) (fun y hy => hg y (List.mem_cons_of_mem _ hy))
  obtain ⟨g1, g2, g3, g4⟩ := hg e (List.mem_cons_self ..)
  rcases List.mem_append.1 hr with hr | hr
  ·exact hx r hr
  ·rw [List.mem_singleton.1 hr]
   unfold kvApply
   rw [if_neg yd, if_neg g2]
   repeat' split
   all_goals (dsimp only; decide)
theorem LogOk.good {es : List EntryM} (h : LogOk es) (hl : es.length ≤ 4096) {e : EntryM} (he : e ∈ es) : opCheck e.op = 0 ∧ e.op.kind ≠ 1 ∧ 1 ≤ e.index ∧ e.index ≤ 4096 := by
 obtain ⟨k, hk⟩ := List.getElem?_of_mem he
 have hlt := (List.getElem?_eq_some_iff.1 hk).1
 obtain ⟨h1, h2, h3, h4⟩ := logErr_ok (h k e hk)
 rw [List.length_take] at h3
 simp only [badE, Lg.readsB, Bool.or_eq_false_iff, Bool.and_eq_false_iff, decide_eq_false_iff_not] at h1
 have hc : opCheck e.op = 0 := by have := h1.2.1; omega
 refine ⟨hc, ?_, by omega, by omega⟩
 rcases h1.2.2 with h5 | h5
 ·exact h5
 ·exact absurd hc h5
theorem RInv.code (i : RInv C R) {k : Int} (h0 : 1 ≤ k) (h1 : k ≤ R.log.length) : ((atI (logRun R.log).2 k).getD resZ).code ≠ 0 := by
 have hl := i.fit.ok.win.last1
 rw [i.fit.ok.last] at hl
 have hrl := logRun_len R.log
 obtain ⟨j, r, _, _, hr, hat⟩ := atI_some (l := (logRun R.log).2) (i := k) h0 (by rw [hrl]; exact h1)
 rw [hat]
 exact run_codes R.log ([], []) (fun r hr => by cases hr) (fun e he => LogOk.good i.lok yd he) r (ME hr)
theorem last_same (es : List EntryM) {c : Int} (h : 0 ≤ c ∧ c < 6) : lastR es c = lastOf es c := by unfold lastR; rw [if_pos h]
theorem REq.told (e : REq R n) (f : FrameM) (r : Int) {D A : AdmM} (h : AEq D A) : Goes n (n.told f r D)
  (if r = 0 then { R with adm := A } else if r ≠ 6 ∧ r ≠ 10 then { R with adm := (A.barM f.client f.seq f.try_).2 } else { R with adm := A })
  (if r = 0 then [] else [(32 + f.client, refuseF R.ch.epoch f r)]) := by
 unfold NdM.told
 by_cases h0 : r = 0
 ·rw [if_pos h0, if_pos h0, if_pos h0]; exact Goes.none (e.adm' h) rfl
 rw [if_neg h0, if_neg h0, if_neg h0]
 by_cases h1 : r ≠ 6 ∧ r ≠ 10
 ·rw [if_pos h1, if_pos h1]; exact ⟨((e.adm' (h.barM f.client f.seq f.try_)).send _ _).1, by show n.out ++ [(_, refuseF n.ch.epoch f r)] = _; rw [e.ch]⟩
 ·rw [if_neg h1, if_neg h1]; exact ⟨((e.adm' h).send _ _).1, by show n.out ++ [(_, refuseF n.ch.epoch f r)] = _; rw [e.ch]⟩
theorem REq.update (e : REq R n) (i : RInv C R) (f : FrameM) (now : Int) : Goes n (n.update f now) (updateR R f now).1 (updateR R f now).2 := by
 have plain : ∀ {r : Int} {D A : AdmM}, AEq D A → n.judge f now = (none, r, D) → judgeM R f now = (r, resZ, A) → Goes n (n.update f now) (updateR R f now).1 (updateR R f now).2 := fun {r D A} h h1 h2 => by
  have := e.told f r h
  unfold NdM.update updateR
  rw [h1, h2]
  dsimp only
  rw [if_neg (show ¬ resZ.code ≠ 0 from fun k => k rfl)]
  by_cases h0 : r = 0
  ·rw [if_pos h0, if_pos h0] at this; rw [if_pos h0]; exact this
  ·rw [if_neg h0, if_neg h0] at this; rw [if_neg h0]
   by_cases h3 : r ≠ 6 ∧ r ≠ 10
   ·rw [if_pos h3] at this; rw [if_pos h3]; exact this
   ·rw [if_neg h3] at this; rw [if_neg h3]; exact this
 obtain ⟨w, hw⟩ : ∃ w, w = n.wrong f (n.place == 0) := ⟨_, rfl⟩
 have hw2 := e.wrong f (n.place == 0)
 rw [← hw, e.head i] at hw2
 have J : n.judge f now = if R.adm.may f = false then (none, 10, n.adm)
   else if R.adm.barred f.client f.seq f.try_ = true then (none, 7, n.adm)
   else if w = 0 ∧ R.drainsB = true then (none, 3, n.adm)
   else if w = 0 ∧ 0 < (lastOf R.log f.client).1 ∧ f.seq = (lastOf R.log f.client).1 then
    (if (lastOf R.log f.client).2 ≤ R.win.done then (some ((atI (logRun R.log).2 (lastOf R.log f.client).2).getD resZ), 0, n.adm) else (none, 6, n.adm))
   else if w = 0 ∧ f.seq < (lastOf R.log f.client).1 then (none, 7, n.adm)
   else if w = 0 ∧ 4096 ≤ R.log.length then (none, 1, n.adm)
   else if w = 0 then (none, raOffer n.adm f now)
   else (none, w, n.adm) := by
  unfold NdM.judge
  rw [e.adm.may, e.adm.barred, e.drains i, e.log, e.done, ← hw]
 by_cases c1 : R.adm.may f = false
 ·exact plain e.adm (by rw [J, if_pos c1]) (by rw [judgeM, if_pos c1])
 by_cases c2 : R.adm.barred f.client f.seq f.try_ = true
 ·exact plain e.adm (by rw [J, if_neg c1, if_pos c2]) (by rw [judgeM, if_neg c1, if_pos c2])
 obtain ⟨m1, m2, m3⟩ := may_client (A := R.adm) (f := f) (by simpa using c1)
 have hr := (has_iff _ _).1 m1
 have hcl := i.fit.cl; have hacl := i.acl
 have hl := last_same R.log (c := f.client) ⟨hr.1, by omega⟩
 have hs1 : 1 ≤ f.seq := by simp only [numM, Bool.and_eq_true, decide_eq_true_eq] at m2; exact m2.1
 have wno : w ≠ 0 → n.judge f now = (none, w, n.adm) := fun h => by
  rw [J, if_neg c1, if_neg c2, if_neg (fun k => h k.1), if_neg (fun k => h k.1), if_neg (fun k => h k.1), if_neg (fun k => h k.1), if_neg h]
 by_cases c3 : R.knownB f = false
 ·rw [if_pos c3] at hw2
  rw [hw2] at wno
  exact plain e.adm (wno yy) (by rw [judgeM, if_neg c1, if_neg c2, if_pos c3])
 rw [if_neg c3] at hw2
 by_cases c4 : R.headB = false
 ·rw [if_pos c4] at hw2
  rw [hw2] at wno
  exact plain e.adm (wno yy) (by rw [judgeM, if_neg c1, if_neg c2, if_neg c3, if_pos c4])
 rw [if_neg c4] at hw2
 by_cases c5 : R.whole = false
 ·rw [if_pos c5] at hw2
  rw [hw2] at wno
  exact plain e.adm (wno yy) (by rw [judgeM, if_neg c1, if_neg c2, if_neg c3, if_neg c4, if_pos c5])
 rw [if_neg c5] at hw2
 subst hw2
 by_cases c6 : R.drainsB = true
 ·exact plain e.adm (by rw [J, if_neg c1, if_neg c2, if_pos ⟨rfl, c6⟩]) (by rw [judgeM, if_neg c1, if_neg c2, if_neg c3, if_neg c4, if_neg c5, if_pos c6])
 have JR : judgeM R f now = if f.seq = (lastOf R.log f.client).1 ∧ R.win.done < (lastOf R.log f.client).2 then (6, resZ, R.adm)
   else if f.seq = (lastOf R.log f.client).1 then (0, (atI (logRun R.log).2 (lastOf R.log f.client).2).getD resZ, R.adm)
   else if f.seq < (lastOf R.log f.client).1 then (7, resZ, R.adm)
   else if 4096 ≤ R.log.length then (1, resZ, R.adm)
   else ((R.adm.offerM f now).1, resZ, (R.adm.offerM f now).2) := by
  rw [judgeM, if_neg c1, if_neg c2, if_neg c3, if_neg c4, if_neg c5, if_neg c6, hl]
 have c6' : ¬ ((0 : Int) = 0 ∧ R.drainsB = true) := fun k => c6 k.2
 rw [if_neg c1, if_neg c2, if_neg c6'] at J
 by_cases c7 : f.seq = (lastOf R.log f.client).1
 ·rw [if_pos ⟨rfl, by omega, c7⟩] at J
  by_cases c8 : R.win.done < (lastOf R.log f.client).2
  ·exact plain e.adm (by rw [J, if_neg yd]) (by rw [JR, if_pos ⟨c7, c8⟩])
  ·rw [if_pos yd] at J
   rw [if_neg (fun k => c8 k.2), if_pos c7] at JR
   have hd := i.fit.ok.win.done1
   have hidx : 1 ≤ (lastOf R.log f.client).2 := by
    rcases lastOf_mem R.log f.client with h | ⟨x, hx, h, _⟩
    ·rw [h] at c7; dsimp only at c7; omega
    ·rw [h]; exact (i.fit.ok.logi x hx).1
   have hcode := i.code (k := (lastOf R.log f.client).2) hidx (by rw [← i.fit.ok.last]; omega)
   unfold NdM.update updateR
   rw [J, JR]
   dsimp only
   rw [if_pos hcode]
   exact e.send _ _
 rw [if_neg (fun k => c7 k.2.2)] at J
 rw [if_neg (fun k => c7 k.1), if_neg c7] at JR
 by_cases c8 : f.seq < (lastOf R.log f.client).1
 ·exact plain e.adm (by rw [J, if_pos ⟨rfl, c8⟩]) (by rw [JR, if_pos c8])
 rw [if_neg (fun k => c8 k.2)] at J
 rw [if_neg c8] at JR
 by_cases c9 : 4096 ≤ R.log.length
 ·exact plain e.adm (by rw [J, if_pos ⟨rfl, c9⟩]) (by rw [JR, if_pos c9])
 rw [if_neg (fun k => c9 k.2), if_pos rfl] at J
 rw [if_neg c9] at JR
 obtain ⟨o1, o2⟩ := e.adm.offer i.si f now
 refine plain o2 (r := (R.adm.offerM f now).1) ?_ JR
 rw [J, ← o1]
theorem RInv.update (i : RInv C R) (f : FrameM) (now : Int) : RInv C (updateR R f now).1 := by
 obtain ⟨A, hA, h, _⟩ := upd_form R f now
 have hok := updateR_ok i.fit.ok f now
 rw [hA] at hok ⊢
 refine i.adm' ?_ hok.wf hok.calls
 rcases h with rfl | rfl | ⟨k, s, t, rfl | rfl⟩
 ·exact AG.refl i.si
 ·exact AG.offer i.si f now
 ·exact (AG.refl i.si).bar k s t
 ·exact (AG.offer i.si f now).bar k s t
end
end Nd
namespace Nd
open Go Vg Api Kv Ch Lg Rd Win Adm Sched Conf Rep Ref16 Rk
section
variable {C : ConfM} {R : RepM} {n : NdM}
theorem RInv.ok (i : RInv C R) : R.Ok := i.fit.ok
theorem RInv.read (i : RInv C R) (hr : R.rds.last < 100000000) (f : FrameM) (now : Int) (h0 : 0 ≤ f.client) (h1 : f.client ≤ 1000) : RInv C (readR R f now).1 := by
 have hok := readR_ok i.ok hr f now h0 h1
 unfold readR at hok ⊢
 split
 ·exact i
 ·rename_i h
  rw [if_neg h] at hok
  have rr : R.whole = true ∧ 0 < R.since := by
   have h : readReason R f now = 0 := by simpa using h
   unfold readReason at h
   by_cases a : R.knownB f = false
   ·rw [if_pos a] at h; cases h
   rw [if_neg a] at h
   by_cases b : R.tailB = false
   ·rw [if_pos b] at h; cases h
   rw [if_neg b] at h
   by_cases c : R.whole = false
   ·rw [if_pos c] at h; cases h
   have b : R.tailB = true := by simpa using b
   simp only [RepM.tailB, RepM.inB, Bool.and_eq_true, decide_eq_true_eq] at b
   exact ⟨by simpa using c, b.1⟩
  refine ⟨⟨hok, by show R.most = (R.rds.put _ _).cap; rw [put_cap]; exact i.fit.most, i.fit.cap0, i.fit.cap1, i.fit.cl⟩, i.cl, i.acl, i.cap, i.wcap, i.qs, i.si, i.lok, i.ch, i.sn, i.ahead, ?_, fun _ => rr⟩
  show (R.rds.put _ _).l.Pairwise _ ∧ ∀ x ∈ (R.rds.put _ _).l, x.id ≤ (R.rds.put _ _).last
  unfold RdsM.put
  split
  ·obtain ⟨p1, p2⟩ := i.rd
   refine ⟨List.pairwise_append.2 ⟨p1, List.pairwise_singleton _ _, fun x hx y hy => ?_⟩, fun x hx => ?_⟩
   ·rw [List.mem_singleton.1 hy]
    have := p2 x hx
    show x.id < R.rds.last + 1; omega
   ·show x.id ≤ R.rds.last + 1
    rcases List.mem_append.1 hx with hx | hx
    ·have := p2 x hx; omega
    ·rw [List.mem_singleton.1 hx]; exact Int.le_refl _
  ·exact i.rd
theorem RInv.ent5 (i : RInv C R) {c : ChM} (hc : chOk c = true) : RInv C (ent5 R c) := by
 have hS : ChS c := ⟨by have := (chOk_head hc).2.2.2; omega⟩
 have hok := ent5_ok i.ok hS i.fit.cap0 i.fit.cap1
 have g := AG.exp i.ok.wf i.si maxI
 have key : ∀ Q : RepM, Q = ent4 R c ∨ Q = { ent4 R c with start := (ent4 R c).win.last } → Q.Ok → RInv C Q := by
  intro Q hQ hq
  have hw : (ent2 R c).win.cap = R.cap ∧ (ent2 R c).win.last ≤ (ent2 R c).win.done + (ent2 R c).win.cap := by
   unfold Rep.ent2
   dsimp only
   split
   ·have := i.fit.cap0; exact ⟨rfl, by show (0 : Int) ≤ 0 + R.cap; omega⟩
   ·exact ⟨i.wcap, i.ahead⟩
  have hl : LogOk (ent2 R c).log := by
   unfold Rep.ent2
   dsimp only
   split
   ·intro k e he; cases he
   ·exact i.lok
  have r : RInv C (ent4 R c) → RInv C { ent4 R c with start := (ent4 R c).win.last } := fun k => k.whole (fun h => h) _
  have r0 : Q.Ok → (ent4 R c).Ok := fun _ => ent4_ok i.ok hS i.fit.cap0 i.fit.cap1
  have base : RInv C (ent4 R c) := ⟨⟨r0 hq, i.fit.most, i.fit.cap0, i.fit.cap1, i.fit.cl⟩, i.cl, g.cl.trans i.acl, i.cap, hw.1, g.qs.trans i.qs, g.si, hl, .inr hc, rfl, hw.2, ⟨.nil, fun x hx => by cases hx⟩, fun h => absurd rfl h⟩
  rcases hQ with rfl | rfl
  ·exact base
  ·exact r base
 unfold Rep.ent5 at hok ⊢
 split
 ·rename_i h; rw [if_pos h] at hok; exact key _ (.inr rfl) hok
 ·rename_i h; rw [if_neg h] at hok; exact key _ (.inl rfl) hok
theorem REq.ent4 (e : REq R n) (i : RInv C R) {c : ChM} (hc : chOk c = true) : Goes n (n.ent4 c) (ent5 R c) (entG R c) := by
 obtain ⟨b1, b2⟩ := e.adm.big i.si i.ok.calls
 have hlen := e.len i
 have key : REq { Rep.ent4 R c with start := (Rep.ent4 R c).win.last } (n.ent4 c) := by
  unfold NdM.ent4
  suffices h : REq { Rep.ent4 R c with start := (Rep.ent4 R c).win.last } ((n.ent1.ent2 c).ent3 c) from (h.out _).out _
  unfold Rep.ent4 Rep.ent3 Rep.ent2 Rep.ent1 nlB nwB NdM.ent3 NdM.ent2
  dsimp only
  have e1 : n.ent1.id = R.id := e.id
  have e2 : n.ent1.since = R.since := e.since
  have e3 : n.ent1.log = R.log := e.log
  rw [e1, e2]
  have hl2 : ((n.ent1.log.length : Nat) : Int) = R.win.last := by rw [e3, i.ok.last]
  have hr : n.ent1.rds = { R.rds with l := [] } := by show ({ n.rds with l := [] } : RdsM) = _; rw [e.rds]
  cases h1 : (sinceOf c R.id).2 with
  | false =>
   simp only [if_true, Bool.false_and, Bool.not_false, Bool.true_or, Bool.false_eq_true, if_false]
   exact ⟨rfl, Z, Z, Z, e.log, e.done, hl2, Z, Z, Z, b1, hr, fun _ => hl2, Z⟩
  | true =>
   by_cases h2 : (sinceOf c R.id).1 = R.since
   ·simp only [h2, ne_eq, not_true, decide_false, Bool.and_false, Bool.or_false, Bool.not_true, Bool.false_eq_true, if_false, Bool.true_eq_false]
    exact ⟨e.id, Z, (by show (sinceOf c n.ent1.id).1 = R.since; rw [e1]; exact h2), e.whole, e.log, e.done, hl2, Z, Z, Z, b1, hr, fun _ => hl2, Z⟩
   ·simp only [h2, ne_eq, not_false_eq_true, decide_true, Bool.and_self, Bool.or_true, if_true, Bool.true_eq_false, if_false]
    exact ⟨rfl, rfl, rfl, rfl, rfl, rfl, rfl, rfl, rfl, rfl, b1, hr, (fun h => by cases h), rfl⟩
 constructor
 ·unfold Rep.ent5
  split
  ·exact key
  ·rename_i h
   exact ⟨key.id, key.ch, key.since, key.whole, key.log, key.done, key.sent, key.limit, key.have_, key.linked, key.adm, key.rds, fun k => absurd k h, key.bs⟩
 ·have ho : ((n.ent1.ent2 c).ent3 c).out = n.out := (ent2_id n.ent1 c).2.1
  show ((((n.ent1.ent2 c).ent3 c).refs (n.adm.sch.goneM bigT) 9).out ++ _) = _
  show ((((n.ent1.ent2 c).ent3 c).out ++ _) ++ _) = _
  rw [ho, b2, e.rds, List.append_assoc]
  rfl
theorem RInv.enter (i : RInv C R) {c : ChM} (hc : chOk c = true) : RInv C (enterR R c).1 := (i.ent5 hc).finish
theorem REq.enter (e : REq R n) (i : RInv C R) {c : ChM} (hc : chOk c = true) : Goes n (n.enter C c) (enterR R c).1 (enterR R c).2 := by
 have g1 := e.ent4 i hc
 have i1 := i.ent5 hc
 have g2 := g1.1.finish i1
 have i2 := i1.finish
 have g3 := g2.1.greet i2
 have g4 := g3.1.base i2
 have g5 := g4.1.alive
 exact (((g1.trans g2).trans g3).trans g4).trans g5
theorem RInv.pushE (i : RInv C R) {x : EntryM} (h1 : fwdB R x = true) (h2 : logErr R.log x = 0) : RInv C (pushE R x) := by
 have hr := fwd_room h1
 have ho := pushE_ok i.ok h2 hr
 simp only [WinM.room, Bool.and_eq_true, decide_eq_true_eq] at hr
 exact ⟨⟨ho, i.fit.most, i.fit.cap0, i.fit.cap1, i.fit.cl⟩, i.cl, i.acl, i.cap, i.wcap, i.qs, i.si, i.lok.snoc h2, i.ch, i.sn, by show R.win.last + 1 ≤ R.win.done + R.win.cap; omega, i.rd, i.rw⟩
theorem REq.pushE (e : REq R n) (x : EntryM) (i : RInv C R) : REq (pushE R x) { n with log := n.log ++ [x] } :=
 ⟨e.id, e.ch, e.since, e.whole, by show n.log ++ [x] = R.log ++ [x]; rw [e.log], e.done, e.sent, e.limit, e.have_, e.linked, e.adm, e.rds, e.st, e.bs⟩
theorem fwd_iff (e : REq R n) (i : RInv C R) (x : EntryM) : n.fwdOk C x ↔ fwdB R x = true := by
 have h := e.len i
 have hd := e.done
 have hw := i.wcap; have hc := i.cap
 unfold NdM.fwdOk fwdB
 rw [Bool.and_eq_true, beq_iff_eq, decide_eq_true_eq]
 omega
theorem RInv.forward (i : RInv C R) (x : EntryM) : RInv C (forwardR R x).1 := by
 unfold forwardR
 split
 ·rename_i h; exact ((i.pushE h.1 h.2).finish).become
 ·exact i
theorem REq.forward (e : REq R n) (i : RInv C R) (x : EntryM) : Goes n (n.forward C x) (forwardR R x).1 (forwardR R x).2 := by
 unfold NdM.forward NdM.fwd1 forwardR
 have hfi := fwd_iff e i x
 by_cases h : fwdB R x = true ∧ logErr R.log x = 0
 ·rw [if_pos h, if_pos ⟨hfi.2 h.1, by rw [e.log]; exact h.2⟩]
  have i1 := i.pushE h.1 h.2
  have e1 := e.pushE x i
  have g1 := e1.finish i1
  have g2 := g1.1.becomes i1.finish
  have g3 := g2.1.greet i1.finish.become
  have := (g1.trans g2).trans g3
  exact ⟨this.1, this.2⟩
 ·rw [if_neg h, if_neg (fun k => h ⟨hfi.1 k.1, by rw [← e.log]; exact k.2⟩)]
  exact e.greet i
theorem RInv.ack (i : RInv C R) (f : FrameM) : RInv C (ackR R f).1 := by
 have ho := ackR_ok i.ok f
 have hd : ∀ (W : WinM) (k : Int), W.done ≤ (W.ack k).done ∧ (W.ack k).cap = W.cap := fun W k => by
  unfold WinM.ack WinM.ackB
  split
  ·rename_i h3; simp at h3; exact ⟨by show W.done ≤ k; omega, rfl⟩
  ·exact ⟨Int.le_refl _, Z⟩
 have h2 : ∀ Q : RepM, Q.Ok → Q.id = R.id → Q.clients = R.clients → Q.cap = R.cap → Q.most = R.most → Q.ch = R.ch → Q.since = R.since → Q.log = R.log → Q.whole = R.whole → Q.adm = R.adm → Q.rds = R.rds → Q.win.cap = R.win.cap → Q.win.last = R.win.last → R.win.done ≤ Q.win.done → RInv C Q := by
  intro Q ho a1 a2 a3 a4 a5 a6 a7 aw a8 a9 a10 a11 a12
  have := i.ahead
  exact ⟨⟨ho, by rw [a4, a9]; exact i.fit.most, by rw [a3]; exact i.fit.cap0, by rw [a3]; exact i.fit.cap1, by rw [a2]; exact i.fit.cl⟩, by rw [a2]; exact i.cl, by rw [a8, a2]; exact i.acl, by rw [a3]; exact i.cap, by rw [a10, a3]; exact i.wcap, by rw [a8]; exact i.qs, by rw [a8]; exact i.si, by rw [a7]; exact i.lok, by rw [a5]; exact i.ch, by rw [a6, a5, a1]; exact i.sn, by rw [a11, a10]; omega, by rw [a9]; exact i.rd, by rw [a9, aw, a6]; exact i.rw⟩
 have k : (ack2 R f).win.cap = R.win.cap ∧ (ack2 R f).win.last = R.win.last ∧ (ack2 R f).win.done = R.win.done := by
  unfold Rep.ack2 Rep.ack1; dsimp only; split <;> exact ⟨rfl, rfl, rfl⟩
 obtain ⟨k1, k2, k3⟩ := k
 have q := hd (ack2 R f).win f.index
 refine h2 _ ho ?_ ?_ ?_ ?_ ?_ ?_ ?_ ?_ ?_ ?_ ?_ ?_ ?_
 rotate_left 10
 ·show ((ack2 R f).win.ack f.index).cap = _; rw [q.2, k1]
 ·show ((ack2 R f).win.ack f.index).last = _; rw [ack_last, k2]
 ·show R.win.done ≤ ((ack2 R f).win.ack f.index).done; omega
 all_goals (unfold ackR Rep.ack2 Rep.ack1; dsimp only; split <;> rfl)
theorem REq.ack (e : REq R n) (i : RInv C R) (f : FrameM) : Goes n (n.ackN C f) (ackR R f).1 (ackR R f).2 := by
 have hlen := e.len i
 have mx : ∀ a b : Int, mxV a b = max a b := fun a b => by unfold mxV; split <;> omega
 have mn : ∀ a b : Int, mnV a b = min a b := fun a b => by unfold mnV; split <;> omega
 have e2 : REq (Rep.ack2 R f) (n.ack2 f) := by
  unfold Rep.ack2 Rep.ack1 NdM.ack2 NdM.ack1 NdM.back
  have hlk := e.linked
  cases hb : R.linked
  rotate_left
  ·rw [hb] at hlk
   rw [if_pos hlk, if_pos rfl]
   exact ⟨e.id, e.ch, e.since, e.whole, e.log, e.done, e.sent, by dsimp only; rw [mx, mn, e.limit], by dsimp only; rw [mx, e.have_], hlk, e.adm, e.rds, e.st, e.bs⟩
  ·rw [hb] at hlk
   have hlk2 : ¬ n.linked = true := by rw [hlk]; simp
   rw [if_neg hlk2, if_neg (show ¬ false = true by simp)]
   exact ⟨e.id, e.ch, e.since, e.whole, e.log, e.done, by dsimp only; rw [backV_eq, hlen]; have := i.ok.win.done0; have := i.ok.win.done1; omega, by dsimp only; rw [mx, mn, e.limit], Z, Z, e.adm, e.rds, e.st, e.bs⟩
 have o2 : (n.ack2 f).out = n.out := ack2_out n f
 have k2 : (n.ack2 f).log.length = (Rep.ack2 R f).win.last := by
  rw [e2.log]
  have : (Rep.ack2 R f).win.last = R.win.last ∧ (Rep.ack2 R f).log = R.log := by unfold Rep.ack2 Rep.ack1; dsimp only; split <;> exact ⟨rfl, rfl⟩
  rw [this.1, this.2, i.ok.last]
 have hb : (n.ack2 f).ackB f.index = (Rep.ack2 R f).win.ackB f.index := by
  unfold NdM.ackB WinM.ackB
  rw [e2.done, k2]
 have i2 := i.ack f
 unfold ackR at i2 ⊢
 unfold NdM.ackN
 rw [hb]
 cases h : (Rep.ack2 R f).win.ackB f.index with
 | false =>
  rw [if_neg ya, if_neg ya]
  refine Goes.none ?_ o2
  have : (Rep.ack2 R f).win.ack f.index = (Rep.ack2 R f).win := by unfold WinM.ack; rw [h]; rfl
  show REq { Rep.ack2 R f with win := (Rep.ack2 R f).win.ack f.index } _
  rw [this]; exact e2
 | true =>
  rw [if_pos rfl, if_pos rfl]
  have e3 : REq { Rep.ack2 R f with win := (Rep.ack2 R f).win.ack f.index } ((n.ack2 f).ack f.index) := by
   have : (Rep.ack2 R f).win.ack f.index = { (Rep.ack2 R f).win with done := f.index } := by unfold WinM.ack; rw [h]; rfl
   rw [this, NdM.ack, hb, h, if_pos rfl]
   exact ⟨e2.id, e2.ch, e2.since, e2.whole, e2.log, Z, e2.sent, e2.limit, e2.have_, e2.linked, e2.adm, e2.rds, e2.st, e2.bs⟩
  have o3 : ((n.ack2 f).ack f.index).out = n.out := by rw [NdM.ack, hb, h, if_pos rfl]; exact o2
  have g := e3.greet i2
  exact ⟨g.1, by rw [g.2, o3]⟩
theorem rsure_filter : ∀ {l : List RdM}, l.Pairwise (fun x y => x.id < y.id) → ∀ k : Int, l.take (l.takeWhile fun y => decide (y.id ≤ k)).length = l.filter (fun y => !surely k y) ∧ l.drop (l.takeWhile fun y => decide (y.id ≤ k)).length = l.filter (surely k)
 | [], _, k => ⟨rfl, rfl⟩
 | x :: l, h, k => by
  rw [List.pairwise_cons] at h
  by_cases hx : x.id ≤ k
  ·obtain ⟨h1, h2⟩ := rsure_filter h.2 k
   have hs : surely k x = false := DF yd
   simp only [List.takeWhile_cons, DT hx, if_true, List.length_cons, List.take_succ_cons, List.drop_succ_cons, List.filter_cons, hs, Bool.not_false]
   exact ⟨by rw [h1], by rw [h2]; rfl⟩
  ·have hs : surely k x = true := DT yd
   have hall : ∀ y ∈ l, surely k y = true := fun y hy => DT (by have := h.1 y hy; omega)
   have h1 : l.filter (fun y => !surely k y) = [] := List.filter_eq_nil_iff.2 fun y hy => by rw [hall y hy]; simp
   have h2 : l.filter (surely k) = l := List.filter_eq_self.2 hall
   simp only [List.takeWhile_cons, DF hx, Bool.false_eq_true, if_false, List.length_nil, List.take_zero, List.drop_zero, List.filter_cons, hs, Bool.not_true, if_true, h1, h2]
   exact ⟨trivial, trivial⟩
theorem RInv.sure (i : RInv C R) (k : Int) : RInv C (sureR R k) :=
 ⟨⟨sureR_ok i.ok k, i.fit.most, i.fit.cap0, i.fit.cap1, i.fit.cl⟩, i.cl, i.acl, i.cap, i.wcap, i.qs, i.si, i.lok, i.ch, i.sn, i.ahead, ⟨i.rd.1.sublist List.filter_sublist, fun x hx => i.rd.2 x (List.mem_filter.1 hx).1⟩, fun h => i.rw fun e => h ycz⟩
theorem REq.sure (e : REq R n) (i : RInv C R) (k : Int) : Goes n (n.sure k) (sureR R k) (sureS R k) := by
 obtain ⟨h1, h2⟩ := rsure_filter i.rd.1 k
 unfold NdM.sure sureR sureS rsure
 rw [e.rds, h1, h2]
 exact ⟨⟨e.id, e.ch, e.since, e.whole, e.log, e.done, e.sent, e.limit, e.have_, e.linked, e.adm, Z, e.st, e.bs⟩, Z⟩
theorem RInv.base (i : RInv C R) (k : Int) : RInv C (baseR R k) :=
 ⟨⟨baseR_ok i.ok k, i.fit.most, i.fit.cap0, i.fit.cap1, i.fit.cl⟩, i.cl, i.acl, i.cap, i.wcap, i.qs, i.si, i.lok, i.ch, i.sn, i.ahead, i.rd, i.rw⟩
theorem RInv.take (i : RInv C R) (hr : R.rds.last < 100000000) (from_ : Int) (f : FrameM) (ms : List MemM) (now : Int) : RInv C (takeR R from_ f ms now).1 := by
 have hcl := i.fit.cl
 unfold takeR
 split
 ·split
  ·exact i
  split
  ·exact i
  rename_i h1 h2
  split
  ·exact i.read hr f now yd yd
  ·exact i.update f now
 split
 ·split
  ·rename_i h; exact i.enter (chE_ok.1 h.1.2)
  ·exact i
 split
 ·split
  ·exact i.forward _
  ·exact i
 split
 ·split
  ·exact i.ack f
  ·exact i
 split
 ·split
  ·exact (i.base _).become
  ·exact i
 split
 ·split
  ·exact i.sure _
  ·exact i
 ·exact i
theorem reads_same (o : OpM) : readsM o = Rep.readsB o := by
 unfold readsM Rep.readsB
 rw [Bool.eq_iff_iff]; simp
theorem REq.take (e : REq R n) (i : RInv C R) (from_ : Int) (f : FrameM) (ms : List MemM) {now : Int} (h0 : 0 ≤ now) : REq (takeR R from_ f ms now).1 (n.take C from_ f ms now) ∧ (n.take C from_ f ms now).out = (takeR R from_ f ms now).2 := by
 have e0 : REq R { n with out := [] } := e.out []
 obtain ⟨m, hm⟩ : ∃ m : NdM, m = { n with out := [] } := ⟨_, rfl⟩
 have ho : m.out = [] := by rw [hm]
 rw [← hm] at e0
 have hnow : nowV now = now := by unfold nowV; rw [if_neg yd]
 suffices h : Goes m (m.take0 C from_ f ms now) (takeR R from_ f ms now).1 (takeR R from_ f ms now).2 by
  unfold NdM.take
  rw [← hm, hnow]
  exact ⟨h.1, by rw [h.2, ho]; rfl⟩
 have same : Goes m m R [] := Goes.none e0 rfl
 have hown : ∀ x : Int, (m.own from_ f = true ∧ from_ = x) → 0 ≤ from_ ∧ R.knownB f = true ∧ 0 ≤ m.place ∧ from_ = x := fun x h => by
  have := h.1
  simp only [NdM.own, Bool.and_eq_true, decide_eq_true_eq] at this
  exact ⟨this.1, by rw [RepM.knownB, ← e0.ch]; exact this.2.1, this.2.2, h.2⟩
 have nb : ∀ x : Int, (x = m.ahead ∨ x = m.next) → ((m.own from_ f = true ∧ from_ = x) ↔ (R.knownB f = true ∧ isNodeB from_ x = true)) := fun x hx => by
  constructor
  ·intro h
   obtain ⟨a1, a2, a3, a4⟩ := hown x h
   refine ⟨a2, ?_⟩
   rw [isNodeB, Bool.and_eq_true, decide_eq_true_eq, beq_iff_eq]
   exact ⟨by omega, a4⟩
  ·rintro ⟨a1, a2⟩
   rw [isNodeB, Bool.and_eq_true, decide_eq_true_eq, beq_iff_eq] at a2
   have hp : 0 ≤ m.place := by
    rcases hx with rfl | rfl
    ·have := a2.1
     unfold NdM.ahead NdM.at_ at this
     by_cases h : m.place < 0
     ·rw [if_pos (.inl h)] at this; exact absurd this yy
     ·omega
    ·have := a2.1
     unfold NdM.next NdM.at_ at this
     by_cases h : m.place < 0
     ·rw [if_pos (.inl h)] at this; exact absurd this yy
     ·omega
   refine ⟨?_, a2.2⟩
   rw [NdM.own, DT (show 0 ≤ from_ by omega), DT hp, e0.ch]
   rw [RepM.knownB] at a1
   rw [a1]; rfl
 unfold NdM.take0 takeR
 split
 ·rw [i.cl]
  by_cases c1 : f.client < 0
  ·rw [if_pos (.inl c1), if_pos c1]; exact same
  rw [if_neg c1]
  by_cases c2 : R.clients ≤ f.client
  ·rw [if_pos (.inr c2), if_pos c2]; exact same
  rw [if_neg (fun h => h.elim c1 c2), if_neg c2, reads_same]
  split
  ·exact e0.read i f now
  ·exact e0.update i f now
 split
 ·rename_i k8
  by_cases c : m.enters from_ f ms
  ·rw [if_pos c, if_pos ⟨⟨c.2.1, c.2.2.2⟩, by rw [← e0.ch]; exact c.2.2.1⟩]
   exact e0.enter i (chE_ok.1 c.2.2.2)
  ·rw [if_neg c, if_neg (fun h => c ⟨k8, h.1.1, by rw [e0.ch]; exact h.2, h.1.2⟩)]; exact same
 split
 ·have := nb m.ahead (.inl rfl)
  rw [e0.ahead i] at this ⊢
  by_cases c : m.own from_ f = true ∧ from_ = R.prevM
  ·rw [if_pos c, if_pos (this.1 c)]; exact e0.forward i _
  ·rw [if_neg c, if_neg (fun h => c (this.2 h))]; exact same
 split
 ·have := nb m.next (.inr rfl)
  rw [e0.next i] at this ⊢
  by_cases c : m.own from_ f = true ∧ from_ = R.nextM
  ·rw [if_pos c, if_pos (this.1 c)]; exact e0.ack i _
  ·rw [if_neg c, if_neg (fun h => c (this.2 h))]; exact same
 split
 ·have := nb m.ahead (.inl rfl)
  rw [e0.ahead i] at this ⊢
  by_cases c : m.own from_ f = true ∧ from_ = R.prevM
  ·rw [if_pos c, if_pos (this.1 c)]
   have e1 : REq (baseR R f.index) { m with bs := f.index } := ⟨e0.id, e0.ch, e0.since, e0.whole, e0.log, e0.done, e0.sent, e0.limit, e0.have_, e0.linked, e0.adm, e0.rds, e0.st, rfl⟩
   have g := e1.becomes (i.base f.index)
   exact ⟨g.1, g.2⟩
  ·rw [if_neg c, if_neg (fun h => c (this.2 h))]; exact same
 split
 ·by_cases c : m.own from_ f = true ∧ from_ = 16
  ·obtain ⟨a1, a2, a3, a4⟩ := hown 16 c
   rw [if_pos c, if_pos ⟨a2, a4⟩]; exact e0.sure i _
  ·rw [if_neg c]
   by_cases c2 : R.knownB f = true ∧ from_ = 16
   ·rw [if_pos c2]
    have hin : ¬ 0 < R.since := fun h => c ⟨by
     have hp := i.in_.1.1 h
     rw [← e0.place i] at hp
     have a1 := c2.1
     rw [RepM.knownB] at a1
     rw [NdM.own, DT (show 0 ≤ from_ by omega), DT hp, e0.ch, a1]; rfl, c2.2⟩
    have hl : R.rds.l = [] := Decidable.byContradiction fun h => hin (i.rw h).2
    have e1 : sureR R f.index = R := by
     have e2 : ({ R.rds with l := R.rds.l.filter (surely f.index) } : RdsM) = R.rds := by rw [hl]; show (⟨R.rds.cap, R.rds.last, []⟩ : RdsM) = R.rds; rw [← hl]
     show ({ R with rds := { R.rds with l := R.rds.l.filter (surely f.index) } } : RepM) = R
     rw [e2]
    have e2 : sureS R f.index = [] := by rw [sureS, hl]; rfl
    show Goes m m (sureR R f.index) (sureS R f.index)
    rw [e1, e2]; exact same
   ·rw [if_neg c2]; exact same
 ·exact same
end
end Nd
namespace Nd
open Go Vg Api Kv Ch Lg Rd Win Adm Sched Conf Rep Ref16 Rk
section
variable {C : ConfM} {R : RepM} {n : NdM}
theorem RInv.expR (i : RInv C R) (now : Int) : RInv C (expR R now) :=
 ⟨⟨expR_ok i.ok now, i.fit.most, i.fit.cap0, i.fit.cap1, i.fit.cl⟩, i.cl, i.acl, i.cap, i.wcap, i.qs, i.si, i.lok, i.ch, i.sn, i.ahead, ⟨i.rd.1.sublist List.filter_sublist, fun x hx => i.rd.2 x (List.mem_filter.1 hx).1⟩, fun h => i.rw fun e => h ycz⟩
theorem REq.exp1 (e : REq R n) (now : Int) : Goes n (n.exp1 now) (Rep.expR R now) (expS R now) := by
 unfold NdM.exp1 Rep.expR expS NdM.refs Rep.refs
 rw [e.rds]
 refine ⟨⟨e.id, e.ch, e.since, e.whole, e.log, e.done, e.sent, e.limit, e.have_, e.linked, e.adm, Z, e.st, e.bs⟩, ?_⟩
 show n.out ++ _ = _
 dsimp only
 rw [e.ch]
theorem REq.nxF (e : REq R n) (i : RInv C R) (now : Int) : n.nxF now = nextF R now ∧ n.nxOk now = nextOk R now := by
 have h := (e.adm.exp i.ok.calls now).sch
 unfold NdM.nxF NdM.nxOk nextF nextOk
 rw [h]; exact ⟨rfl, rfl⟩
theorem RInv.nextA (i : RInv C R) (now : Int) : RInv C (nextA R now) := i.adm' (AG.next i.ok.wf i.si now) (next_wf i.ok.wf now) (next_calls i.ok.wf i.ok.calls now)
theorem REq.nx1 (e : REq R n) (i : RInv C R) (now : Int) : Goes n (n.nx1 now) (Rep.nextA R now) (refs R.ch.epoch (R.adm.sch.goneM now) 2) := by
 unfold NdM.nx1 NdM.refs Rep.refs
 rw [e.adm.sch]
 refine ⟨(e.adm' (e.adm.next i.ok.calls now)).out _, ?_⟩
 show n.out ++ _ = _
 dsimp only
 rw [e.ch]
theorem serve_e (R : RepM) (now : Int) (h : R.win.room = true) (hl : R.win.last = R.log.length) : fwdB (Rep.nextA R now) (nextE R now) = true := by
 simp only [WinM.room, Bool.and_eq_true, decide_eq_true_eq] at h
 unfold fwdB
 rw [Bool.and_eq_true, beq_iff_eq, decide_eq_true_eq]
 refine ⟨?_, ?_⟩
 ·show (R.log.length : Int) + 1 = R.win.last + 1; omega
 ·show 0 < max (min (R.win.done + R.win.cap) 4096 - R.win.last) 0; omega
theorem RInv.serve (i : RInv C R) (hr : R.win.room = true) (now : Int) : RInv C (serveR R now).1 := by
 have i1 := i.nextA now
 unfold serveR
 split
 ·exact i1
 split
 ·exact i1.adm' ((AG.refl i1.si).bar _ _ _) (i1.ok.wf.barM _ _ _) (barM_calls i1.ok.calls _ _ _)
 ·rename_i h; exact (i1.pushE (serve_e R now hr i.ok.last) ybg).finish
theorem REq.serve (e : REq R n) (i : RInv C R) (hr : R.win.room = true) (now : Int) (ho : nextOk R now = true) : Goes n (n.serve now) (serveR R now).1 (serveR R now).2.1 ∧ (serveR R now).2.2 = true := by
 have g1 := e.nx1 i now
 have i1 := i.nextA now
 obtain ⟨f1, f2⟩ := e.nxF i now
 have hE : n.nxE now = nextE R now := by unfold NdM.nxE nextE; rw [f1, e.log]
 unfold NdM.serve serveR
 rw [if_neg (show ¬ nextOk R now = false by rw [ho]; simp), hE, f1, e.log]
 by_cases h : logErr R.log (nextE R now) ≠ 0
 ·rw [if_pos h, if_pos h]
  refine ⟨?_, Z⟩
  have a : AEq (raNext n.adm now) (R.adm.nextM now) := e.adm.next i.ok.calls now
  have e2 := g1.1.adm' (a.barM (nextF R now).client (nextF R now).seq (nextF R now).try_)
  refine ⟨e2.out _, ?_⟩
  show (n.nx1 now).out ++ [(_, refuseF (n.nx1 now).ch.epoch _ 7)] = _
  rw [g1.2, g1.1.ch, List.append_assoc]; rfl
 ·rw [if_neg h, if_neg h]
  refine ⟨?_, Z⟩
  have i2 := i1.pushE (serve_e R now hr i.ok.last) (x := nextE R now) ybg
  have e2 := g1.1.pushE (nextE R now) i1
  have hl : (n.nx1 now).log = R.log := g1.1.log
  rw [hl] at e2
  have g2 := e2.finish i2
  exact ⟨g2.1, by rw [g2.2]; show (n.nx1 now).out ++ _ = _; rw [g1.2, List.append_assoc]⟩
theorem serve_heads (R : RepM) (now : Int) : servesB (serveR R now).1 = servesB R := by
 have h : (serveR R now).1.ch = R.ch ∧ (serveR R now).1.since = R.since ∧ (serveR R now).1.id = R.id ∧ (serveR R now).1.whole = R.whole := by
  unfold serveR
  split
  ·exact ⟨rfl, Z, Z, Z⟩
  split
  ·exact ⟨rfl, Z, Z, Z⟩
  ·unfold RepM.finishR; split <;> exact ⟨rfl, rfl, rfl, rfl⟩
 unfold servesB RepM.headB RepM.drainsB RepM.inB
 rw [h.1, h.2.1, h.2.2.1, h.2.2.2]
theorem REq.servesB (e : REq R n) (i : RInv C R) : n.servesB C = (Rep.servesB R && R.win.room) := by
 have hl := e.len i
 unfold NdM.servesB Rep.servesB WinM.room
 rw [e.head i, e.whole, e.drains i, hl, e.done, i.cap, ← i.wcap, Bool.and_assoc, Bool.and_assoc]
 congr 4
 rw [decide_eq_decide]; omega
theorem REq.serveL (now : Int) : ∀ (k : Nat) {R : RepM} {n : NdM}, REq R n → RInv C R → Rep.servesB R = true → Goes n (NdM.serveL C now k n) (serveLoop now k R).1 (serveLoop now k R).2 ∧ RInv C (serveLoop now k R).1
 | 0, R, n, e, i, _ => ⟨Goes.none e rfl, i⟩
 | k + 1, R, n, e, i, hs => by
  unfold NdM.serveL serveLoop
  rw [e.servesB i, hs, Bool.true_and]
  by_cases hr : R.win.room = true
  ·rw [if_pos hr, if_pos hr, (e.nxF i now).2]
   by_cases ho : nextOk R now = true
   ·obtain ⟨g, h2⟩ := e.serve i hr now ho
    have i2 := i.serve hr now
    rw [if_pos ho, if_pos h2]
    obtain ⟨g3, i3⟩ := REq.serveL now k g.1 i2 (by rw [serve_heads]; exact hs)
    exact ⟨g.trans g3, i3⟩
   ·have h2 : serveR R now = (Rep.nextA R now, refs R.ch.epoch (R.adm.sch.goneM now) 2, false) := by
     unfold serveR; rw [if_pos (by simpa using ho)]
    rw [if_neg ho, h2]
    rw [if_neg ya]
    exact ⟨e.nx1 i now, i.nextA now⟩
  ·rw [if_neg hr, if_neg hr]
   exact ⟨Goes.none e Z, i⟩
theorem serveL_no (now : Int) (k : Nat) (h : n.servesB C = false) : NdM.serveL C now k n = n := by
 cases k with
 | zero => rfl
 | succ k => unfold NdM.serveL; rw [if_neg yar]
theorem passL_no (k : Nat) (h : n.passB = false) : NdM.passL k n = n := by
 cases k with
 | zero => rfl
 | succ k => unfold NdM.passL; rw [if_neg yar]
def passTo (R : RepM) (n : NdM) (k : Nat) : NdM := { n with sent := R.win.sent + k, out := n.out ++ (passN R k).2 }
theorem passTo_pass (e : REq R n) (i : RInv C R) (hl : R.linked = true) {k : Nat} : (k < passK R → (passTo R n k).passB = true ∧ (passTo R n k).pass1 = passTo R n (k + 1)) ∧ ((passTo R n (passK R)).passB = false) := by
 have hw := i.ok.win
 have s0 := hw.sent0; have s1 := hw.sent1
 have hlen := e.len i
 have hb : ∀ j, (passTo R n j).passB = (decide (R.win.sent + j < R.win.last) && decide (R.win.sent + j < R.win.limit)) := fun j => by
  unfold NdM.passB passTo
  dsimp only
  rw [e.linked, hl, Bool.true_and, hlen, e.limit]
 refine ⟨fun hk => ⟨?_, ?_⟩, ?_⟩
 ·rw [hb, Bool.and_eq_true, decide_eq_true_eq, decide_eq_true_eq]
  unfold passK at hk; omega
 ·have hwk := passN_win R k yd
  have hnx : ({ passTo R n k with sent := (passTo R n k).sent + 1 } : NdM).next = R.nextM := by rw [← e.next i]; rfl
  have hnx2 : (passTo R n k).next = R.nextM := by rw [← e.next i]; rfl
  show NdM.send { passTo R n k with sent := (passTo R n k).sent + 1 } (passTo R n k).next _ = _
  rw [hnx2]
  unfold NdM.send passTo
  dsimp only
  rw [show passN R (k + 1) = ((passN R k).1.next, (passN R k).2 ++ [(R.nextM, forwardF R.ch.epoch ((atI R.log ((passN R k).1.sent + 1)).getD entZ))]) from rfl, hwk, e.ch, e.log]
  simp only [List.append_assoc]
  congr 1
  omega
 ·rw [hb, Bool.and_eq_false_iff, decide_eq_false_iff_not, decide_eq_false_iff_not]
  unfold passK; omega
theorem passL_to (e : REq R n) (i : RInv C R) (hl : R.linked = true) : ∀ (d k j : Nat), k + d = passK R → d ≤ j → NdM.passL j (passTo R n k) = passTo R n (passK R)
 | 0, k, j, h, _ => by
  have : k = passK R := by omega
  subst this
  exact passL_no j (passTo_pass e i hl (k := passK R)).2
 | d + 1, k, j, h, hj => by
  obtain ⟨j, rfl⟩ : ∃ x, j = x + 1 := ⟨j - 1, by omega⟩
  obtain ⟨h1, h2⟩ := (passTo_pass e i hl (k := k)).1 yd
  rw [NdM.passL, if_pos h1, h2]
  exact passL_to e i hl d (k + 1) j yd yd
theorem REq.pass (e : REq R n) (i : RInv C R) : Goes n (NdM.passL 4097 n) (if R.linked = true then passR R else (R, [])).1 (if R.linked = true then passR R else (R, [])).2 := by
 by_cases hl : R.linked = true
 ·rw [if_pos hl]
  have hw := i.ok.win
  have s0 := hw.sent0; have s1 := hw.last1
  have h0 : passTo R n 0 = n := by
   unfold passTo
   have : R.win.sent + ((0 : Nat) : Int) = n.sent := by rw [e.sent]; omega
   rw [this, show (passN R 0).2 = [] from rfl, List.append_nil]
  have h1 := passL_to e i hl (passK R) 0 4097 yd (by unfold passK; omega)
  rw [h0] at h1
  rw [h1]
  refine ⟨⟨e.id, e.ch, e.since, e.whole, e.log, ?_, ?_, ?_, e.have_, e.linked, e.adm, e.rds, e.st, e.bs⟩, Z⟩
  ·show n.done = (passN R (passK R)).1.done; rw [passN_win R _ (NR _)]; exact e.done
  ·show _ = (passN R (passK R)).1.sent; rw [passN_win R _ (NR _)]; rfl
  ·show n.limit = (passN R (passK R)).1.limit; rw [passN_win R _ (NR _)]; exact e.limit
 ·rw [if_neg hl, passL_no 4097 (by unfold NdM.passB; rw [e.linked]; simp [hl])]
  exact Goes.none e rfl
theorem RInv.pass (i : RInv C R) : RInv C (passR R).1 := by
 have h := passN_win R (passK R) (NR _)
 have ho := passR_ok i.ok
 unfold passR at ho ⊢
 rw [h] at ho ⊢
 exact xoa
theorem RInv.loop (now : Int) : ∀ (k : Nat) {R : RepM}, RInv C R → RInv C (serveLoop now k R).1
 | 0, R, i => i
 | k + 1, R, i => by
  unfold serveLoop
  split
  ·rename_i h
   split
   ·exact RInv.loop now k (i.serve h now)
   ·exact i.serve h now
  ·exact i
theorem RInv.step2 (i : RInv C R) (now : Int) : RInv C (step2 R now).1 := by
 unfold Rep.step2
 split
 ·exact RInv.loop now 65 (i.expR now)
 ·exact i.expR now
theorem RInv.step (i : RInv C R) (now : Int) : RInv C (stepR R now).1 := by
 show RInv C (step3 R now).1
 unfold step3
 split
 ·exact (i.step2 now).pass
 ·exact i.step2 now
theorem REq.step (e : REq R n) (i : RInv C R) {now : Int} (h0 : 0 ≤ now) : REq (stepR R now).1 (n.step C now) ∧ (n.step C now).out = (stepR R now).2 := by
 have e0 : REq R { n with out := [] } := e.out []
 obtain ⟨m, hm⟩ : ∃ m : NdM, m = { n with out := [] } := ⟨_, rfl⟩
 have ho : m.out = [] := by rw [hm]
 have hnow : nowV now = now := by unfold nowV; rw [if_neg yd]
 unfold NdM.step
 rw [← hm] at e0 ⊢
 rw [hnow]
 have g1 := e0.exp1 now
 have i1 := i.expR now
 have g2 : Goes (m.exp1 now) (NdM.serveL C now 65 (m.exp1 now)) (step2 R now).1 (step2 R now).2 := by
  unfold Rep.step2
  by_cases h : Rep.servesB (Rep.expR R now) = true
  ·rw [if_pos h]; exact (REq.serveL now 65 g1.1 i1 h).1
  ·rw [if_neg h, serveL_no now 65 (by rw [g1.1.servesB i1]; simp [h])]
   exact Goes.none g1.1 rfl
 have g3 := g2.1.pass (i.step2 now)
 have g := (g1.trans g2).trans g3
 exact ⟨g.1, by rw [g.2, ho]; rfl⟩
theorem RInv.tick (i : RInv C R) : RInv C (tickR R).1 := by
 have ho := tick1_ok i.ok
 show RInv C (tick1 R)
 unfold tick1 at ho ⊢
 split
 ·rename_i h
  rw [if_pos h] at ho
  exact xoa
 ·exact i
theorem REq.tick (e : REq R n) (i : RInv C R) : REq (tickR R).1 (n.tick C) ∧ (n.tick C).out = (tickR R).2 := by
 have e0 : REq R { n with out := [] } := e.out []
 obtain ⟨m, hm⟩ : ∃ m : NdM, m = { n with out := [] } := ⟨_, rfl⟩
 have ho : m.out = [] := by rw [hm]
 have hA : n.tickA C = ((m.alive).greet C).base := by rw [hm]; rfl
 rw [← hm] at e0
 unfold NdM.tick
 rw [hA]
 have g1 := e0.alive
 have g2 := g1.1.greet i
 have g3 := g2.1.base i
 have g := (g1.trans g2).trans g3
 obtain ⟨N, hN⟩ : ∃ N, N = ((m.alive).greet C).base := ⟨_, rfl⟩
 rw [← hN] at g ⊢
 have it := i.tick
 have hw := i.ok.win
 have d0 := hw.done0; have d1 := hw.done1
 have gB : Goes N N.tickB (tick1 R) [] := by
  unfold NdM.tickB tick1
  rw [g.1.linked]
  by_cases hl : R.linked = true
  ·rw [if_pos hl, if_pos hl]
   refine Goes.none ?_ rfl
   exact ⟨g.1.id, g.1.ch, g.1.since, g.1.whole, g.1.log, g.1.done, by show backV N.have_ N.log.length = _; rw [backV_eq, g.1.len i, g.1.have_]; show _ = min (max R.have_ 0) R.win.last; omega, g.1.limit, g.1.have_, g.1.linked, g.1.adm, g.1.rds, g.1.st, g.1.bs⟩
  ·rw [if_neg hl, if_neg hl]; exact Goes.none g.1 rfl
 have t1 : (tick1 R).ch = R.ch ∧ (tick1 R).rds = R.rds ∧ (tick1 R).drainsB = R.drainsB ∧ (tick1 R).win.done = R.win.done ∧ (tick1 R).win.last = R.win.last := by
  unfold tick1; split <;> exact ⟨rfl, rfl, rfl, rfl, rfl⟩
 obtain ⟨q1, q2, q3, q4, q5⟩ := t1
 have gC : Goes N.tickB N.tickB.tickC (tick1 R) (if (!R.rds.l.isEmpty) = true then [(16, confirmF R.ch.epoch R.rds.lastI)] else []) := by
  unfold NdM.tickC
  rw [gB.1.rds, q2, gB.1.ch, q1]
  cases h : R.rds.l.isEmpty with
  | true => rw [if_pos rfl, if_neg ya]; exact Goes.none gB.1 rfl
  | false => rw [if_neg ya, if_pos ya]; exact gB.1.send _ _
 have gD : Goes N.tickB.tickC N.tickB.tickC.tickD (tick1 R) (if R.drainsB = true ∧ R.win.done = R.win.last then [(16, drainedF R.ch.epoch)] else []) := by
  unfold NdM.tickD
  have hl : ((N.tickB.tickC.log.length : Nat) : Int) = R.win.last := by rw [gC.1.len it]; exact q5
  rw [gC.1.drains it, gC.1.ch, q1, gC.1.done, hl]
  show Goes _ _ (tick1 R) _
  rw [q3, q4]
  by_cases h : R.drainsB = true ∧ R.win.done = R.win.last
  ·rw [if_pos h, if_pos h]; exact gC.1.send _ _
  ·rw [if_neg h, if_neg h]; exact Goes.none gC.1 rfl
 have gg := ((g.trans gB).trans gC).trans gD
 exact ⟨gg.1, by rw [gg.2, ho]; show _ = R.masterM ++ R.greetM ++ R.baseM ++ _ ++ _; simp [List.append_assoc]⟩
end
end Nd
namespace Nd
open Go Vg T Api Kv Ch Lg Rd Win Adm Sched Conf Rep Ref16 Rk
attribute [local irreducible] VO VC VA
section
variable {p : Nat} {C : ConfM} {ca : Option Addr} {cc : Nat} {m : MemP} {n : NdM} {y : NmS}
theorem wf_tot {A : AdmM} (h : A.sch.Wf) : tot A ≤ 64 := by
 have := SchM.Wf.few h A.sch.cls.length
 rw [List.take_length, List.length_flatMap] at this
 show ((A.sch.cls.map ClsM.q).map List.length).sum ≤ 64
 rw [List.map_map]; exact this
abbrev nmX (p : Nat) (C : ConfM) (ca : Option Addr) (cc : Nat) (m : MemP) (n : NdM) (y : NmS) (M : List HP) : List HP := pt p (nmCs C ca cc m n y) ndT :: rlogH y.lp n.log :: radH y.ap C ca cc n.adm :: rrdsH y.rp n.rds :: slH rsnT 30 y.oa n.out.length y.oc (flat sndC n.out) :: M
theorem VC.nm {X : Cx} {c : Code} {e : Env} {M : List HP} {Q : Exit → Env → List HP → Prop} (h : ∀ y, VC X c e (nmX p C ca cc m n y M) Q) : VC X c e (nmH p C ca cc m n :: M) Q :=
 VC.opn 0 rfl (HOpn.nm p C ca cc m n) fun y _ => h y
theorem nstep_spec (k : NdW C 900000000 n) (hq : IntsIn Fr w ca C.qs) (hm : RwIn memC 2 Fr w m.1 n.ch.ms) (now : Int) :
  Tri Tryz.prog 27 [.pointer (some ⟨p, 0, none⟩), .int .i64 now] Fr w [nm0 p C ca cc m n]
  (fun v L => sentN (n.step C now).out v L [nm0 p C ca cc m (n.step C now)]) := by
 refine TF 194 Tryz.func27 Z ym tabOk Z Z ?_
 refine VC.opn 0 Z (HOpn.nm0 p C ca cc m n) ?_
 rintro ⟨y, on⟩ -
 show VC _ _ _ [pt p (nmC0 C ca cc m n y on) ndT, rlogH y.lp n.log, radH y.ap C ca cc n.adm, rrdsH y.rp n.rds] _
 obtain ⟨n0, hn0⟩ : ∃ n0 : NdM, n0 = { n with out := [] } := ⟨_, rfl⟩
 have k0 : NdW C 900000000 n0 := by rw [hn0]; exact ⟨k.ok.out0 [], k.wf, k.few⟩
 have hm0 : RwIn memC 2 Fr w m.1 n0.ch.ms := by rw [hn0]; exact hm
 have hout0 : n0.out = [] := by rw [hn0]
 obtain ⟨nw, hnw⟩ : ∃ nw, nw = nowV now := ⟨_, rfl⟩
 have hst : n.step C now = NdM.passL 4097 (NdM.serveL C nw 65 (n0.exp1 nw)) := by rw [NdM.step, hn0, hnw]
 rw [hst]
 clear hst
 refine xel ?_
 refine xnq ?_
 refine xel ?_
 refine VO.ent (L' := [rrdsH y.rp n0.rds, pt p (nmCs C ca cc m n0 ⟨y.lp, y.ap, y.rp, none, 0⟩) ndT, rlogH y.lp n0.log, radH y.ap C ca cc n0.adm]) (by rw [hn0]; exact (pkZ [3, 0, 0, 0]).ent) ?_
 refine VG (VK (Lc := [rrdsH y.rp n0.rds]) (fun Fr w hF hs hS => rrexp_spec Fr w (by have := k0.ok.rl; omega) nw) (by rw [hnw]; rfl) Z ?_)
 rintro _ _ ⟨r, hok, hrx, rfl, rfl⟩
 refine xgk ?_
 show VC _ _ _ _ _
 obtain ⟨n1, hn1⟩ : ∃ n1 : NdM, n1 = { n0 with rds := { n0.rds with l := n0.rds.l.filter (lives nw) } } := ⟨_, rfl⟩
 obtain ⟨ws, hws⟩ : ∃ ws, ws = (n0.rds.l.filter fun y => !lives nw y).map RdM.f := ⟨_, rfl⟩
 have hex : n0.exp1 nw = n1.refs ws 2 := by rw [NdM.exp1, hn1, hws]
 have hwl : r.xs.length = ws.length := by rw [hws, ← hrx, List.length_map, List.length_map]
 have hwl2 : ws.length ≤ 16 := by
  have := k0.ok.rl
  have h2 := List.length_filter_le (fun y => !lives nw y) n0.rds.l
  rw [hws, List.length_map]; omega
 have wcl : ∀ f ∈ ws, 0 ≤ f.client ∧ f.client ≤ 1000 := fun f hf => by
  rw [hws] at hf
  obtain ⟨x, hx, rfl⟩ := List.mem_map.1 hf
  exact k0.ok.rcl x (List.mem_filter.1 hx).1
 have hout1 : n1.out = [] := by rw [hn1]; exact hout0
 have hch1 : n1.ch = n0.ch := by rw [hn1]
 refine CN (L' := [nmH p C ca cc m n1, r.h rrdT]) (by rw [hn1]; exact Imp.ent (Imp.nm (n := { n0 with rds := { n0.rds with l := n0.rds.l.filter (lives nw) } }) ⟨y.lp, y.ap, y.rp, none, 0⟩ (IP 2 Z (IP 2 Z (IP 2 Z (IP 1 Z (by show Imp _ (slH rsnT 30 none n0.out.length 0 (flat sndC n0.out) :: _); rw [hout0]; exact Imp.slNil (IP 0 Z Imp.nil)))))))) ?_
 have hrl1 : ∀ (N : NdM) (l : List FrameM) (z : Int), (N.refs l z).out.length = N.out.length + l.length := fun N l z => by unfold NdM.refs; simp
 refine CS ?_
 refine VC.meetS (σ := Unit) (fun _ => [(0, pV p), (1, .int .i64 nw)]) (fun _ => [nmH p C ca cc m (n1.refs ws 2)]) (fun _ => True) ?_ ?_
 ·refine xep ?_
  show VC _ _ _ _ _
  refine xjt ?_
  refine VC.loop (σ := Nat) (fun i => [(0, pV p), (1, .int .i64 nw), (5, .slice r.addr r.xs.length r.cap), (6, .int .i64 i)]) (fun i => [nmH p C ca cc m (n1.refs (ws.take i) 2), r.h rrdT]) (fun i => i ≤ r.xs.length) (fun i => r.xs.length - i) 0
   (Nat.zero_le _) (SC rfl (SC (by rw [hnw]; rfl) sbZ)) (by show Ent _ _ [nmH p C ca cc m (n1.refs [] 2), r.h rrdT]; rw [refs_nil]; exact ER) ?_
  rintro i hi
  refine xlf ?_
  refine CP (p := (i : Int) < (r.xs.length : Int)) Z (fun h1 => CK ?_) (fun h1 => CX ?_)
  rotate_left
  ·have : i = ws.length := by omega
   subst this
   rw [List.take_length]
   exact ⟨(), trivial, sbZ, (IP 0 Z Imp.nil).ent⟩
  have h1 : i < r.xs.length := by omega
  obtain ⟨x, hx⟩ : ∃ x, r.xs[i]? = some x := ⟨_, GE h1⟩
  have hxl : ws[i]? = some x.1.f := by rw [hws, ← hrx, List.getElem?_map, List.getElem?_map, hx]; rfl
  have htk : ws.take (i + 1) = ws.take i ++ [x.1.f] := by rw [List.take_add_one, hxl]; rfl
  have hxc := wcl x.1.f (ME hxl)
  obtain ⟨tb, tof, htb, hta, hrd⟩ := sub_row hok hx
  rw [hta]
  refine zqx ?_
  refine xmn ?_
  refine xlf ?_
  refine xkb ?_
  refine VG (VQ 0 (ψ := fun v H => H = nmH p C ca cc m ((n1.refs (ws.take i) 2).refuse x.1.f 2)) Z (fun Fr w hF hs _ => nrefuse_spec Fr w (by rw [hrl1, hout1, List.length_take]; simp; omega) (x.1.f, x.2) 2 ycr ycs) Z ybi ?_)
  rintro _ _ rfl
  refine xgk ?_
  rw [← hta, ← refs_snoc, ← htk]
  show VC _ _ _ _ _
  refine zpm ?_
  exact xnp
 rintro _ -
 rw [← hex]
 have k1 : NdW C 900000000 (n0.exp1 nw) := k0.exp1 nw
 have ho1 : (n0.exp1 nw).out.length ≤ 16 := by rw [hex, hrl1, hout1]; simp; omega
 have hc1 : (n0.exp1 nw).ch = n0.ch := by rw [hex]; exact hch1
 obtain ⟨N1, hN1⟩ : ∃ N1, N1 = n0.exp1 nw := ⟨_, rfl⟩
 rw [← hN1] at k1 ho1 hc1 ⊢
 have wL := NdW.serveL nw 65 k1
 obtain ⟨N2, hN2⟩ : ∃ N2, N2 = NdM.serveL C nw 65 N1 := ⟨_, rfl⟩
 rw [← hN2] at wL ⊢
 obtain ⟨k2, ho2, hc2⟩ := wL
 refine CS ?_
 refine VC.meetS (σ := Unit) (fun _ => [(0, pV p)]) (fun _ => [nmH p C ca cc m N2]) (fun _ => True) ?_ ?_
 ·refine xjt ?_
  refine VC.loop (σ := Nat × NdM) (fun s => [(0, pV p), (1, .int .i64 nw)]) (fun s => [nmH p C ca cc m s.2]) (fun s => s.1 ≤ 65 ∧ NdM.serveL C nw s.1 s.2 = N2 ∧ NdW C (900000000 + 96 * (65 - s.1)) s.2 ∧ tot s.2.adm < s.1 ∧ s.2.ch = n0.ch ∧ s.2.out.length ≤ 16 + 4160 * (65 - s.1)) (fun s => s.1) (65, N1)
   ⟨NR _, hN2.symm, by simpa using k1, by have := wf_tot k1.wf; dsimp only; omega, hc1, by dsimp only; omega⟩ sbZ ER ?_
  rintro ⟨i, N⟩ ⟨hi, hsl, kN, htot, hcN, hoN⟩
  dsimp only at hi hsl kN htot hcN hoN ⊢
  obtain ⟨j, rfl⟩ : ∃ j, i = j + 1 := ⟨i - 1, by omega⟩
  have okN := kN.ok
  have hmN : RwIn memC 2 Fr w m.1 N.ch.ms := by rw [hcN]; exact hm0
  have hl96 := okN.log; have hd0 := okN.d0; have hd1 := okN.d1; have hw1 := okN.w1; have hmsN := okN.ms
  refine VC.nm fun y => ?_
  refine CS (CS ?_)
  refine VC.meetS (σ := Bool) (fun d => [(0, pV p), (1, .int .i64 nw), (72, .bool d)]) (fun _ => nmX p C ca cc m N y []) (fun d => d = N.servesB C) ?_ ?_
  ·refine CD (.take 0 (.only 1 (ts 2 9 (.only 11 (ts 12 4 (ts 17 4 (ts 22 5 (.only 16 (.take 21 (ts 27 4 (.only 31 (ts 32 2 .nil)))))))))))) ym yq ?_
   have fin : ∀ {E : Env} {d : Bool}, Vg.look E 0 = some (.pointer (some ⟨p, 0, none⟩)) → Vg.look E 1 = some (.int .i64 nw) → Vg.look E 72 = some (.bool d) → Sub [(0, pV p), (1, .int .i64 nw), (72, .bool d)] E := fun h0 h1 h2 => SC h0 (SC h1 (SC h2 (SN _)))
   refine xfb ?_
   refine VA.go (AR (fun Fr w hF hs hS => nplace_spec Fr w (NmIn.pcs hS 0 Z Z Z Z) (RwIn.of hmN hF hs) hmsN) Z Z yr ?_)
   refine xfb ?_
   by_cases h1 : N.place = 0
   rotate_left
   ·have h1' : (N.place == 0) = false := by rw [beq_eq_false_iff_ne]; exact h1
    refine VA.go (AY 42 false Z h1' ?_)
    refine xir ?_
    refine xil ?_
    refine zpt ?_
    refine VA.go (AY 68 false Z Z ?_)
    refine xil ?_
    refine xfb ?_
    exact ⟨false, by rw [NdM.servesB, h1']; rfl, fin Z Z Z, ER⟩
   have h1' : (N.place == 0) = true := by rw [beq_iff_eq]; exact h1
   refine VA.go (AY 42 true Z h1' ?_)
   refine xfb ?_
   by_cases h2 : N.whole = true
   rotate_left
   ·have h2 : N.whole = false := by simpa using h2
    refine VA.go (AY 48 false Z h2 ?_)
    refine xil ?_
    refine zpt ?_
    refine VA.go (AY 68 false Z Z ?_)
    refine xil ?_
    refine xfb ?_
    exact ⟨false, by rw [NdM.servesB, h1', h2]; rfl, fin Z Z Z, ER⟩
   refine VA.go (AY 48 true Z h2 ?_)
   refine xfb ?_
   refine VA.go (AR (fun Fr w hF hs hS => ndrains_spec Fr w (NmIn.pcs hS 0 Z Z Z Z) (RwIn.of hmN hF hs) hmsN) Z Z yr ?_)
   refine xfb ?_
   cases h3 : N.drains with
   | true =>
    refine zpt ?_
    refine VA.go (AY 68 false Z Z ?_)
    refine xil ?_
    refine xfb ?_
    exact ⟨false, by rw [NdM.servesB, h1', h2, h3]; rfl, fin Z Z Z, ER⟩
   | false =>
   refine VA.go (AY 53 true Z Z ?_)
   refine xfb ?_
   refine xnf ?_
   refine xgl ?_
   refine xfb ?_
   by_cases h4 : (N.log.length : Int) - N.done < C.window
   rotate_left
   ·refine VA.go (AY 68 false Z (DF h4) ?_)
    refine xil ?_
    refine xfb ?_
    exact ⟨false, by rw [NdM.servesB, h1', h2, h3, DF h4]; rfl, fin Z Z Z, ER⟩
   refine VA.go (AY 68 true Z (DT h4) ?_)
   refine xfb ?_
   refine xnf ?_
   refine xfb ?_
   exact ⟨_, by rw [NdM.servesB, h1', h2, h3, DT h4]; rfl, fin Z Z Z, ER⟩
  rintro d hd
  have no : N.servesB C = false → N = N2 := fun h => by rw [← hsl, NdM.serveL, if_neg yar]
  refine CC Z (fun h1 => CK ?_) (fun h1 => CX ?_)
  rotate_left
  ·exact ⟨(), trivial, sbZ, by rw [← no (by rw [← hd, h1])]; exact (Imp.nmB Imp.nil).ent⟩
  have hsv : N.servesB C = true := by rw [← hd, h1]
  have hl := serves_log hsv
  rw [NdM.serveL, if_pos hsv] at hsl
  refine xjt ?_
  obtain ⟨gs, hgs⟩ : ∃ gs, gs = N.adm.sch.goneM nw := ⟨_, rfl⟩
  have hgl64 : gs.length ≤ 64 := by rw [hgs]; exact gone_len kN.wf nw
  have gcl : ∀ f ∈ gs, 0 ≤ f.client ∧ f.client < 6 := fun f hf => gone_client okN.ra.c6 okN.calls (by rw [← hgs]; exact hf)
  obtain ⟨n5, hn5⟩ : ∃ n5 : NdM, n5 = { N with adm := raNext N.adm nw } := ⟨_, rfl⟩
  have hnx : N.nx1 nw = n5.refs gs 2 := by rw [NdM.nx1, hn5, hgs]
  refine CS ?_
  refine VC.meetS (σ := RL FM × Nat × MemG) (fun s => [(0, pV p), (1, .int .i64 nw), (7, .pointer (some ⟨s.2.1, 0, none⟩)), (8, .bool (N.nxOk nw)), (9, .slice s.1.addr s.1.xs.length s.1.cap)]) (fun s => [nmH p C ca cc m n5, s.1.h frT, pt s.2.1 (fmc (N.nxF nw, s.2.2)) frT]) (fun s => s.1.Ok fmc 29 ∧ s.1.xs.map Prod.fst = gs) ?_ ?_
  ·refine CG ?_
   refine xob ?_
   refine VO.ent (L' := [radH y.ap C ca cc N.adm, pt p (nmCs C ca cc m N y) ndT, rlogH y.lp N.log, rrdsH y.rp N.rds, slH rsnT 30 y.oa N.out.length y.oc (flat sndC N.out)]) (pkZ [2, 0, 0, 0, 0]).ent ?_
   refine VG (VK (Lc := [radH y.ap C ca cc N.adm]) (fun Fr w hF hs hS => rnext_spec Fr w okN.ra (ints_of hq hF hs) (few_mono kN.few yd) nw) Z Z ?_)
   rintro _ _ ⟨r, mm, hok, hrx, h64, rfl, rfl⟩
   refine xlf ?_
   refine VG (VO.alloc Z fun fb => VG (VT (vs := fmc (N.nxF nw, mm)) (cs' := fmc (N.nxF nw, mm)) 0 Z Z Z Z (NR _) Z Z Z ?_))
   refine xlf ?_
   exact ⟨(r, fb, mm), ⟨hok, by rw [hrx, hgs]⟩, sbZ, by rw [hn5]; exact Imp.ent (Imp.nm (n := { N with adm := raNext N.adm nw }) y (pkZ [3, 3, 2, 2, 2, 1, 0]))⟩
  rintro ⟨r, fb, mm⟩ ⟨hok, hrx⟩
  dsimp only at hok hrx ⊢
  have hgl : r.xs.length = gs.length := by rw [← hrx, List.length_map]
  have ho5 : n5.out = N.out := by rw [hn5]
  refine CS ?_
  refine VC.meetS (σ := Unit) (fun _ => [(0, pV p), (1, .int .i64 nw), (7, pV fb), (8, .bool (N.nxOk nw))]) (fun _ => [nmH p C ca cc m (N.nx1 nw), pt fb (fmc (N.nxF nw, mm)) frT]) (fun _ => True) ?_ ?_
  ·refine xep ?_
   show VC _ _ _ _ _
   refine xjt ?_
   refine VC.loop (σ := Nat) (fun i => [(0, pV p), (1, .int .i64 nw), (7, pV fb), (8, .bool (N.nxOk nw)), (9, .slice r.addr r.xs.length r.cap), (10, .int .i64 i)]) (fun i => [nmH p C ca cc m (n5.refs (gs.take i) 2), r.h frT, pt fb (fmc (N.nxF nw, mm)) frT]) (fun i => i ≤ r.xs.length) (fun i => r.xs.length - i) 0
    (Nat.zero_le _) sbZ (by show Ent _ _ [nmH p C ca cc m (n5.refs [] 2), r.h frT, pt fb (fmc (N.nxF nw, mm)) frT]; rw [refs_nil]; exact ER) ?_
   rintro i hi
   refine xlf ?_
   refine CP (p := (i : Int) < (r.xs.length : Int)) Z (fun h1 => CK ?_) (fun h1 => CX ?_)
   rotate_left
   ·have : i = gs.length := by omega
    subst this
    rw [List.take_length, ← hnx]
    exact ⟨(), trivial, sbZ, (pkZ [0, 1]).ent⟩
   have h1 : i < r.xs.length := by omega
   obtain ⟨x, hx⟩ : ∃ x, r.xs[i]? = some x := ⟨_, GE h1⟩
   have hxl : gs[i]? = some x.1 := by rw [← hrx, List.getElem?_map, hx]; rfl
   have htk : gs.take (i + 1) = gs.take i ++ [x.1] := by rw [List.take_add_one, hxl]; rfl
   have hxc := gcl x.1 (ME hxl)
   obtain ⟨tb, tof, htb, hta, hrd⟩ := RL.Ok.ld (t := frT) hok hx (fmc_len x)
   rw [hta]
   refine zqx ?_
   refine xmn ?_
   refine xkb ?_
   refine VG (VQ 0 (ψ := fun v H => H = nmH p C ca cc m ((n5.refs (gs.take i) 2).refuse x.1 2)) Z (fun Fr w hF hs _ => nrefuse_spec Fr w (by rw [hrl1, ho5, List.length_take]; omega) x 2 yd yd) Z ybi ?_)
   rintro _ _ rfl
   refine xgk ?_
   rw [← hta, ← refs_snoc, ← htk]
   show VC _ _ _ _ _
   refine zpm ?_
   exact xnp
  rintro _ -
  have k6 := kN.nx1 nw
  have ho6 := nx1_out (n := N) kN.wf nw
  have e6 : (N.nx1 nw).log = N.log := rfl
  obtain ⟨n6, hn6⟩ : ∃ n6, n6 = N.nx1 nw := ⟨_, rfl⟩
  have ea6 : n6.adm = raNext N.adm nw := by rw [hn6]; rfl
  have ec6 : n6.ch = n0.ch := by rw [hn6]; exact hcN
  rw [← hn6] at k6 ho6 e6 hsl ⊢
  have hsv2 : N.serve nw = if logErr N.log (N.nxE nw) ≠ 0 then NdM.refuse { n6 with adm := ((raNext N.adm nw).barM (N.nxF nw).client (N.nxF nw).seq (N.nxF nw).try_).2 } (N.nxF nw) 7 else NdM.finish { n6 with log := N.log ++ [N.nxE nw] } := by rw [hn6]; rfl
  refine xlf ?_
  by_cases h2 : N.nxOk nw = true
  rotate_left
  ·have h2 : N.nxOk nw = false := by simpa using h2
   rw [h2]
   refine xlf ?_
   refine VC.condT Z (CX ?_)
   rw [if_neg (by rw [h2]; simp)] at hsl
   exact ⟨(), trivial, sbZ, by rw [← hsl]; exact (IP 0 Z Imp.nil).ent⟩
  rw [h2]
  rw [if_pos h2] at hsl
  refine zqs ?_
  obtain ⟨⟨hcl0, hcl1⟩, hnum⟩ := nx_client okN kN.wf h2
  have kS := kN.serve hl nw
  have hoS := serve_out okN kN.wf hl nw
  have hcS := serve_ch N nw
  have htS : tot (N.serve nw).adm < tot N.adm := by
   have h3 := raNext_tot kN.wf h2
   unfold tot at h3 ⊢
   rw [serve_adm]; exact h3
  have next : ∀ {X : Cx} {E : Env} {L : List HP}, Vg.look E 0 = some (.pointer (some ⟨p, 0, none⟩)) → Vg.look E 1 = some (.int .i64 nw) → Ent X L [nmH p C ca cc m (N.serve nw)] →
    ∃ s : Nat × NdM, (s.1 ≤ 65 ∧ NdM.serveL C nw s.1 s.2 = N2 ∧ NdW C (900000000 + 96 * (65 - s.1)) s.2 ∧ tot s.2.adm < s.1 ∧ s.2.ch = n0.ch ∧ s.2.out.length ≤ 16 + 4160 * (65 - s.1)) ∧ s.1 < j + 1 ∧ Sub [(0, pV p), (1, .int .i64 nw)] E ∧ Ent X L [nmH p C ca cc m s.2] := fun {X E L} h0 h1 h3 =>
   ⟨(j, N.serve nw), ⟨by dsimp only; omega, hsl, ⟨kS.ok, kS.wf, few_mono kS.few ybn⟩, by dsimp only; omega, by dsimp only; rw [hcS, hcN], by dsimp only; omega⟩, by dsimp only; omega, SC h0 (SC h1 (SN _)), h3⟩
  obtain ⟨e, he⟩ : ∃ e, e = N.nxE nw := ⟨_, rfl⟩
  have he2 : (⟨n6.log.length + 1, (N.nxF nw).client, (N.nxF nw).seq, (N.nxF nw).op⟩ : EntryM) = e := by rw [he, e6]; rfl
  have hl6 := k6.ok.log
  refine VC.nm fun y => ?_
  refine CS ?_
  refine VC.meetS (σ := Unit) (fun _ => [(0, pV p), (1, .int .i64 nw), (7, pV fb), (12, .int .i64 (logErr n6.log e))]) (fun _ => [nmH p C ca cc m { n6 with log := logApp n6.log e }, pt fb (fmc (N.nxF nw, mm)) frT]) (fun _ => True) ?_ ?_
  ·refine CD (ts 0 5 (ts 7 6 (.two 5 18 (.take 6 (.take 13 (.two 14 18 (ts 15 3 (.only 18 (.only 19 (.take 20 .nil)))) (.only 14 (ts 15 3 (.only 19 (.take 20 .nil))))))) (.only 5 (.take 6 (.take 13 (.only 14 (ts 15 3 (.only 19 (.take 20 .nil)))))))))) ym yq ?_
   refine xfr ?_
   refine VA.go (VA.ldA 5 (N.nxF nw).op.cells Z Z Z Z Z ?_)
   refine VA.go (VA.two Z Z Z Z Z (OpT.callP (φ := fun v => v = .int .i64 n6.log.length) (fun Fr w hF hs hS => nlast_spec Fr w (NmIn.pcs hS 0 Z Z Z Z)) Z) Z Z Z (OpT.alloc Z) ?_ ?_ ?_ ?_)
   ·rintro _ _ ⟨rfl, rfl⟩
    exact yr
   ·rintro _ _ ⟨q, rfl, rfl⟩
    exact yr
   ·rintro _ _ ⟨rfl, rfl⟩
    refine xeg ?_
    refine xoc ?_
    rw [he2]
    refine VA.go (VA.two Z Z Z Z Z (OpT.callAt (ψ := fun v H => (∃ r, v = .tuple #[.agg (resC r).toArray, .int .i64 (logErr n6.log e)]) ∧ H = rlogH y.lp (logApp n6.log e)) 1 Z (fun Fr w hF hs hS => rlapp_spec Fr w y.lp n6.log k6.ok.num k6.ok.log e) Z yz) Z Z Z (OpT.alloc Z) ?_ ?_ ?_ ?_)
    ·rintro _ _ ⟨H, ⟨⟨r, rfl⟩, rfl⟩, rfl⟩
     exact yr
    ·rintro _ _ ⟨q, rfl, rfl⟩
     exact yr
    ·rintro _ _ ⟨H, ⟨⟨r, rfl⟩, rfl⟩, rfl⟩
     refine VA.go (AO (OpT.alloc Z) Z ?_ ?_)
     ·rintro _ _ ⟨q, rfl, rfl⟩
      exact yr
     rintro _ _ ⟨q, rfl, rfl⟩
     refine zqr ?_
     exact xod
    ·rintro _ _ ⟨q, rfl, rfl⟩
     refine xoe ?_
     rintro _ _ ⟨⟨r, rfl⟩, rfl⟩
     refine zqr ?_
     exact xod
   ·rintro _ _ ⟨q, rfl, rfl⟩
    refine VA.go (AR (fun Fr w hF hs hS => nlast_spec Fr w (NmIn.pcs hS 1 Z Z Z Z)) Z Z yr ?_)
    refine xeg ?_
    refine xoc ?_
    rw [he2]
    refine xoe ?_
    rintro _ _ ⟨⟨r, rfl⟩, rfl⟩
    refine zqr ?_
    exact xod
  rintro _ -
  rw [← e6, ← he] at hsv2
  refine xny ?_
  refine VC.condNE (i := logErr n6.log e) (j := 0) Z (fun h4 => ?_) (fun h4 => CK ?_)
  ·rw [if_pos h4] at hsv2
   have eap : logApp n6.log e = n6.log := by rw [logApp, if_neg h4]
   rw [eap]
   refine VC.nm (n := { n6 with log := n6.log }) fun y => ?_
   obtain ⟨B, hB⟩ : ∃ B, B = (n6.adm.barM (N.nxF nw).client (N.nxF nw).seq (N.nxF nw).try_).2 := ⟨_, rfl⟩
   rw [← ea6, ← hB] at hsv2
   refine VC.opn 2 Z (HOpn.rad y.ap C ca cc n6.adm) ?_
   rintro sp -
   show VC _ _ _ [pt y.ap (radCs C ca cc n6.adm sp) radT, rfH sp ca n6.adm.sch, pt p (nmCs C ca cc m n6 y) ndT, rlogH y.lp n6.log, rrdsH y.rp n6.rds, slH rsnT 30 y.oa n6.out.length y.oc (flat sndC n6.out), pt fb (fmc (N.nxF nw, mm)) frT] _
   refine xfa ?_
   refine xjw ?_
   refine VA.go (AQ 0 (ψ := fun v H => H = pt y.ap (radCs C ca cc B sp) radT) Z (fun Fr w hF hs _ => rbar_spec Fr w k6.ok.ra.cl k6.ok.ra.marks k6.ok.ra.c6 (N.nxF nw).client (N.nxF nw).seq (N.nxF nw).try_) Z Z yco (fun v H h => by rw [h]; exact yr) ?_)
   rintro _ _ rfl
   refine xfc ?_
   show VC _ _ _ _ _
   refine CN (L' := [nmH p C ca cc m { n6 with adm := B }, pt fb (fmc (N.nxF nw, mm)) frT]) (Imp.ent (Imp.nm (n := { n6 with adm := B }) y (IP 2 Z (IP 2 Z (Imp.rad (A := B) sp (IP 0 Z (IP 0 (by rw [hB, (barM_same _ _ _ _).2.2]; rfl) (pkZ [0, 0, 0])))))))) ?_
   refine xhm ?_
   refine xlf ?_
   refine VG (VL 1 (fmc (N.nxF nw, mm)) Z Z Z Z ?_)
   refine VG (VQ 0 (ψ := fun v H => H = nmH p C ca cc m (NdM.refuse { n6 with adm := B } (N.nxF nw) 7)) Z (fun Fr w hF hs _ => nrefuse_spec Fr w (by show n6.out.length ≤ _; omega) (N.nxF nw, mm) 7 (by show -1000000 ≤ (N.nxF nw).client; omega) (by show (N.nxF nw).client ≤ 1000000; omega)) Z ybi ?_)
   rintro _ _ rfl
   refine xgk ?_
   show VC _ _ _ _ _
   exact CX (next Z Z yda)
  ·have h4 : logErr n6.log e = 0 := by simpa using h4
   rw [if_neg (fun h => h h4)] at hsv2
   have eap : logApp n6.log e = n6.log ++ [e] := by rw [logApp, if_pos h4]
   rw [eap]
   have k7 : NdOk C ({ n6 with log := n6.log ++ [e] } : NdM) := k6.ok.logApp (by rw [e6]; exact hl) h4
   refine CG ?_
   refine VG (VQ 0 (ψ := fun v H => H = nmH p C ca cc m (NdM.finish { n6 with log := n6.log ++ [e] })) Z (fun Fr w hF hs _ => nfinish_spec Fr w k7 (by show RwIn memC 2 Fr w m.1 n6.ch.ms; rw [ec6]; exact RwIn.of hm0 hF hs) (by show n6.out.length ≤ _; omega)) Z ybi ?_)
   rintro _ _ rfl
   refine xgk ?_
   exact next Z Z yda
 rintro _ -
 have hc2 : N2.ch = n0.ch := by rw [hc2, hc1]
 have ho2 : N2.out.length ≤ 300000 := by omega
 clear hN2 ho1 hc1 hN1 hex hn1 hws
 obtain ⟨N3, hN3⟩ : ∃ N3, N3 = NdM.passL 4097 N2 := ⟨_, rfl⟩
 rw [← hN3]
 refine CS ?_
 refine VC.meetS (σ := Unit) (fun _ => [(0, pV p)]) (fun _ => [nmH p C ca cc m N3]) (fun _ => True) ?_ ?_
 ·refine xjt ?_
  refine VC.loop (σ := Nat × NdM) (fun s => [(0, pV p)]) (fun s => [nmH p C ca cc m s.2]) (fun s => s.1 ≤ 4097 ∧ NdM.passL s.1 s.2 = N3 ∧ NdOk C s.2 ∧ s.2.log.length - s.2.sent < s.1 ∧ s.2.ch = n0.ch ∧ s.2.out.length ≤ 300000 + (4097 - s.1)) (fun s => s.1) (4097, N2)
   ⟨NR _, hN3.symm, k2.ok, by have := k2.ok.log; have := k2.ok.s0; dsimp only; omega, hc2, by dsimp only; omega⟩ sbZ ER ?_
  rintro ⟨i, N⟩ ⟨hi, hsl, okN, htot, hcN, hoN⟩
  dsimp only at hi hsl htot hcN hoN ⊢
  have okN : NdOk C N := okN
  have hl96 := okN.log; have hs0 := okN.s0; have hs1 := okN.s1; have hmsN := okN.ms
  obtain ⟨j, rfl⟩ : ∃ j, i = j + 1 := ⟨i - 1, by omega⟩
  have hmN : RwIn memC 2 Fr w m.1 N.ch.ms := by rw [hcN]; exact hm0
  refine VC.nm fun y => ?_
  refine CS (CS ?_)
  refine VC.meetS (σ := Bool) (fun d => [(0, pV p), (156, .bool d)]) (fun _ => nmX p C ca cc m N y []) (fun d => d = N.passB) ?_ ?_
  ·refine CD (ts 0 10 (.only 10 (ts 11 13 .nil))) ym yq ?_
   have fin : ∀ {E : Env} {d : Bool}, Vg.look E 0 = some (.pointer (some ⟨p, 0, none⟩)) → Vg.look E 156 = some (.bool d) → Sub [(0, pV p), (156, .bool d)] E := fun h0 h2 => SC h0 (SC h2 (SN _))
   refine xfb ?_
   by_cases h1 : N.linked = true
   rotate_left
   ·have h1 : N.linked = false := by simpa using h1
    refine VA.go (AY 137 false Z h1 ?_)
    refine xil ?_
    refine VA.go (AY 146 false Z Z ?_)
    refine xfb ?_
    exact ⟨false, by rw [NdM.passB, h1]; rfl, fin Z Z, ER⟩
   refine VA.go (AY 137 true Z h1 ?_)
   refine xfb ?_
   refine xnf ?_
   refine xfb ?_
   by_cases h2 : N.sent < N.log.length
   rotate_left
   ·refine VA.go (AY 146 false Z (DF h2) ?_)
    refine xfb ?_
    exact ⟨false, by rw [NdM.passB, h1, DF h2]; rfl, fin Z Z, ER⟩
   refine VA.go (AY 146 true Z (DT h2) ?_)
   refine xfb ?_
   exact ⟨_, by rw [NdM.passB, h1, DT h2]; rfl, fin Z Z, ER⟩
  rintro d hd
  refine CC Z (fun h1 => CK ?_) (fun h1 => CX ?_)
  rotate_left
  ·rw [NdM.passL, if_neg (by rw [← hd, h1]; simp)] at hsl
   exact ⟨(), trivial, sbZ, by rw [← hsl]; exact (Imp.nmB Imp.nil).ent⟩
  have hpb : N.passB = true := by rw [← hd, h1]
  rw [NdM.passL, if_pos hpb] at hsl
  have okP := okN.pass1 hpb
  obtain ⟨N1, hN1⟩ : ∃ N1 : NdM, N1 = { N with sent := N.sent + 1 } := ⟨_, rfl⟩
  have hsN : N1.sent = N.sent + 1 := by rw [hN1]
  have eL : N1.log = N.log := by rw [hN1]
  have hcN1 : N1.ch = n0.ch := by rw [hN1]; exact hcN
  have hoN1 : N1.out.length = N.out.length := by rw [hN1]
  have e1 : N.pass1 = N1.send N1.next (forwardF N1.ch.epoch ((atI N1.log N1.sent).getD entZ)) := by rw [hN1]; rfl
  obtain ⟨hpl, hpr⟩ := by
   simp only [NdM.passB, Bool.and_eq_true, decide_eq_true_eq] at hpb
   exact hpb.2
  refine xjt ?_
  refine xhm ?_
  refine xob ?_
  refine xei ?_
  refine VG (VO.st 0 (cs' := nmCs C ca cc m N1 y) Z Z Z Z ycp (by rw [hN1]; rfl) Z ?_)
  refine xgk ?_
  show VC _ _ _ _ _
  refine CN (L' := nmX p C ca cc m N1 y []) (by rw [hN1]; exact ER) ?_
  obtain ⟨e, he⟩ : ∃ e, e = (atI N1.log N1.sent).getD entZ := ⟨_, rfl⟩
  rw [← he] at e1
  refine CS ?_
  refine VC.meetS (σ := Nat) (fun d => [(0, pV p), (13, pV d)]) (fun d => [nmH p C ca cc m N1, pt d (entC e) entT]) (fun _ => True) ?_ ?_
  ·refine xni ?_
   refine xfb ?_
   refine VA.go (VA.two Z Z Z Z Z (OpT.callP (φ := fun v => v = .tuple #[.agg (entC e).toArray, .bool (atI N1.log N1.sent).isSome]) (fun Fr w hF hs hS => by rw [he]; exact rlat_spec Fr w (hS.at_ 1 Z) N1.sent yd yd) Z) Z Z Z (OpT.alloc Z) ?_ ?_ ?_ ?_)
   ·rintro _ _ ⟨rfl, rfl⟩
    exact yr
   ·rintro _ _ ⟨d, rfl, rfl⟩
    exact yr
   ·rintro _ _ ⟨rfl, rfl⟩
    refine VA.go (AO (OpT.alloc Z) Z ?_ ?_)
    ·rintro _ _ ⟨d, rfl, rfl⟩
     exact yr
    rintro _ _ ⟨d, rfl, rfl⟩
    refine xnj ?_
    refine xeh ?_
    exact xnk
   ·rintro _ _ ⟨d, rfl, rfl⟩
    refine VA.go (AR (fun Fr w hF hs hS => rlat_spec Fr w (hS.at_ 2 Z) N1.sent yd yd) Z Z yr ?_)
    rw [← he]
    refine xnj ?_
    refine xeh ?_
    exact xnk
  rintro d -
  have hmN1 : RwIn memC 2 Fr w m.1 N1.ch.ms := by rw [hcN1]; exact hm0
  have hms1 : N1.ch.ms.length ≤ 1000 := by rw [hN1]; exact hmsN
  have pb := place_bd N1
  refine VC.nm fun y => ?_
  refine CD (ts 0 3 (ts 6 7 (.only 3 (.take 4 (.only 5 (.only 13 .nil)))))) ym yq ?_
  refine xfb ?_
  refine VA.go (VA.ldA 5 (entC e) Z Z Z Z Z ?_)
  refine VA.go (AI Z (LB (pv := [(0, .int .i64 4), (1, .int .i64 N1.ch.epoch), (10, .agg (entC e).toArray)]) (fgC (forwardF N1.ch.epoch e) mem0) Z Z Z ym Z) ?_)
  refine VA.go (AR (fun Fr w hF hs hS => nplace_spec Fr w (NmIn.pcs hS 0 Z Z Z Z) (RwIn.of hmN1 hF hs) hms1) Z Z yr ?_)
  refine xeg ?_
  refine VA.go (AR (fun Fr w hF hs hS => nat_spec Fr w (NmIn.pcs hS 0 Z Z Z Z) (RwIn.of hmN1 hF hs) hms1 (N1.place + 1)) Z Z yr ?_)
  refine VA.ent (L' := [nmH p C ca cc m N1, pt d (entC e) entT]) (Imp.nmB Imp.refl).ent ?_
  refine VA.go (AQ 0 (ψ := fun v H => H = nmH p C ca cc m (N1.send N1.next (forwardF N1.ch.epoch e))) Z (fun Fr w hF hs _ => nsend_spec Fr w yd _ _) Z Z ybi (fun v H h => by rw [h]; exact yci) ?_)
  rintro _ _ rfl
  refine xfc ?_
  rw [← e1]
  have hs2 : N.pass1.sent = N.sent + 1 := rfl
  have ho3 : N.pass1.out.length = N.out.length + 1 := by show (N.out ++ [_]).length = _; simp
  exact ⟨(j, N.pass1), ⟨by dsimp only; omega, hsl, okP, by show (N.log.length : Int) - (N.sent + 1) < j; omega, hcN, by dsimp only; omega⟩, Nat.lt_succ_self j, sbZ, (IP 0 Z Imp.nil).ent⟩
 rintro _ -
 refine VC.nm fun y => ?_
 refine xdy ?_
 exact CR (Ret.tmp 4 Z Z (Imp.ent (Imp.nm0 (n := N3) (y, N3.out.length) (IP 0 Z (IP 0 Z (IP 0 Z (IP 0 Z (IP 0 Z Imp.nil))))))) ⟨y.oa, y.oc, Z, Z⟩)
end
end Nd
namespace Nd
open Go Vg T Api Kv Ch Lg Rd Win Adm Sched Conf Rep Ref16 Rk
attribute [local irreducible] VO VC VA
section
variable {p : Nat} {C : ConfM} {ca : Option Addr} {cc : Nat} {m : MemP} {n : NdM} {y : NmS}
theorem ntick_spec (k : NdOk C n) (hm : RwIn memC 2 Fr w m.1 n.ch.ms) :
  Tri Tryz.prog 29 [.pointer (some ⟨p, 0, none⟩)] Fr w [nm0 p C ca cc m n]
  (fun v L => sentN (n.tick C).out v L [nm0 p C ca cc m (n.tick C)]) := by
 refine TF 61 Tryz.func29 Z ym tabOk Z Z ?_
 refine VC.opn 0 Z (HOpn.nm0 p C ca cc m n) ?_
 rintro ⟨y, on⟩ -
 show VC _ _ _ [pt p (nmC0 C ca cc m n y on) ndT, rlogH y.lp n.log, radH y.ap C ca cc n.adm, rrdsH y.rp n.rds] _
 obtain ⟨n0, hn0⟩ : ∃ n0 : NdM, n0 = { n with out := [] } := ⟨_, rfl⟩
 have k0 : NdOk C n0 := by rw [hn0]; exact k.out0 []
 have hm0 : RwIn memC 2 Fr w m.1 n0.ch.ms := by rw [hn0]; exact hm
 have hout0 : n0.out = [] := by rw [hn0]
 obtain ⟨N1, hN1⟩ : ∃ N1, N1 = n.tickA C := ⟨_, rfl⟩
 have k1 : NdOk C N1 := by rw [hN1]; exact k.tickA
 obtain ⟨-, hc1, ho1⟩ := tickA_adm C n
 rw [← hN1] at hc1 ho1
 have hm1 : RwIn memC 2 Fr w m.1 N1.ch.ms := by rw [hc1]; exact hm
 have hA : N1 = ((n0.alive).greet C).base := by rw [hN1, hn0]; rfl
 rw [show n.tick C = N1.tickB.tickC.tickD from by rw [hN1]; rfl]
 refine xel ?_
 refine xnq ?_
 refine xgk ?_
 show VC _ _ _ _ _
 refine CN (L' := [nmH p C ca cc m n0]) (by rw [hn0]; exact Imp.ent (Imp.nm (n := { n with out := [] }) ⟨y.lp, y.ap, y.rp, none, 0⟩ (IP 0 Z (IP 0 Z (IP 0 Z (IP 0 Z (Imp.slNil Imp.nil))))))) ?_
 refine xhm ?_
 refine VG (VQ 0 (ψ := fun v H => H = nmH p C ca cc m n0.alive) Z (fun Fr w hF hs _ => nalive_spec Fr w (by rw [hout0]; show 0 ≤ _; omega)) Z ybi ?_)
 rintro _ _ rfl
 refine xgk ?_
 show VC _ _ _ _ _
 have ka : NdOk C n0.alive := k0.send _ _
 have hoa : n0.alive.out.length = 1 := by show (n0.out ++ [_]).length = 1; rw [hout0]; rfl
 refine xhm ?_
 refine VG (VQ 0 (ψ := fun v H => H = nmH p C ca cc m (n0.alive.greet C)) Z (fun Fr w hF hs _ => ngreet_spec Fr w ka (RwIn.of hm0 hF hs) yd) Z ybi ?_)
 rintro _ _ rfl
 refine xgk ?_
 show VC _ _ _ _ _
 have hog := greet_out C n0.alive
 have hcg := greet_ch C n0.alive
 refine xhm ?_
 refine VG (VQ 0 (ψ := fun v H => H = nmH p C ca cc m (n0.alive.greet C).base) Z (fun Fr w hF hs _ => nbase_spec Fr w (by rw [hcg]; exact k0.ms) (by rw [hcg]; exact RwIn.of hm0 hF hs) yd) Z ybi ?_)
 rintro _ _ rfl
 refine xgk ?_
 show VC _ _ _ _ _
 rw [← hA]
 refine CS ?_
 refine VC.meetS (σ := Unit) (fun _ => [(0, pV p)]) (fun _ => [nmH p C ca cc m N1.tickB]) (fun _ => True) ?_ ?_
 ·refine VC.nm fun y => ?_
  refine xdy ?_
  refine CC Z (fun h1 => ?_) (fun h1 => CK ?_)
  ·refine CG ?_
   refine VO.ent (L' := [nmH p C ca cc m N1]) (Imp.nmB Imp.nil).ent ?_
   refine VG (VQ 0 (ψ := fun v H => H = nmH p C ca cc m N1.back) Z (fun Fr w hF hs _ => nback_spec Fr w) Z ybi ?_)
   rintro _ _ rfl
   refine xgk ?_
   exact ⟨(), trivial, sbZ, by rw [NdM.tickB, if_pos h1]; exact ER⟩
  ·exact ⟨(), trivial, sbZ, by rw [NdM.tickB, if_neg ybb]; exact (Imp.nmB Imp.nil).ent⟩
 rintro _ -
 have e2 : N1.tickB.ch = N1.ch ∧ N1.tickB.out = N1.out := by unfold NdM.tickB; split <;> exact ⟨rfl, rfl⟩
 have k2 := k1.tickB
 obtain ⟨N2, hN2⟩ : ∃ N2, N2 = N1.tickB := ⟨_, rfl⟩
 rw [← hN2] at e2 k2 ⊢
 obtain ⟨hc2, ho2⟩ := e2
 have ho2l : N2.out.length ≤ 3 := by rw [ho2]; exact ho1
 refine VC.nm fun y => ?_
 refine xhm ?_
 refine xob ?_
 refine VG (VV (fun Fr w hF hs hS => rrlast_spec Fr w (hS.at_ 3 Z) (by have := k2.rl; omega)) Z ?_)
 refine xgk ?_
 show VC _ _ _ _ _
 refine CS ?_
 refine VC.meetS (σ := Unit) (fun _ => [(0, pV p)]) (fun _ => [nmH p C ca cc m N2.tickC]) (fun _ => True) ?_ ?_
 ·refine xny ?_
  refine CC Z (fun h1 => ?_) (fun h1 => CK ?_)
  ·refine CG ?_
   refine xob ?_
   refine VG (VI (LB (pv := [(0, .int .i64 9), (1, .int .i64 N2.ch.epoch), (12, .int .i64 N2.rds.lastI)]) (fgC (confirmF N2.ch.epoch N2.rds.lastI) mem0) Z Z Z ym Z) ?_)
   refine VO.ent (L' := [nmH p C ca cc m N2]) (Imp.nmB Imp.nil).ent ?_
   refine VG (VQ 0 (ψ := fun v H => H = nmH p C ca cc m (N2.send 16 (confirmF N2.ch.epoch N2.rds.lastI))) Z (fun Fr w hF hs _ => nsend_spec Fr w yd _ _) Z ybi ?_)
   rintro _ _ rfl
   refine xgk ?_
   exact ⟨(), trivial, sbZ, by rw [NdM.tickC, if_neg ybj]; exact ER⟩
  ·exact ⟨(), trivial, sbZ, by rw [NdM.tickC, if_pos ybj]; exact (Imp.nmB Imp.nil).ent⟩
 rintro _ -
 have e3 : N2.tickC.ch = N2.ch ∧ N2.tickC.out.length ≤ N2.out.length + 1 := by
  unfold NdM.tickC
  split
  ·exact ⟨rfl, by omega⟩
  ·exact ⟨rfl, by show (N2.out ++ [_]).length ≤ _; simp⟩
 have k3 := k2.tickC
 obtain ⟨N3, hN3⟩ : ∃ N3, N3 = N2.tickC := ⟨_, rfl⟩
 rw [← hN3] at e3 k3 ⊢
 obtain ⟨hc3, ho3⟩ := e3
 have ho3 : N3.out.length ≤ 10 := by rw [ho2] at ho3; omega
 have hm3 : RwIn memC 2 Fr w m.1 N3.ch.ms := by rw [hc3, hc2]; exact hm1
 refine CS ?_
 refine VC.meetS (σ := Unit) (fun _ => [(0, pV p)]) (fun _ => [nmH p C ca cc m N3.tickD]) (fun _ => True) ?_ ?_
 ·refine VC.nm fun y => ?_
  refine CS ?_
  refine VC.meetS (σ := Bool) (fun d => [(0, pV p), (48, .bool d)]) (fun _ => nmX p C ca cc m N3 y []) (fun d => d = true ↔ N3.drains = true ∧ N3.done = N3.log.length) ?_ ?_
  ·refine CD (.take 0 (.only 1 (ts 2 6 (.only 8 (ts 9 2 .nil))))) ym yq ?_
   refine xfb ?_
   refine VA.go (AR (fun Fr w hF hs hS => ndrains_spec Fr w (NmIn.pcs hS 0 Z Z Z Z) (RwIn.of hm3 hF hs) k3.ms) Z Z yr ?_)
   refine xfb ?_
   by_cases h1 : N3.drains = true
   rotate_left
   ·have h1 : N3.drains = false := by simpa using h1
    refine VA.go (AY 40 false Z h1 ?_)
    refine xil ?_
    refine xfb ?_
    exact ⟨false, by simp [h1], sbZ, ER⟩
   refine VA.go (AY 40 true Z h1 ?_)
   refine xfb ?_
   refine xnf ?_
   refine xfb ?_
   exact ⟨_, by simp [h1], SC Z (SC Z (SN _)), ER⟩
  rintro d hd
  refine CC Z (fun h1 => ?_) (fun h1 => CK ?_)
  ·refine CG ?_
   refine xob ?_
   refine VG (VI (LB (pv := [(0, .int .i64 12), (1, .int .i64 N3.ch.epoch)]) (fgC (drainedF N3.ch.epoch) mem0) Z Z Z ym Z) ?_)
   refine VO.ent (L' := [nmH p C ca cc m N3]) (Imp.nmB Imp.nil).ent ?_
   refine VG (VQ 0 (ψ := fun v H => H = nmH p C ca cc m (N3.send 16 (drainedF N3.ch.epoch))) Z (fun Fr w hF hs _ => nsend_spec Fr w yd _ _) Z ybi ?_)
   rintro _ _ rfl
   refine xgk ?_
   exact ⟨(), trivial, sbZ, by rw [NdM.tickD, if_pos (hd.1 h1)]; exact ER⟩
  ·exact ⟨(), trivial, sbZ, by rw [NdM.tickD, if_neg (fun h => by rw [hd.2 h] at h1; cases h1)]; exact (Imp.nmB Imp.nil).ent⟩
 rintro _ -
 refine VC.nm fun y => ?_
 refine xdy ?_
 exact CR (Ret.tmp 2 Z Z (Imp.ent (Imp.nm0 (n := N3.tickD) (y, N3.tickD.out.length) (IP 0 Z (IP 0 Z (IP 0 Z (IP 0 Z (IP 0 Z Imp.nil))))))) ⟨y.oa, y.oc, Z, Z⟩)
end
end Nd
namespace Nd
open Go Vg T Api Kv Ch Lg Rd Win Adm Sched Conf Rep Ref16 Rk
theorem first_ok {c : ConfM} (h : c = fitM c) : chOk (firstC c) = true := by
 have hb := conf_bounds h
 obtain ⟨n, hn, h1, h6⟩ : ∃ n : Nat, c.chain = n ∧ 1 ≤ n ∧ n ≤ 6 := ⟨c.chain.toNat, by omega, by omega, by omega⟩
 unfold firstC
 rw [hn]
 rcases (by omega : n = 1 ∨ n = 2 ∨ n = 3 ∨ n = 4 ∨ n = 5 ∨ n = 6) with rfl | rfl | rfl | rfl | rfl | rfl <;> decide
theorem newR_inv {c : ConfM} (h : c = fitM c) (id : Int) (blank : Bool) : RInv c (Rep.newR c id blank) ∧ (Rep.newR c id blank).base = -1 := by
 have hb := conf_bounds h
 have hf := newR_fit h id blank
 have hsi : SI (newA c) := ⟨_, _, _, by have := SInv.start c; rw [← h] at this; exact this⟩
 have hq : (newA c).sch.cls.map ClsM.quantum = c.qs := by
  show (c.qs.map clsNew).map ClsM.quantum = c.qs
  rw [List.map_map]
  exact List.map_id _
 have key : ∀ (C : ChM) (s t : Int) (wh : Bool), ({ newR0 c id with ch := C, since := s, whole := wh, start := t } : RepM).Fit → (C = chZ ∨ chOk C = true) → s = (sinceOf C id).1 → RInv c { newR0 c id with ch := C, since := s, whole := wh, start := t } := fun C s t wh hF hC hs =>
  ⟨hF, rfl, rfl, rfl, rfl, hq, hsi, fun k e he => (by cases he), hC, hs, by show (0 : Int) ≤ 0 + c.window; omega, ⟨.nil, fun x hx => by cases hx⟩, fun h => absurd rfl h⟩
 have h1 := first_ok h
 unfold Rep.newR at hf ⊢
 by_cases hbl : blank = true
 ·rw [if_pos hbl] at hf ⊢
  exact ⟨key chZ 0 (-1) false hf (.inl rfl) (by rw [sinceOf, if_neg (fun e => by rw [chZ_no] at e; cases e.1)]), rfl⟩
 rw [if_neg hbl] at hf ⊢
 by_cases hin : (sinceOf (firstC c) id).2 = true
 ·rw [if_pos hin] at hf ⊢
  exact ⟨key (firstC c) _ 0 true hf (.inr h1) Z, Z⟩
 ·rw [if_neg hin] at hf ⊢
  exact ⟨key (firstC c) 0 (-1) false hf (.inr h1) (since_zero (by simpa using hin)).symm, Z⟩
def ofNd (R : RepM) (x : NdS) : NdM := ⟨R.id, R.ch, R.since, R.whole, x.st, x.bs, R.log, R.win.done, R.win.sent, R.win.limit, R.have_, R.adm, R.rds, R.linked, []⟩
theorem ofNd_eq {R : RepM} {x : NdS} (h : ndOk R x) (hb : R.base = -1) : REq R (ofNd R x) :=
 ⟨rfl, rfl, rfl, rfl, rfl, rfl, rfl, rfl, rfl, rfl, ⟨rfl, rfl, rfl⟩, rfl, h.1, by have := h.2.1 hb; show R.base = max x.bs (-1); omega⟩
theorem Imp.nd0 {p : Nat} {C : ConfM} {ca : Option Addr} {cc : Nat} {R : RepM} {x : NdS} {M N : List HP} (h : Imp M N) : Imp (ndL p C ca cc R x ++ M) (Nd.nm0 p C ca cc (x.a, x.c) (ofNd R x) :: slH memT 2 x.a R.ch.ms.length x.c (flat memC R.ch.ms) :: N) :=
 Imp.nm0 (n := ofNd R x) (m := (x.a, x.c)) (⟨x.lp, x.ap, x.rp, x.oa, x.oc⟩, x.on) (IP 0 rfl (IP 1 rfl (IP 1 rfl (IP 1 rfl (IP 0 rfl h)))))
section
variable {C : ConfM} {R : RepM} {n : NdM} {B : Int}
theorem REq.ok (e : REq R n) (i : RInv C R) : NdOk C n := by
 have o := i.ok
 have w := o.win
 have hl := e.len i
 have hm : n.adm.marks.length = 6 := by rw [e.adm.marks]; exact o.wf.marks
 refine ⟨by rw [e.ch]; exact o.ch.len, by have := w.last1; omega, fun k x hx => ?_, by rw [e.log]; exact o.logc, ⟨?_, hm, ?_, by rw [e.adm.sch]; exact i.qs⟩, ?_, ?_, ?_, ?_, ?_, ?_, ?_, ?_, ?_, ?_, ?_, ?_⟩
 ·rw [e.log] at hx; exact i.lok.idx hx
 ·rw [e.adm.cl, i.acl]; exact i.cl
 ·rw [e.adm.cl]; exact o.wf.c1
 ·intro q hq f hf
  have hq : q ∈ R.adm.sch.qs := by rw [← e.adm.sch]; exact hq
  rw [e.adm.cl]; exact o.calls q hq f hf
 ·rw [e.done]; exact w.done0
 ·rw [e.done, hl]; exact w.done1
 ·rw [e.sent]; exact w.sent0
 ·rw [e.sent, hl]; exact w.sent1
 ·rw [i.cap]; exact i.fit.cap0
 ·rw [i.cap]; exact i.fit.cap1
 ·rw [e.rds]; have := o.rl; have := o.rc1; omega
 ·rw [e.rds]; exact o.rc1
 ·rw [e.rds]; exact o.rn0
 ·rw [e.rds]; exact o.rn1
 ·rw [e.rds]; exact o.rcl
theorem REq.nw (e : REq R n) (i : RInv C R) (h : few R.adm.sch B) : NdW C B n := ⟨e.ok i, by rw [e.adm.sch]; exact i.ok.wf.sch, by rw [e.adm.sch]; exact h⟩
theorem few_push {S : SchM} (h : few S B) (f : FrameM) : few (S.pushM f).2 B := by
 unfold SchM.pushM
 cases hc : S.at_ f.cls with
 | none => exact h
 | some c =>
  dsimp only
  split
  ·exact h
  split
  ·unfold SchM.at_ at hc
   split at hc
   ·exact few_set h (h c (ME hc))
   ·cases hc
  ·exact h
theorem few_offer {A : AdmM} (h : few A.sch B) (f : FrameM) (now : Int) : few (A.offerM f now).2.sch B := by
 by_cases h0 : (A.offerM f now).1 = 0
 ·obtain ⟨hm, hb, hz, hd, hp, e⟩ := offer_in h0
  rw [e]; exact few_push h f
 ·rw [(offer_not now h0).1]; exact h
theorem few_update (h : few R.adm.sch B) (f : FrameM) (now : Int) : few (updateR R f now).1.adm.sch B := by
 obtain ⟨A, hA, h2, _⟩ := upd_form R f now
 rw [hA]
 show few A.sch B
 rcases h2 with rfl | rfl | ⟨k, s, t, rfl | rfl⟩
 ·exact h
 ·exact few_offer h f now
 ·rw [barM_sch]; exact h
 ·rw [barM_sch]; exact few_offer h f now
theorem few_take (i : RInv C R) (h : few R.adm.sch B) (from_ : Int) (f : FrameM) (ms : List MemM) (now : Int) : few (takeR R from_ f ms now).1.adm.sch B := by
 unfold takeR
 split
 ·split
  ·exact h
  split
  ·exact h
  split
  ·unfold readR; split <;> exact h
  ·exact few_update h f now
 split
 ·split
  ·have e : (enterR R (frCh f ms)).1.adm = R.adm.expireM maxI := by
    show (Rep.ent5 R (frCh f ms)).finishR.adm = _
    unfold RepM.finishR
    split <;> (unfold Rep.ent5; split <;> rfl)
   rw [e, (expire_wf i.ok.wf maxI).2.2]
   exact few_exp h _
  ·exact h
 split
 ·split
  ·unfold forwardR
   split
   ·show few (Rep.pushE R f.entry).finishR.becomeR.adm.sch B
    unfold RepM.becomeR
    split <;> (unfold RepM.finishR; split <;> exact h)
   ·exact h
  ·exact h
 split
 ·split
  ·show few (Rep.ack2 R f).adm.sch B
   unfold Rep.ack2 Rep.ack1; dsimp only; split <;> exact h
  ·exact h
 split
 ·split
  ·unfold RepM.becomeR; split <;> exact h
  ·exact h
 split
 ·split <;> exact h
 ·exact h
theorem few_step (e : REq R n) (i : RInv C R) (h : few R.adm.sch B) {now : Int} (h0 : 0 ≤ now) : few (stepR R now).1.adm.sch (B + 6240) := by
 have := ((e.nw i h).step now).few
 rwa [(e.step i h0).1.adm.sch] at this
theorem few_new (c : ConfM) (id : Int) (blank : Bool) : few (Rep.newR c id blank).adm.sch 0 := by
 have h : few (newA c).sch 0 := fun x hx => by
  obtain ⟨q, _, rfl⟩ := List.mem_map.1 hx
  exact Int.le_refl _
 unfold Rep.newR
 split
 ·exact h
 split <;> exact h
theorem last_take (i : RInv C R) (from_ : Int) (f : FrameM) (ms : List MemM) (now : Int) : (takeR R from_ f ms now).1.rds.last ≤ R.rds.last + 1 := by
 have h : ∀ Q : RepM, Q.rds.last = R.rds.last → Q.rds.last ≤ R.rds.last + 1 := fun Q h => by omega
 unfold takeR
 split
 ·split
  ·exact h _ rfl
  split
  ·exact h _ rfl
  split
  ·unfold readR
   split
   ·exact h _ rfl
   ·show (R.rds.put _ _).last ≤ _
    unfold RdsM.put; split
    ·exact Int.le_refl _
    ·omega
  ·refine h _ ?_
   obtain ⟨A, hA, _⟩ := upd_form R f now
   rw [hA]
 split
 ·split
  ·refine h _ ?_
   show (Rep.ent5 R (frCh f ms)).finishR.rds.last = _
   unfold RepM.finishR
   split <;> (unfold Rep.ent5; split <;> rfl)
  ·exact h _ rfl
 split
 ·split
  ·refine h _ ?_
   unfold forwardR
   split
   ·show (Rep.pushE R f.entry).finishR.becomeR.rds.last = _
    unfold RepM.becomeR
    split <;> (unfold RepM.finishR; split <;> rfl)
   ·rfl
  ·exact h _ rfl
 split
 ·split
  ·refine h _ ?_
   show (Rep.ack2 R f).rds.last = _
   unfold Rep.ack2 Rep.ack1; dsimp only; split <;> rfl
  ·exact h _ rfl
 split
 ·split
  ·refine h _ ?_; unfold RepM.becomeR; split <;> rfl
  ·exact h _ rfl
 split
 ·split <;> exact h _ rfl
 ·exact h _ rfl
theorem last_step (R : RepM) (now : Int) : (stepR R now).1.rds.last = R.rds.last := by
 have hs : ∀ R : RepM, (serveR R now).1.rds = R.rds := fun R => by
  unfold serveR
  split
  ·rfl
  split
  ·rfl
  ·unfold RepM.finishR; split <;> rfl
 have hl : ∀ (k : Nat) (R : RepM), (serveLoop now k R).1.rds = R.rds := by
  intro k
  induction k with
  | zero => intro R; rfl
  | succ k ih =>
   intro R
   unfold serveLoop
   split
   ·split
    ·rw [ih, hs]
    ·exact hs R
   ·rfl
 have h2 : (step2 R now).1.rds.last = R.rds.last := by
  unfold Rep.step2
  split
  ·rw [hl]; rfl
  ·rfl
 show (step3 R now).1.rds.last = _
 unfold step3
 split
 ·exact h2
 ·exact h2
end
end Nd
namespace Nd
open Go Vg T Api Kv Ch Lg Rd Win Adm Sched Conf Rep Rk
attribute [local irreducible] VO VC VA
def stepOf (c : ChM) (n by_ : Int) : Int := if chE c ≠ 0 ∨ placeOf c.ms n < 0 ∨ placeOf c.ms n + by_ < 0 ∨ (c.ms.length : Int) ≤ placeOf c.ms n + by_ then -1 else ((c.ms[(placeOf c.ms n + by_).toNat]?).getD (0, 0)).1
theorem stepOf_next (c : ChM) (n : Int) : stepOf c n 1 = nextOf c n := by
 unfold stepOf nextOf memAt
 by_cases h : placeOf c.ms n < 0
 ·rw [if_pos (.inr (.inl h)), if_pos h]
 ·rw [if_neg h]
  by_cases h2 : chOk c ∧ 0 ≤ placeOf c.ms n + 1 ∧ placeOf c.ms n + 1 < c.ms.length
  ·rw [if_pos h2, if_neg (fun k => by have := chE_ok.2 h2.1; omega)]
  ·rw [if_neg h2, if_pos]
   by_cases h3 : chOk c = true
   ·exact .inr (.inr (by have : ¬ (0 ≤ placeOf c.ms n + 1 ∧ placeOf c.ms n + 1 < c.ms.length) := fun k => h2 ⟨h3, k⟩; omega))
   ·exact .inl fun k => h3 (chE_ok.1 k)
theorem stepOf_prev (c : ChM) (n : Int) : stepOf c n (-1) = prevOf c n := by
 unfold stepOf prevOf memAt
 by_cases h2 : chOk c ∧ 0 ≤ placeOf c.ms n - 1 ∧ placeOf c.ms n - 1 < c.ms.length
 ·rw [if_pos h2, if_neg (fun k => by have := chE_ok.2 h2.1; omega)]; rfl
 ·rw [if_neg h2, if_pos]
  by_cases h3 : chOk c = true
  ·exact .inr (by have : ¬ (0 ≤ placeOf c.ms n - 1 ∧ placeOf c.ms n - 1 < c.ms.length) := fun k => h2 ⟨h3, k⟩; omega)
  ·exact .inl fun k => h3 (chE_ok.1 k)
def withM (c : ChM) (n : Int) : ChM × Int := if chE c ≠ 0 ∨ c.epoch = 1099511627776 ∨ n < 0 ∨ 5 < n then (chZ, 2) else if 0 ≤ placeOf c.ms n then (chZ, 62) else (⟨c.epoch + 1, c.ms ++ [(n, c.epoch + 1)], c.drain⟩, 0)
def leavesM (c : ChM) (n : Int) : Int := if chE c ≠ 0 ∨ c.epoch = 1099511627776 then 2 else if placeOf c.ms n < 0 then 4 else if c.ms.length < 2 then 72 else 0
def withoutM (c : ChM) (n : Int) : ChM × Int := if leavesM c n ≠ 0 then (chZ, leavesM c n) else (⟨c.epoch + 1, c.ms.filter fun m => !decide (m.1 = n), if c.drain = n then -1 else c.drain⟩, 0)
def drainM (c : ChM) (n : Int) : ChM × Int := if leavesM c n ≠ 0 then (chZ, leavesM c n) else if c.drain ≠ -1 then (chZ, 62) else (⟨c.epoch + 1, c.ms, n⟩, 0)
def chR (r : ChM × Int) (v : Value) (L : List HP) : Prop := ∃ a c, v = .tuple #[.agg (r.1.cells a c).toArray, .int .i64 r.2] ∧ L = [slH memT 2 a r.1.ms.length c (flat memC r.1.ms)]
section
variable {c : ChM} {a : Option Addr} {cap : Nat}
theorem rstep_spec (h : RwIn memC 2 Fr w a c.ms) (hl : c.ms.length ≤ 1000000) (n by_ : Int) (hb0 : -10 ≤ by_) (hb1 : by_ ≤ 10) : Tri Tryz.prog 173 [.agg (c.cells a cap).toArray, .int .i64 n, .int .i64 by_] Fr w []
  (fun v L => v = .int .i64 (stepOf c n by_) ∧ L = []) := by
 have hp := place_range c.ms n
 have hpb : -1 ≤ placeOf c.ms n ∧ placeOf c.ms n < 1000000 := by rcases hp with h | ⟨k, m, h1, h2, _⟩ <;> omega
 refine TF 41 Tryz.func173 Z ym tabOk Z Z ?_
 refine CS (CG (VG (VB (vs := c.cells a cap) Z fun b => ?_)))
 refine zpj ?_
 refine xld ?_
 refine zpj ?_
 refine xle ?_
 refine xel ?_
 have no : ∀ {X : Cx} {E : Env} {fn : Func} {L : List HP}, fn.results = #[.tmp 6] → Vg.look E 6 = some (.int .i64 (-1)) → (chE c ≠ 0 ∨ placeOf c.ms n < 0 ∨ placeOf c.ms n + by_ < 0 ∨ (c.ms.length : Int) ≤ placeOf c.ms n + by_) → Ret X fn (fun v L => v = .int .i64 (stepOf c n by_) ∧ L = []) E L := fun {X E fn L} h1 h2 h3 =>
  Ret.tmp 6 h1 h2 Imp.nil.ent ⟨by rw [stepOf, if_pos h3], rfl⟩
 by_cases h1 : chE c = 0
 rotate_left
 ·refine VG (VY 14 true Z ydb ?_)
  refine xel ?_
  refine VG (VY 18 true Z Z ?_)
  refine xel ?_
  refine xkp ?_
  refine zrg ?_
  refine xel ?_
  exact CR (no Z Z (.inl h1))
 refine VG (VY 14 false Z ydc ?_)
 refine xel ?_
 by_cases h2 : placeOf c.ms n < 0
 ·refine VG (VY 18 true Z (DT h2) ?_)
  refine xel ?_
  refine xkp ?_
  refine zrg ?_
  refine xel ?_
  exact CR (no Z Z (.inr (.inl h2)))
 refine VG (VY 18 false Z (DF h2) ?_)
 refine zrk ?_
 by_cases h3 : placeOf c.ms n + by_ < 0
 ·refine VG (VY 24 true Z (DT h3) ?_)
  refine zrg ?_
  refine xel ?_
  exact CR (no Z Z (.inr (.inr (.inl h3))))
 refine VG (VY 24 false Z (DF h3) ?_)
 refine zrk ?_
 refine CP (p := (c.ms.length : Int) ≤ placeOf c.ms n + by_) Z (fun h4 => ?_) (fun h4 => CK ?_)
 ·refine xel ?_
  exact CR (no Z Z (.inr (.inr (.inr h4))))
 obtain ⟨k, hk⟩ : ∃ k : Nat, placeOf c.ms n + by_ = k := ⟨(placeOf c.ms n + by_).toNat, by omega⟩
 obtain ⟨m, hm⟩ : ∃ m, c.ms[k]? = some m := ⟨_, GE yd⟩
 obtain ⟨mb, mo, hma, ra, rc⟩ := RwIn.rd (X := ⟨Tryz.prog, tab, tabOk, 41, Fr, w⟩) h hm
 subst hma
 refine xel ?_
 refine xei ?_
 refine VG (VI (light_idx k Z Z Z Z Z hk yd) ?_)
 refine xel ?_
 refine xgg ?_
 refine xel ?_
 exact CR (Ret.tmp 6 Z Z Imp.nil.ent ⟨by rw [stepOf, if_neg yd, hk, Int.toNat_natCast, hm]; rfl, Z⟩)
theorem rprev_spec (h : RwIn memC 2 Fr w a c.ms) (hl : c.ms.length ≤ 1000000) (n : Int) : Tri Tryz.prog 109 [.agg (c.cells a cap).toArray, .int .i64 n] Fr w [] (fun v L => v = .int .i64 (prevOf c n) ∧ L = []) := by
 refine TF 8 Tryz.func109 Z ym tabOk Z Z ?_
 refine CS (CG (VG (VB (vs := c.cells a cap) Z fun b => ?_)))
 refine zpj ?_
 refine VG (VV (fun Fr w hF hs hS => rstep_spec Fr w (h.of hF hs) hl n (-1) yy yy) Z ?_)
 refine xdy ?_
 exact CR (Ret.tmp 4 Z Z Imp.nil.ent ⟨by rw [stepOf_prev], Z⟩)
theorem rnext1_spec (h : RwIn memC 2 Fr w a c.ms) (hl : c.ms.length ≤ 1000000) (n : Int) : Tri Tryz.prog 110 [.agg (c.cells a cap).toArray, .int .i64 n] Fr w [] (fun v L => v = .int .i64 (nextOf c n) ∧ L = []) := by
 refine TF 8 Tryz.func110 Z ym tabOk Z Z ?_
 refine CS (CG (VG (VB (vs := c.cells a cap) Z fun b => ?_)))
 refine zpj ?_
 refine VG (VV (fun Fr w hF hs hS => rstep_spec Fr w (h.of hF hs) hl n 1 yy yy) Z ?_)
 refine xdy ?_
 exact CR (Ret.tmp 4 Z Z Imp.nil.ent ⟨by rw [stepOf_next], Z⟩)
theorem rleaves_spec (h : RwIn memC 2 Fr w a c.ms) (hl : c.ms.length ≤ 1000000) (n : Int) : Tri Tryz.prog 214 [.agg (c.cells a cap).toArray, .int .i64 n] Fr w [] (fun v L => v = .int .i64 (leavesM c n) ∧ L = []) := by
 refine TF 21 Tryz.func214 Z ym tabOk Z Z ?_
 refine CS (CG (VG (VB (vs := c.cells a cap) Z fun b => ?_)))
 refine zpj ?_
 refine xle ?_
 refine xel ?_
 by_cases h1 : chE c = 0
 rotate_left
 ·refine VG (VY 8 true Z ydb ?_)
  refine zrg ?_
  refine xel ?_
  exact CR (Ret.tmp 4 Z Z Imp.nil.ent ⟨by rw [leavesM, if_pos (.inl h1)], Z⟩)
 refine VG (VY 8 false Z ydc ?_)
 refine xel ?_
 refine CE (i := c.epoch) (j := 1099511627776) Z (fun h2 => ?_) (fun h2 => CK ?_)
 ·refine xel ?_
  exact CR (Ret.tmp 4 Z Z Imp.nil.ent ⟨by rw [leavesM, if_pos (.inr h2)], Z⟩)
 refine xel ?_
 refine xfz ?_
 refine xld ?_
 refine xel ?_
 refine CP (p := placeOf c.ms n < 0) Z (fun h3 => ?_) (fun h3 => CK ?_)
 ·refine xel ?_
  exact CR (Ret.tmp 4 Z Z Imp.nil.ent ⟨by rw [leavesM, if_neg yd, if_pos h3], Z⟩)
 refine xel ?_
 refine CP (p := (c.ms.length : Int) < 2) Z (fun h4 => ?_) (fun h4 => CK ?_)
 ·refine xel ?_
  exact CR (Ret.tmp 4 Z Z Imp.nil.ent ⟨by rw [leavesM, if_neg yd, if_neg h3, if_pos yd], Z⟩)
 ·refine xel ?_
  exact CR (Ret.tmp 4 Z Z Imp.nil.ent ⟨by rw [leavesM, if_neg yd, if_neg h3, if_neg yd], Z⟩)
theorem rwith_spec (h : RwIn memC 2 Fr w a c.ms) (hl : c.ms.length ≤ 1000) (n : Int) : Tri Tryz.prog 174 [.agg (c.cells a cap).toArray, .int .i64 n] Fr w [] (chR (withM c n)) := by
 refine TF 46 Tryz.func174 Z ym tabOk Z Z ?_
 refine CS (CG (VG (VB (vs := c.cells a cap) Z fun b => VG (VO.alloc Z fun d => VG (VN ?_)))))
 refine CS (CS ?_)
 refine VC.meetS (σ := Bool) (fun g => [(1, .int .i64 n), (2, pV b), (4, pV d), (22, .bool g)]) (fun _ => [pt d [.int .i64 0, .slice none 0 0, .int .i64 0] chT, pt b (c.cells a cap) chT]) (fun g => g = true ↔ (chE c ≠ 0 ∨ c.epoch = 1099511627776 ∨ n < 0 ∨ 5 < n)) ?_ ?_
 ·refine CG ?_
  refine xgj ?_
  refine VG (VV (fun Fr w hF hs hS => rchk_spec Fr w (h.of hF hs) yd) Z ?_)
  refine xgf ?_
  have fin : ∀ {E : Env} {g : Bool}, Vg.look E 1 = some (.int .i64 n) → Vg.look E 2 = some (.pointer (some ⟨b, 0, none⟩)) → Vg.look E 4 = some (.pointer (some ⟨d, 0, none⟩)) → Vg.look E 22 = some (.bool g) → Sub [(1, .int .i64 n), (2, pV b), (4, pV d), (22, .bool g)] E := fun h0 h1 h2 h3 => SC h0 (SC h1 (SC h2 (SC h3 (SN _))))
  by_cases h1 : chE c = 0
  rotate_left
  ·refine VG (VY 10 true Z ydb ?_)
   refine xgf ?_
   refine VG (VY 15 true Z Z ?_)
   refine xgf ?_
   refine xew ?_
   refine xgf ?_
   exact ⟨true, ⟨fun _ => .inl h1, fun _ => rfl⟩, fin Z Z Z Z, ER⟩
  refine VG (VY 10 false Z ydc ?_)
  refine xgf ?_
  by_cases h2 : c.epoch = 1099511627776
  ·refine VG (VY 15 true Z (by rw [beq_iff_eq]; exact h2) ?_)
   refine xgf ?_
   refine xew ?_
   refine xgf ?_
   exact ⟨true, ⟨fun _ => .inr (.inl h2), fun _ => rfl⟩, fin Z Z Z Z, ER⟩
  refine VG (VY 15 false Z (by rw [beq_eq_false_iff_ne]; exact h2) ?_)
  refine xgf ?_
  by_cases h3 : n < 0
  ·refine VG (VY 19 true Z (DT h3) ?_)
   refine xgf ?_
   exact ⟨true, ⟨fun _ => .inr (.inr (.inl h3)), fun _ => rfl⟩, fin Z Z Z Z, ER⟩
  refine VG (VY 19 false Z (DF h3) ?_)
  refine xgf ?_
  exact ⟨_, ⟨fun g => by have := of_decide_eq_true g; omega, fun g => DT yd⟩, fin Z Z Z Z, ER⟩
 rintro g hg
 refine CC Z (fun h1 => ?_) (fun h1 => CK ?_)
 ·have hb := hg.1 h1
  refine xhm ?_
  refine xkl ?_
  refine xkm ?_
  refine xlf ?_
  exact CR (Ret.cellTmp 4 5 Z Z Z (RdL.many (ds := chZ.cells none 0) 0 Z Z) Z (Imp.slNil Imp.nil).ent ⟨none, 0, by rw [withM, if_pos hb], by rw [withM, if_pos hb]; rfl⟩)
 have hb : ¬ (chE c ≠ 0 ∨ c.epoch = 1099511627776 ∨ n < 0 ∨ 5 < n) := fun k => by rw [hg.2 k] at h1; cases h1
 refine xlf ?_
 refine xgj ?_
 refine VG (VV (fun Fr w hF hs hS => rat_spec Fr w (h.of hF hs) yd n) Z ?_)
 refine xlf ?_
 refine CP (p := 0 ≤ placeOf c.ms n) Z (fun h2 => ?_) (fun h2 => CK ?_)
 ·refine xhm ?_
  refine xkl ?_
  refine xkm ?_
  refine xlf ?_
  exact CR (Ret.cellTmp 4 5 Z Z Z (RdL.many (ds := chZ.cells none 0) 0 Z Z) Z (Imp.slNil Imp.nil).ent ⟨none, 0, by rw [withM, if_neg hb, if_pos h2], by rw [withM, if_neg hb, if_pos h2]; rfl⟩)
 have hh := chOk_head (c := c) (chE_ok.1 yd)
 have hlen : (c.ms ++ [(n, c.epoch + 1)]).length = c.ms.length + 1 := by simp
 have hfl : flat memC (c.ms ++ [(n, c.epoch + 1)]) = flat memC c.ms ++ memC (n, c.epoch + 1) := by simp [flat_append, flat_cons, flat_nil]
 have hwm : withM c n = (⟨c.epoch + 1, c.ms ++ [(n, c.epoch + 1)], c.drain⟩, 0) := by rw [withM, if_neg hb, if_neg h2]
 refine CS ?_
 refine VC.meetS (σ := Option Addr × Nat) (fun x => [(1, .int .i64 n), (2, pV b), (4, pV d), (6, .slice x.1 (c.ms ++ [(n, c.epoch + 1)]).length x.2)]) (fun x => slH memT 2 x.1 (c.ms ++ [(n, c.epoch + 1)]).length x.2 (flat memC (c.ms ++ [(n, c.epoch + 1)])) :: [pt d [.int .i64 0, .slice none 0 0, .int .i64 0] chT, pt b (c.cells a cap) chT]) (fun _ => True) ?_ ?_
 ·refine CD (ts 0 2 (ts 3 5 (.two 2 8 (.only 8 (.only 9 (.take 10 .nil))) (.only 2 (.only 9 (.take 10 .nil)))))) ym yq ?_
  refine xgz ?_
  refine xeg ?_
  refine VA.go (AI Z (LB (pv := [(0, .int .i64 n), (1, .int .i64 (c.epoch + 1))]) (memC (n, c.epoch + 1)) Z Z Z ym Z) ?_)
  refine VA.ent (L' := slH memT 2 none 0 0 [] :: [pt d [.int .i64 0, .slice none 0 0, .int .i64 0] chT, pt b (c.cells a cap) chT]) (Imp.slNil Imp.refl).ent ?_
  refine VA.go (VA.two Z Z Z Z Z (OpT.append (m := c.ms.length) (news := flat memC c.ms) 0 Z Z Z Z Z Z Z (RwIn.row memC_len h) (flat_all memC_one _) ybk yd)
   rfl rfl rfl (OpT.buildSlice (n := 1) (pv := [(0, .agg (memC (n, c.epoch + 1)).toArray)]) (cells := memC (n, c.epoch + 1)) rfl rfl rfl rfl yy (fill_one rfl rfl rfl)) ?_ ?_ ?_ ?_)
  ·rintro v L' ⟨a1, c1, rfl, hc1, rfl⟩
   exact yr
  ·rintro v L' ⟨nb, rfl, rfl⟩
   exact yr
  ·rintro v L' ⟨a1, c1, rfl, hc1, rfl⟩
   rw [Nat.zero_add c.ms.length, List.nil_append]
   refine VA.go (AO (OpT.buildSlice (n := 1) (pv := [(0, .agg (memC (n, c.epoch + 1)).toArray)]) (cells := memC (n, c.epoch + 1)) Z Z Z Z yy (fill_one Z Z Z)) Z ?_ ?_)
   ·rintro v L' ⟨nb, rfl, rfl⟩
    exact yr
   rintro v L' ⟨nb, rfl, rfl⟩
   refine VA.go (AO (OpT.append (m := 1) (news := memC (n, c.epoch + 1)) 1 Z Z Z Z Z Z Z (RdRow.pt 0 Z Z Z) Z ydd yd) Z ?_ ?_)
   ·rintro v L' ⟨a2, c2, rfl, hc2, rfl⟩
    exact yr
   rintro v L' ⟨a2, c2, rfl, hc2, rfl⟩
   refine xfc ?_
   exact xof
  ·rintro v L' ⟨nb, rfl, rfl⟩
   refine VA.go (AO (OpT.append (m := c.ms.length) (news := flat memC c.ms) 1 Z Z Z Z Z Z Z (RwIn.row memC_len h) (flat_all memC_one _) ybk yd) Z ?_ ?_)
   ·rintro v L' ⟨a1, c1, rfl, hc1, rfl⟩
    exact yr
   rintro v L' ⟨a1, c1, rfl, hc1, rfl⟩
   rw [Nat.zero_add c.ms.length, List.nil_append]
   refine VA.go (AO (OpT.append (m := 1) (news := memC (n, c.epoch + 1)) 0 Z Z Z Z Z Z Z (RdRow.pt 1 Z Z Z) Z ydd yd) Z ?_ ?_)
   ·rintro v L' ⟨a2, c2, rfl, hc2, rfl⟩
    exact yr
   rintro v L' ⟨a2, c2, rfl, hc2, rfl⟩
   refine xfc ?_
   exact xof
 rintro ⟨a2, c2⟩ -
 dsimp only
 refine xhm ?_
 refine xgd ?_
 refine xei ?_
 refine xgd ?_
 refine VG (VI (LB (pv := [(0, .int .i64 (c.epoch + 1)), (1, .slice a2 (c.ms ++ [(n, c.epoch + 1)]).length c2), (2, .int .i64 c.drain)]) ((⟨c.epoch + 1, c.ms ++ [(n, c.epoch + 1)], c.drain⟩ : ChM).cells a2 c2) Z Z Z ym Z) ?_)
 refine VG (VT (vs := (⟨c.epoch + 1, c.ms ++ [(n, c.epoch + 1)], c.drain⟩ : ChM).cells a2 c2) (cs' := (⟨c.epoch + 1, c.ms ++ [(n, c.epoch + 1)], c.drain⟩ : ChM).cells a2 c2) 1 Z Z Z Z (NR _) Z Z Z ?_)
 refine xlf ?_
 exact CR (Ret.cellTmp 4 5 Z Z Z (RdL.many (ds := (⟨c.epoch + 1, c.ms ++ [(n, c.epoch + 1)], c.drain⟩ : ChM).cells a2 c2) 1 Z Z) Z (IP 0 Z Imp.nil).ent ⟨a2, c2, by rw [hwm], by rw [hwm]⟩)
theorem leaves_ok {n : Int} (h : leavesM c n = 0) : chOk c = true ∧ c.epoch ≠ 1099511627776 := by
 unfold leavesM at h
 by_cases h1 : chE c ≠ 0 ∨ c.epoch = 1099511627776
 ·rw [if_pos h1] at h; cases h
 ·exact ⟨chE_ok.1 yd, by omega⟩
theorem rwithout_spec (h : RwIn memC 2 Fr w a c.ms) (hl : c.ms.length ≤ 1000) (n : Int) : Tri Tryz.prog 175 [.agg (c.cells a cap).toArray, .int .i64 n] Fr w [] (chR (withoutM c n)) := by
 refine TF 53 Tryz.func175 Z ym tabOk Z Z ?_
 refine CS (CG (VG (VB (vs := c.cells a cap) Z fun b => VG (VO.alloc Z fun d => ?_))))
 refine xlf ?_
 refine xgj ?_
 refine xog ?_
 refine xlf ?_
 refine VC.condNE (i := leavesM c n) (j := 0) Z (fun h1 => ?_) (fun h1 => CK ?_)
 ·refine xhm ?_
  refine xkl ?_
  refine xlf ?_
  refine xkm ?_
  refine xlf ?_
  exact CR (Ret.cellTmp 4 5 Z Z Z (RdL.many (ds := chZ.cells none 0) 0 Z Z) Z (Imp.slNil Imp.nil).ent ⟨none, 0, by rw [withoutM, if_pos h1], by rw [withoutM, if_pos h1]; rfl⟩)
 obtain ⟨hok, hne⟩ := leaves_ok (c := c) (n := n) h1
 have hh := chOk_head hok
 have h1' : ¬ leavesM c n ≠ 0 := fun k => k h1
 refine xhm ?_
 refine xgf ?_
 refine xei ?_
 refine xgf ?_
 refine VG (VI (LB (pv := [(0, .int .i64 (c.epoch + 1)), (2, .int .i64 c.drain)]) ((⟨c.epoch + 1, [], c.drain⟩ : ChM).cells none 0) Z Z Z ym Z) ?_)
 refine VG (VO.alloc Z fun e => VG (VT (vs := (⟨c.epoch + 1, [], c.drain⟩ : ChM).cells none 0) (cs' := (⟨c.epoch + 1, [], c.drain⟩ : ChM).cells none 0) 0 Z Z Z Z (NR _) Z Z Z (VG (VN ?_))))
 show VC _ _ _ _ _
 obtain ⟨p, hp⟩ : ∃ p : MemM → Bool, p = fun m => !decide (m.1 = n) := ⟨_, rfl⟩
 refine CS ?_
 refine VC.meetS (σ := Option Addr × Nat) (fun x => [(1, .int .i64 n), (2, pV b), (4, pV d), (7, pV e)]) (fun x => [slH memT 2 x.1 (c.ms.filter p).length x.2 (flat memC (c.ms.filter p)), pt e ((⟨c.epoch + 1, c.ms.filter p, c.drain⟩ : ChM).cells x.1 x.2) chT, pt d [.int .i64 0, .slice none 0 0, .int .i64 0] chT, pt b (c.cells a cap) chT]) (fun _ => True) ?_ ?_
 ·refine xep ?_
  show VC _ _ _ _ _
  refine xjt ?_
  refine VC.loop (σ := Nat × Option Addr × Nat) (fun x => [(1, .int .i64 n), (2, pV b), (4, pV d), (7, pV e), (8, .int .i64 x.1)]) (fun x => [slH memT 2 x.2.1 ((c.ms.take x.1).filter p).length x.2.2 (flat memC ((c.ms.take x.1).filter p)), pt e ((⟨c.epoch + 1, (c.ms.take x.1).filter p, c.drain⟩ : ChM).cells x.2.1 x.2.2) chT, pt d [.int .i64 0, .slice none 0 0, .int .i64 0] chT, pt b (c.cells a cap) chT]) (fun x => x.1 ≤ c.ms.length) (fun x => c.ms.length - x.1) (0, none, 0)
   (Nat.zero_le _) sbZ (Imp.slNil (pkZ [0, 0, 0])).ent ?_
  rintro ⟨i, sa, sc⟩ hi
  dsimp only at hi ⊢
  refine xky ?_
  refine CP (p := (i : Int) < (c.ms.length : Int)) Z (fun h2 => CK ?_) (fun h2 => CX ?_)
  rotate_left
  ·have : i = c.ms.length := by omega
   subst this
   rw [List.take_length]
   exact ⟨(sa, sc), trivial, sbZ, ER⟩
  have hi2 : i < c.ms.length := by omega
  obtain ⟨m, hm⟩ : ∃ m, c.ms[i]? = some m := ⟨_, GE hi2⟩
  have htk : c.ms.take (i + 1) = c.ms.take i ++ [m] := by rw [List.take_add_one, hm]; rfl
  have hfl := List.length_filter_le p (c.ms.take i)
  rw [List.length_take] at hfl
  obtain ⟨mb, mo, hma, ra, rc⟩ := RwIn.rd (X := ⟨Tryz.prog, tab, tabOk, 53, Fr, w⟩) h hm
  have next : ∀ {X : Cx} {E : Env} {L : List HP} {sa : Option Addr} {sc : Nat}, Vg.look E 1 = some (.int .i64 n) → Vg.look E 2 = some (.pointer (some ⟨b, 0, none⟩)) → Vg.look E 4 = some (.pointer (some ⟨d, 0, none⟩)) → Vg.look E 7 = some (.pointer (some ⟨e, 0, none⟩)) → Vg.look E 8 = some (.int .i64 ((i : Int) + 1)) →
    Ent X L [slH memT 2 sa ((c.ms.take (i + 1)).filter p).length sc (flat memC ((c.ms.take (i + 1)).filter p)), pt e ((⟨c.epoch + 1, (c.ms.take (i + 1)).filter p, c.drain⟩ : ChM).cells sa sc) chT, pt d [.int .i64 0, .slice none 0 0, .int .i64 0] chT, pt b (c.cells a cap) chT] →
    ∃ x : Nat × Option Addr × Nat, x.1 ≤ c.ms.length ∧ c.ms.length - x.1 < c.ms.length - i ∧ Sub [(1, .int .i64 n), (2, pV b), (4, pV d), (7, pV e), (8, .int .i64 x.1)] E ∧ Ent X L [slH memT 2 x.2.1 ((c.ms.take x.1).filter p).length x.2.2 (flat memC ((c.ms.take x.1).filter p)), pt e ((⟨c.epoch + 1, (c.ms.take x.1).filter p, c.drain⟩ : ChM).cells x.2.1 x.2.2) chT, pt d [.int .i64 0, .slice none 0 0, .int .i64 0] chT, pt b (c.cells a cap) chT] := fun {X E L sa sc} k1 k2 k3 k4 k5 k6 =>
   ⟨(i + 1, sa, sc), by dsimp only; omega, by dsimp only; omega, SC k1 (SC k2 (SC k3 (SC k4 (SC k5 (SN _))))), k6⟩
  subst hma
  refine CS ?_
  refine VC.meetS (σ := Option Addr × Nat) (fun x => [(1, .int .i64 n), (2, pV b), (4, pV d), (7, pV e), (8, .int .i64 i)]) (fun x => [slH memT 2 x.1 ((c.ms.take (i + 1)).filter p).length x.2 (flat memC ((c.ms.take (i + 1)).filter p)), pt e ((⟨c.epoch + 1, (c.ms.take (i + 1)).filter p, c.drain⟩ : ChM).cells x.1 x.2) chT, pt d [.int .i64 0, .slice none 0 0, .int .i64 0] chT, pt b (c.cells (some ⟨mb, mo, none⟩) cap) chT]) (fun _ => True) ?_ ?_
  rotate_left
  ·rintro ⟨ra1, rc1⟩ -
   refine zpm ?_
   exact next Z Z Z Z Z ER
  refine xjt ?_
  refine xky ?_
  refine xfv ?_
  refine xky ?_
  refine xgg ?_
  refine xky ?_
  refine VC.condNE (i := m.1) (j := n) Z (fun h3 => ?_) (fun h3 => CK ?_)
  rotate_left
  ·have hf : (c.ms.take (i + 1)).filter p = (c.ms.take i).filter p := by rw [htk, List.filter_append]; simp [hp, h3]
   exact ⟨(sa, sc), trivial, sbZ, by rw [hf]; exact ER⟩
  have hf : (c.ms.take (i + 1)).filter p = (c.ms.take i).filter p ++ [m] := by rw [htk, List.filter_append]; simp [hp, h3]
  have hff : flat memC ((c.ms.take (i + 1)).filter p) = flat memC ((c.ms.take i).filter p) ++ memC m := by rw [hf]; simp [flat_append, flat_cons, flat_nil]
  have hfn : ((c.ms.take (i + 1)).filter p).length = ((c.ms.take i).filter p).length + 1 := by rw [hf]; simp
  refine CD (ts 0 7 (.only 7 (.only 8 (.take 9 (.only 10 .nil))))) ym yq ?_
  refine xez ?_
  refine xhl ?_
  refine VA.go (VA.load Z Z Z (ra _ _ Z Z) ?_)
  refine VA.go (AO (OpT.buildSlice (n := 1) (pv := [(0, .agg (memC m).toArray)]) (cells := memC m) Z Z Z Z yy (fill_one Z Z Z)) Z ?_ ?_)
  ·rintro v L' ⟨nb, rfl, rfl⟩
   exact yde
  rintro v L' ⟨nb, rfl, rfl⟩
  refine VA.go (AO (OpT.append (m := 1) (news := memC m) 1 Z Z Z Z Z Z Z (RdRow.pt 0 Z Z Z) Z (by show (((c.ms.take i).filter p).length + 1) * 16 ≤ _; omega) (by show ((c.ms.take i).filter p).length + 1 ≤ _; omega)) Z ?_ ?_)
  ·rintro v L' ⟨a2, c2, rfl, hc2, rfl⟩
   exact yde
  rintro v L' ⟨a2, c2, rfl, hc2, rfl⟩
  refine xfb ?_
  refine VA.go (VA.st 2 (cs' := (⟨c.epoch + 1, (c.ms.take (i + 1)).filter p, c.drain⟩ : ChM).cells a2 c2) Z Z Z Z Z yaj (by unfold ChM.cells; rw [hfn]; rfl) Z yde (VA.go (AN ?_)))
  exact ⟨(a2, c2), trivial, sbZ, by rw [hfn, hff]; exact Imp.ent (pkZ [0, 1, 1, 1])⟩
 rintro ⟨sa, sc⟩ -
 dsimp only
 have hwm : withoutM c n = (⟨c.epoch + 1, c.ms.filter p, if c.drain = n then -1 else c.drain⟩, 0) := by rw [withoutM, if_neg h1', hp]
 refine CS ?_
 refine VC.meetS (σ := Unit) (fun x => [(4, pV d), (7, pV e)]) (fun x => [slH memT 2 sa (c.ms.filter p).length sc (flat memC (c.ms.filter p)), pt e ((⟨c.epoch + 1, c.ms.filter p, if c.drain = n then -1 else c.drain⟩ : ChM).cells sa sc) chT, pt d [.int .i64 0, .slice none 0 0, .int .i64 0] chT]) (fun _ => True) ?_ ?_
 ·refine xky ?_
  refine CE (i := c.drain) (j := n) Z (fun h2 => ?_) (fun h2 => CK ?_)
  ·refine CG ?_
   refine xlf ?_
   refine VG (VO.st 1 (cs' := (⟨c.epoch + 1, c.ms.filter p, -1⟩ : ChM).cells sa sc) Z Z Z Z yai Z Z (VG (VN ?_)))
   exact ⟨(), trivial, sbZ, by rw [if_pos h2]; exact (pkZ [0, 0, 0]).ent⟩
  ·exact ⟨(), trivial, sbZ, by rw [if_neg h2]; exact (pkZ [0, 0, 0]).ent⟩
 rintro _ -
 obtain ⟨dd, hdd⟩ : ∃ dd, dd = if c.drain = n then -1 else c.drain := ⟨_, rfl⟩
 rw [← hdd] at hwm ⊢
 refine xhm ?_
 refine VG (VL 1 ((⟨c.epoch + 1, c.ms.filter p, dd⟩ : ChM).cells sa sc) Z Z Z Z ?_)
 refine VG (VT (vs := (⟨c.epoch + 1, c.ms.filter p, dd⟩ : ChM).cells sa sc) (cs' := (⟨c.epoch + 1, c.ms.filter p, dd⟩ : ChM).cells sa sc) 2 Z Z Z Z (NR _) Z Z Z ?_)
 refine xlf ?_
 exact CR (Ret.cellTmp 4 5 Z Z Z (RdL.many (ds := (⟨c.epoch + 1, c.ms.filter p, dd⟩ : ChM).cells sa sc) 2 Z Z) Z (IP 0 Z Imp.nil).ent ⟨sa, sc, by rw [hwm], by rw [hwm]⟩)
theorem rdrain_spec (h : RwIn memC 2 Fr w a c.ms) (hl : c.ms.length ≤ 1000) (n : Int) : Tri Tryz.prog 176 [.agg (c.cells a cap).toArray, .int .i64 n] Fr w [] (chR (drainM c n)) := by
 refine TF 26 Tryz.func176 Z ym tabOk Z Z ?_
 refine CS (CG (VG (VB (vs := c.cells a cap) Z fun b => VG (VO.alloc Z fun d => ?_))))
 refine xlf ?_
 refine xgj ?_
 refine xog ?_
 refine xlf ?_
 refine VC.condNE (i := leavesM c n) (j := 0) Z (fun h1 => ?_) (fun h1 => CK ?_)
 ·refine xhm ?_
  refine xkl ?_
  refine xlf ?_
  refine xkm ?_
  refine xlf ?_
  exact CR (Ret.cellTmp 4 5 Z Z Z (RdL.many (ds := chZ.cells none 0) 0 Z Z) Z (Imp.slNil Imp.nil).ent ⟨none, 0, by rw [drainM, if_pos h1], by rw [drainM, if_pos h1]; rfl⟩)
 obtain ⟨hok, hne⟩ := leaves_ok (c := c) (n := n) h1
 have hh := chOk_head hok
 have h1' : ¬ leavesM c n ≠ 0 := fun k => k h1
 refine xgf ?_
 refine VC.condNE (i := c.drain) (j := -1) Z (fun h2 => ?_) (fun h2 => CK ?_)
 ·refine xhm ?_
  refine xkl ?_
  refine xkm ?_
  refine xlf ?_
  exact CR (Ret.cellTmp 4 5 Z Z Z (RdL.many (ds := chZ.cells none 0) 0 Z Z) Z (Imp.slNil Imp.nil).ent ⟨none, 0, by rw [drainM, if_neg h1', if_pos h2], by rw [drainM, if_neg h1', if_pos h2]; rfl⟩)
 have hwm : drainM c n = (⟨c.epoch + 1, c.ms, n⟩, 0) := by rw [drainM, if_neg h1', if_neg (fun k => k h2)]
 refine CS (CD (ts 0 5 (.take 6 (.only 5 (.take 7 (.only 8 (.take 9 .nil)))))) ym yq ?_)
 refine xgz ?_
 refine xeg ?_
 refine xgz ?_
 refine VA.ent (L' := [slH memT 2 none 0 0 [], pt d [.int .i64 0, .slice none 0 0, .int .i64 0] chT, pt b (c.cells a cap) chT]) (Imp.slNil Imp.refl).ent ?_
 refine VA.go (AO (OpT.append (m := c.ms.length) (news := flat memC c.ms) 0 Z Z Z Z Z Z Z (RwIn.row memC_len h) (flat_all memC_one _) ybk yd) Z ?_ ?_)
 ·rintro v L' ⟨a1, c1, rfl, hc1, rfl⟩
  exact yr
 rintro v L' ⟨a1, c1, rfl, hc1, rfl⟩
 rw [Nat.zero_add c.ms.length, List.nil_append]
 refine VA.go (AI Z (LB (pv := [(0, .int .i64 (c.epoch + 1)), (1, .slice a1 c.ms.length c1), (2, .int .i64 n)]) ((⟨c.epoch + 1, c.ms, n⟩ : ChM).cells a1 c1) Z Z Z ym Z) ?_)
 refine VA.go (AT (vs := (⟨c.epoch + 1, c.ms, n⟩ : ChM).cells a1 c1) (cs' := (⟨c.epoch + 1, c.ms, n⟩ : ChM).cells a1 c1) 1 Z Z Z Z Z (NR _) Z Z Z yr ?_)
 refine xeh ?_
 show VC _ _ _ _ _
 exact CR (Ret.cellTmp 4 5 Z Z Z (RdL.many (ds := (⟨c.epoch + 1, c.ms, n⟩ : ChM).cells a1 c1) 1 Z Z) Z (IP 0 Z Imp.nil).ent ⟨a1, c1, by rw [hwm], by rw [hwm]; rfl⟩)
end
end Nd
namespace Vg
open Go Go.ChangeShapes Go.WideShapes Go.ChangeAt Go.RowKit
theorem trodAll_below {H : Type} {enc : TypeId × Value → H} {P : Program} (hl : laidOutB P = true) {W W' : World} (hb : Below W.heap.size W W') :
  ∀ {ts : List TypeId} {vs : List Value} {ds : List (DataW H)} {ps : List MemPlace}, (∀ t ∈ ts, P.readableRec t = true ∧ t < P.types.size) →
   DataW.TrodAll enc P W 0 (fun _ => true) true ts vs ds ps → DataW.TrodAll enc P W' 0 (fun b => decide (b < W.heap.size)) true ts vs ds ps
 | [], vs, ds, ps, _, h => by
  obtain ⟨rfl, rfl, rfl⟩ := trodAll_nil h
  exact trodAll_mk0
 | t :: ts, vs, ds, ps, ht, h => by
  obtain ⟨v, vs', d, ds', p, q, rfl, rfl, rfl, h0, r0⟩ := trodAll_cons h
  have lt0 : ∀ x ∈ p, x.block < W.heap.size := by obtain ⟨m, hm⟩ := h0; exact DataW.trod_lt m _ _ _ hm
  have h1 := ht t ya
  exact trodAll_cons_mk (Below.trod hl h1.1 h1.2 h0 hb lt0) (trodAll_below hl hb (fun t h => ht t yc) r0)
theorem trodAll_length {H : Type} {enc : TypeId × Value → H} {P : Program} {W : World} {b : Nat} {sp : Nat → Bool} {hd : Bool} :
  ∀ {ts : List TypeId} {vs : List Value} {ds : List (DataW H)} {ps : List MemPlace}, DataW.TrodAll enc P W b sp hd ts vs ds ps → ds.length = ts.length
 | [], vs, ds, ps, h => by
  obtain ⟨rfl, rfl, rfl⟩ := trodAll_nil h
  rfl
 | t :: ts, vs, ds, ps, h => by
  obtain ⟨v, vs', d, ds', p, q, rfl, rfl, rfl, h0, r0⟩ := trodAll_cons h
  simp [trodAll_length r0]
theorem law_post {H : Type} {enc : TypeId × Value → H} {P : Program} {f : Func} {s : ChangeSpec} (hl : laidOutB P = true) (hts : ∀ t ∈ f.params.toList, P.readableRec t = true ∧ t < P.types.size)
  (hv : s.vars = []) {tb : TypeId} (hres : f.resultTypes = #[tb]) (hbool : P.underlying tb = some .bool)
  (hfn : ∀ ds : List (DataW H), ds.length = f.params.toList.length → s.fn H (ds ++ []) = { results := [.lit (.bool true)], args := ds })
  {W W' : World} {args : Array Value} {ds gs : List (DataW H)} {before : List MemPlace} (hW : DataW.Whole enc P f.params.toList s.vars false W args.toList ds gs before) (bel : Below W.heap.size W W') :
  s.post enc P f false true false false W args (.bool true) W' := by
 have hW' := hW
 obtain ⟨p, q, hA, hV, rfl, _, _⟩ := hW
 rw [hv] at hV
 obtain ⟨rfl, rfl⟩ := trodVars_none hV
 have e := hfn ds (trodAll_length hA)
 refine ⟨ds, [], p ++ [], [], p, [], hW', ?_, ?_, ?_, bel.frame _, fun h => by cases h⟩
 ·rw [e, hres]; exact trodAll_mk1 (shut_bool hbool _)
 ·rw [e]; exact trodAll_below hl bel hts hA
 ·rw [e, hv]; rfl
theorem law_returns {H : Type} {enc : TypeId × Value → H} {C : Checked} {os : Os} {f : FuncId} {fn : Func} {s : ChangeSpec} {conds : List PathCond}
  (own : ownKnob C.prog.godebug = none) (started : os.Started) (noInit : C.prog.inits.idxOf? f = none) (hfn : C.prog.funcs[f]? = some fn)
  (witness : ∃ (w : World) (tape : Tape) (i : Input), w.os = os ∧ (w.forCall tape i).Shaped C.prog ∧ i.vars = [] ∧ Input.okWide C.prog (w.forCall tape i) .any w.heap.size f i ∧
   s.pre6 enc C.prog fn conds false (w.forCall tape i).memory i.args ∧ ({} : Assume).holds C.prog (lone (Frame.enter C.prog f i.args .normal) [] (w.forCall tape i)))
  (hl : laidOutB C.prog = true) (hts : ∀ t ∈ fn.params.toList, C.prog.readableRec t = true ∧ t < C.prog.types.size)
  (hv : s.vars = []) {tb : TypeId} (hres : fn.resultTypes = #[tb]) (hbool : C.prog.underlying tb = some .bool)
  (hs : ∀ ds : List (DataW H), ds.length = fn.params.toList.length → s.fn H (ds ++ []) = { results := [.lit (.bool true)], args := ds })
  (walk : ∀ (W : World) (base : Nat) (args : Array Value) (ds : List (DataW H)) (ps : List MemPlace),
   (∀ (j : Nat) t v, fn.params[j]? = some t → args[j]? = some v → Value.okWide C.prog W .any base t v) →
   DataW.TrodAll enc C.prog W 0 (fun _ => true) true fn.params.toList args.toList ds ps → W.noneFrozen ps →
   (DataW.weightsEach C.prog fn.params.toList ds).all (· ≤ reachBytes) = true →
   Tri C.prog f args.toList (fun b => b < W.heap.size) W [] (fun v _ => v = .bool true)) :
  ReturnsInHanded {} C os f .any (s.pre6 enc C.prog fn conds false) (s.post enc C.prog fn false true false false) := by
 refine returnsInHanded_of_change_sized own started noInit hfn witness fun W base args ds gs before hval hW _ hwt _ => ?_
 have hW2 := hW
 obtain ⟨p, q, hA, hV, rfl, hfz, _⟩ := hW2
 rw [hv] at hV
 obtain ⟨rfl, rfl⟩ := trodVars_none hV
 have hvt : s.plain.varTypes C.prog = [] := by simp [ChangeSpec.plain, hv, DataSpec.varTypes]
 rw [hvt] at hwt
 simp only [List.append_nil] at hwt hfz
 have T := walk W base args ds p hval hA hfz hwt
 have := T.calls (fun _ h => h) Sat.nil
 simp only [Array.toArray_toList] at this
 exact Calls.mono this fun e W' ⟨v, L', he, h1, _, hk⟩ => ⟨v, he, by subst h1; exact law_post hl hts hv hres hbool hs hW hk.below⟩
end Vg
namespace Vg
open Go Go.ChangeShapes Go.WideShapes Go.ChangeAt Go.RowKit
section
variable {H : Type} (enc : TypeId × Value → H) (P : Program) (w : World) (base : Nat) (spare : Nat → Bool) (held : Bool)
def Leaf (t : TypeId) (v : Value) : Prop := ∃ fuel x, DataW.trod enc P w base spare held fuel t [v] = some x
def flatFs (rec : TypeId → Option (List TypeId)) : List Field → Nat → Option (List TypeId)
 | [], _ => some []
 | f :: fs, off => if f.offset = off then match rec f.type with
   | some l => if P.cellsOf f.type = l.length then (flatFs rec fs (off + l.length)).map (l ++ ·) else none
   | none => none
  else none
def flatT : Nat → TypeId → Option (List TypeId)
 | 0, _ => none
 | n + 1, t => match P.underlying t with
  | some (.struct fs) => match flatFs P (flatT n) fs.toList 0 with
   | some l => if P.cellsOf t = l.length then some l else none
   | none => none
  | some (.int _) => some [t]
  | some .bool => some [t]
  | some .string => some [t]
  | some (.slice _) => some [t]
  | some (.pointer _) => some [t]
  | _ => none
end
section
variable {H : Type} {enc : TypeId × Value → H} {P : Program} {w : World} {base : Nat} {spare : Nat → Bool} {held : Bool}
theorem Leaf.int {t : TypeId} {v : Value} {k : IntKind} (h : Leaf enc P w base spare held t v) (ht : P.underlying t = some (.int k)) : ∃ n, v = .int k n ∧ (Lit.int k n).wf = true := by
 obtain ⟨fuel, x, h⟩ := h
 obtain ⟨n, e, _, hw⟩ := DataW.trod_int ht h
 exact ⟨n, (List.cons.inj e).1, hw⟩
theorem Leaf.str {t : TypeId} {v : Value} (h : Leaf enc P w base spare held t v) (ht : P.underlying t = some .string) : ∃ s, v = .string s ∧ s.size ≤ maxLen := by
 obtain ⟨fuel, x, h⟩ := h
 obtain ⟨n, e, _, hs⟩ := DataW.trod_string ht h
 exact ⟨n, (List.cons.inj e).1, hs⟩
theorem Leaf.slice {t e : TypeId} {v : Value} (h : Leaf enc P w base spare held t v) (ht : P.underlying t = some (.slice e)) : ∃ a n c, v = .slice a n c := by
 obtain ⟨fuel, x, h⟩ := h
 rcases DataW.trod_slice ht h with ⟨e, _⟩ | ⟨a, len, cap, _, _, _, _, e, _⟩
 ·exact ⟨none, 0, 0, (List.cons.inj e).1⟩
 ·exact ⟨some a, len, cap, (List.cons.inj e).1⟩
theorem flatFs_ok {rec : TypeId → Option (List TypeId)} {cs : List Value} {n : Nat}
  (hrec : ∀ (t : TypeId) (ls : List TypeId), rec t = some ls → ∀ (cs : List Value) x, DataW.trod enc P w base spare held n t cs = some x → cs.length = ls.length ∧ ∀ (i : Nat) (v : Value) (u : TypeId), cs[i]? = some v → ls[i]? = some u → Leaf enc P w base spare held u v) :
  ∀ (fs : List Field) (off : Nat) (ls : List TypeId), flatFs P rec fs off = some ls → (∀ f ∈ fs, ∃ y, DataW.trod enc P w base spare held n f.type ((cs.drop f.offset).take (P.cellsOf f.type)) = some y) →
   ∀ (i : Nat) (v : Value) (u : TypeId), cs[off + i]? = some v → ls[i]? = some u → Leaf enc P w base spare held u v
 | [], off, ls, h, _, i, v, u, _, hu => by
  obtain rfl : ls = [] := by simpa [flatFs] using h.symm
  simp at hu
 | f :: fs, off, ls, h, hf, i, v, u, hv, hu => by
  simp only [flatFs] at h
  split at h
  ·rename_i hoff
   split at h
   ·rename_i l hl
    split at h
    ·rename_i hc
     cases hr : flatFs P rec fs (off + l.length) with
     | none => rw [hr] at h; cases h
     | some ls' =>
      rw [hr] at h
      obtain rfl : l ++ ls' = ls := by simpa using h
      obtain ⟨y, hy⟩ := hf f ya
      obtain ⟨h1, h2⟩ := hrec f.type l hl _ y hy
      by_cases hi : i < l.length
      ·refine h2 i v u ?_ (by rwa [List.getElem?_append_left hi] at hu)
       rw [List.getElem?_take, if_pos yd, List.getElem?_drop, hoff]; exact hv
      ·rw [List.getElem?_append_right yd] at hu
       refine flatFs_ok hrec fs (off + l.length) ls' hr (fun g hg => hf g yi) (i - l.length) v u ?_ hu
       rw [← hv]; congr 1; omega
    ·cases h
   ·cases h
  ·cases h
theorem flatT_ok : ∀ (n : Nat) (t : TypeId) (ls : List TypeId), flatT P n t = some ls → ∀ (fuel : Nat) (cs : List Value) x, DataW.trod enc P w base spare held fuel t cs = some x →
  cs.length = ls.length ∧ ∀ (i : Nat) (v : Value) (u : TypeId), cs[i]? = some v → ls[i]? = some u → Leaf enc P w base spare held u v
 | 0, t, ls, h, _, _, _, _ => by simp [flatT] at h
 | n + 1, t, ls, h, fuel, cs, x, hx => by
  have one : ∀ v, cs = [v] → ls = [t] → cs.length = ls.length ∧ ∀ (i : Nat) (v : Value) (u : TypeId), cs[i]? = some v → ls[i]? = some u → Leaf enc P w base spare held u v := by
   intro v h1 h2
   subst h1; subst h2
   refine ⟨rfl, fun i v' u hv hu => ?_⟩
   match i, hv, hu with
   | 0, hv, hu =>
    obtain rfl := Option.some.inj hv
    obtain rfl := Option.some.inj hu
    exact ⟨fuel, x, hx⟩
   | i + 1, hv, _ => cases hv
  simp only [flatT] at h
  split at h
  ·rename_i fs ht
   cases hr : flatFs P (flatT P n) fs.toList 0 with
   | none => rw [hr] at h; cases h
   | some l =>
    rw [hr] at h
    dsimp only at h
    split at h
    ·rename_i hc
     obtain rfl := Option.some.inj h
     obtain ⟨xs, m, _, _, hl, hlen, hfs⟩ := DataW.trod_struct ht hx
     refine ⟨hl.trans hc, fun i v u hv hu => ?_⟩
     refine flatFs_ok (n := m) (cs := cs) (fun t ls h1 cs x h2 => flatT_ok n t ls h1 m cs x h2) fs.toList 0 l hr (fun f hf => ?_) i v u (by rwa [Nat.zero_add]) hu
     obtain ⟨j, hj⟩ := List.getElem?_of_mem hf
     have hj' : fs[j]? = some f := by simpa using hj
     have hjl : j < xs.length := by
      have := (Array.getElem?_eq_some_iff.1 hj').1
      omega
     exact ⟨xs[j], by rw [hfs j f hj', GE hjl]⟩
    ·cases h
  ·rename_i k ht
   obtain ⟨a, e, _⟩ := DataW.trod_int ht hx
   exact xoh
  ·rename_i ht
   obtain ⟨a, e, _⟩ := DataW.trod_bool ht hx
   exact xoh
  ·rename_i ht
   obtain ⟨a, e, _⟩ := DataW.trod_string ht hx
   exact xoh
  ·rename_i e ht
   rcases DataW.trod_slice ht hx with ⟨e, _⟩ | ⟨_, _, _, _, _, _, _, e, _⟩
   ·exact xoh
   ·exact xoh
  ·rename_i e ht
   rcases DataW.trod_pointer ht hx with ⟨e, _⟩ | ⟨_, _, _, _, _, e, _⟩
   ·exact xoh
   ·exact xoh
  ·cases h
theorem cell_block {w : World} {a : Addr} {v : Value} (h : w.cell? a = some v) : a.block < w.heap.size := by
 unfold World.cell? at h
 cases hb : w.heap[a.block]? with
 | none => simp [hb] at h
 | some o => exact (Array.getElem?_eq_some_iff.1 hb).1
theorem open_rows {α : Type} (cells : α → List Value) (φ : α → Prop) {t e : TypeId} {n : Nat} {ls : List TypeId} (ht : P.underlying t = some (.slice e)) (hf : flatT P n e = some ls) (hce : P.cellsOf e = ls.length) (hpos : 0 < ls.length)
  (hrow : ∀ cs, cs.length = ls.length → (∀ (i : Nat) (v : Value) (u : TypeId), cs[i]? = some v → ls[i]? = some u → Leaf enc P w base spare held u v) → ∃ x, cs = cells x ∧ φ x)
  {fuel : Nat} {v : Value} {x : DataW H × List MemPlace} (h : DataW.trod enc P w base spare held fuel t [v] = some x) :
  ∃ (a : Option Addr) (tc : Nat) (l : List α), v = .slice a l.length tc ∧ (l.length ≤ tc ∧ l.length ≤ maxLen) ∧ (∀ x ∈ l, φ x) ∧ (l ≠ [] → ∃ b off, a = some ⟨b, off, none⟩ ∧ b < w.heap.size ∧ ∀ i x, l[i]? = some x → ∀ j v, (cells x)[j]? = some v → w.cell? ⟨b, off + i * ls.length + j, none⟩ = some v) := by
 rcases Go.Deep.open_slice ht h with ⟨e, _⟩ | ⟨a', len, cap, m, n', D, Pl, e, _, hle, hcm, hm, _, hx⟩
 ·exact ⟨none, 0, [], (List.cons.inj e).1, ⟨Nat.zero_le _, Nat.zero_le _⟩, fun x hx => by simp at hx, fun h => absurd Z h⟩
 ·have hlm : len ≤ m := by rw [hm]; split <;> omega
  rw [hce] at hx
  have key : ∀ i, i < len → ∃ y : α, φ y ∧ (cells y).length = ls.length ∧ ∀ j v, (cells y)[j]? = some v → w.cell? ((a'.add (i * ls.length)).add j) = some v := by
   intro i hi
   obtain ⟨cs', h1, h2⟩ := hx i yd
   obtain ⟨_, hl, hc⟩ := World.cells?_some h1
   obtain ⟨h3, h4⟩ := flatT_ok n _ ls hf _ _ _ h2
   obtain ⟨y, rfl, hy⟩ := hrow cs' h3 h4
   refine ⟨y, hy, h3, fun j v hv => ?_⟩
   have hj : j < ls.length := by have := (List.getElem?_eq_some_iff.1 hv).1; omega
   rw [hc j hj, hv]
  have build : ∀ k, k ≤ len → ∃ l : List α, l.length = k ∧ ∀ i x, l[i]? = some x → φ x ∧ (cells x).length = ls.length ∧ ∀ j v, (cells x)[j]? = some v → w.cell? ((a'.add (i * ls.length)).add j) = some v := by
   intro k
   induction k with
   | zero => intro _; exact ⟨[], rfl, fun i x hx => by simp at hx⟩
   | succ k ih =>
    intro hk
    obtain ⟨l, hl, hall⟩ := ih yd
    obtain ⟨y, hy⟩ := key k yd
    refine ⟨l ++ [y], by simp [hl], fun i x hx => ?_⟩
    by_cases hi : i < l.length
    ·rw [List.getElem?_append_left hi] at hx; exact hall i x hx
    ·rw [List.getElem?_append_right yd] at hx
     have hi2 : i = k := by
      have := (List.getElem?_eq_some_iff.1 hx).1
      simp at this; omega
     subst hi2
     rw [hl, Nat.sub_self] at hx
     obtain rfl := Option.some.inj hx
     exact hy
  obtain ⟨l, hl, hall⟩ := build len (NR _)
  subst hl
  refine ⟨some a', cap, l, (List.cons.inj e).1, ⟨by omega, by omega⟩, fun x hx => ?_, fun hne => ?_⟩
  ·obtain ⟨i, hi⟩ := List.getElem?_of_mem hx
   exact (hall i x hi).1
  obtain ⟨ab, ao, asp⟩ := a'
  cases l with
  | nil => exact absurd rfl hne
  | cons y l =>
   obtain ⟨_, h5, h6⟩ := hall 0 y rfl
   have h0 := h6 0 _ (GE yd)
   have hsp : asp = none := by simpa [Addr.add] using World.cell?_spot h0
   subst hsp
   refine ⟨ab, ao, Z, by simpa [Addr.add] using cell_block h0, fun i x hx j v hv => ?_⟩
   have := (hall i x hx).2.2 j v hv
   rwa [Addr.add_mid, Addr.add_mid] at this
end
end Vg
namespace Adm
open Go Vg Go.ChangeShapes Go.WideShapes Go.ChangeAt Go.RowKit Sched Conf
theorem confFlat : flatT Tryz.prog 3 24 = some [3, 3, 3, 22, 3, 3, 3, 3, 3, 3, 3, 3] := by kernel_rfl
theorem intFlat : flatT Tryz.prog 1 3 = some [3] := by kernel_rfl
theorem wf_byte {a : Int} (w : (Lit.int .u8 a).wf = true) : 0 ≤ a ∧ a ≤ 255 := by
 simp [Lit.wf, IntKind.min, IntKind.max, IntKind.signed, IntKind.bits] at w; omega
section
variable {H : Type} {enc : TypeId × Value → H} {w : World} {base : Nat} {spare : Nat → Bool} {held : Bool}
theorem leaf_ints {v : Value} (h : Leaf enc Tryz.prog w base spare held 22 v) : ∃ a tc l, v = .slice a (l : List Int).length tc ∧ l.length ≤ tc ∧ IntsIn (fun b => b < w.heap.size) w a l := by
 obtain ⟨fuel, x, hf⟩ := h
 obtain ⟨a, tc, l, e, h1, h2, h3⟩ := open_rows (α := Int) (fun x => [.int .i64 x]) (fun _ => True) Tryz.underlying22 intFlat ym yy (fun cs hl hc => by
  match cs, hl, hc with
  | [c], _, hc =>
   obtain ⟨n, rfl, _⟩ := (hc 0 c _ rfl rfl).int Tryz.underlying3
   exact ⟨n, Z, trivial⟩) hf
 refine ⟨a, tc, l, e, h1.1, ⟨fun hne => ?_⟩⟩
 obtain ⟨b, off, h4, h5, h6⟩ := h3 hne
 refine ⟨b, off, h4, h5, fun i v hv => ?_⟩
 have := h6 i v hv 0 _ rfl
 simpa using this
theorem leaf_conf {cs : List Value} (hl : cs.length = 12) (h3 : ∀ (i : Nat) (v : Value) (u : TypeId), cs[i]? = some v → ([3, 3, 3, 22, 3, 3, 3, 3, 3, 3, 3, 3] : List TypeId)[i]? = some u → Leaf enc Tryz.prog w base spare held u v) :
  ∃ (c : ConfM) (a : Option Addr) (cap : Nat), cs = c.cells a cap ∧ c.qs.length ≤ cap ∧ IntsIn (fun b => b < w.heap.size) w a c.qs := by
 match cs, hl, h3 with
 | [c0, c1, c2, c3, c4, c5, c6, c7, c8, c9, c10, c11], _, h3 =>
 obtain ⟨n0, rfl, _⟩ := (h3 0 c0 _ rfl rfl).int Tryz.underlying3
 obtain ⟨n1, rfl, _⟩ := (h3 1 c1 _ rfl rfl).int Tryz.underlying3
 obtain ⟨n2, rfl, _⟩ := (h3 2 c2 _ rfl rfl).int Tryz.underlying3
 obtain ⟨a3, cap3, l3, rfl, hc3, hq3⟩ := leaf_ints (h3 3 c3 _ rfl rfl)
 obtain ⟨n4, rfl, _⟩ := (h3 4 c4 _ rfl rfl).int Tryz.underlying3
 obtain ⟨n5, rfl, _⟩ := (h3 5 c5 _ rfl rfl).int Tryz.underlying3
 obtain ⟨n6, rfl, _⟩ := (h3 6 c6 _ rfl rfl).int Tryz.underlying3
 obtain ⟨n7, rfl, _⟩ := (h3 7 c7 _ rfl rfl).int Tryz.underlying3
 obtain ⟨n8, rfl, _⟩ := (h3 8 c8 _ rfl rfl).int Tryz.underlying3
 obtain ⟨n9, rfl, _⟩ := (h3 9 c9 _ rfl rfl).int Tryz.underlying3
 obtain ⟨n10, rfl, _⟩ := (h3 10 c10 _ rfl rfl).int Tryz.underlying3
 obtain ⟨n11, rfl, _⟩ := (h3 11 c11 _ rfl rfl).int Tryz.underlying3
 exact ⟨⟨n0, n1, n2, l3, n4, n5, n6, n7, n8, n9, n10, n11⟩, a3, cap3, Z, hc3, hq3⟩
theorem okWide_agg {P : Program} {r : Reach} {t : TypeId} {v : Value} {fs : Array Field} (ht : P.underlying t = some (.struct fs)) (h : Value.okWide P w r base t v) : ∃ cs : List Value, v = .agg cs.toArray := by
 unfold Value.okWide at h
 rw [ht] at h
 obtain ⟨cs, h, _⟩ := h
 exact ⟨cs.toList, by rw [h]⟩
theorem open_conf {base0 : Nat} {v : Value} {d : DataW H} {ps : List MemPlace} (hval : Value.okWide Tryz.prog w .any base0 24 v) (h : DataW.Trod enc Tryz.prog w base spare held 24 v d ps) :
  ∃ (c : ConfM) (a : Option Addr) (cap : Nat), v = .agg (c.cells a cap).toArray ∧ c.qs.length ≤ cap ∧ IntsIn (fun b => b < w.heap.size) w a c.qs := by
 obtain ⟨cs, rfl⟩ := okWide_agg Tryz.underlying24 hval
 obtain ⟨fuel, hf⟩ := h
 obtain ⟨h1, h2⟩ := flatT_ok 3 _ _ confFlat fuel cs _ hf
 obtain ⟨c, a, cap, rfl, h3, h4⟩ := leaf_conf h1 h2
 exact ⟨c, a, cap, Z, h3, h4⟩
end
end Adm
namespace Rep
open Go Vg T Api Kv Ch Lg Rd Win Adm Sched Conf
attribute [local irreducible] VO VC VA
def opEqB (o p : OpM) : Bool := decide (o.kind = p.kind) && (decide (o.key = p.key) && (decide (o.value = p.value) && (decide (o.version = p.version) && true)))
def entEqB (e d : EntryM) : Bool := decide (e.index = d.index) && (decide (e.client = d.client) && (decide (e.seq = d.seq) && (opEqB e.op d.op && true)))
theorem entEqB_iff (e d : EntryM) : entEqB e d = true ↔ e = d := by
 obtain ⟨a1, a2, a3, ⟨o1, o2, o3, o4⟩⟩ := e
 obtain ⟨b1, b2, b3, ⟨p1, p2, p3, p4⟩⟩ := d
 simp [entEqB, opEqB]
theorem stoodEnt : Tryz.prog.stoodInHeld 44 = false := by kernel_rfl
theorem stoodOp : Tryz.prog.stoodInHeld 40 = false := by kernel_rfl
theorem guardEnt : Tryz.prog.eqGuardType Tryz.prog.depth 44 = false := by kernel_rfl
theorem ent_eq (e d : EntryM) (w : World) : (Op.equal 44 (.agg (entC e).toArray) (.agg (entC d).toArray)).run Tryz.prog w = .ok (entEqB e d) w := by
 have hi : ∀ (cs : List Value) (j : Nat) (n : Int), cs[j]? = some (.int .i64 n) → ∀ w : World, (part 3 cs.toArray j).run Tryz.prog w = .ok (.int .i64 n) w := fun cs j n h w => part1 (TabOk.look tabOk (t := 3) (ti := T.t3) rfl) rfl h w
 have hs : ∀ (cs : List Value) (j : Nat) (s : ByteArray), cs[j]? = some (.string s) → ∀ w : World, (part 9 cs.toArray j).run Tryz.prog w = .ok (.string s) w := fun cs j n h w => part1 (TabOk.look tabOk (t := 9) (ti := T.t9) rfl) rfl h w
 have ho : ∀ (e : EntryM) (w : World), (part 40 (entC e).toArray 3).run Tryz.prog w = .ok (.agg e.op.cells.toArray) w := fun e w => partA (cs := entC e) (ds := e.op.cells) (off := 3) (TabOk.look tabOk (t := 40) (ti := T.t40) rfl) ym (by show ((entC e).drop 3).take 4 = e.op.cells; rfl) w
 refine EqT.run (EqT.st Tryz.underlying44 stoodEnt (EqFs.cons yy (hi _ _ _ Z) (hi _ _ _ Z) (EqT.int Tryz.underlying3 e.index d.index) (EqFs.cons yy (hi _ _ _ Z) (hi _ _ _ Z) (EqT.int Tryz.underlying3 e.client d.client) (EqFs.cons yy (hi _ _ _ Z) (hi _ _ _ Z) (EqT.int Tryz.underlying3 e.seq d.seq) (EqFs.cons yy (ho e) (ho d) (EqT.st Tryz.underlying40 stoodOp (EqFs.cons yy (hi _ _ _ Z) (hi _ _ _ Z) (EqT.int Tryz.underlying3 e.op.kind d.op.kind) (EqFs.cons yy (hs _ _ _ Z) (hs _ _ _ Z) (EqT.str Tryz.underlying9 e.op.key d.op.key) (EqFs.cons yy (hs _ _ _ Z) (hs _ _ _ Z) (EqT.str Tryz.underlying9 e.op.value d.op.value) (EqFs.cons yy (hi _ _ _ Z) (hi _ _ _ Z) (EqT.int Tryz.underlying3 e.op.version d.op.version) EqFs.nil))))) EqFs.nil))))) yy w
end Rep
namespace Nd
open Go Vg T Api Kv Ch Lg Rd Win Adm Sched Conf Rep Rk
attribute [local irreducible] VO VC VA
structure XAct where
 kind : Nat
 a : Nat
 b : Nat
 c : Nat
 op : OpM
 from_ : Int
 f : FrameM
 ma : Option Addr
 mn : Nat
 mc : Nat
abbrev xaT : TypeId := 67
def xaC (x : XAct) : List Value := .int .u8 x.kind :: .int .u8 x.a :: .int .u8 x.b :: .int .u8 x.c :: (x.op.cells ++ (.int .i64 x.from_ :: fgC x.f (x.ma, x.mn, x.mc)))
def XAct.bad (x : XAct) : Bool := decide (200 < x.op.key.size) || (decide (200 < x.op.value.size) || (decide (200 < x.f.op.key.size) || (decide (200 < x.f.op.value.size) || (decide (200 < x.f.entry.op.key.size) || (decide (200 < x.f.entry.op.value.size) || (decide (200 < x.f.res.value.size) || decide (10 < x.mn)))))))
def greatB (l : List XAct) (most : Int) : Bool := l.any XAct.bad || decide (most < l.length)
theorem xgreat_spec (a : Option Addr) (c : Nat) (l : List XAct) (most : Int) (h : RwIn xaC 38 Fr w a l) (hl : l.length ≤ 9223372036854775807) :
  Tri Tryz.prog 24 [.slice a l.length c, .int .i64 most] Fr w [] (fun v L => v = .bool (greatB l most) ∧ L = []) := by
 refine TF 83 Tryz.func24 Z ym tabOk Z Z ?_
 refine xlf ?_
 refine VC.loop (σ := Nat) (fun i => [(0, .slice a l.length c), (1, .int .i64 most), (5, .int .i64 i)]) (fun _ => []) (fun i => i ≤ l.length ∧ (l.take i).any XAct.bad = false) (fun i => l.length - i) 0 ⟨Nat.zero_le _, Z⟩ sbZ ER ?_
 rintro i ⟨hi, hall⟩
 refine xlf ?_
 refine CP (p := (i : Int) < (l.length : Int)) Z (fun h1 => CK ?_) (fun h1 => CX ?_)
 rotate_left
 ·have hi2 : i = l.length := by omega
  subst hi2
  rw [List.take_length] at hall
  refine xlf ?_
  exact CR (Ret.tmp 4 Z Z ER ⟨by rw [greatB, hall]; rfl, Z⟩)
 have hi2 : i < l.length := by omega
 obtain ⟨x, hx⟩ : ∃ x, l[i]? = some x := ⟨_, GE hi2⟩
 obtain ⟨mb, mo, hma, ra, rc⟩ := RwIn.rd (X := ⟨Tryz.prog, tab, tabOk, 83, Fr, w⟩) h hx
 have htake : l.take (i + 1) = l.take i ++ [x] := by rw [List.take_add_one, hx]; rfl
 rw [hma]
 refine xdx ?_
 refine xlf ?_
 refine xfv ?_
 refine xfk ?_
 refine VG (VO.alloc Z fun xb => ?_)
 refine VG (VT (vs := xaC x) (cs' := xaC x) 0 Z Z Z Z (NR _) Z Z Z (VG (VN ?_)))
 refine CS ?_
 refine VC.meetS (σ := Unit) (fun _ => [(0, .slice (some ⟨mb, mo, none⟩) l.length c), (1, .int .i64 most), (5, .int .i64 i), (78, .bool x.bad)]) (fun _ => []) (fun _ => True) ?_ ?_
 ·refine CG ?_
  refine xlc ?_
  by_cases h10 : 200 < x.op.key.size
  ·refine VG (VY 22 true Z (DT yd) ?_)
   refine xlf ?_
   refine VG (VY 29 true Z Z ?_)
   refine xlf ?_
   refine VG (VY 37 true Z Z ?_)
   refine xlf ?_
   refine VG (VY 45 true Z Z ?_)
   refine zqw ?_
   refine xlf ?_
   refine xoi ?_
   refine zrs ?_
   refine ⟨(), trivial, SC Z (SC Z (SC Z (Sub.bl Z ?_ (SN _)))), Imp.nil.ent⟩
   rw [XAct.bad, DT h10]; simp
  refine VG (VY 22 false Z (DF yd) ?_)
  refine xlc ?_
  by_cases h11 : 200 < x.op.value.size
  ·refine VG (VY 29 true Z (DT yd) ?_)
   refine xlf ?_
   refine VG (VY 37 true Z Z ?_)
   refine xlf ?_
   refine VG (VY 45 true Z Z ?_)
   refine zqw ?_
   refine xlf ?_
   refine xoi ?_
   refine zrs ?_
   refine ⟨(), trivial, SC Z (SC Z (SC Z (Sub.bl Z ?_ (SN _)))), Imp.nil.ent⟩
   rw [XAct.bad, DT h11]; simp
  refine VG (VY 29 false Z (DF yd) ?_)
  refine xlc ?_
  by_cases h12 : 200 < x.f.op.key.size
  ·refine VG (VY 37 true Z (DT yd) ?_)
   refine xlf ?_
   refine VG (VY 45 true Z Z ?_)
   refine zqw ?_
   refine xlf ?_
   refine xoi ?_
   refine zrs ?_
   refine ⟨(), trivial, SC Z (SC Z (SC Z (Sub.bl Z ?_ (SN _)))), Imp.nil.ent⟩
   rw [XAct.bad, DT h12]; simp
  refine VG (VY 37 false Z (DF yd) ?_)
  refine xlc ?_
  by_cases h13 : 200 < x.f.op.value.size
  ·refine VG (VY 45 true Z (DT yd) ?_)
   refine zqw ?_
   refine xlf ?_
   refine xoi ?_
   refine zrs ?_
   refine ⟨(), trivial, SC Z (SC Z (SC Z (Sub.bl Z ?_ (SN _)))), Imp.nil.ent⟩
   rw [XAct.bad, DT h13]; simp
  refine VG (VY 45 false Z (DF yd) ?_)
  refine xlc ?_
  by_cases h14 : 200 < x.f.entry.op.key.size
  ·refine VG (VY 54 true Z (DT yd) ?_)
   refine xlf ?_
   refine xoi ?_
   refine zrs ?_
   refine ⟨(), trivial, SC Z (SC Z (SC Z (Sub.bl Z ?_ (SN _)))), Imp.nil.ent⟩
   rw [XAct.bad, DT h14]; simp
  refine VG (VY 54 false Z (DF yd) ?_)
  refine xlc ?_
  by_cases h15 : 200 < x.f.entry.op.value.size
  ·refine VG (VY 63 true Z (DT yd) ?_)
   refine zrs ?_
   refine ⟨(), trivial, SC Z (SC Z (SC Z (Sub.bl Z ?_ (SN _)))), Imp.nil.ent⟩
   rw [XAct.bad, DT h15]; simp
  refine VG (VY 63 false Z (DF yd) ?_)
  refine xlc ?_
  by_cases h16 : 200 < x.f.res.value.size
  ·refine VG (VY 71 true Z (DT yd) ?_)
   refine xlf ?_
   refine ⟨(), trivial, SC Z (SC Z (SC Z (Sub.bl Z ?_ (SN _)))), Imp.nil.ent⟩
   rw [XAct.bad, DT h16]; simp
  refine VG (VY 71 false Z (DF yd) ?_)
  refine xlc ?_
  refine xlf ?_
  refine ⟨(), trivial, SC Z (SC Z (SC Z (Sub.bl Z ?_ (SN _)))), Imp.nil.ent⟩
  rw [XAct.bad, DF h10, DF h11, DF h12, DF h13, DF h14, DF h15, DF h16]
  simp only [Bool.false_or]
  by_cases h17 : 10 < x.mn
  ·rw [DT h17]; exact DT yd
  ·rw [DF h17]; exact DF yd
 rintro _ -
 rw [← hma]
 refine CC Z (fun hb => ?_) (fun hb => CK ?_)
 ·refine xlf ?_
  refine CR (Ret.tmp 4 Z Z Imp.nil.ent ⟨?_, Z⟩)
  have : l.any XAct.bad = true := List.any_eq_true.2 ⟨x, ME hx, hb⟩
  rw [greatB, this]; rfl
 ·refine zpm ?_
  refine ⟨i + 1, ⟨hi2, ?_⟩, by dsimp only; omega, sbZ, ER⟩
  rw [htake, List.any_append, hall]
  simp [hb]
end Nd
namespace Nd
open Go Vg T Api Kv Ch Lg Rd Win Adm Sched Conf Rep Rk
attribute [local irreducible] VO VC VA
def chainD (c : ChM) (a b nodes : Int) : ChM × Int :=
 if a % 4 = 0 then withM c (b % nodes) else if a % 4 = 1 then withoutM c (b % nodes) else if a % 4 = 2 then drainM c (b % nodes) else (⟨c.epoch + 1 + b % 3, c.ms, c.drain⟩, 0)
def chainM (c : ChM) (a b nodes : Int) : ChM :=
 if (chainD c a b nodes).2 ≠ 0 ∨ c.epoch = 0 then ⟨c.epoch + 1, [(b % nodes, c.epoch + 1)], -1⟩ else (chainD c a b nodes).1
def memO (a : Option Addr) (c : Nat) (ms : List MemM) (a0 : Option Addr) (ms0 : List MemM) (H : HP) : Prop := H = slH memT 2 a ms.length c (flat memC ms) ∨ (H = hpure True ∧ a = a0 ∧ ms = ms0)
def chV (r : ChM) (a0 : Option Addr) (ms0 : List MemM) (v : Value) (L : List HP) : Prop := ∃ a c H, v = .agg (r.cells a c).toArray ∧ L = [H] ∧ memO a c r.ms a0 ms0 H
theorem Imp.hp {M N : List HP} (h : Imp M N) : Imp M (hpure True :: N) := Imp.pure trivial h
section
variable {c : ChM} {a : Option Addr} {cap : Nat}
theorem chain_spec (h : RwIn memC 2 Fr w a c.ms) (hl : c.ms.length ≤ 1000) (x y nodes : Int) (hx0 : 0 ≤ x) (hy0 : 0 ≤ y) (hn : 1 ≤ nodes) (he0 : 0 ≤ c.epoch) (he1 : c.epoch ≤ 4398046511104) :
  Tri Tryz.prog 111 [.agg (c.cells a cap).toArray, .int .i64 x, .int .i64 y, .int .i64 nodes] Fr w [] (chV (chainM c x y nodes) a c.ms) := by
 have hm3 : 0 ≤ y % 3 ∧ y % 3 < 3 := ⟨Int.emod_nonneg _ yy, Int.emod_lt_of_pos _ yy⟩
 have hm4 : 0 ≤ x % 4 ∧ x % 4 < 4 := ⟨Int.emod_nonneg _ yy, Int.emod_lt_of_pos _ yy⟩
 refine TF 67 Tryz.func111 Z ym tabOk Z Z ?_
 refine CS (CG (VG (VB (vs := c.cells a cap) Z fun b => VG (VO.alloc Z fun d => VG (VN ?_)))))
 refine xhm ?_
 refine xlf ?_
 refine VG (VI (light_rem Z Z hy0 yd) ?_)
 refine xgk ?_
 show VC _ _ _ _ _
 refine xhm ?_
 refine xgj ?_
 refine VG (VO.alloc Z fun e => VG (VT (vs := c.cells a cap) (cs' := c.cells a cap) 0 Z Z Z Z (NR _) Z Z Z (VG (VN ?_))))
 show VC _ _ _ _ _
 obtain ⟨n, hn0⟩ : ∃ n, n = y % nodes := ⟨_, rfl⟩
 obtain ⟨D, hD⟩ : ∃ D, D = chainD c x y nodes := ⟨_, rfl⟩
 rw [← hn0]
 refine CS ?_
 refine VC.meetS (σ := Option Addr × Nat × HP) (fun s => [(4, pV b), (8, pV d), (9, .int .i64 n), (10, pV e), (11, .int .i64 D.2)]) (fun s => [pt e (D.1.cells s.1 s.2.1) chT, s.2.2, pt d (chZ.cells none 0) chT, pt b (c.cells a cap) chT]) (fun s => memO s.1 s.2.1 D.1.ms a c.ms s.2.2) ?_ ?_
 ·refine xhm ?_
  refine xlf ?_
  refine VG (VI (light_rem Z Z hx0 yy) ?_)
  refine xgk ?_
  show VC _ _ _ _ _
  refine xjt ?_
  have st : ∀ {X : Cx} {E : Env} {M : List HP} {r : ChM × Int} {a' : Option Addr} {c' : Nat}, r = D → Vg.look E 4 = some (.pointer (some ⟨b, 0, none⟩)) → Vg.look E 8 = some (.pointer (some ⟨d, 0, none⟩)) → Vg.look E 9 = some (.int .i64 n) → Vg.look E 10 = some (.pointer (some ⟨e, 0, none⟩)) → Vg.look E 11 = some (.int .i64 r.2) → Ent X M [pt e (r.1.cells a' c') chT, slH memT 2 a' r.1.ms.length c' (flat memC r.1.ms), pt d (chZ.cells none 0) chT, pt b (c.cells a cap) chT] →
    ∃ s : Option Addr × Nat × HP, memO s.1 s.2.1 D.1.ms a c.ms s.2.2 ∧ Sub [(4, pV b), (8, pV d), (9, .int .i64 n), (10, pV e), (11, .int .i64 D.2)] E ∧ Ent X M [pt e (D.1.cells s.1 s.2.1) chT, s.2.2, pt d (chZ.cells none 0) chT, pt b (c.cells a cap) chT] := fun {X E M r a' c'} h0 h1 h2 h3 h4 h5 h6 => by
   subst h0
   exact ⟨(a', c', _), .inl Z, SC h1 (SC h2 (SC h3 (SC h4 (SC h5 (SN _))))), h6⟩
  refine xlf ?_
  refine CE (i := x % 4) (j := 0) Z (fun k0 => ?_) (fun k0 => ?_)
  ·have hr : withM c n = D := by rw [hD, chainD, if_pos k0, hn0]
   refine CG ?_
   refine xlx ?_
   refine VG (VK (Lc := []) (fun Fr w hF hs hS => rwith_spec Fr w (h.of hF hs) hl n) Z Z ?_)
   rintro _ _ ⟨a', c', rfl, rfl⟩
   refine xlf ?_
   refine VG (VT (vs := (withM c n).1.cells a' c') (cs' := (withM c n).1.cells a' c') 1 Z Z Z Z (NR _) Z Z Z ?_)
   exact zqz
  refine xlf ?_
  refine CE (i := x % 4) (j := 1) Z (fun k1 => ?_) (fun k1 => ?_)
  ·have hr : withoutM c n = D := by rw [hD, chainD, if_neg k0, if_pos k1, hn0]
   refine CG ?_
   refine xlx ?_
   refine VG (VK (Lc := []) (fun Fr w hF hs hS => rwithout_spec Fr w (h.of hF hs) hl n) Z Z ?_)
   rintro _ _ ⟨a', c', rfl, rfl⟩
   refine xlf ?_
   refine VG (VT (vs := (withoutM c n).1.cells a' c') (cs' := (withoutM c n).1.cells a' c') 1 Z Z Z Z (NR _) Z Z Z ?_)
   exact zqz
  refine xlf ?_
  refine CE (i := x % 4) (j := 2) Z (fun k2 => ?_) (fun k2 => ?_)
  ·have hr : drainM c n = D := by rw [hD, chainD, if_neg k0, if_neg k1, if_pos k2, hn0]
   refine CG ?_
   refine xlx ?_
   refine VG (VK (Lc := []) (fun Fr w hF hs hS => rdrain_spec Fr w (h.of hF hs) hl n) Z Z ?_)
   rintro _ _ ⟨a', c', rfl, rfl⟩
   refine xlf ?_
   refine VG (VT (vs := (drainM c n).1.cells a' c') (cs' := (drainM c n).1.cells a' c') 1 Z Z Z Z (NR _) Z Z Z ?_)
   exact zqz
  have hr : D = (⟨c.epoch + 1 + y % 3, c.ms, c.drain⟩, 0) := by rw [hD, chainD, if_neg k0, if_neg k1, if_neg k2]
  refine CG ?_
  refine xgd ?_
  refine xei ?_
  refine VG (VI (light_rem Z Z hy0 yy) ?_)
  refine xei ?_
  refine VG (VO.st 0 (cs' := (⟨c.epoch + 1 + y % 3, c.ms, c.drain⟩ : ChM).cells a cap) Z Z Z Z (by show 0 < 3; omega) Z Z (VG (VN ?_)))
  exact ⟨(a, cap, hpure True), .inr ⟨rfl, Z, by rw [hr]⟩, SC Z (SC Z (SC Z (SC Z (SC (by rw [hr]; rfl) (SN _))))), by rw [hr]; exact (IP 0 Z (Imp.hp (pkZ [0, 0]))).ent⟩
 rintro ⟨a', c', H⟩ hH
 dsimp only at hH ⊢
 refine CS (CS ?_)
 refine VC.meetS (σ := Bool) (fun g => [(4, pV b), (8, pV d), (9, .int .i64 n), (10, pV e), (55, .bool g)]) (fun _ => [pt e (D.1.cells a' c') chT, H, pt d (chZ.cells none 0) chT, pt b (c.cells a cap) chT]) (fun g => g = true ↔ (D.2 ≠ 0 ∨ c.epoch = 0)) ?_ ?_
 ·refine CG ?_
  refine xlf ?_
  by_cases h1 : D.2 = 0
  rotate_left
  ·refine VG (VY 51 true Z ydb ?_)
   refine xlf ?_
   exact ⟨true, by simp [h1], sbZ, ER⟩
  refine VG (VY 51 false Z ydc ?_)
  refine xky ?_
  exact ⟨_, by simp [h1], SC Z (SC Z (SC Z (SC Z (SC Z (SN _))))), ER⟩
 rintro g hg
 refine CC Z (fun h1 => ?_) (fun h1 => CK ?_)
 ·have hM : chainM c x y nodes = ⟨c.epoch + 1, [(n, c.epoch + 1)], -1⟩ := by rw [chainM, ← hD, if_pos (hg.1 h1), hn0]
  refine xhm ?_
  refine xky ?_
  refine xei ?_
  refine xky ?_
  refine xei ?_
  refine VG (VI (LB (pv := [(0, .int .i64 n), (1, .int .i64 (c.epoch + 1))]) (memC (n, c.epoch + 1)) Z Z Z ym Z) ?_)
  refine VG (VO.buildSlice (n := 1) (pv := [(0, .agg (memC (n, c.epoch + 1)).toArray)]) (memC (n, c.epoch + 1)) Z Z Z Z yy (fill_one Z Z Z) fun sb => ?_)
  refine VG (VI (LB (pv := [(0, .int .i64 (c.epoch + 1)), (1, .slice (some ⟨sb, 0, none⟩) 1 1), (2, .int .i64 (-1))]) ((⟨c.epoch + 1, [(n, c.epoch + 1)], -1⟩ : ChM).cells (some ⟨sb, 0, none⟩) 1) Z Z Z ym Z) ?_)
  refine VG (VT (vs := (⟨c.epoch + 1, [(n, c.epoch + 1)], -1⟩ : ChM).cells (some ⟨sb, 0, none⟩) 1) (cs' := (⟨c.epoch + 1, [(n, c.epoch + 1)], -1⟩ : ChM).cells (some ⟨sb, 0, none⟩) 1) 3 Z Z Z Z (NR _) Z Z Z ?_)
  refine xlf ?_
  refine CR (Ret.cell 8 Z Z Z (RdL.many (ds := (⟨c.epoch + 1, [(n, c.epoch + 1)], -1⟩ : ChM).cells (some ⟨sb, 0, none⟩) 1) 3 Z Z) (L' := [slH memT 2 (some ⟨sb, 0, none⟩) 1 1 (memC (n, c.epoch + 1))]) ?_ ⟨some ⟨sb, 0, none⟩, 1, _, by rw [hM], Z, .inl (by rw [hM]; rfl)⟩)
  exact (Imp.sl (rest := []) Z (NR _) Z (IP 0 Z Imp.nil)).ent
 ·have hM : chainM c x y nodes = D.1 := by rw [chainM, ← hD, if_neg (fun k => by rw [hg.2 k] at h1; cases h1)]
  refine xhm ?_
  refine VG (VL 0 (D.1.cells a' c') Z Z Z Z ?_)
  refine VG (VT (vs := D.1.cells a' c') (cs' := D.1.cells a' c') 2 Z Z Z Z (NR _) Z Z Z ?_)
  refine xlf ?_
  exact CR (Ret.cell 8 Z Z Z (RdL.many (ds := D.1.cells a' c') 2 Z Z) (IP 1 Z Imp.nil).ent ⟨a', c', H, by rw [hM], Z, by rw [hM]; exact hH⟩)
end
end Nd
namespace Nd
open Go Vg T Api Kv Ch Lg Rd Win Adm Sched Conf Rep Rk
attribute [local irreducible] VO VC VA
structure XAct.Byte (x : XAct) : Prop where
 kind : x.kind ≤ 255
 a : x.a ≤ 255
 b : x.b ≤ 255
 c : x.c ≤ 255
def XAct.ep (x : XAct) (n : NdM) : Int := if 240 ≤ x.c then n.ch.epoch - 1 else n.ch.epoch
def XAct.ch (C : ConfM) (n : NdM) (x : XAct) : ChM := chainM n.ch x.a x.b C.nodes
def XAct.call (x : XAct) (e : Int) : FrameM := { FrameM.zero with kind := 1, epoch := e, client := (x.a : Int) % 7, seq := 1 + (x.b : Int) % 6, try_ := 1 + (x.b : Int) / 6 % 4, cls := (x.b : Int) / 24 % 5, deadline := (x.c : Int) % 32, op := x.op }
def ackX (e i g h : Int) : FrameM := { FrameM.zero with kind := 5, epoch := e, index := i, grant := g, have_ := h }
def fwdX (e : Int) (y : EntryM) : FrameM := { FrameM.zero with kind := 4, epoch := e, entry := y }
def basX (e i : Int) : FrameM := { FrameM.zero with kind := 6, epoch := e, index := i }
def cfgX (c : ChM) : FrameM := { FrameM.zero with kind := 8, cepoch := c.epoch, drain := c.drain }
def surX (e i : Int) : FrameM := { FrameM.zero with kind := 10, epoch := e, index := i }
def XAct.act (C : ConfM) (n : NdM) (x : XAct) (xms : List MemM) : Int × FrameM × List MemM :=
 if x.kind % 14 = 4 then (x.from_, x.f, xms)
 else if x.kind % 14 = 5 then (nextOf n.ch n.id, ackX (x.ep n) ((x.a : Int) % 24) ((x.b : Int) % 40) ((x.c : Int) % 24), [])
 else if x.kind % 14 = 6 then (prevOf n.ch n.id, fwdX (x.ep n) ⟨n.log.length + 1, (x.a : Int) % 6, 1 + (x.b : Int) % 12, x.op⟩, [])
 else if x.kind % 14 = 7 then (prevOf n.ch n.id, basX (x.ep n) ((x.a : Int) % 8), [])
 else if x.kind % 14 = 8 then (16, cfgX (x.ch C n), (x.ch C n).ms)
 else if x.kind % 14 = 9 then (16, surX (x.ep n) ((x.a : Int) % 12), [])
 else if x.kind % 14 = 13 then (if (x.a : Int) % 2 = 0 then (16, x.f, xms) else (prevOf n.ch n.id, x.f, xms))
 else (32, x.call (x.ep n), [])
def memA (g : MemP) (ms : List MemM) (a0 : Option Addr) (ms0 : List MemM) (a1 : Option Addr) (ms1 : List MemM) (H : HP) : Prop := H = slH memT 2 g.1 ms.length g.2 (flat memC ms) ∨ (H = hpure True ∧ ((g.1 = a0 ∧ ms = ms0) ∨ (g.1 = a1 ∧ ms = ms1) ∨ ms = []))
def memK (k : Int) (g : MemP) (ms : List MemM) (a0 : Option Addr) (ms0 : List MemM) (a1 : Option Addr) (ms1 : List MemM) (H : HP) : Prop := (k = 8 ∧ memA g ms a0 ms0 a1 ms1 H) ∨ (H = hpure True ∧ ((g.1 = a1 ∧ ms = ms1) ∨ ms = []))
theorem memK.a {k : Int} {g : MemP} {ms : List MemM} {a0 : Option Addr} {ms0 : List MemM} {a1 : Option Addr} {ms1 : List MemM} {H : HP} (h : memK k g ms a0 ms0 a1 ms1 H) : memA g ms a0 ms0 a1 ms1 H := h.elim And.right fun k => .inr ⟨k.1, .inr k.2⟩
def actS (r : Int × FrameM × List MemM) (a0 : Option Addr) (ms0 : List MemM) (a1 : Option Addr) (ms1 : List MemM) (v : Value) (L : List HP) : Prop := ∃ (g : MemP) (H : HP), v = .tuple #[.int .i64 r.1, .agg (fgC r.2.1 (g.1, r.2.2.length, g.2)).toArray] ∧ L = [H] ∧ memK r.2.1.kind g r.2.2 a0 ms0 a1 ms1 H
def actR (r : Int × FrameM × List MemM) (a0 : Option Addr) (ms0 : List MemM) (a1 : Option Addr) (ms1 : List MemM) (v : Value) (L : List HP) : Prop := ∃ (g : MemP) (H : HP), v = .tuple #[.int .i64 r.1, .agg (fgC r.2.1 (g.1, r.2.2.length, g.2)).toArray] ∧ L = [H] ∧ memA g r.2.2 a0 ms0 a1 ms1 H
section
variable {p : Nat} {C : ConfM} {ca : Option Addr} {cc : Nat} {m : MemP} {n : NdM}
def outK (n : NdM) (k : Nat) : NdM := { n with out := List.replicate k (0, FrameM.zero) }
theorem nm0_of {Fr : Nat → Prop} {w : World} (h : SatIn Fr [nm0 p C ca cc m n] w) : ∃ k y, NmIn Fr w p C ca cc m (outK n k) y := by
 obtain ⟨⟨y, on⟩, h⟩ := h.ex
 have h := h.sep
 refine ⟨on, y, ?_, h.at_ 1 Z, h.at_ 2 Z, h.at_ 3 Z⟩
 have hb := h.blk 0 rfl
 have e : nmCs C ca cc m (outK n on) y = nmC0 C ca cc m n y on := by
  unfold nmCs nmC0 outK
  rw [List.length_replicate]
 rw [e]; exact hb
theorem frameS_spec (x : XAct) (xms : List MemM) (hx : x.mn = xms.length) (hb : x.Byte) (h : SatIn Fr [nm0 p C ca cc m n] w) (hm : RwIn memC 2 Fr w m.1 n.ch.ms) (hl : n.ch.ms.length ≤ 1000) (he0 : 0 ≤ n.ch.epoch) (he1 : n.ch.epoch ≤ 4398046511104) (hno : 1 ≤ C.nodes) (hlog : n.log.length ≤ 4096) :
  Tri Tryz.prog 30 [.agg (xaC x).toArray, .pointer (some ⟨p, 0, none⟩)] Fr w [] (actS (x.act C n xms) m.1 n.ch.ms x.ma xms) := by
 obtain ⟨k, y, hn⟩ := nm0_of h
 have hnb := hn.blk
 have b0 := hb.kind; have b1 := hb.a; have b2 := hb.b; have b3 := hb.c
 refine TF 140 Tryz.func30 Z ym tabOk Z Z ?_
 refine CS (CG (VG (VB (vs := xaC x) Z fun xb => VG (VO.alloc Z fun d => VG (VN ?_)))))
 refine CS (CD (ts 0 12 .nil) ym yq ?_)
 refine xgz ?_
 refine VA.go (AI Z (light_conv x.a Z Z Z Z Z (i64_in _ yd yd)) ?_)
 refine xgz ?_
 refine VA.go (AI Z (light_conv x.b Z Z Z Z Z (i64_in _ yd yd)) ?_)
 refine xgz ?_
 refine VA.go (AI Z (light_conv x.c Z Z Z Z Z (i64_in _ yd yd)) ?_)
 refine xfc ?_
 refine CS (CD (ts 0 8 (ts 9 8 (.only 8 (.only 17 (ts 18 2 .nil))))) ym yq ?_)
 refine xok ?_
 refine xol ?_
 refine xok ?_
 refine xol ?_
 refine xok ?_
 refine VA.go (AR (fun Fr w hF hs hS => rprev_spec Fr w (c := n.ch) (RwIn.of hm hF hs) yd n.id) Z Z ydf ?_)
 refine VA.go (AR (fun Fr w hF hs hS => rnext1_spec Fr w (c := n.ch) (RwIn.of hm hF hs) yd n.id) Z Z ydf ?_)
 refine xfc ?_
 refine CS (CG (VG (VD Z Z (RdL.blk hnb Z) (VG (VN ?_)))))
 show VC _ _ _ _ _
 refine CS ?_
 refine VC.meetS (σ := Unit) (fun _ => [(1, pV p), (2, pV xb), (5, pV d), (6, .int .i64 (x.a : Int)), (7, .int .i64 (x.b : Int)), (8, .int .i64 (x.c : Int)), (9, .int .i64 (prevOf n.ch n.id)), (10, .int .i64 (nextOf n.ch n.id)), (11, .int .i64 (x.ep n))]) (fun _ => [pt d (fmc fmz) frT, pt xb (xaC x) xaT]) (fun _ => True) ?_ ?_
 ·refine xlf ?_
  refine CP (p := (240 : Int) ≤ (x.c : Int)) Z (fun h1 => ?_) (fun h1 => CK ?_)
  ·refine CG ?_
   refine xlf ?_
   refine VG (VO.sub' Z Z (by show -9223372036854775808 ≤ n.ch.epoch - 1; omega) (by show n.ch.epoch - 1 ≤ 9223372036854775807; omega) ?_)
   refine xgk ?_
   exact ⟨(), trivial, SC Z (SC Z (SC Z (SC Z (SC Z (SC Z (SC Z (SC Z (SC (by rw [XAct.ep, if_pos yd]; rfl) (SN _))))))))), ER⟩
  ·exact ⟨(), trivial, SC Z (SC Z (SC Z (SC Z (SC Z (SC Z (SC Z (SC Z (SC (by rw [XAct.ep, if_neg yd]; rfl) (SN _))))))))), ER⟩
 rintro _ -
 refine CS ?_
 refine VC.meetS (σ := Unit) (fun _ => [(2, pV xb), (5, pV d), (6, .int .i64 (x.a : Int)), (7, .int .i64 (x.b : Int)), (8, .int .i64 (x.c : Int)), (11, .int .i64 (x.ep n))]) (fun _ => [pt d (fmc fmz) frT, pt xb (xaC x) xaT]) (fun _ => x.act C n xms = (32, x.call (x.ep n), [])) ?_ ?_
 ·refine xhm ?_
  refine xhk ?_
  refine xom ?_
  refine xgk ?_
  show VC _ _ _ _ _
  refine xjt ?_
  refine xlf ?_
  refine CE (i := (x.kind : Int) % 14) (j := 4) Z (fun k4 => ?_) (fun k4 => ?_)
  ·have hA : x.act C n xms = (x.from_, x.f, xms) := by rw [XAct.act, if_pos yd]
   refine CS (CD (ts 0 5 (.only 5 .nil)) ym yq ?_)
   refine xgz ?_
   refine xon ?_
   refine xoo ?_
   show VC _ _ _ _ _
   exact xop
  have k4' : ¬ x.kind % 14 = 4 := by omega
  refine xlf ?_
  refine CE (i := (x.kind : Int) % 14) (j := 5) Z (fun k5 => ?_) (fun k5 => ?_)
  ·have hA : x.act C n xms = (nextOf n.ch n.id, ackX (x.ep n) ((x.a : Int) % 24) ((x.b : Int) % 40) ((x.c : Int) % 24), []) := by rw [XAct.act, if_neg k4', if_pos yd]
   refine xhm ?_
   refine xom ?_
   refine xom ?_
   refine xom ?_
   refine VG (VI (LB (pv := [(0, .int .i64 5), (1, .int .i64 (x.ep n)), (12, .int .i64 ((x.a : Int) % 24)), (13, .int .i64 ((x.b : Int) % 40)), (14, .int .i64 ((x.c : Int) % 24))]) (fgC (ackX (x.ep n) ((x.a : Int) % 24) ((x.b : Int) % 40) ((x.c : Int) % 24)) mem0) Z Z Z ym Z) ?_)
   refine VG (VT (vs := fgC (ackX (x.ep n) ((x.a : Int) % 24) ((x.b : Int) % 40) ((x.c : Int) % 24)) mem0) (cs' := fgC (ackX (x.ep n) ((x.a : Int) % 24) ((x.b : Int) % 40) ((x.c : Int) % 24)) mem0) 0 Z Z Z Z (NR _) Z Z Z (VG (VN ?_)))
   show VC _ _ _ _ _
   exact CR (Ret.tmpCell 4 5 Z Z Z Z (RdL.many (ds := fgC (ackX (x.ep n) ((x.a : Int) % 24) ((x.b : Int) % 40) ((x.c : Int) % 24)) mem0) 0 Z Z) (Imp.hp Imp.nil).ent ⟨(none, 0), hpure True, by rw [hA]; rfl, Z, .inr ⟨rfl, by rw [hA]; exact .inr Z⟩⟩)
  have k5' : ¬ x.kind % 14 = 5 := by omega
  refine xlf ?_
  refine CE (i := (x.kind : Int) % 14) (j := 6) Z (fun k6 => ?_) (fun k6 => ?_)
  ·have hA : x.act C n xms = (prevOf n.ch n.id, fwdX (x.ep n) ⟨n.log.length + 1, (x.a : Int) % 6, 1 + (x.b : Int) % 12, x.op⟩, []) := by rw [XAct.act, if_neg k4', if_neg k5', if_pos yd]
   have hb12 : 0 ≤ (x.b : Int) % 12 ∧ (x.b : Int) % 12 < 12 := ⟨Int.emod_nonneg _ yy, Int.emod_lt_of_pos _ yy⟩
   refine CS (CD (ts 0 3 (ts 5 7 (.only 3 (.take 4 (ts 12 3 (.only 15 .nil)))))) ym yq ?_)
   refine xoq ?_
   refine xoq ?_
   refine xeg ?_
   refine VA.go (VA.ldA 1 x.op.cells Z Z Z Z Z ?_)
   refine VA.go (AR (fun Fr w hF hs hS => nlast_spec Fr w (hn.of' hF hs)) Z Z yr ?_)
   refine VA.go (AP Z Z Z (by show -9223372036854775808 ≤ (n.log.length : Int) + 1; omega) (by show (n.log.length : Int) + 1 ≤ 9223372036854775807; omega) ?_)
   refine VA.go (AI Z (LB (pv := [(0, .int .i64 ((outK n k).log.length + 1)), (1, .int .i64 ((x.a : Int) % 6)), (2, .int .i64 (1 + (x.b : Int) % 12)), (3, .agg x.op.cells.toArray)]) (entC ⟨n.log.length + 1, (x.a : Int) % 6, 1 + (x.b : Int) % 12, x.op⟩) Z Z Z ym Z) ?_)
   refine VA.go (AI Z (LB (pv := [(0, .int .i64 4), (1, .int .i64 (x.ep n)), (10, .agg (entC ⟨n.log.length + 1, (x.a : Int) % 6, 1 + (x.b : Int) % 12, x.op⟩).toArray)]) (fgC (fwdX (x.ep n) ⟨n.log.length + 1, (x.a : Int) % 6, 1 + (x.b : Int) % 12, x.op⟩) mem0) Z Z Z ym Z) ?_)
   refine VA.go (AT (vs := fgC (fwdX (x.ep n) ⟨n.log.length + 1, (x.a : Int) % 6, 1 + (x.b : Int) % 12, x.op⟩) mem0) (cs' := fgC (fwdX (x.ep n) ⟨n.log.length + 1, (x.a : Int) % 6, 1 + (x.b : Int) % 12, x.op⟩) mem0) 0 Z Z Z Z Z (NR _) Z Z Z yr (VA.go (AN ?_)))
   show VC _ _ _ _ _
   exact CR (Ret.tmpCell 4 5 Z Z Z Z (RdL.many (ds := fgC (fwdX (x.ep n) ⟨n.log.length + 1, (x.a : Int) % 6, 1 + (x.b : Int) % 12, x.op⟩) mem0) 0 Z Z) (Imp.hp Imp.nil).ent ⟨(none, 0), hpure True, by rw [hA]; rfl, Z, .inr ⟨rfl, by rw [hA]; exact .inr Z⟩⟩)
  have k6' : ¬ x.kind % 14 = 6 := by omega
  refine xlf ?_
  refine CE (i := (x.kind : Int) % 14) (j := 7) Z (fun k7 => ?_) (fun k7 => ?_)
  ·have hA : x.act C n xms = (prevOf n.ch n.id, basX (x.ep n) ((x.a : Int) % 8), []) := by rw [XAct.act, if_neg k4', if_neg k5', if_neg k6', if_pos yd]
   refine xhm ?_
   refine xom ?_
   refine VG (VI (LB (pv := [(0, .int .i64 6), (1, .int .i64 (x.ep n)), (12, .int .i64 ((x.a : Int) % 8))]) (fgC (basX (x.ep n) ((x.a : Int) % 8)) mem0) Z Z Z ym Z) ?_)
   refine VG (VT (vs := fgC (basX (x.ep n) ((x.a : Int) % 8)) mem0) (cs' := fgC (basX (x.ep n) ((x.a : Int) % 8)) mem0) 0 Z Z Z Z (NR _) Z Z Z (VG (VN ?_)))
   show VC _ _ _ _ _
   exact CR (Ret.tmpCell 4 5 Z Z Z Z (RdL.many (ds := fgC (basX (x.ep n) ((x.a : Int) % 8)) mem0) 0 Z Z) (Imp.hp Imp.nil).ent ⟨(none, 0), hpure True, by rw [hA]; rfl, Z, .inr ⟨rfl, by rw [hA]; exact .inr Z⟩⟩)
  have k7' : ¬ x.kind % 14 = 7 := by omega
  refine xlf ?_
  refine CE (i := (x.kind : Int) % 14) (j := 8) Z (fun k8 => ?_) (fun k8 => ?_)
  ·have hA : x.act C n xms = (16, cfgX (x.ch C n), (x.ch C n).ms) := by rw [XAct.act, if_neg k4', if_neg k5', if_neg k6', if_neg k7', if_pos yd]
   refine CS (CD (ts 0 11 (.only 11 (ts 12 2 (.only 14 .nil)))) ym yq ?_)
   refine xol ?_
   refine xok ?_
   refine VA.go (AO (OC (Lc := []) Z (.refl _) (fun Fr w hF hs hS => chain_spec Fr w (c := n.ch) (RwIn.of hm hF hs) hl x.a x.b C.nodes yd yd hno he0 he1)) Z ?_ ?_)
   ·rintro _ _ ⟨_, ⟨a', c', H, rfl, rfl, hH⟩, rfl⟩
    exact ydf
   rintro _ _ ⟨_, ⟨a', c', H, rfl, rfl, hH⟩, rfl⟩
   refine VA.go (AI Z (LB (pv := [(0, .int .i64 8), (11, .agg ((x.ch C n).cells a' c').toArray)]) (fgC (cfgX (x.ch C n)) (a', (x.ch C n).ms.length, c')) Z Z Z ym Z) ?_)
   refine VA.go (AT (vs := fgC (cfgX (x.ch C n)) (a', (x.ch C n).ms.length, c')) (cs' := fgC (cfgX (x.ch C n)) (a', (x.ch C n).ms.length, c')) 1 Z Z Z Z Z (NR _) Z Z Z yr (VA.go (AN ?_)))
   show VC _ _ _ _ _
   refine CR (Ret.tmpCell 4 5 Z Z Z Z (RdL.many (ds := fgC (cfgX (x.ch C n)) (a', (x.ch C n).ms.length, c')) 1 Z Z) (IP 0 Z Imp.nil).ent ⟨(a', c'), H, by rw [hA], Z, ?_⟩)
   rw [hA]
   rcases hH with h | ⟨h1, h2, h3⟩
   ·exact .inl ⟨rfl, .inl h⟩
   ·exact .inl ⟨rfl, .inr ⟨h1, .inl ⟨h2, h3⟩⟩⟩
  have k8' : ¬ x.kind % 14 = 8 := by omega
  refine xlf ?_
  refine CE (i := (x.kind : Int) % 14) (j := 9) Z (fun k9 => ?_) (fun k9 => ?_)
  ·have hA : x.act C n xms = (16, surX (x.ep n) ((x.a : Int) % 12), []) := by rw [XAct.act, if_neg k4', if_neg k5', if_neg k6', if_neg k7', if_neg k8', if_pos yd]
   refine xhm ?_
   refine xom ?_
   refine VG (VI (LB (pv := [(0, .int .i64 10), (1, .int .i64 (x.ep n)), (12, .int .i64 ((x.a : Int) % 12))]) (fgC (surX (x.ep n) ((x.a : Int) % 12)) mem0) Z Z Z ym Z) ?_)
   refine VG (VT (vs := fgC (surX (x.ep n) ((x.a : Int) % 12)) mem0) (cs' := fgC (surX (x.ep n) ((x.a : Int) % 12)) mem0) 0 Z Z Z Z (NR _) Z Z Z (VG (VN ?_)))
   show VC _ _ _ _ _
   exact CR (Ret.tmpCell 4 5 Z Z Z Z (RdL.many (ds := fgC (surX (x.ep n) ((x.a : Int) % 12)) mem0) 0 Z Z) (Imp.hp Imp.nil).ent ⟨(none, 0), hpure True, by rw [hA]; rfl, Z, .inr ⟨rfl, by rw [hA]; exact .inr Z⟩⟩)
  have k9' : ¬ x.kind % 14 = 9 := by omega
  refine xlf ?_
  refine CE (i := (x.kind : Int) % 14) (j := 13) Z (fun k13 => ?_) (fun k13 => CK ?_)
  rotate_left
  ·exact ⟨(), by rw [XAct.act, if_neg k4', if_neg k5', if_neg k6', if_neg k7', if_neg k8', if_neg k9', if_neg yd], sbZ, ER⟩
  have hA0 : x.act C n xms = if (x.a : Int) % 2 = 0 then (16, x.f, xms) else (prevOf n.ch n.id, x.f, xms) := by rw [XAct.act, if_neg k4', if_neg k5', if_neg k6', if_neg k7', if_neg k8', if_neg k9', if_pos yd]
  refine xlf ?_
  refine xom ?_
  refine xlf ?_
  refine CE (i := (x.a : Int) % 2) (j := 0) Z (fun k0 => ?_) (fun k0 => CK ?_)
  ·have hA : x.act C n xms = (16, x.f, xms) := by rw [hA0, if_pos k0]
   refine CS (CD (ts 0 3 (.only 3 .nil)) ym yq ?_)
   refine xon ?_
   refine xoo ?_
   show VC _ _ _ _ _
   exact xop
  ·have hA : x.act C n xms = (prevOf n.ch n.id, x.f, xms) := by rw [hA0, if_neg k0]
   refine CS (CD (ts 0 4 (.only 4 .nil)) ym yq ?_)
   refine xon ?_
   refine xoo ?_
   show VC _ _ _ _ _
   exact xop
 rintro _ hA
 have hb6 : 0 ≤ (x.b : Int) % 6 ∧ (x.b : Int) % 6 < 6 := ⟨Int.emod_nonneg _ yy, Int.emod_lt_of_pos _ yy⟩
 have hb4 : 0 ≤ (x.b : Int) / 6 % 4 ∧ (x.b : Int) / 6 % 4 < 4 := ⟨Int.emod_nonneg _ yy, Int.emod_lt_of_pos _ yy⟩
 refine CS (CD (ts 0 19 (.only 19 .nil)) ym yq ?_)
 refine xoq ?_
 refine xoq ?_
 refine xeg ?_
 refine VA.go (AI Z (light_quo _ Z Z yd yy (i64_in _ yd yd)) ?_)
 refine xoq ?_
 refine xeg ?_
 refine VA.go (AI Z (light_quo _ Z Z yd yy (i64_in _ yd yd)) ?_)
 refine xoq ?_
 refine xoq ?_
 refine VA.go (VA.ldA 1 x.op.cells Z Z Z Z Z ?_)
 refine VA.go (AI Z (LB (pv := [(0, .int .i64 1), (1, .int .i64 (x.ep n)), (2, .int .i64 ((x.a : Int) % 7)), (3, .int .i64 (1 + (x.b : Int) % 6)), (4, .int .i64 (1 + (x.b : Int) / 6 % 4)), (5, .int .i64 ((x.b : Int) / 24 % 5)), (6, .int .i64 ((x.c : Int) % 32)), (7, .agg x.op.cells.toArray)]) (fgC (x.call (x.ep n)) mem0) Z Z Z ym Z) ?_)
 refine VA.go (AT (vs := fgC (x.call (x.ep n)) mem0) (cs' := fgC (x.call (x.ep n)) mem0) 0 Z Z Z Z Z (NR _) Z Z Z yr (VA.go (AN ?_)))
 show VC _ _ _ _ _
 exact CR (Ret.tmpCell 4 5 Z Z Z Z (RdL.many (ds := fgC (x.call (x.ep n)) mem0) 0 Z Z) (Imp.hp Imp.nil).ent ⟨(none, 0), hpure True, by rw [hA]; rfl, Z, .inr ⟨rfl, by rw [hA]; exact .inr Z⟩⟩)
theorem frame_spec (x : XAct) (xms : List MemM) (hx : x.mn = xms.length) (hb : x.Byte) (h : SatIn Fr [nm0 p C ca cc m n] w) (hm : RwIn memC 2 Fr w m.1 n.ch.ms) (hl : n.ch.ms.length ≤ 1000) (he0 : 0 ≤ n.ch.epoch) (he1 : n.ch.epoch ≤ 4398046511104) (hno : 1 ≤ C.nodes) (hlog : n.log.length ≤ 4096) :
  Tri Tryz.prog 30 [.agg (xaC x).toArray, .pointer (some ⟨p, 0, none⟩)] Fr w [] (actR (x.act C n xms) m.1 n.ch.ms x.ma xms) := by
 have T := frameS_spec Fr w x xms hx hb h hm hl he0 he1 hno hlog
 exact ⟨T.callable, fun hl hs => Calls.mono (T.calls hl hs) fun e w' ⟨v, L', h1, ⟨g, H, e1, e2, h2⟩, h3, h4⟩ => ⟨v, L', h1, ⟨g, H, e1, e2, h2.a⟩, h3, h4⟩⟩
end
end Nd
namespace Nd
open Go Vg Go.ChangeShapes Go.WideShapes Go.ChangeAt Go.RowKit Sched Conf Adm Api
structure XAct.In (Fr : Nat → Prop) (w : World) (x : XAct) : Prop where
 byte : x.Byte
 idx : -9223372036854775808 ≤ x.f.entry.index ∧ x.f.entry.index ≤ 9223372036854775807
 ms : ∃ xms : List MemM, x.mn = xms.length ∧ RwIn memC 2 Fr w x.ma xms
theorem wf_i64 {a : Int} (w : (Lit.int .i64 a).wf = true) : -9223372036854775808 ≤ a ∧ a ≤ 9223372036854775807 := by
 simp [Lit.wf, IntKind.min, IntKind.max, IntKind.signed, IntKind.bits] at w; omega
theorem memFlat : flatT Tryz.prog 2 33 = some [3, 3] := by kernel_rfl
theorem leaf_mem {H : Type} {enc : TypeId × Value → H} {w : World} {base : Nat} {spare : Nat → Bool} {held : Bool} {cs : List Value} (hl : cs.length = 2)
  (h3 : ∀ (i : Nat) (v : Value) (u : TypeId), cs[i]? = some v → ([3, 3] : List TypeId)[i]? = some u → Leaf enc Tryz.prog w base spare held u v) : ∃ x : MemM, cs = memC x ∧ True := by
 match cs, hl, h3 with
 | [c1, c2], _, h3 =>
 obtain ⟨n1, rfl, _⟩ := (h3 0 c1 _ rfl rfl).int Tryz.underlying3
 obtain ⟨n2, rfl, _⟩ := (h3 1 c2 _ rfl rfl).int Tryz.underlying3
 exact ⟨(n1, n2), Z, trivial⟩
theorem xactsFlat : flatT Tryz.prog 5 67 = some [5, 5, 5, 5, 3, 9, 9, 3, 3, 3, 3, 3, 3, 3, 3, 3, 3, 9, 9, 3, 3, 9, 3, 3, 3, 3, 3, 3, 3, 9, 9, 3, 3, 34, 3, 3, 3, 3] := by kernel_rfl
theorem leaf_xacts {H : Type} {enc : TypeId × Value → H} {w : World} {base : Nat} {spare : Nat → Bool} {held : Bool} {cs : List Value} (hl : cs.length = 38)
  (h3 : ∀ (i : Nat) (v : Value) (u : TypeId), cs[i]? = some v → ([5, 5, 5, 5, 3, 9, 9, 3, 3, 3, 3, 3, 3, 3, 3, 3, 3, 9, 9, 3, 3, 9, 3, 3, 3, 3, 3, 3, 3, 9, 9, 3, 3, 34, 3, 3, 3, 3] : List TypeId)[i]? = some u → Leaf enc Tryz.prog w base spare held u v) : ∃ x : XAct, cs = xaC x ∧ x.In (fun b => b < w.heap.size) w := by
 match cs, hl, h3 with
 | u0 :: u1 :: u2 :: u3 :: u4 :: u5 :: u6 :: u7 :: u8 :: u9 :: u10 :: u11 :: u12 :: u13 :: u14 :: u15 :: u16 :: u17 :: u18 :: u19 :: u20 :: u21 :: u22 :: u23 :: u24 :: u25 :: u26 :: u27 :: u28 :: u29 :: u30 :: u31 :: u32 :: u33 :: u34 :: u35 :: u36 :: u37 :: [], _, h3 =>
 obtain ⟨n0, rfl, hw0⟩ := (h3 0 u0 _ rfl rfl).int Tryz.underlying5
 obtain ⟨n1, rfl, hw1⟩ := (h3 1 u1 _ rfl rfl).int Tryz.underlying5
 obtain ⟨n2, rfl, hw2⟩ := (h3 2 u2 _ rfl rfl).int Tryz.underlying5
 obtain ⟨n3, rfl, hw3⟩ := (h3 3 u3 _ rfl rfl).int Tryz.underlying5
 obtain ⟨n4, rfl, _⟩ := (h3 4 u4 _ rfl rfl).int Tryz.underlying3
 obtain ⟨s5, rfl, _⟩ := (h3 5 u5 _ rfl rfl).str Tryz.underlying9
 obtain ⟨s6, rfl, _⟩ := (h3 6 u6 _ rfl rfl).str Tryz.underlying9
 obtain ⟨n7, rfl, _⟩ := (h3 7 u7 _ rfl rfl).int Tryz.underlying3
 obtain ⟨n8, rfl, _⟩ := (h3 8 u8 _ rfl rfl).int Tryz.underlying3
 obtain ⟨n9, rfl, _⟩ := (h3 9 u9 _ rfl rfl).int Tryz.underlying3
 obtain ⟨n10, rfl, _⟩ := (h3 10 u10 _ rfl rfl).int Tryz.underlying3
 obtain ⟨n11, rfl, _⟩ := (h3 11 u11 _ rfl rfl).int Tryz.underlying3
 obtain ⟨n12, rfl, _⟩ := (h3 12 u12 _ rfl rfl).int Tryz.underlying3
 obtain ⟨n13, rfl, _⟩ := (h3 13 u13 _ rfl rfl).int Tryz.underlying3
 obtain ⟨n14, rfl, _⟩ := (h3 14 u14 _ rfl rfl).int Tryz.underlying3
 obtain ⟨n15, rfl, _⟩ := (h3 15 u15 _ rfl rfl).int Tryz.underlying3
 obtain ⟨n16, rfl, _⟩ := (h3 16 u16 _ rfl rfl).int Tryz.underlying3
 obtain ⟨s17, rfl, _⟩ := (h3 17 u17 _ rfl rfl).str Tryz.underlying9
 obtain ⟨s18, rfl, _⟩ := (h3 18 u18 _ rfl rfl).str Tryz.underlying9
 obtain ⟨n19, rfl, _⟩ := (h3 19 u19 _ rfl rfl).int Tryz.underlying3
 obtain ⟨n20, rfl, _⟩ := (h3 20 u20 _ rfl rfl).int Tryz.underlying3
 obtain ⟨s21, rfl, _⟩ := (h3 21 u21 _ rfl rfl).str Tryz.underlying9
 obtain ⟨n22, rfl, _⟩ := (h3 22 u22 _ rfl rfl).int Tryz.underlying3
 obtain ⟨n23, rfl, _⟩ := (h3 23 u23 _ rfl rfl).int Tryz.underlying3
 obtain ⟨n24, rfl, _⟩ := (h3 24 u24 _ rfl rfl).int Tryz.underlying3
 obtain ⟨n25, rfl, hw25⟩ := (h3 25 u25 _ rfl rfl).int Tryz.underlying3
 obtain ⟨n26, rfl, _⟩ := (h3 26 u26 _ rfl rfl).int Tryz.underlying3
 obtain ⟨n27, rfl, _⟩ := (h3 27 u27 _ rfl rfl).int Tryz.underlying3
 obtain ⟨n28, rfl, _⟩ := (h3 28 u28 _ rfl rfl).int Tryz.underlying3
 obtain ⟨s29, rfl, _⟩ := (h3 29 u29 _ rfl rfl).str Tryz.underlying9
 obtain ⟨s30, rfl, _⟩ := (h3 30 u30 _ rfl rfl).str Tryz.underlying9
 obtain ⟨n31, rfl, _⟩ := (h3 31 u31 _ rfl rfl).int Tryz.underlying3
 obtain ⟨n32, rfl, _⟩ := (h3 32 u32 _ rfl rfl).int Tryz.underlying3
 obtain ⟨fm, xm, hfm⟩ := h3 33 u33 _ rfl rfl
 obtain ⟨a33, k33, ms33, rfl, _, _, hms⟩ := open_rows (α := MemM) memC (fun _ => True) Tryz.underlying34 memFlat ym yy (fun cs hl hc => leaf_mem hl hc) hfm
 obtain ⟨n34, rfl, _⟩ := (h3 34 u34 _ rfl rfl).int Tryz.underlying3
 obtain ⟨n35, rfl, _⟩ := (h3 35 u35 _ rfl rfl).int Tryz.underlying3
 obtain ⟨n36, rfl, _⟩ := (h3 36 u36 _ rfl rfl).int Tryz.underlying3
 obtain ⟨n37, rfl, _⟩ := (h3 37 u37 _ rfl rfl).int Tryz.underlying3
 have b0 := wf_byte hw0; have b1 := wf_byte hw1; have b2 := wf_byte hw2; have b3 := wf_byte hw3
 refine ⟨⟨n0.toNat, n1.toNat, n2.toNat, n3.toNat, ⟨n4, s5, s6, n7⟩, n8, ⟨n9, n10, n11, n12, n13, n14, n15, ⟨n16, s17, s18, n19⟩, ⟨n20, s21, n22, n23⟩, n24, ⟨n25, n26, n27, ⟨n28, s29, s30, n31⟩⟩, n32, n34, n35, n36, n37⟩, a33, ms33.length, k33⟩, ?_, ⟨by show n0.toNat ≤ 255; omega, by show n1.toNat ≤ 255; omega, by show n2.toNat ≤ 255; omega, by show n3.toNat ≤ 255; omega⟩, wf_i64 hw25, ⟨ms33, Z, ⟨hms⟩⟩⟩
 rw [xaC, Int.toNat_of_nonneg b0.1, Int.toNat_of_nonneg b1.1, Int.toNat_of_nonneg b2.1, Int.toNat_of_nonneg b3.1]
 rfl
theorem open_acts {H : Type} {enc : TypeId × Value → H} {w : World} {base0 base : Nat} {spare : Nat → Bool} {held : Bool} {v : Value} {d : DataW H} {ps : List MemPlace}
  (hval : Value.okWide Tryz.prog w .any base0 60 v) (h : DataW.Trod enc Tryz.prog w base spare held 60 v d ps) :
  ∃ (a : Option Addr) (tc : Nat) (l : List XAct), v = .slice a l.length tc ∧ l.length ≤ 9223372036854775807 ∧ (∀ x ∈ l, x.In (fun b => b < w.heap.size) w) ∧ RwIn xaC 38 (fun b => b < w.heap.size) w a l := by
 obtain ⟨a0, n0, c0, rfl⟩ := okWide_slice Tryz.underlying60 hval
 obtain ⟨fuel, hf⟩ := h
 obtain ⟨a, tc, l, e, h1, h2, h3⟩ := open_rows (α := XAct) xaC (XAct.In (fun b => b < w.heap.size) w) Tryz.underlying60 xactsFlat ym yy (fun cs hl hc => leaf_xacts hl hc) hf
 have hm : maxLen ≤ 9223372036854775807 := by decide
 exact ⟨a, tc, l, e, by omega, h2, ⟨h3⟩⟩
end Nd
namespace Nd
open Go Vg T Api Kv Ch Lg Rd Win Adm Sched Conf Rep Ref16 Rk
structure LawI (C : ConfM) (k : Nat) (R : RepM) (n : NdM) : Prop where
 r : RInv C R
 e : REq R n
 few : few R.adm.sch (6240 * k)
 last : R.rds.last ≤ k
section
variable {C : ConfM} {R : RepM} {n : NdM} {k : Nat}
theorem LawI.new {c : ConfM} (h : c = fitM c) (id : Int) (blank : Bool) {x : NdS} (hx : ndOk (Rep.newR c id blank) x) : LawI c 0 (Rep.newR c id blank) (ofNd (Rep.newR c id blank) x) := by
 obtain ⟨h1, h2⟩ := newR_inv h id blank
 refine ⟨h1, ofNd_eq hx h2, few_new c id blank, ?_⟩
 unfold Rep.newR
 split
 ·exact Int.le_refl _
 split <;> exact Int.le_refl _
theorem LawI.mono {j : Nat} (h : LawI C k R n) (hj : k ≤ j) : LawI C j R n := ⟨h.r, h.e, few_mono h.few yd, by have := h.last; omega⟩
theorem LawI.take (h : LawI C k R n) (hk : k ≤ 100000) (from_ : Int) (f : FrameM) (ms : List MemM) {now : Int} (h0 : 0 ≤ now) : LawI C (k + 1) (takeR R from_ f ms now).1 (n.take C from_ f ms now) :=
 ⟨h.r.take (by have := h.last; omega) from_ f ms now, (h.e.take h.r from_ f ms h0).1, few_mono (few_take h.r h.few from_ f ms now) yd, by have := last_take h.r from_ f ms now; have := h.last; omega⟩
theorem LawI.step (h : LawI C k R n) {now : Int} (h0 : 0 ≤ now) : LawI C (k + 1) (stepR R now).1 (n.step C now) :=
 ⟨h.r.step now, (h.e.step h.r h0).1, few_mono (few_step h.e h.r h.few h0) yd, by rw [last_step]; have := h.last; omega⟩
theorem LawI.tick (h : LawI C k R n) : LawI C (k + 1) (tickR R).1 (n.tick C) := by
 have e : (tickR R).1.adm = R.adm ∧ (tickR R).1.rds = R.rds := by
  show (tick1 R).adm = _ ∧ (tick1 R).rds = _
  unfold tick1; split <;> exact ⟨rfl, rfl⟩
 exact ⟨h.r.tick, (h.e.tick h.r).1, by rw [e.1]; exact few_mono h.few yd, by rw [e.2]; have := h.last; omega⟩
theorem LawI.nw (h : LawI C k R n) (hk : k ≤ 100000) : NdW C 900000000 n := h.e.nw h.r (few_mono h.few yd)
theorem RInv.chE (i : RInv C R) : 0 ≤ R.ch.epoch ∧ R.ch.epoch ≤ 1099511627776 ∧ R.ch.ms.length ≤ 6 := by
 rcases i.ch with h | h
 ·rw [h]; exact ⟨by decide, by decide, by decide⟩
 ·have := chOk_head h; omega
end
def memS (Fr : Nat → Prop) (w : World) (m : MemP) (ms : List MemM) (H : HP) : Prop := (∃ c, H = slH memT 2 m.1 ms.length c (flat memC ms)) ∨ RwIn memC 2 Fr w m.1 ms
theorem memS.rd {X : Cx} {m : MemP} {ms : List MemM} {H : HP} (h : memS X.Fr X.w0 m ms H) {Fr' : Nat → Prop} {w : World} {L : List HP} (hF : ∀ b, X.Fr b → Fr' b) (hs : St X L w) {M : List HP} (hS : SatIn Fr' M w) (i : Nat) (hi : M[i]? = some H) : RwIn memC 2 Fr' w m.1 ms := by
 rcases h with ⟨c, rfl⟩ | h
 ·exact RwIn.slH memC_len (hS.at_ i hi)
 ·exact h.of hF hs
def memP (Fr : Nat → Prop) (w : World) (m : MemP) (ms : List MemM) (H H2 : HP) : Prop := memS Fr w m ms H ∨ memS Fr w m ms H2
theorem memP.rd {X : Cx} {m : MemP} {ms : List MemM} {H H2 : HP} (h : memP X.Fr X.w0 m ms H H2) {Fr' : Nat → Prop} {w : World} {L : List HP} (hF : ∀ b, X.Fr b → Fr' b) (hs : St X L w) {M : List HP} (hS : SatIn Fr' M w) (i j : Nat) (hi : M[i]? = some H) (hj : M[j]? = some H2) : RwIn memC 2 Fr' w m.1 ms := by
 rcases h with h | h
 ·exact h.rd hF hs hS i hi
 ·exact h.rd hF hs hS j hj
theorem memA.p {Fr : Nat → Prop} {w : World} {m g : MemP} {ms ms0 ms1 : List MemM} {a1 : Option Addr} {H H2 : HP} (h : memA g ms m.1 ms0 a1 ms1 H2) (h0 : memS Fr w m ms0 H) (h1 : RwIn memC 2 Fr w a1 ms1) : memP Fr w g ms H H2 := by
 rcases h with h | ⟨_, ⟨a, b⟩ | ⟨a, b⟩ | a⟩
 ·exact .inr (.inl ⟨_, h⟩)
 ·refine .inl ?_
  rcases h0 with ⟨c, h0⟩ | h0
  ·exact .inl ⟨c, by rw [a, b]; exact h0⟩
  ·exact .inr (by rw [a, b]; exact h0)
 ·exact .inl (.inr (by rw [a, b]; exact h1))
 ·exact .inl (.inr (by rw [a]; exact RwIn.nil))
theorem memP.ite {Fr : Nat → Prop} {w : World} {m g : MemP} {ms ms0 : List MemM} {H H2 : HP} (h0 : memP Fr w m ms0 H H2) (h : memP Fr w g ms H H2) (b : Prop) [Decidable b] : memP Fr w (if b then g else m) (if b then ms else ms0) H H2 := by
 by_cases hb : b
 ·rw [if_pos hb, if_pos hb]; exact h
 ·rw [if_neg hb, if_neg hb]; exact h0
section
variable {C : ConfM} {R : RepM} {n : NdM}
theorem takeR_ch (R : RepM) (from_ : Int) (f : FrameM) (ms : List MemM) (now : Int) : (takeR R from_ f ms now).1.ch = if f.kind = 8 ∧ from_ = 16 ∧ R.ch.epoch < f.cepoch ∧ chE (frCh f ms) = 0 then frCh f ms else R.ch := by
 have fin : ∀ Q : RepM, Q.finishR.ch = Q.ch := fun Q => by unfold RepM.finishR; split <;> rfl
 have bec : ∀ Q : RepM, Q.becomeR.ch = Q.ch := fun Q => by unfold RepM.becomeR; split <;> rfl
 obtain ⟨T, hT⟩ : ∃ T, T = if f.kind = 8 ∧ from_ = 16 ∧ R.ch.epoch < f.cepoch ∧ chE (frCh f ms) = 0 then frCh f ms else R.ch := ⟨_, rfl⟩
 rw [← hT]
 have no : f.kind ≠ 8 → R.ch = T := fun h => by rw [hT, if_neg (fun k => h k.1)]
 unfold takeR
 split
 ·have no := no yd
  split
  ·exact no
  split
  ·exact no
  split
  ·unfold readR; split <;> exact no
  ·obtain ⟨A, hA, _⟩ := upd_form R f now
   rw [hA]; exact no
 split
 ·rename_i h8
  by_cases h : (from_ = 16 ∧ chE (frCh f ms) = 0) ∧ R.ch.epoch < f.cepoch
  ·rw [if_pos h, hT, if_pos ⟨h8, h.1.1, h.2, h.1.2⟩]
   show (Rep.ent5 R (frCh f ms)).finishR.ch = _
   rw [fin]; unfold Rep.ent5; split <;> rfl
  ·rw [if_neg h, hT, if_neg (fun k => h ⟨⟨k.2.1, k.2.2.2⟩, k.2.2.1⟩)]
 rename_i h1 h8
 have no := no h8
 split
 ·split
  ·unfold forwardR
   split
   ·show (Rep.pushE R f.entry).finishR.becomeR.ch = _
    rw [bec, fin]; exact no
   ·exact no
  ·exact no
 split
 ·split
  ·show (Rep.ack2 R f).ch = _
   unfold Rep.ack2 Rep.ack1; dsimp only; split <;> exact no
  ·exact no
 split
 ·split
  ·show (Rep.baseR R f.index).becomeR.ch = _
   rw [bec]; exact no
  ·exact no
 split
 ·split <;> exact no
 ·exact no
theorem take_ms (e : REq R n) (i : RInv C R) (from_ : Int) (f : FrameM) (ms : List MemM) {now : Int} (h0 : 0 ≤ now) : (n.take C from_ f ms now).ch.ms = if n.enters from_ f ms then ms else n.ch.ms := by
 rw [(e.take i from_ f ms h0).1.ch, takeR_ch]
 by_cases h : n.enters from_ f ms
 ·rw [if_pos h, if_pos ⟨h.1, h.2.1, by rw [← e.ch]; exact h.2.2.1, h.2.2.2⟩]; rfl
 ·rw [if_neg h, if_neg (fun k => h ⟨k.1, k.2.1, by rw [e.ch]; exact k.2.2.1, k.2.2.2⟩), e.ch]
theorem chain_len {c : ChM} (h : c.ms.length ≤ 6) (a b k : Int) : (chainM c a b k).ms.length ≤ 1000 := by
 have f := List.length_filter_le (fun m : MemM => !decide (m.1 = b % k)) c.ms
 have z : chZ.ms.length ≤ 1000 := by decide
 unfold chainM
 split
 ·show 1 ≤ 1000; decide
 ·unfold chainD
  split
  ·unfold withM; repeat' split
   ·exact z
   ·exact z
   ·show (c.ms ++ [_]).length ≤ 1000; rw [List.length_append]; simp; omega
  split
  ·unfold withoutM; split
   ·exact z
   ·show (c.ms.filter _).length ≤ 1000; omega
  split
  ·unfold drainM; repeat' split
   ·exact z
   ·exact z
   ·show c.ms.length ≤ 1000; omega
  ·show c.ms.length ≤ 1000; omega
theorem act_len {x : XAct} {xms : List MemM} (h : n.ch.ms.length ≤ 6) (hx : xms.length ≤ 10) : (x.act C n xms).2.2.length ≤ 1000 := by
 have h0 : ([] : List MemM).length ≤ 1000 := by decide
 unfold XAct.act
 repeat' split
 all_goals first | exact h0 | (show xms.length ≤ 1000; omega) | exact chain_len h _ _ _
theorem act_idx {x : XAct} {xms : List MemM} (hl : n.log.length ≤ 4096) (hx : -9223372036854775808 ≤ x.f.entry.index ∧ x.f.entry.index ≤ 9223372036854775807) : -9223372036854775808 ≤ (x.act C n xms).2.1.entry.index ∧ (x.act C n xms).2.1.entry.index ≤ 9223372036854775807 := by
 have z : -9223372036854775808 ≤ (0 : Int) ∧ (0 : Int) ≤ 9223372036854775807 := ⟨by decide, by decide⟩
 have y : -9223372036854775808 ≤ (n.log.length : Int) + 1 ∧ (n.log.length : Int) + 1 ≤ 9223372036854775807 := ⟨by omega, by omega⟩
 unfold XAct.act
 repeat' split
 all_goals first | exact hx | exact z | exact y
end
structure LawS where
 R : RepM
 n : NdM
 m : MemP
 H : HP
def lawH (r q : Nat) (C : ConfM) (a : Option Addr) (cap : Nat) (s : LawS) (M : List HP) : List HP := repH r s.R :: nm0 q C a cap s.m s.n :: s.H :: intH a cap C.qs :: M
def lawI (Fr : Nat → Prop) (w : World) (C : ConfM) (k : Nat) (s : LawS) : Prop := LawI C k s.R s.n ∧ memS Fr w s.m s.n.ch.ms s.H
theorem bad_ms {x : XAct} {xms : List MemM} (h : x.bad = false) (hx : x.mn = xms.length) : xms.length ≤ 10 := by
 simp only [XAct.bad, Bool.or_eq_false_iff, decide_eq_false_iff_not] at h
 omega
theorem great_no {l : List XAct} {most : Int} (h : greatB l most = false) : (∀ x ∈ l, x.bad = false) ∧ (l.length : Int) ≤ most := by
 simp only [greatB, Bool.or_eq_false_iff, decide_eq_false_iff_not, List.any_eq_false] at h
 exact ⟨fun x hx => by simpa using h.1 x hx, by omega⟩
theorem newT_spec {c : ConfM} {a : Option Addr} {cap : Nat} (hq : IntsIn Fr w a c.qs) (ha : AdOk a) (hcap : c.qs.length ≤ cap) (hf : c = fitM c) {id : Int} (h0 : 0 ≤ id) (h1 : id < c.nodes) (blank : Bool) : Tri Tryz.prog 14 [.agg (c.cells a cap).toArray, .int .i64 id, .bool blank] Fr w []
  (fun v L => ∃ p, v = .tuple #[.pointer (some ⟨p, 0, none⟩), .int .i64 0] ∧ L = [repH p (Rep.newR c id blank)]) := by
 have := Rep.new_spec Fr w c a cap hq ha hcap id blank
 simp only [if_pos (show newOkB c id from ⟨hf, h0, h1⟩)] at this
 exact this
theorem nnewT_spec {c : ConfM} {a : Option Addr} {cap : Nat} (hq : IntsIn Fr w a c.qs) (hf : c = fitM c) {id : Int} (h0 : 0 ≤ id) (h1 : id < c.nodes) (blank : Bool) : Tri Tryz.prog 25 [.agg (c.cells a cap).toArray, .int .i64 id, .bool blank] Fr w []
  (fun v L => ∃ p, v = .tuple #[.pointer (some ⟨p, 0, none⟩), .int .i64 0] ∧ L = [ndH p c a cap (Rep.newR c id blank)]) := by
 have hl : c.qs.length ≤ 1000 := by
  have h2 : c.qs = qFit c.qs := congrArg ConfM.qs hf
  have := qFit_len c.qs
  rw [← h2] at this; omega
 have := Nd.rnew_spec Fr w c a cap hq hl id blank
 simp only [if_pos (show newOkB c id from ⟨hf, h0, h1⟩)] at this
 exact this
end Nd
namespace Nd
open Go Vg Api Kv Ch Lg Rd Win Adm Sched Conf Rep
structure Cr (R Q : RepM) : Prop where
 log : R.log <+: Q.log
 done : R.win.done ≤ Q.win.done
 limit : Q.win.limit = R.win.limit
 ch : Q.ch = R.ch
 since : Q.since = R.since
 id : Q.id = R.id
theorem Cr.refl (R : RepM) : Cr R R := ⟨List.prefix_refl _, Int.le_refl _, rfl, rfl, rfl, rfl⟩
theorem Cr.trans {R Q P : RepM} (h : Cr R Q) (k : Cr Q P) : Cr R P := ⟨h.log.trans k.log, Int.le_trans h.done k.done, k.limit.trans h.limit, k.ch.trans h.ch, k.since.trans h.since, k.id.trans h.id⟩
def Quiet (S : List SndM) : Prop := ∀ s ∈ S, s.2.kind ≠ 4
theorem Quiet.nil : Quiet [] := fun s h => by cases h
theorem Quiet.app {S T : List SndM} (h : Quiet S) (k : Quiet T) : Quiet (S ++ T) := fun s hs => by
 rcases List.mem_append.1 hs with h1 | h1
 ·exact h s h1
 ·exact k s h1
theorem Quiet.one {s : SndM} (h : s.2.kind ≠ 4) : Quiet [s] := fun t ht => by rw [List.mem_singleton.1 ht]; exact h
theorem quiet_refs (e : Int) (gs : List FrameM) (z : Int) : Quiet (refs e gs z) := fun s hs => by
 obtain ⟨f, _, rfl⟩ := List.mem_map.1 hs
 exact ydg
theorem quiet_finish (R : RepM) : Quiet R.finishM := by
 unfold RepM.finishM; split
 ·intro s hs
  obtain ⟨j, _, rfl⟩ := List.mem_map.1 hs
  exact ydh
 ·exact Quiet.nil
theorem quiet_greet (R : RepM) : Quiet R.greetM := by
 unfold RepM.greetM; split
 ·exact Quiet.nil
 ·exact Quiet.one (by show (5 : Int) ≠ 4; decide)
theorem quiet_base (R : RepM) : Quiet R.baseM := by
 unfold RepM.baseM; split
 ·exact Quiet.one (by show (6 : Int) ≠ 4; decide)
 ·exact Quiet.nil
theorem quiet_become (R : RepM) : Quiet R.becomeM := by
 unfold RepM.becomeM; split
 ·exact quiet_base _
 ·exact Quiet.nil
theorem ack_done (W : WinM) (i : Int) : W.done ≤ (W.ack i).done ∧ (W.ack i).limit = W.limit := by
 unfold WinM.ack; split
 ·rename_i h
  simp only [WinM.ackB, Bool.and_eq_true, decide_eq_true_eq] at h
  exact ⟨by show W.done ≤ i; omega, Z⟩
 ·exact ⟨Int.le_refl _, Z⟩
theorem cr_finish (R : RepM) : Cr R R.finishR := by
 unfold RepM.finishR; split
 ·exact ⟨List.prefix_refl _, (ack_done _ _).1, (ack_done _ _).2, Z, Z, Z⟩
 ·exact Cr.refl R
theorem cr_become (R : RepM) : Cr R R.becomeR := by
 unfold RepM.becomeR; split
 ·exact ⟨List.prefix_refl _, Int.le_refl _, Z, Z, Z, Z⟩
 ·exact Cr.refl R
theorem cr_push (R : RepM) (e : EntryM) : Cr R (pushE R e) := ⟨List.prefix_append _ _, Int.le_refl _, rfl, rfl, rfl, rfl⟩
theorem cr_forward (R : RepM) (e : EntryM) : Cr R (forwardR R e).1 ∧ Quiet (forwardR R e).2 := by
 unfold forwardR; split
 ·exact ⟨((cr_push R e).trans (cr_finish _)).trans (cr_become _), ((quiet_finish _).app (quiet_become _)).app (quiet_greet _)⟩
 ·exact ⟨Cr.refl R, quiet_greet R⟩
theorem cr_serve (R : RepM) (now : Int) : Cr R (serveR R now).1 ∧ Quiet (serveR R now).2.1 := by
 unfold serveR
 split
 ·exact ⟨⟨List.prefix_refl _, Int.le_refl _, Z, Z, Z, Z⟩, quiet_refs _ _ _⟩
 split
 ·exact ⟨⟨List.prefix_refl _, Int.le_refl _, Z, Z, Z, Z⟩, (quiet_refs _ _ _).app (Quiet.one ydg)⟩
 ·have h : Cr R (Rep.nextA R now) := ⟨List.prefix_refl _, Int.le_refl _, rfl, rfl, rfl, rfl⟩
  exact ⟨(h.trans (cr_push _ _)).trans (cr_finish _), (quiet_refs _ _ _).app (quiet_finish _)⟩
theorem cr_loop (now : Int) : ∀ (k : Nat) (R : RepM), Cr R (serveLoop now k R).1 ∧ Quiet (serveLoop now k R).2
 | 0, R => ⟨Cr.refl R, Quiet.nil⟩
 | k + 1, R => by
  rw [serveLoop]
  obtain ⟨h1, h2⟩ := cr_serve R now
  split
  ·split
   ·obtain ⟨h3, h4⟩ := cr_loop now k (serveR R now).1
    exact ⟨h1.trans h3, h2.app h4⟩
   ·exact ⟨h1, h2⟩
  ·exact ⟨Cr.refl R, Quiet.nil⟩
def passS (Q : RepM) (s : Int) (k : Nat) : List SndM := (List.range k).map fun j => (Q.nextM, forwardF Q.ch.epoch ((atI Q.log (s + 1 + (j : Nat))).getD entZ))
theorem passN_is (R : RepM) : ∀ k, k ≤ passK R → (passN R k).2 = passS R R.win.sent k
 | 0, _ => rfl
 | k + 1, h => by
  rw [passN, passN_is R k yd, passN_win R k yd]
  unfold passS
  rw [List.range_succ, List.map_append]
  show _ ++ [(R.nextM, forwardF R.ch.epoch ((atI R.log (R.win.sent + k + 1)).getD entZ))] = _ ++ [(R.nextM, forwardF R.ch.epoch ((atI R.log (R.win.sent + 1 + k)).getD entZ))]
  rw [show R.win.sent + (k : Int) + 1 = R.win.sent + 1 + k by omega]
theorem cr_step (R : RepM) (now : Int) : Cr R (stepR R now).1 ∧ ∃ (A : List SndM) (s : Int) (k : Nat), (stepR R now).2 = A ++ passS (stepR R now).1 s k ∧ Quiet A ∧ (k ≠ 0 → 0 ≤ (step2 R now).1.win.sent → 0 ≤ s) ∧ s + k ≤ max s (min (stepR R now).1.win.last (stepR R now).1.win.limit) := by
 have e0 : Cr R (expR R now) := ⟨List.prefix_refl _, Int.le_refl _, rfl, rfl, rfl, rfl⟩
 have h2 : Cr R (step2 R now).1 ∧ Quiet (step2 R now).2 := by
  unfold Rep.step2; split
  ·obtain ⟨h3, h4⟩ := cr_loop now 65 (expR R now)
   exact ⟨e0.trans h3, h4⟩
  ·exact ⟨e0, Quiet.nil⟩
 have hE : Quiet (expS R now) := quiet_refs _ _ _
 obtain ⟨Q, hQ⟩ : ∃ Q, Q = step2 R now := ⟨_, rfl⟩
 have e1 : stepR R now = ((if Q.1.linked then passR Q.1 else (Q.1, [])).1, expS R now ++ Q.2 ++ (if Q.1.linked then passR Q.1 else (Q.1, [])).2) := by
  rw [hQ]; rfl
 rw [← hQ] at h2 ⊢
 rw [e1]
 split
 ·have hw := passN_win Q.1 (passK Q.1) (NR _)
  have hs := passN_is Q.1 (passK Q.1) (NR _)
  refine ⟨h2.1.trans ⟨List.prefix_refl _, ?_, ?_, Z, Z, Z⟩, expS R now ++ Q.2, Q.1.win.sent, passK Q.1, ?_, hE.app h2.2, fun _ h => h, ?_⟩
  ·show Q.1.win.done ≤ (passN Q.1 (passK Q.1)).1.done
   rw [hw]; exact Int.le_refl _
  ·show (passN Q.1 (passK Q.1)).1.limit = Q.1.win.limit
   rw [hw]
  ·show _ ++ (passN Q.1 (passK Q.1)).2 = _
   rw [hs]; rfl
  ·show _ ≤ max _ (min (passN Q.1 (passK Q.1)).1.last (passN Q.1 (passK Q.1)).1.limit)
   rw [hw]
   show Q.1.win.sent + ((passK Q.1 : Nat) : Int) ≤ max Q.1.win.sent (min Q.1.win.last Q.1.win.limit)
   unfold passK
   omega
 ·exact ⟨h2.1, expS R now ++ Q.2, 0, 0, by simp [passS], hE.app h2.2, fun h => absurd Z h, by simp; omega⟩
theorem cr_still {R : RepM} (h : R.whole = false) (now : Int) : (stepR R now).1.log = R.log := by
 have h1 : servesB (expR R now) = false := by
  show (_ && (R.whole && _)) = false
  rw [h]; simp
 have h2 : step2 R now = (expR R now, []) := by unfold Rep.step2; rw [h1]; rfl
 show (step3 R now).1.log = R.log
 unfold Rep.step3; rw [h2]; split <;> rfl
structure CrA (R Q : RepM) (from_ : Int) (f : FrameM) : Prop where
 kind : f.kind = 5
 epoch : f.epoch = R.ch.epoch
 next : 0 ≤ R.nextM ∧ from_ = R.nextM
 ch : Q.ch = R.ch
 since : Q.since = R.since
 log : Q.log = R.log
 done : R.win.done ≤ Q.win.done
 limit : Q.win.limit ≤ max R.win.limit f.grant
structure CrE (R Q : RepM) : Prop where
 epoch : R.ch.epoch < Q.ch.epoch
 limit : Q.win.limit = 0
 same : Q.since = R.since ∨ Q.since = 0 → R.log <+: Q.log ∧ R.win.done ≤ Q.win.done
theorem cr_enter (R : RepM) (c : ChM) (hc : chOk c = true) (he : R.ch.epoch < c.epoch) : CrE R (enterR R c).1 ∧ Quiet (enterR R c).2 := by
 have f := cr_finish (ent5 R c)
 have e5 : (ent5 R c).ch = c ∧ (ent5 R c).win.limit = 0 ∧ (ent5 R c).since = (sinceOf c R.id).1 ∧ (ent5 R c).log = (if nlB R c then [] else R.log) ∧ (ent5 R c).win.done = (if nlB R c then WinM.new R.cap else R.win).done := by
  unfold Rep.ent5; split <;> exact ⟨rfl, rfl, rfl, rfl, rfl⟩
 obtain ⟨c1, c2, c3, c4, c5⟩ := e5
 refine ⟨⟨?_, ?_, fun hs => ?_⟩, ?_⟩
 ·show R.ch.epoch < (ent5 R c).finishR.ch.epoch
  rw [f.ch, c1]; exact he
 ·show (ent5 R c).finishR.win.limit = 0
  rw [f.limit, c2]
 ·have hs : (sinceOf c R.id).1 = R.since ∨ (sinceOf c R.id).1 = 0 := by
   rw [← c3, ← f.since]; exact hs
  have hn : nlB R c = false := by
   cases hn : nlB R c with
   | false => rfl
   | true =>
    exfalso
    simp only [nlB, Bool.and_eq_true, decide_eq_true_eq] at hn
    rcases hs with hs | hs
    ·exact hn.2 hs
    ·have h2 := hn.1
     unfold sinceOf at h2 hs
     split at h2
     ·rename_i h3
      rw [if_pos h3] at hs
      obtain ⟨m, hm⟩ : ∃ m, c.ms[(placeOf c.ms R.id).toNat]? = some m := by
       unfold placeOf at h3 ⊢
       cases hf : c.ms.findIdx? (fun m => decide (m.1 = R.id)) with
       | none => rw [hf] at h3; have := h3.2; simp at this
       | some i =>
        have := (List.findIdx?_eq_some_iff_getElem.1 hf).1
        exact ⟨_, GE (by simpa using this)⟩
      rw [hm] at hs
      have := (chOk_mem hc hm).2.2.2.1
      have : m.2 = 0 := hs
      omega
     ·cases h2
  rw [hn] at c4 c5
  refine ⟨?_, ?_⟩
  ·have := f.log
   rw [c4] at this; exact this
  ·have := f.done
   rw [c5] at this; exact this
 ·exact ((((quiet_refs _ _ _).app (quiet_refs _ _ _)).app (quiet_finish _)).app (quiet_greet _)).app (quiet_base _) |>.app (Quiet.one (by show (11 : Int) ≠ 4; decide))
theorem quiet_update (R : RepM) (f : FrameM) (now : Int) : Quiet (updateR R f now).2 := by
 unfold updateR
 repeat' split
 ·exact Quiet.one ydh
 ·exact Quiet.nil
 ·exact Quiet.one ydg
 ·exact Quiet.one ydg
theorem cr_take (R : RepM) (from_ : Int) (f : FrameM) (ms : List MemM) (now : Int) :
  (Cr R (takeR R from_ f ms now).1 ∨ CrA R (takeR R from_ f ms now).1 from_ f ∨ CrE R (takeR R from_ f ms now).1) ∧ Quiet (takeR R from_ f ms now).2 := by
 have no : (Cr R R ∨ CrA R R from_ f ∨ CrE R R) ∧ Quiet [] := ⟨.inl (Cr.refl R), Quiet.nil⟩
 unfold takeR
 split
 ·split
  ·exact no
  split
  ·exact no
  split
  ·unfold readR; split
   ·exact ⟨.inl (Cr.refl R), Quiet.one ydg⟩
   ·exact ⟨.inl ⟨List.prefix_refl _, Int.le_refl _, Z, Z, Z, Z⟩, Quiet.one (by show (9 : Int) ≠ 4; decide)⟩
  ·refine ⟨?_, quiet_update R f now⟩
   obtain ⟨A, hA, _⟩ := upd_form R f now
   rw [hA]; exact .inl ⟨List.prefix_refl _, Int.le_refl _, rfl, rfl, rfl, rfl⟩
 split
 ·split
  ·rename_i h
   obtain ⟨h1, h2⟩ := cr_enter R (frCh f ms) (chE_ok.1 h.1.2) h.2
   exact ⟨.inr (.inr h1), h2⟩
  ·exact no
 split
 ·split
  ·exact ⟨.inl (cr_forward R f.entry).1, (cr_forward R f.entry).2⟩
  ·exact no
 split
 ·rename_i h5
  split
  ·rename_i h
   obtain ⟨k1, k2⟩ := h
   have k1 : f.epoch = R.ch.epoch := by simpa [RepM.knownB] using k1
   have k2 : 0 ≤ R.nextM ∧ from_ = R.nextM := by simpa [isNodeB] using k2
   refine ⟨.inr (.inl ⟨h5, k1, k2, ?_, ?_, ?_, ?_, ?_⟩), ?_⟩
   ·show (ack2 R f).ch = _
    unfold Rep.ack2 Rep.ack1; dsimp only; split <;> rfl
   ·show (ack2 R f).since = _
    unfold Rep.ack2 Rep.ack1; dsimp only; split <;> rfl
   ·show (ack2 R f).log = _
    unfold Rep.ack2 Rep.ack1; dsimp only; split <;> rfl
   ·refine Int.le_trans (b := (ack2 R f).win.done) ?_ (ack_done _ _).1
    unfold Rep.ack2 Rep.ack1; dsimp only; split <;> exact Int.le_refl _
   ·show ((ack2 R f).win.ack f.index).limit ≤ _
    rw [(ack_done _ _).2]
    have e : (ack1 R f).win.limit = R.win.limit := by unfold Rep.ack1; split <;> rfl
    show max (ack1 R f).win.limit (min f.grant 4112) ≤ _
    rw [e]; omega
   ·show Quiet (if _ then _ else _)
    split
    ·exact quiet_greet _
    ·exact Quiet.nil
  ·exact no
 split
 ·split
  ·have h : Cr R (baseR R f.index) := ⟨List.prefix_refl _, Int.le_refl _, rfl, rfl, rfl, rfl⟩
   exact ⟨.inl (h.trans (cr_become _)), quiet_become _⟩
  ·exact no
 split
 ·split
  ·refine ⟨.inl ⟨List.prefix_refl _, Int.le_refl _, Z, Z, Z, Z⟩, fun s hs => ?_⟩
   obtain ⟨y, _, rfl⟩ := List.mem_map.1 hs
   exact ydh
  ·exact no
 ·exact no
theorem cr_ask {R : RepM} (hw : R.whole = false) (hr : R.rds.l = []) (from_ : Int) {f : FrameM} (h1 : f.kind = 1) (ms : List MemM) (now : Int) : (takeR R from_ f ms now).1.rds.l = [] ∧ ∀ s ∈ (takeR R from_ f ms now).2, s.2.kind = 3 := by
 have no : R.rds.l = [] ∧ ∀ s ∈ ([] : List SndM), s.2.kind = 3 := ⟨hr, fun s h => by cases h⟩
 rw [takeR, if_pos h1]
 split
 ·exact no
 split
 ·exact no
 split
 ·have e1 : readReason R f now ≠ 0 := by
   unfold readReason
   rw [hw]
   split
   ·decide
   split
   ·decide
   ·simp
  unfold readR
  rw [if_pos e1]
  exact xor
 ·have j : (judgeM R f now).2.1 = resZ ∧ (judgeM R f now).1 ≠ 0 := by
   unfold judgeM
   rw [hw, if_pos (rfl : false = false)]
   repeat' split
   ·exact ⟨rfl, (by show (10 : Int) ≠ 0; decide)⟩
   ·exact ⟨rfl, (by show (7 : Int) ≠ 0; decide)⟩
   ·exact ⟨rfl, (by show (5 : Int) ≠ 0; decide)⟩
   ·exact ⟨rfl, (by show (4 : Int) ≠ 0; decide)⟩
   ·exact ⟨rfl, (by show (8 : Int) ≠ 0; decide)⟩
  have z : resZ.code = 0 := rfl
  unfold updateR
  rw [j.1, if_neg (by rw [z]; simp), if_neg j.2]
  split
  ·exact xor
  ·exact xor
end Nd
namespace Nd
open Go Vg T Api Kv Ch Lg Rd Win Adm Sched Conf Rep Rk
attribute [local irreducible] VO VC VA
def nextIn (ms : List MemM) (id : Int) : Int := if 0 ≤ placeOf ms id ∧ placeOf ms id + 1 < ms.length then ((ms[(placeOf ms id + 1).toNat]?).getD (0, 0)).1 else -1
def NdM.next19 (n : NdM) : Int := if 0 < n.since then nextIn n.ch.ms n.id else -1
theorem next19_spec {p : Nat} {C : ConfM} {ca : Option Addr} {cc : Nat} {m : MemP} {n : NdM} (h : SatIn Fr [nm0 p C ca cc m n] w) (hm : RwIn memC 2 Fr w m.1 n.ch.ms) (hl : n.ch.ms.length ≤ 1000) :
  Tri Tryz.prog 38 [.pointer (some ⟨p, 0, none⟩)] Fr w [] (fun v L => v = .int .i64 n.next19 ∧ L = []) := by
 obtain ⟨k, y, hn⟩ := nm0_of h
 have hnb := hn.blk
 refine TF 40 Tryz.func38 Z ym tabOk Z Z ?_
 (repeat (first|refine zS ?_|refine zR ?_|refine zB ?_|refine zL ?_|refine zC ?_|refine zG (zN ?_)|refine zG (zE rfl rfl (RdL.blk hnb rfl) ?_)))
 refine VC.loop (σ := Nat) (fun i => [(0, pV p), (3, .slice m.1 n.ch.ms.length m.2), (4, .int .i64 i)]) (fun _ => []) (fun i => i ≤ n.ch.ms.length ∧ ∀ j x, j < i → n.ch.ms[j]? = some x → x.1 ≠ n.id) (fun i => n.ch.ms.length - i) 0 ⟨Nat.zero_le _, fun j x h => absurd h (Nat.not_lt_zero j)⟩ sbZ ER ?_
 rintro i ⟨hi, hno⟩
 refine zpf ?_
 have last : n.ch.ms.length ≤ i + 1 → n.next19 = -1 := fun h1 => by
  unfold NdM.next19 nextIn
  split
  ·rw [if_neg]
   rintro ⟨h2, h3⟩
   obtain ⟨j, hj⟩ : ∃ j : Nat, placeOf n.ch.ms n.id = j := ⟨(placeOf n.ch.ms n.id).toNat, by omega⟩
   have hj2 : j < i := by omega
   unfold placeOf at hj
   cases hf : n.ch.ms.findIdx? (fun m => decide (m.1 = n.id)) with
   | none => rw [hf] at hj; simp at hj
   | some q =>
    rw [hf] at hj
    obtain ⟨h4, h5, _⟩ := List.findIdx?_eq_some_iff_getElem.1 hf
    have : q = j := by have h6 : (q : Int) = j := hj; omega
    subst this
    exact hno q _ hj2 (GE h4) (by simpa using h5)
  ·rfl
 by_cases h1 : i + 1 < n.ch.ms.length
 rotate_left
 ·refine VG (VY 15 false Z (DF yd) ?_)
  refine xel ?_
  refine VC.condF Z (CX ?_)
  refine xdy ?_
  exact CR (Ret.int 2 Z Z Z ER ⟨by rw [last yd], Z⟩)
 refine VG (VY 15 true Z (DT yd) ?_)
 (repeat (first|refine zS ?_|refine zR ?_|refine zB ?_|refine zL ?_|refine zC ?_|refine zG (zN ?_)|refine zG (zE rfl rfl (RdL.blk hnb rfl) ?_)|refine zG (zU rfl rfl rfl ?_)))
 refine CP (p := 0 < n.since) Z (fun h2 => CK ?_) (fun h2 => CX ?_)
 rotate_left
 ·refine xdy ?_
  exact CR (Ret.int 2 Z Z Z ER ⟨by rw [NdM.next19, if_neg h2], Z⟩)
 obtain ⟨x, hx⟩ : ∃ x, n.ch.ms[i]? = some x := ⟨_, GE yd⟩
 obtain ⟨x2, hx2⟩ : ∃ x, n.ch.ms[i + 1]? = some x := ⟨_, GE yd⟩
 obtain ⟨mb, mo, hma, ra, rc⟩ := RwIn.rd (X := ⟨Tryz.prog, tab, tabOk, 40, Fr, w⟩) hm hx
 obtain ⟨mb2, mo2, hma2, ra2, rc2⟩ := RwIn.rd (X := ⟨Tryz.prog, tab, tabOk, 40, Fr, w⟩) hm hx2
 cases hma.symm.trans hma2
 rw [hma]
 refine CS ?_
 refine VC.meetS (σ := Unit) (fun _ => [(0, pV p), (3, .slice (some ⟨mb, mo, none⟩) n.ch.ms.length m.2), (4, .int .i64 i)]) (fun _ => []) (fun _ => x.1 ≠ n.id) ?_ ?_
 rotate_left
 ·rintro _ hne
  refine zpg ?_
  refine ⟨i + 1, ⟨by omega, fun j z hj hz => ?_⟩, by dsimp only; omega, sbZ, ER⟩
  by_cases h3 : j = i
  ·subst h3; rw [hx] at hz; cases hz; exact hne
  ·exact hno j z yd hz
 refine VC.block (CS ?_)
 refine CD (ts 0 10 .nil) ym yq ?_
 refine xok ?_
 refine VA.go (AI Z (light_idx i Z Z Z Z Z Z yd) ?_)
 refine xgs ?_
 refine xok ?_
 refine CE (i := x.1) (j := n.id) Z (fun h3 => ?_) (fun h3 => CK ?_)
 rotate_left
 ·exact ⟨(), h3, sbZ, ER⟩
 have hpl : placeOf n.ch.ms n.id = i := place_hit hx h3 (fun j z hj hz => hno j z hj hz)
 have hres : n.next19 = x2.1 := by
  unfold NdM.next19 nextIn
  rw [if_pos h2, hpl, if_pos ⟨by omega, by omega⟩, show ((i : Int) + 1).toNat = i + 1 by omega, hx2]; rfl
 refine zpf ?_
 refine VG (VI (light_idx (i + 1) Z Z Z Z Z Z yd) ?_)
 refine VG (VD Z Z (rc2 _ _ 0 _ Z Z) ?_)
 refine xdy ?_
 exact CR (Ret.int 2 Z Z Z ER ⟨by rw [hres], Z⟩)
theorem next19_is {C : ConfM} {R : RepM} {n : NdM} (e : REq R n) (i : RInv C R) : n.next19 = R.nextM := by
 unfold NdM.next19 nextIn RepM.nextM nextOf memAt
 rw [e.since, e.ch, e.id]
 by_cases h : 0 < R.since
 ·obtain ⟨h1, h2⟩ := i.in_
  have hp := h1.1 h
  rw [if_pos h, if_neg (show ¬ placeOf R.ch.ms R.id < 0 by omega)]
  by_cases h3 : placeOf R.ch.ms R.id + 1 < R.ch.ms.length
  ·rw [if_pos ⟨hp, h3⟩, if_pos ⟨h2 hp, by omega, h3⟩]
  ·rw [if_neg (fun k => h3 k.2), if_neg (fun k => h3 k.2.2)]
 ·obtain ⟨h1, h2⟩ := i.in_
  rw [if_neg h, if_pos (by
   have : ¬ 0 ≤ placeOf R.ch.ms R.id := fun k => h (h1.2 k)
   omega)]
end Nd
namespace Nd
open Go Vg T Api Kv Ch Lg Rd Win Adm Sched Conf Rep Rk
attribute [local irreducible] VO VC VA
theorem rwin_sub {α : Type} {c : α → List Value} {n : Nat} {X : Cx} {a : Option Addr} {l : List α} (h : RwIn c n X.Fr X.w0 a l) {i : Nat} {x : α} (hx : l[i]? = some x) : ∃ b off, a = some ⟨b, off, none⟩ ∧
  (∀ (L : List HP) (ti : TI) (j : Nat) (ds : List Value), ti.und.agg = true → j + ti.size ≤ n → ((c x).drop j).take ti.size = ds → ds.length = ti.size → RdL X L ti b (off + i * n + j) (.agg ds.toArray)) ∧
  (∀ (L : List HP) (ti : TI) (j : Nat) (v : Value), ti.und.agg = false → (c x)[j]? = some v → RdL X L ti b (off + i * n + j) v) := by
 obtain ⟨b, off, h1, h2, h3⟩ := h.at_ (fun e => by rw [e] at hx; cases hx)
 have h4 := h3 i x hx
 obtain ⟨b', off', e1, -, k3⟩ := RwIn.rd (X := X) h hx
 rw [h1] at e1
 cases e1
 refine ⟨b, off, h1, fun L ti j ds ha hj hd hl => RdL.rd h2 ?_, k3⟩
 rw [ha]
 refine ⟨ds, Z, hl, ?_⟩
 intro k v hv
 have hv2 : (c x)[j + k]? = some v := by
  rw [← hd, List.getElem?_take] at hv
  split at hv
  ·rw [List.getElem?_drop] at hv; exact hv
  ·cases hv
 have := h4 (j + k) v hv2
 rw [← Nat.add_assoc] at this
 exact this
def ansB (f : FrameM) (x : SndM) : Bool := (x.1 == 32 + f.client) && ((x.2.kind == 2 || x.2.kind == 3) && ((x.2.client == f.client) && ((x.2.seq == f.seq) && ((x.2.try_ == f.try_) && ((x.2.kind == 2) == (x.2.reason == 0))))))
def ansM (f : FrameM) (S : List SndM) : Nat := (S.filter (ansB f)).length
theorem ansM_succ (f : FrameM) {S : List SndM} {k : Nat} {x : SndM} (h : S[k]? = some x) : ansM f (S.take (k + 1)) = ansM f (S.take k) + if ansB f x then 1 else 0 := by
 unfold ansM
 rw [List.take_add_one, h, List.filter_append, List.length_append]
 show _ + (List.filter (ansB f) [x]).length = _
 by_cases hb : ansB f x = true
 ·rw [if_pos hb, List.filter_cons, if_pos hb]; rfl
 ·rw [if_neg hb, List.filter_cons, if_neg hb]; rfl
theorem ansM_le (f : FrameM) (S : List SndM) : ansM f S ≤ S.length := List.length_filter_le _ _
theorem nobody {R : RepM} {f : FrameM} (h1 : f.kind = 1) (hc : ¬ (0 ≤ f.client ∧ f.client < R.clients)) (from_ : Int) (ms : List MemM) (now : Int) : takeR R from_ f ms now = (R, []) := by
 unfold takeR
 rw [if_pos h1]
 by_cases h : f.client < 0
 ·rw [if_pos h]
 ·rw [if_neg h, if_pos yd]
theorem call_lenC (R : RepM) (from_ : Int) (f : FrameM) (ms : List MemM) (now : Int) (h : f.kind = 1) : (takeR R from_ f ms now).2.length ≤ 1 := by
 unfold takeR
 rw [if_pos h]
 split
 ·exact Nat.zero_le _
 split
 ·exact Nat.zero_le _
 split
 ·unfold readR; split <;> exact NR _
 ·unfold updateR; repeat' split
  all_goals first | exact NR _ | exact Nat.zero_le _
end Nd
namespace Nd
open Go Vg Api Kv Ch Lg Rd Win Adm Sched Conf Rep
def lastF (S : List SndM) : Int := S.foldl (fun l x => if x.2.kind = 4 then x.2.entry.index else l) 0
theorem lastF_snoc (S : List SndM) (x : SndM) : lastF (S ++ [x]) = if x.2.kind = 4 then x.2.entry.index else lastF S := by simp [lastF, List.foldl_append]
theorem lastF_succ {S : List SndM} {k : Nat} {x : SndM} (h : S[k]? = some x) : lastF (S.take (k + 1)) = if x.2.kind = 4 then x.2.entry.index else lastF (S.take k) := by
 rw [List.take_add_one, h]; exact lastF_snoc _ _
theorem lastF_quiet {A : List SndM} (h : Quiet A) : ∀ B : List SndM, lastF (A ++ B) = lastF B := by
 have key : ∀ (A : List SndM), Quiet A → A.foldl (fun l (x : SndM) => if x.2.kind = 4 then x.2.entry.index else l) 0 = (0 : Int) := by
  intro A
  induction A with
  | nil => intro _; rfl
  | cons a A ih =>
   intro h
   rw [List.foldl_cons, if_neg (h a (List.mem_cons_self ..))]
   exact ih fun s hs => h s (List.mem_cons_of_mem _ hs)
 intro B
 unfold lastF
 rw [List.foldl_append, key A h]
structure Pas (S : List SndM) (to_ : Int) (log : List EntryM) (g : Int) : Prop where
 at_ : ∀ (k : Nat) (x : SndM), S[k]? = some x → x.2.kind = 4 → x.1 = to_ ∧ atI log x.2.entry.index = some x.2.entry ∧ 1 ≤ x.2.entry.index ∧ x.2.entry.index ≤ g ∧ (0 < lastF (S.take k) → x.2.entry.index = lastF (S.take k) + 1)
 low : ∀ k : Nat, 0 ≤ lastF (S.take k) ∧ lastF (S.take k) ≤ 1000000
theorem Pas.quiet {S : List SndM} (h : Quiet S) (to_ : Int) (log : List EntryM) (g : Int) : Pas S to_ log g := by
 refine ⟨fun k x hk h4 => absurd h4 (h x (ME hk)), fun k => ?_⟩
 have : lastF (S.take k) = 0 := by
  have h2 : Quiet (S.take k) := fun s hs => h s (List.mem_of_mem_take hs)
  have := lastF_quiet h2 []
  rw [List.append_nil] at this
  rw [this]; rfl
 rw [this]; exact ⟨Int.le_refl _, by decide⟩
theorem passS_take (Q : RepM) (s : Int) (k i : Nat) (h : i ≤ k) : (passS Q s k).take i = passS Q s i := by
 unfold passS
 rw [← List.map_take, List.take_range, Nat.min_eq_left h]
theorem pass_at {Q : RepM} (lok : LogOk Q.log) {s : Int} {k : Nat} (h0 : 0 ≤ s) (hk : s + k ≤ Q.log.length) {i : Nat} (hi : i < k) : ∃ e, atI Q.log (s + 1 + (i : Nat)) = some e ∧ e.index = s + 1 + i := by
 obtain ⟨n, hn⟩ : ∃ n : Nat, s = n := ⟨s.toNat, by omega⟩
 subst hn
 obtain ⟨e, he⟩ : ∃ e, Q.log[n + i]? = some e := ⟨_, GE yd⟩
 refine ⟨e, ?_, by rw [lok.idx he]; push_cast; omega⟩
 unfold atI
 rw [if_pos yd, show ((n : Int) + 1 + (i : Nat) - 1).toNat = n + i by omega, he]
theorem lastF_pass {Q : RepM} (lok : LogOk Q.log) {s : Int} {k : Nat} (h0 : 0 ≤ s) (hk : s + k ≤ Q.log.length) : ∀ i, i ≤ k → lastF (passS Q s i) = if i = 0 then 0 else s + i
 | 0, _ => rfl
 | i + 1, h => by
  have e : passS Q s (i + 1) = passS Q s i ++ [(Q.nextM, forwardF Q.ch.epoch ((atI Q.log (s + 1 + (i : Nat))).getD entZ))] := by
   unfold passS; rw [List.range_succ, List.map_append]; rfl
  obtain ⟨x, hx, hi⟩ := pass_at lok h0 hk (i := i) yd
  rw [e, lastF_snoc, hx, if_pos (by rfl), if_neg yd]
  show x.index = _
  rw [hi]; push_cast; omega
theorem Pas.of {Q : RepM} (lok : LogOk Q.log) {A : List SndM} (hA : Quiet A) {s g : Int} {k : Nat} (h : k ≠ 0 → 0 ≤ s ∧ s + k ≤ Q.log.length ∧ s + k ≤ g) (hl : Q.log.length ≤ 4096) : Pas (A ++ passS Q s k) Q.nextM Q.log g := by
 have take : ∀ j, (A ++ passS Q s k).take j = A.take j ++ passS Q s (min k (j - A.length)) := fun j => by
  rw [List.take_append]
  congr 1
  by_cases hj : j - A.length ≤ k
  ·rw [passS_take Q s k _ hj, Nat.min_eq_right hj]
  ·rw [Nat.min_eq_left yd, List.take_of_length_le (by unfold passS; rw [List.length_map, List.length_range]; omega)]
 have lst : ∀ j, lastF ((A ++ passS Q s k).take j) = if min k (j - A.length) = 0 then 0 else s + (min k (j - A.length) : Nat) := fun j => by
  rw [take j, lastF_quiet (fun x hx => hA x (List.mem_of_mem_take hx))]
  by_cases hk : k = 0
  ·subst hk; rw [Nat.zero_min]; rfl
  ·obtain ⟨h0, h1, h2⟩ := h hk
   exact lastF_pass lok h0 h1 _ (Nat.min_le_left _ _)
 refine ⟨fun j x hj h4 => ?_, fun j => ?_⟩
 ·by_cases hlt : j < A.length
  ·rw [List.getElem?_append_left hlt] at hj
   exact absurd h4 (hA x (ME hj))
  ·rw [List.getElem?_append_right yd] at hj
   unfold passS at hj
   rw [List.getElem?_map] at hj
   obtain ⟨i, hi, hx⟩ := Option.map_eq_some_iff.1 hj
   have hik : i = j - A.length ∧ i < k := by
    have h1 := List.getElem?_eq_some_iff.1 hi
    obtain ⟨h2, h3⟩ := h1
    rw [List.getElem_range] at h3
    rw [List.length_range] at h2
    omega
   obtain ⟨h0, h1, h2⟩ := h yd
   obtain ⟨e, he, hix⟩ := pass_at lok h0 h1 hik.2
   rw [he] at hx
   subst hx
   refine ⟨rfl, ?_, ?_, ?_, fun hl => ?_⟩
   ·show atI Q.log e.index = some e
    rw [hix]; exact he
   ·show 1 ≤ e.index; omega
   ·show e.index ≤ g; omega
   ·show e.index = _
    rw [lst j] at hl ⊢
    rw [Nat.min_eq_right yd] at hl ⊢
    split at hl
    ·omega
    ·rename_i hz
     rw [if_neg hz, hix]; omega
 ·rw [lst j]
  split
  ·exact ⟨Int.le_refl _, by decide⟩
  ·obtain ⟨h0, h1, h2⟩ := h yd
   have := Nat.min_le_left k (j - A.length)
   omega
structure CrS (R Q : RepM) (S : List SndM) (g : Int) : Prop where
 same : Q.since = R.since ∨ Q.since = 0 → R.log <+: Q.log ∧ R.win.done ≤ Q.win.done
 limit : Q.win.limit ≤ g
 pas : Pas S Q.nextM Q.log g
theorem RInv.logl {C : ConfM} {R : RepM} (i : RInv C R) : R.log.length ≤ 4096 := by
 have := i.fit.ok.win.last1; have := i.fit.ok.last; omega
theorem crs_step {C : ConfM} {R : RepM} (i : RInv C R) (now : Int) {g : Int} (hg : R.win.limit ≤ g) : CrS R (stepR R now).1 (stepR R now).2 g := by
 obtain ⟨h, A, s, k, hS, hA, h0, h1⟩ := cr_step R now
 have iq := i.step now
 have i2 := i.step2 now
 have hq := h.limit
 refine ⟨fun _ => ⟨h.log, h.done⟩, by omega, ?_⟩
 rw [hS]
 refine Pas.of iq.lok hA (fun hk => ?_) iq.logl
 have hs := h0 hk i2.fit.ok.win.sent0
 have := iq.fit.ok.last
 exact ⟨hs, by omega, by omega⟩
theorem quiet_tick (R : RepM) : Quiet (tickR R).2 := by
 have h1 : Quiet R.masterM := Quiet.one (by show (11 : Int) ≠ 4; decide)
 refine (((h1.app (quiet_greet R)).app (quiet_base R)).app ?_).app ?_
 ·split
  ·exact Quiet.one (by show (9 : Int) ≠ 4; decide)
  ·exact Quiet.nil
 ·split
  ·exact Quiet.one (by show (12 : Int) ≠ 4; decide)
  ·exact Quiet.nil
theorem crs_tick {R : RepM} {g : Int} (hg : R.win.limit ≤ g) : CrS R (tickR R).1 (tickR R).2 g := by
 have e : (tick1 R).log = R.log ∧ (tick1 R).win.done = R.win.done ∧ (tick1 R).win.limit = R.win.limit := by unfold tick1; split <;> exact ⟨rfl, rfl, rfl⟩
 refine ⟨fun _ => ?_, ?_, Pas.quiet (quiet_tick R) _ _ _⟩
 ·show R.log <+: (tick1 R).log ∧ R.win.done ≤ (tick1 R).win.done
  rw [e.1, e.2.1]; exact ⟨List.prefix_refl _, Int.le_refl _⟩
 ·show (tick1 R).win.limit ≤ g
  rw [e.2.2]; exact hg
def grantM (R Q : RepM) (next from_ : Int) (f : FrameM) (g : Int) : Int := if Q.ch.epoch ≠ R.ch.epoch then 0 else if f.kind = 5 ∧ 0 ≤ from_ ∧ from_ = next ∧ f.epoch = R.ch.epoch ∧ R.since ≠ 0 then max g f.grant else g
theorem crs_take {C : ConfM} {R : RepM} (i : RInv C R) (from_ : Int) (f : FrameM) (ms : List MemM) (now : Int) {g : Int} (hg : R.win.limit ≤ g) :
    CrS R (takeR R from_ f ms now).1 (takeR R from_ f ms now).2 (grantM R (takeR R from_ f ms now).1 (takeR R from_ f ms now).1.nextM from_ f g) := by
  obtain ⟨h, hq⟩ := cr_take R from_ f ms now
  have hid := (take_stays R from_ f ms now).id
  generalize takeR R from_ f ms now = T at h hq hid ⊢
  obtain ⟨Q, S⟩ := T
  dsimp only at h hq hid ⊢
  refine ⟨fun hs => ?_, ?_, Pas.quiet hq _ _ _⟩
  · rcases h with h | h | h
    · exact ⟨h.log, h.done⟩
    · rw [h.log]; exact ⟨List.prefix_refl _, h.done⟩
    · exact h.same hs
  · unfold grantM
    rcases h with h | h | h
    · rw [if_neg (by rw [h.ch]; simp), h.limit]
      split <;> omega
    · have hn : Q.nextM = R.nextM := by unfold RepM.nextM; rw [h.ch, hid]
      have hsi : R.since ≠ 0 := by
        intro h0
        have h1 := h.next.1
        have h2 := i.in_.1
        unfold RepM.nextM nextOf at h1
        rw [if_pos (by have : ¬ 0 ≤ placeOf R.ch.ms R.id := fun k => by have := h2.2 k; omega
                       omega)] at h1
        omega
      rw [if_neg (by rw [h.ch]; simp), if_pos ⟨h.kind, by have := h.next; omega, by rw [hn]; exact h.next.2, h.epoch, hsi⟩]
      have := h.limit
      omega
    · rw [if_pos (by have := h.epoch; omega), h.limit]; exact Int.le_refl _
theorem tick_lenC (R : RepM) : (tickR R).2.length ≤ 5 := by
 have g : R.greetM.length ≤ 1 := greetM_len R
 have b : R.baseM.length ≤ 1 := by unfold RepM.baseM; split <;> simp
 have m : R.masterM.length = 1 := rfl
 unfold tickR
 dsimp only
 rw [List.length_append, List.length_append, List.length_append, List.length_append, m]
 split <;> split <;> simp <;> omega
theorem step_lenC {R : RepM} (ok : R.Ok) (now : Int) : (stepR R now).2.length ≤ 1000000 := by
 have hS : (expS R now).length ≤ 16 := by
  unfold expS refs
  rw [List.length_map, List.length_map]
  have := List.length_filter_le (fun y => !lives now y) R.rds.l
  have := ok.rl; have := ok.rc1
  omega
 have h2 : (step2 R now).2.length ≤ 273000 := by
  have := serveLoop_len now 65 (expR_ok ok now)
  unfold Rep.step2; split
  ·exact this
  ·exact Nat.zero_le _
 have h3 : (step3 R now).2.length ≤ 4096 := by
  unfold step3; split
  ·show (passN _ _).2.length ≤ 4096
   rw [passN_len]
   have hl := (step2_ok ok now).win.last1
   have hs := (step2_ok ok now).win.sent0
   unfold passK; omega
  ·exact Nat.zero_le _
 show (expS R now ++ (step2 R now).2 ++ (step3 R now).2).length ≤ 1000000
 rw [List.length_append, List.length_append]; omega
theorem take_lenC {R : RepM} (fit : R.Fit) (from_ : Int) (f : FrameM) (ms : List MemM) (now : Int) : (takeR R from_ f ms now).2.length ≤ 1000000 := by
 have ok := fit.ok
 have z : ([] : List SndM).length ≤ 1000000 := Nat.zero_le _
 have g : ∀ Q : RepM, Q.greetM.length ≤ 1 := greetM_len
 have b : ∀ Q : RepM, Q.baseM.length ≤ 1 := fun Q => by unfold RepM.baseM; split <;> simp
 have m : ∀ Q : RepM, Q.masterM.length = 1 := fun _ => rfl
 have bc : ∀ Q : RepM, Q.becomeM.length ≤ 1 := fun Q => by
  unfold RepM.becomeM; split
  ·exact b _
  ·exact Nat.zero_le _
 by_cases h1 : f.kind = 1
 ·have := call_lenC R from_ f ms now h1; omega
 unfold takeR
 rw [if_neg h1]
 split
 ·split
  ·rename_i h
   have h5 := finishM_len (ent5_ok ok (c := frCh f ms) ⟨by have := chE_len h.1.2; omega⟩ fit.cap0 fit.cap1)
   have hg := gone_few ok maxI
   have hr := ok.rl; have hc := ok.rc1
   show (entG R _ ++ (Rep.ent5 R _).finishM ++ (Rep.ent5 R _).finishR.greetM ++ (Rep.ent5 R _).finishR.baseM ++ (Rep.ent5 R _).finishR.masterM).length ≤ _
   rw [List.length_append, List.length_append, List.length_append, List.length_append, m]
   have := g (Rep.ent5 R (frCh f ms)).finishR
   have := b (Rep.ent5 R (frCh f ms)).finishR
   have he : (entG R (frCh f ms)).length ≤ 80 := by
    unfold entG refs
    rw [List.length_append, List.length_map, List.length_map, List.length_map]; omega
   omega
  ·exact z
 split
 ·split
  ·unfold forwardR
   split
   ·rename_i h2
    have := finishM_len (pushE_ok ok h2.2 (fwd_room h2.1))
    show ((pushE R f.entry).finishM ++ (pushE R f.entry).finishR.becomeM ++ RepM.greetM _).length ≤ _
    rw [List.length_append, List.length_append]
    have := bc (pushE R f.entry).finishR
    have := g (pushE R f.entry).finishR.becomeR
    omega
   ·show (RepM.greetM _).length ≤ _
    have := g R; omega
  ·exact z
 split
 ·split
  ·show (if _ then _ else _ : List SndM).length ≤ _
   split
   ·have := g { Rep.ack2 R f with win := (Rep.ack2 R f).win.ack f.index }; omega
   ·exact z
  ·exact z
 split
 ·split
  ·show (RepM.becomeM _).length ≤ _
   have := bc (baseR R f.index); omega
  ·exact z
 split
 ·split
  ·show (sureS R f.index).length ≤ _
   unfold sureS
   rw [List.length_map]
   have := List.length_filter_le (fun y => !surely f.index y) R.rds.l
   have := ok.rl; have := ok.rc1
   omega
  ·exact z
 ·exact z
end Nd
namespace Nd
open Go Vg T Api Kv Ch Lg Rd Win Adm Sched Conf Rep Rk
attribute [local irreducible] VO VC VA
theorem answered_spec {a : Option Addr} {c : Nat} {S : List SndM} (hS : RwIn sndC 30 Fr w a S) (hl : S.length ≤ 1000000) (f : FrameM) (g : MemG) (hc : S ≠ [] → 0 ≤ f.client ∧ f.client ≤ 1000) :
  Tri Tryz.prog 33 [.slice a S.length c, .agg (fgC f g).toArray] Fr w [] (fun v L => v = .int .i64 (ansM f S) ∧ L = []) := by
 refine TF 71 Tryz.func33 Z ym tabOk Z Z ?_
 refine CS (CG (VG (VB (vs := fgC f g) Z fun fb => ?_)))
 refine xdy ?_
 refine VC.loop (σ := Nat) (fun k => [(0, .slice a S.length c), (3, pV fb), (5, .int .i64 (ansM f (S.take k))), (6, .int .i64 k)]) (fun _ => [pt fb (fgC f g) frT]) (fun k => k ≤ S.length) (fun k => S.length - k) 0 (Nat.zero_le _) sbZ ER ?_
 rintro k hk
 refine xdy ?_
 refine CP (p := (k : Int) < (S.length : Int)) Z (fun h1 => CK ?_) (fun h1 => CX ?_)
 rotate_left
 ·have hte : S.take k = S := List.take_of_length_le yd
  rw [hte]
  refine xdy ?_
  exact CR (Ret.int 4 Z Z Z Imp.nil.ent ⟨rfl, Z⟩)
 obtain ⟨x, hx⟩ : ∃ x, S[k]? = some x := ⟨_, GE yd⟩
 obtain ⟨tb, tof, hta, rs, rc⟩ := rwin_sub (X := ⟨Tryz.prog, tab, tabOk, 71, Fr, w⟩) hS hx
 have hsucc := ansM_succ f hx
 obtain ⟨hc0, hc1⟩ := hc (fun e => by rw [e] at hx; cases hx)
 have hle := ansM_le f (S.take k)
 rw [List.length_take] at hle
 rw [hta]
 refine CS ?_
 refine VC.meetS (σ := Unit) (fun _ => [(0, .slice (some ⟨tb, tof, none⟩) S.length c), (3, pV fb), (5, .int .i64 (ansM f (S.take (k + 1)))), (6, .int .i64 k)]) (fun _ => [pt fb (fgC f g) frT]) (fun _ => True) ?_ ?_
 rotate_left
 ·rintro _ -
  refine zpg ?_
  exact ⟨k + 1, by omega, by dsimp only; omega, sbZ, ER⟩
 refine VC.block (CS (CG ?_))
 refine VG (VI (light_idx k Z Z Z Z Z Z yd) ?_)
 refine VG (VD Z Z (rs _ _ 1 (fgC x.2 mem0) Z yy Z Z) ?_)
 refine VG (VO.alloc Z fun pb => ?_)
 refine VG (VT (vs := fgC x.2 mem0) (cs' := fgC x.2 mem0) 0 Z Z Z Z (NR _) Z Z Z (VG (VN ?_)))
 refine CS ?_
 refine CD (ts 0 49 .nil) ym yq ?_
 refine xgz ?_
 refine VA.go (AI Z (light_idx k Z Z Z Z Z Z yd) ?_)
 refine xgs ?_
 refine xgz ?_
 refine xeg ?_
 refine xgz ?_
 have out : ∀ {X : Cx} {E : Env} {q : Int}, q = ansM f (S.take (k + 1)) → Sub [(0, .slice (some ⟨tb, tof, none⟩) S.length c), (3, pV fb), (5, .int .i64 q), (6, .int .i64 k)] E → ∃ _ : Unit, True ∧ Sub [(0, .slice (some ⟨tb, tof, none⟩) S.length c), (3, pV fb), (5, .int .i64 (ansM f (S.take (k + 1)))), (6, .int .i64 k)] E ∧ Ent X [pt pb (fgC x.2 mem0) frT, pt fb (fgC f g) frT] [pt fb (fgC f g) frT] := fun h1 h2 => ⟨(), trivial, by rw [← h1]; exact h2, (IP 1 rfl Imp.nil).ent⟩
 by_cases b1 : x.1 = 32 + f.client
 rotate_left
 ·refine VA.go (AY 28 false Z (by rw [beq_eq_false_iff_ne]; exact b1) ?_)
  refine xos ?_
  refine xip ?_
  refine xos ?_
  refine VA.go (AY 45 false Z Z ?_)
  refine zqn ?_
  refine zru ?_
  have hb : ansB f x = false := by simp [ansB, b1]
  rw [hb] at hsucc
  exact xot
 refine VA.go (AY 28 true Z (by rw [beq_iff_eq]; exact b1) ?_)
 refine xos ?_
 by_cases k2 : x.2.kind = 2
 ·refine VA.go (AY 32 true Z (by rw [beq_iff_eq]; exact k2) ?_)
  refine xos ?_
  refine VA.go (AY 38 true Z Z ?_)
  refine xos ?_
  by_cases b3 : x.2.client = f.client
  rotate_left
  ·refine VA.go (AY 45 false Z ydj ?_)
   refine zqn ?_
   refine zru ?_
   have hb : ansB f x = false := by simp [ansB, b3]
   rw [hb] at hsucc
   exact xot
  refine VA.go (AY 45 true Z (by rw [beq_iff_eq]; exact b3) ?_)
  refine xos ?_
  by_cases b4 : x.2.seq = f.seq
  rotate_left
  ·refine VA.go (AY 52 false Z ydk ?_)
   refine zru ?_
   have hb : ansB f x = false := by simp [ansB, b4]
   rw [hb] at hsucc
   exact xot
  refine VA.go (AY 52 true Z (by rw [beq_iff_eq]; exact b4) ?_)
  refine xos ?_
  by_cases b5 : x.2.try_ = f.try_
  rotate_left
  ·refine VA.go (AY 59 false Z ydl ?_)
   refine zqg ?_
   have hb : ansB f x = false := by simp [ansB, b5]
   rw [hb] at hsucc
   exact xot
  refine VA.go (AY 59 true Z (by rw [beq_iff_eq]; exact b5) ?_)
  refine xos ?_
  have hb : ansB f x = ((x.2.kind == 2) == (x.2.reason == 0)) := by simp [ansB, b1, k2, b3, b4, b5]
  refine CC Z (fun h6 => ?_) (fun h6 => CK ?_)
  ·rw [hb, h6] at hsucc
   refine xgb ?_
   refine xei ?_
   refine xgb ?_
   exact out (q := ((ansM f (S.take k) : Nat) : Int) + 1) ydi sbZ
  ·rw [hb, h6] at hsucc
   exact xot
 refine VA.go (AY 32 false Z (by rw [beq_eq_false_iff_ne]; exact k2) ?_)
 refine xos ?_
 by_cases k3 : x.2.kind = 3
 rotate_left
 ·refine VA.go (AY 38 false Z (by rw [beq_eq_false_iff_ne]; exact k3) ?_)
  refine xos ?_
  refine VA.go (AY 45 false Z Z ?_)
  refine zqn ?_
  refine zru ?_
  have hb : ansB f x = false := by simp [ansB, k2, k3]
  rw [hb] at hsucc
  exact xot
 refine VA.go (AY 38 true Z (by rw [beq_iff_eq]; exact k3) ?_)
 refine xos ?_
 by_cases b3 : x.2.client = f.client
 rotate_left
 ·refine VA.go (AY 45 false Z ydj ?_)
  refine zqn ?_
  refine zru ?_
  have hb : ansB f x = false := by simp [ansB, b3]
  rw [hb] at hsucc
  exact xot
 refine VA.go (AY 45 true Z (by rw [beq_iff_eq]; exact b3) ?_)
 refine xos ?_
 by_cases b4 : x.2.seq = f.seq
 rotate_left
 ·refine VA.go (AY 52 false Z ydk ?_)
  refine zru ?_
  have hb : ansB f x = false := by simp [ansB, b4]
  rw [hb] at hsucc
  exact xot
 refine VA.go (AY 52 true Z (by rw [beq_iff_eq]; exact b4) ?_)
 refine xos ?_
 by_cases b5 : x.2.try_ = f.try_
 rotate_left
 ·refine VA.go (AY 59 false Z ydl ?_)
  refine zqg ?_
  have hb : ansB f x = false := by simp [ansB, b5]
  rw [hb] at hsucc
  exact xot
 refine VA.go (AY 59 true Z (by rw [beq_iff_eq]; exact b5) ?_)
 refine xos ?_
 have hb : ansB f x = ((x.2.kind == 2) == (x.2.reason == 0)) := by simp [ansB, b1, k2, k3, b3, b4, b5]
 refine CC Z (fun h6 => ?_) (fun h6 => CK ?_)
 ·rw [hb, h6] at hsucc
  refine xgb ?_
  refine xei ?_
  refine xgb ?_
  exact out (q := ((ansM f (S.take k) : Nat) : Int) + 1) ydi sbZ
 ·rw [hb, h6] at hsucc
  exact xot
end Nd
namespace Nd
open Go Vg T Api Kv Ch Lg Rd Win Adm Sched Conf Rep
attribute [local irreducible] VO VC VA
theorem light_fld {X : Cx} {e : Env} {S f : Nat} {x : Operand} {flds : Array Field} {fl : Field} {cs : List Value} {ti : TI} {v : Value} (hS : X.P.underlying S = some (.struct flds)) (hf : flds[f]? = some fl) (hx : ev e x = some (.agg cs.toArray)) (ht : tyLook X.tab fl.type = some ti) (ha : ti.und.agg = false) (hv : cs[fl.offset]? = some v) :
  Light X (.field S x f) e v := by
 intro ac hac dst ty pos after guard w
 have h : (Instr.field S (.agg cs.toArray) f).run X.P w = .ok v w := by
  have h1 := part1 (P := X.P) (X.ok.look ht) ha hv w
  unfold Instr.field
  rw [Sem.run_bind, run_underlying hS]
  simp [hf, asAgg, h1]
 simp [execOp, hac.ev hx, h]
theorem RL.Ok.sub {α : Type} {c : α → List Value} {n t : Nat} {r : RL α} (h : r.Ok c n) {k : Nat} {x : α} (hx : r.xs[k]? = some x) {b : Nat} {off : Nat} (hb : r.blk = some b) (ha : r.addr = some ⟨b, off, Option.none⟩) {X : Cx} {L : List HP} (i : Nat) (hL : L[i]? = some (r.h t)) (ti : TI) (j : Nat) (ds : List Value) (hg : ti.und.agg = true) (hj : j + ti.size ≤ n) (hd : ((c x).drop j).take ti.size = ds) (hl : ds.length = ti.size) : RdL X L ti b (off + k * n + j) (.agg ds.toArray) := by
 obtain ⟨b', off', h1, h2, h3⟩ := h.nth hx
 rw [hb] at h1; rw [ha] at h2
 cases h1; cases h2
 rw [RL.h_pt hb] at hL
 refine RdL.many i hL ?_ hl hg
 rw [← hd, ← h3, List.drop_take, List.take_take, List.drop_drop, Nat.min_eq_left yd]
theorem pre_atI {a b : List EntryM} (h : a <+: b) {k : Int} (h0 : 1 ≤ k) (h1 : k ≤ a.length) : atI b k = atI a k := by
 obtain ⟨j, x, _, _, hx, hat⟩ := atI_some (l := a) h0 h1
 rw [hat]
 unfold atI at hat ⊢
 rw [if_pos h0] at hat ⊢
 exact pre_at h hat
abbrev bE (mb mo n lc cb r q : Nat) (g : Int) (i : Nat) (e : Env) : Env := (2, .slice (some ⟨mb, mo, none⟩) n lc) :: (3, pV cb) :: (7, pV r) :: (9, pV q) :: (11, .int .i64 g) :: (12, .int .i64 i) :: e
structure CrW where
 s : LawS
 S : List SndM
 rs : RL SndM
 g : Int
def CrW.Ok (s : CrW) (Fr : Nat → Prop) (w : World) (C : ConfM) (R : RepM) (i : Nat) : Prop := lawI Fr w C (2 * (i + 1)) s.s ∧ s.rs.Ok sndC 30 ∧ s.rs.xs = s.S ∧ s.S.length ≤ 1000000 ∧ CrS R s.s.R s.S (if s.s.R.ch.epoch ≠ R.ch.epoch then 0 else s.g)
theorem credits_spec (c : ConfM) (ca : Option Addr) (cc : Nat) (hq : IntsIn Fr w ca c.qs) (hcc : c.qs.length ≤ cc) (id : Int) (hi0 : 0 ≤ id) (hi1 : id ≤ 255) (la : Option Addr) (lc : Nat) (l : List XAct) (hl : RwIn xaC 38 Fr w la l) (hx : ∀ x ∈ l, x.In Fr w) (hll : l.length ≤ 9223372036854775807) :
  Tri Tryz.prog 7 [.agg (c.cells ca cc).toArray, .int .u8 id, .slice la l.length lc] Fr w [] (fun v L => v = .bool true ∧ L = []) := by
 refine TF 341 Tryz.func7 Z ym tabOk Z Z ?_
 refine CS (CG (VG (VB (vs := c.cells ca cc) Z fun cb => ?_)))
 refine xdy ?_
 by_cases hbig : 20 < c.qs.length
 ·refine VG (VY 40 true Z (DT yd) ?_)
  refine zpl ?_
  refine xou ?_
  refine xdy ?_
  exact xov
 refine VG (VY 40 false Z (DF yd) ?_)
 refine VG (VV (fun Fr w hF hs hS => xgreat_spec Fr w la lc l 50 (hl.of hF hs) hll) Z ?_)
 refine xlf ?_
 refine CC Z (fun h1 => ?_) (fun h1 => CK ?_)
 ·refine xdy ?_
  refine xou ?_
  refine xdy ?_
  exact xov
 obtain ⟨hbad, h50⟩ := great_no h1
 refine xhm ?_
 refine VG (VL 0 (c.cells ca cc) Z Z Z Z ?_)
 refine VG (VK (Lc := []) (fun Fr w hF hs _ => rfit_spec Fr w c ca cc (ints_of hq hF hs)) Z Z ?_)
 rintro _ _ ⟨a, cap, ha, hcap, rfl, rfl⟩
 refine VG (VT (vs := (fitM c).cells a cap) (cs' := (fitM c).cells a cap) 1 Z Z Z Z (NR _) Z Z Z (VG (VN ?_)))
 show VC _ _ _ _ _
 obtain ⟨C, hC⟩ : ∃ C, C = fitM c := ⟨_, rfl⟩
 have hf : C = fitM C := by rw [hC]; exact fit_idem c
 rw [← hC] at hcap ⊢
 have hcb := conf_bounds hf
 obtain ⟨d, hd⟩ : ∃ d, d = id / 2 % C.nodes := ⟨_, rfl⟩
 have hd0 : 0 ≤ d ∧ d < C.nodes := by rw [hd]; exact ⟨Int.emod_nonneg _ yd, Int.emod_lt_of_pos _ yd⟩
 obtain ⟨bl, hbl⟩ : ∃ bl : Bool, bl = (id % 2 == 1) := ⟨_, rfl⟩
 refine CS ?_
 refine VC.meetS (σ := Nat) (fun r => [(1, .int .u8 id), (2, .slice la l.length lc), (3, pV cb), (7, pV r), (8, .int .i64 0)]) (fun r => [repH r (Rep.newR C d bl), intH a cap C.qs, pt cb (C.cells a cap) 24]) (fun _ => True) ?_ ?_
 ·refine CD (ts 0 10 (.only 10 (.take 11 (ts 12 4 .nil)))) ym yq ?_
  refine VA.go (VA.ldA 1 (C.cells a cap) Z Z Z Z Z ?_)
  refine VA.go (AI Z (light_quo (id / 2) Z Z hi0 yy (IntWalk.u8_in _ yd)) ?_)
  refine VA.go (AI Z (light_conv (id / 2) Z Z Z Z Z (i64_in _ yd yd)) ?_)
  refine xgz ?_
  refine VA.go (AI Z (light_rem Z Z yd (by show 0 < C.nodes; omega)) ?_)
  refine VA.go (AI Z (light_rem Z Z hi0 yy) ?_)
  refine xgz ?_
  refine VA.go (AO (OC (Lc := []) Z (.refl _) (fun Fr w hF hs hS => newT_spec Fr w (ints_sl (hS.at_ 0 Z)) ha hcap hf ydm ydn (id % 2 == 1))) Z ?_ ?_)
  ·rintro _ _ ⟨_, ⟨r, rfl, rfl⟩, rfl⟩
   exact yr
  rintro _ _ ⟨_, ⟨r, rfl, rfl⟩, rfl⟩
  refine xha ?_
  exact ⟨r, trivial, sbZ, by rw [hd, hbl]; exact ER⟩
 rintro r -
 refine CS ?_
 refine VC.meetS (σ := Nat) (fun q => [(1, .int .u8 id), (2, .slice la l.length lc), (3, pV cb), (7, pV r), (8, .int .i64 0), (9, pV q), (10, .int .i64 0)]) (fun q => [ndH q C a cap (Rep.newR C d bl), repH r (Rep.newR C d bl), intH a cap C.qs, pt cb (C.cells a cap) 24]) (fun _ => True) ?_ ?_
 ·refine CD (ts 0 10 (.only 10 (.take 11 (ts 12 4 .nil)))) ym yq ?_
  refine VA.go (VA.ldA 2 (C.cells a cap) Z Z Z Z Z ?_)
  refine VA.go (AI Z (light_quo (id / 2) Z Z hi0 yy (IntWalk.u8_in _ yd)) ?_)
  refine VA.go (AI Z (light_conv (id / 2) Z Z Z Z Z (i64_in _ yd yd)) ?_)
  refine xha ?_
  refine VA.go (AI Z (light_rem Z Z yd (by show 0 < C.nodes; omega)) ?_)
  refine VA.go (AI Z (light_rem Z Z hi0 yy) ?_)
  refine xha ?_
  refine VA.go (AO (OC (Lc := []) Z (.refl _) (fun Fr w hF hs hS => nnewT_spec Fr w (ints_sl (hS.at_ 1 Z)) hf ydm ydn (id % 2 == 1))) Z ?_ ?_)
  ·rintro _ _ ⟨_, ⟨q, rfl, rfl⟩, rfl⟩
   exact yr
  rintro _ _ ⟨_, ⟨q, rfl, rfl⟩, rfl⟩
  refine xez ?_
  exact ⟨q, trivial, sbZ, by rw [hd, hbl]; exact ER⟩
 rintro q -
 refine VC.opn 0 Z (HOpn.nd q C a cap (Rep.newR C d bl)) ?_
 rintro z hz
 have hlim : (Rep.newR C d bl).win.limit = 0 := by
  unfold Rep.newR
  split
  ·rfl
  split <;> rfl
 obtain ⟨R0, hR0⟩ : ∃ R0, R0 = Rep.newR C d bl := ⟨_, rfl⟩
 have hI0 := LawI.new hf d bl hz
 rw [← hR0] at hI0 hz hlim ⊢
 refine CN (L' := lawH r q C a cap ⟨R0, ofNd R0 z, (z.a, z.c), slH memT 2 z.a R0.ch.ms.length z.c (flat memC R0.ch.ms)⟩ [pt cb (C.cells a cap) 24]) (Imp.ent (Imp.trans (Imp.nd0 (Imp.refl (L := [repH r R0, intH a cap C.qs, pt cb (C.cells a cap) 24]))) (pkZ [2, 0, 0, 0, 0]))) ?_
 refine xlf ?_
 refine VG (VY 77 false Z Z ?_)
 refine zqs ?_
 refine xlf ?_
 refine VC.loop (σ := Nat × LawS × Int) (fun s => [(2, .slice la l.length lc), (3, pV cb), (7, pV r), (9, pV q), (11, .int .i64 s.2.2), (12, .int .i64 s.1)]) (fun s => lawH r q C a cap s.2.1 [pt cb (C.cells a cap) 24]) (fun s => s.1 ≤ l.length ∧ lawI Fr w C (2 * s.1) s.2.1 ∧ s.2.1.R.win.limit ≤ s.2.2) (fun s => l.length - s.1) (0, ⟨R0, ofNd R0 z, (z.a, z.c), slH memT 2 z.a R0.ch.ms.length z.c (flat memC R0.ch.ms)⟩, 0)
  ⟨Nat.zero_le _, ⟨hI0, .inl ⟨_, rfl⟩⟩, by show R0.win.limit ≤ 0; rw [hlim]; exact Int.le_refl _⟩ (SC rfl (SC rfl (SC rfl (SC rfl (SC rfl (SC rfl (SN _))))))) ER ?_
 rintro ⟨i, ⟨R, n, m, H⟩, gr⟩ ⟨hi, ⟨hI, hM⟩, hgr⟩
 dsimp only at hi hI hM hgr ⊢
 refine xlf ?_
 refine CP (p := (i : Int) < (l.length : Int)) Z (fun h2 => CK ?_) (fun h2 => CX ?_)
 rotate_left
 ·refine xlf ?_
  refine xou ?_
  refine xlf ?_
  exact xov
 have hi2 : i < l.length := by omega
 obtain ⟨x, hxi⟩ : ∃ x, l[i]? = some x := ⟨_, GE hi2⟩
 have hxm := ME hxi
 obtain ⟨hxb, hxx, xms, hxn, hxr⟩ := hx x hxm
 have hxl := bad_ms (hbad x hxm) hxn
 obtain ⟨mb, mo, hma, ra, rc⟩ := RwIn.rd (X := ⟨Tryz.prog, tab, tabOk, 341, Fr, w⟩) hl hxi
 subst hma
 have hw := hI.nw yd
 have hok := hw.ok
 have hce := hI.r.chE
 obtain ⟨now, hnow⟩ : ∃ now : Int, now = (i : Int) / 3 := ⟨_, rfl⟩
 have hn0 : 0 ≤ now := by omega
 have hch : n.ch = R.ch := hI.e.ch
 have hwc := hI.r.ok.win.cap0
 have hRl := hI.r.logl
 refine CS ?_
 refine VC.meetS (σ := LawS × Int) (fun s => (bE mb mo l.length lc cb r q s.2 i [])) (fun s => lawH r q C a cap s.1 [pt cb (C.cells a cap) 24]) (fun s => lawI Fr w C (2 * (i + 1)) s.1 ∧ s.1.R.win.limit ≤ s.2) ?_ ?_
 rotate_left
 ·rintro s hs
  refine zpm ?_
  exact ⟨(i + 1, s), ⟨hi2, hs⟩, by dsimp only; omega, sbZ, ER⟩
 refine xjt ?_
 refine xhm ?_
 refine VG (VI (light_quo ((i : Int) / 3) Z Z yd yy (i64_in _ yd yd)) ?_)
 refine xgk ?_
 rw [← hnow]
 show VC _ _ _ _ _
 refine xhm ?_
 refine VG (VK (Lc := []) (fun Fr w hF hs hS => log_spec Fr w hI.r.ok (hS.at_ 0 Z)) Z Z ?_)
 rintro _ _ ⟨lq, rfl, rfl⟩
 refine VG (VK (Lc := []) (fun Fr w hF hs hS => window_spec Fr w hI.r.ok (hS.at_ 1 Z)) Z Z ?_)
 rintro _ _ ⟨wq, rfl, rfl⟩
 refine VG (VV (fun Fr w hF hs hS => Win.done_spec Fr w (hS.blk 0 Z) hwc) Z ?_)
 refine xow ?_
 refine VG (VK (Lc := []) (fun Fr w hF hs hS => Rep.chain_spec Fr w hI.r.ok (hS.at_ 2 Z)) Z Z ?_)
 rintro _ _ ⟨a1, c1, rfl, rfl⟩
 refine VG (VI (light_fld Tryz.underlying36 Z Z Z Z Z) ?_)
 refine VG (VV (fun Fr w hF hs hS => Rep.whole_spec Fr w (hS.at_ 3 Z)) Z ?_)
 refine xgk ?_
 show VC _ _ _ _ _
 refine CN (L' := lawH r q C a cap ⟨R, n, m, H⟩ [pt cb (C.cells a cap) 24, logH lq R.log]) (pkZ [3, 3, 3, 3, 3, 2]).ent ?_
 refine xep ?_
 show VC _ _ _ _ _
 refine CS ?_
 refine VC.meetS (σ := CrW) (fun s => (bE mb mo l.length lc cb r q s.g i [(14, pV lq), (15, .int .i64 R.win.done), (16, .int .i64 R.since), (17, .int .i64 R.ch.epoch), (19, s.rs.v)])) (fun s => lawH r q C a cap s.s [pt cb (C.cells a cap) 24, logH lq R.log, s.rs.h sndT]) (fun s => s.Ok Fr w C R i) ?_ ?_
 ·refine xhm ?_
  refine xfv ?_
  refine xgg ?_
  refine xom ?_
  refine xgk ?_
  show VC _ _ _ _ _
  refine xjt ?_
  refine CS ?_
  refine VC.meetS (σ := Bool) (fun b => (bE mb mo l.length lc cb r q gr i [(13, .int .i64 now), (14, pV lq), (15, .int .i64 R.win.done), (16, .int .i64 R.since), (17, .int .i64 R.ch.epoch), (18, .bool R.whole), (106, .int .u8 ((x.kind : Int) % 14)), (180, .bool b)])) (fun _ => lawH r q C a cap ⟨R, n, m, H⟩ [pt cb (C.cells a cap) 24, logH lq R.log]) (fun b => True) ?_ ?_
  ·refine xlf ?_
   refine CE (i := (x.kind : Int) % 14) (j := 10) Z (fun k => CK ?_) (fun k => ?_)
   ·exact xox
   ·refine xlf ?_
    exact xox
  rintro b -
  refine CC Z (fun hb => ?_) (fun hb => ?_)
  ·have hI1 := (hI.step hn0).mono (j := 2 * (i + 1)) yd
   have hcr := crs_step hI.r now hgr
   have hcs := (cr_step R now).1
   have hstill := fun h => cr_still (R := R) h now
   have hlen := step_lenC hI.r.ok now
   obtain ⟨⟨R1, S1⟩, hQ1⟩ : ∃ Q, Q = stepR R now := ⟨_, rfl⟩
   rw [← hQ1] at hI1 hcr hcs hstill hlen
   dsimp only at hI1 hcr hcs hstill hlen
   refine xhm ?_
   refine VG (VK (Lc := [repH r R]) (fun Fr w hF hs hS => step_spec Fr w hI.r.ok now) Z Z ?_)
   rw [← hQ1]
   rintro _ _ ⟨b1, d1, rfl, rfl⟩
   refine xgk ?_
   show VC _ _ _ _ _
   refine xoy ?_
   rintro rs ⟨rok, hrv, hrx⟩
   rw [← hrv]
   show VC _ _ _ [rs.h sndT, repH r R1, nm0 q C a cap m n, H, intH a cap C.qs, pt cb (C.cells a cap) 24, logH lq R.log] _
   refine xoz ?_
   refine xhm ?_
   refine VG (VK (Lc := [nm0 q C a cap m n]) (fun Fr w hF hs hS => nstep_spec Fr w hw (ints_sl (hS.at_ 1 Z)) (hM.rd hF hs hS 0 Z) now) Z Z ?_)
   rintro _ _ ⟨a2, c2, rfl, rfl⟩
   refine xgk ?_
   show VC _ _ _ _ _
   have hM1 : memS Fr w m (n.step C now).ch.ms H := by rw [step_ch hw now]; exact hM
   have fin : ∀ {X : Cx} {E : Env} {M : List HP}, Sub (bE mb mo l.length lc cb r q gr i [(14, pV lq), (15, .int .i64 R.win.done), (16, .int .i64 R.since), (17, .int .i64 R.ch.epoch), (19, rs.v)]) E → Ent X M (lawH r q C a cap ⟨R1, n.step C now, m, H⟩ [pt cb (C.cells a cap) 24, logH lq R.log, rs.h sndT]) → ∃ s : CrW, s.Ok Fr w C R i ∧ Sub (bE mb mo l.length lc cb r q s.g i [(14, pV lq), (15, .int .i64 R.win.done), (16, .int .i64 R.since), (17, .int .i64 R.ch.epoch), (19, s.rs.v)]) E ∧ Ent X M (lawH r q C a cap s.s [pt cb (C.cells a cap) 24, logH lq R.log, s.rs.h sndT]) := fun {X E M} h h2 =>
    ⟨⟨⟨R1, n.step C now, m, H⟩, S1, rs, gr⟩, ⟨⟨hI1, hM1⟩, rok, hrx, hlen, by dsimp only; rw [hcs.ch, if_neg ya]; exact hcr⟩, h, h2⟩
   refine CN (L' := lawH r q C a cap ⟨R1, n.step C now, m, H⟩ [pt cb (C.cells a cap) 24, logH lq R.log, rs.h sndT]) (pkZ [4, 0, 1, 1, 2, 2, 1]).ent ?_
   refine xlf ?_
   cases hwh : R.whole with
   | true =>
    refine VG (VY 191 false Z Z ?_)
    refine zqs ?_
    exact fin sbZ ER
   | false =>
    refine VG (VY 191 true Z Z ?_)
    refine xlf ?_
    refine xpa ?_
    rintro _ _ ⟨kq, rfl, rfl⟩
    refine VG (VV (fun Fr w hF hs hS => Lg.len_spec Fr w (hS.at_ 0 Z)) Z ?_)
    refine xlf ?_
    refine VG (VV (fun Fr w hF hs hS => Lg.len_spec Fr w (hS.at_ 6 Z)) Z ?_)
    refine xlf ?_
    refine VC.condNE (i := (R1.log.length : Int)) (j := (R.log.length : Int)) Z (fun k => absurd (by rw [hstill hwh]) k) (fun _ => CK ?_)
    exact fin sbZ (pkZ [1, 1, 1, 1, 1, 1, 1]).ent
  ·refine xlf ?_
   refine CE (i := (x.kind : Int) % 14) (j := 12) Z (fun k => ?_) (fun k => ?_)
   ·have hI1 := hI.tick.mono (j := 2 * (i + 1)) yd
    have hcr := crs_tick hgr
    have hcc : (tickR R).1.ch = R.ch := by
     show (tick1 R).ch = _
     unfold tick1; split <;> rfl
    have hlen : (tickR R).2.length ≤ 1000000 := by have := tick_lenC R; omega
    obtain ⟨⟨R1, S1⟩, hQ1⟩ : ∃ Q, Q = tickR R := ⟨_, rfl⟩
    rw [← hQ1] at hI1 hcr hcc hlen
    dsimp only at hI1 hcr hcc hlen
    refine xhm ?_
    refine VG (VK (Lc := [repH r R]) (fun Fr w hF hs hS => tick_spec Fr w hI.r.ok now) Z Z ?_)
    rw [← hQ1]
    rintro _ _ ⟨b1, d1, rfl, rfl⟩
    refine xgk ?_
    show VC _ _ _ _ _
    refine xoy ?_
    rintro rs ⟨rok, hrv, hrx⟩
    rw [← hrv]
    show VC _ _ _ [rs.h sndT, repH r R1, nm0 q C a cap m n, H, intH a cap C.qs, pt cb (C.cells a cap) 24, logH lq R.log] _
    refine xoz ?_
    refine CG ?_
    refine VG (VK (Lc := [nm0 q C a cap m n]) (fun Fr w hF hs hS => ntick_spec Fr w hok (hM.rd hF hs hS 0 Z)) Z Z ?_)
    rintro _ _ ⟨a2, c2, rfl, rfl⟩
    refine xgk ?_
    have hM1 : memS Fr w m (n.tick C).ch.ms H := by rw [tick_ch C n]; exact hM
    exact ⟨⟨⟨R1, n.tick C, m, H⟩, S1, rs, gr⟩, ⟨⟨hI1, hM1⟩, rok, hrx, hlen, by dsimp only; rw [hcc, if_neg ya]; exact hcr⟩, sbZ, (pkZ [4, 0, 1, 1, 2, 2, 1]).ent⟩
   ·skip
    obtain ⟨t, ht⟩ : ∃ t, t = x.act C n xms := ⟨_, rfl⟩
    obtain ⟨from_, f, ms⟩ := t
    have hml : ms.length ≤ 1000 := by have := act_len (C := C) (n := n) (x := x) (by rw [hch]; exact hce.2.2) hxl; rw [← ht] at this; exact this
    have hix : -9223372036854775808 ≤ f.entry.index ∧ f.entry.index ≤ 9223372036854775807 := by have := act_idx (C := C) (n := n) (x := x) (xms := xms) hok.log hxx; rw [← ht] at this; exact this
    refine CS ?_
    refine VC.meetS (σ := MemP × HP × Nat) (fun s => (bE mb mo l.length lc cb r q gr i [(13, .int .i64 now), (14, pV lq), (15, .int .i64 R.win.done), (16, .int .i64 R.since), (17, .int .i64 R.ch.epoch), (18, .bool R.whole), (20, .int .i64 from_), (21, .pointer (some ⟨s.2.2, 0, none⟩))])) (fun s => [nm0 q C a cap m n, repH r R, H, s.2.1, intH a cap C.qs, pt s.2.2 (fgC f (s.1.1, ms.length, s.1.2)) frT, pt cb (C.cells a cap) 24, logH lq R.log]) (fun s => memP Fr w s.1 ms H s.2.1) ?_ ?_
    ·refine CG ?_
     refine xfv ?_
     refine xfk ?_
     refine VG (VK (Lc := []) (fun Fr w hF hs hS => frame_spec Fr w x xms hxn hxb (hS.at_ 1 Z) (hM.rd hF hs hS 2 Z) (by rw [hch]; omega) (by rw [hch]; omega) (by rw [hch]; omega) yd hok.log) Z Z ?_)
     rintro _ _ ⟨g, HF, rfl, rfl, hA⟩
     rw [← ht]
     rw [← ht] at hA
     refine xlf ?_
     refine VG (VO.alloc Z fun fb => ?_)
     refine VG (VT (vs := fgC f (g.1, ms.length, g.2)) (cs' := fgC f (g.1, ms.length, g.2)) 0 Z Z Z Z (NR _) Z Z Z (VG (VN ?_)))
     exact ⟨(g, HF, fb), hA.p hM hxr, sbZ, (pkZ [3, 2, 2, 1, 1, 0, 0, 0]).ent⟩
    rintro ⟨g, HF, fb⟩ hMF
    dsimp only at hMF ⊢
    have hMP : memP Fr w m n.ch.ms H HF := .inl hM
    obtain ⟨N1, hN1⟩ : ∃ N, N = n.take C from_ f ms now := ⟨_, rfl⟩
    obtain ⟨m1, hm1⟩ : ∃ m' : MemP, m' = if n.enters from_ f ms then g else m := ⟨_, rfl⟩
    have hM1 := hMP.ite hMF (n.enters from_ f ms)
    have hI1 := hI.take yd from_ f ms hn0
    have hcr := crs_take hI.r from_ f ms now hgr
    have hlen := take_lenC hI.r.fit from_ f ms now
    have hc1 := call_lenC R from_ f ms now
    have hask := fun h1 h2 h3 => cr_ask (R := R) h1 h2 from_ (f := f) h3 ms now
    have hnob := fun h1 h2 => nobody (R := R) (f := f) h1 h2 from_ ms now
    obtain ⟨⟨R1, S1⟩, hQ1⟩ : ∃ Q, Q = takeR R from_ f ms now := ⟨_, rfl⟩
    rw [← take_ms hI.e hI.r from_ f ms hn0, ← hN1, ← hm1] at hM1
    rw [← hN1, ← hQ1] at hI1
    rw [← hQ1] at hcr hlen hc1 hask hnob
    dsimp only at hI1 hcr hlen hc1 hask
    have hnx := next19_is hI1.e hI1.r
    have hml1 : N1.ch.ms.length ≤ 1000 := by have h1 : N1.ch = R1.ch := hI1.e.ch; rw [h1]; have := hI1.r.chE; omega
    refine xhm ?_
    refine VG (VL 5 (fgC f (g.1, ms.length, g.2)) Z Z Z Z ?_)
    refine VG (VK (Lc := [nm0 q C a cap m n]) (fun Fr w hF hs hS => ntake_spec Fr w hok (hMP.rd hF hs hS 1 2 Z Z) from_ f g ms (hMF.rd hF hs hS 1 2 Z Z) yd now) Z Z ?_)
    rintro _ _ ⟨a2, c2, rfl, rfl⟩
    rw [← hN1, ← hm1]
    refine VG (VV (fun Fr w hF hs hS => next19_spec Fr w (hS.at_ 0 Z) (hM1.rd hF hs hS 3 4 Z Z) hml1) Z ?_)
    rw [hnx]
    refine xgk ?_
    show VC _ _ _ _ _
    refine CN (L' := [repH r R, nm0 q C a cap m1 N1, H, HF, intH a cap C.qs, pt fb (fgC f (g.1, ms.length, g.2)) frT, pt cb (C.cells a cap) 24, logH lq R.log]) (pkZ [2, 0, 1, 1, 1, 1, 1, 1]).ent ?_
    refine xhm ?_
    refine VG (VL 5 (fgC f (g.1, ms.length, g.2)) Z Z Z Z ?_)
    refine VG (VK (Lc := [repH r R]) (fun Fr w hF hs hS => take_spec Fr w hI.r.fit (by have := hI.last; omega) from_ f (hMF.rd hF hs hS 1 2 Z Z) yd now hix.1 hix.2) Z Z ?_)
    rw [← hQ1]
    rintro _ _ ⟨b1, d1, rfl, rfl⟩
    refine xgk ?_
    show VC _ _ _ _ _
    refine xoy ?_
    rintro rs ⟨rok, hrv, hrx⟩
    rw [← hrv]
    have hrl : rs.xs.length = S1.length := by rw [hrx]
    show VC _ _ _ [rs.h sndT, repH r R1, nm0 q C a cap m1 N1, H, HF, intH a cap C.qs, pt fb (fgC f (g.1, ms.length, g.2)) frT, pt cb (C.cells a cap) 24, logH lq R.log] _
    obtain ⟨g1, hg1⟩ : ∃ g1 : Int, g1 = if f.kind = 5 ∧ 0 ≤ from_ ∧ from_ = R1.nextM ∧ f.epoch = R.ch.epoch ∧ R.since ≠ 0 then max gr f.grant else gr := ⟨_, rfl⟩
    have hcr1 : CrS R R1 S1 (if R1.ch.epoch ≠ R.ch.epoch then 0 else g1) := by rw [hg1]; exact hcr
    refine CS ?_
    refine VC.meetS (σ := Unit) (fun _ => (bE mb mo l.length lc cb r q g1 i [(14, pV lq), (15, .int .i64 R.win.done), (16, .int .i64 R.since), (17, .int .i64 R.ch.epoch), (18, .bool R.whole), (19, rs.v), (21, pV fb)])) (fun _ => [rs.h sndT, repH r R1, nm0 q C a cap m1 N1, H, HF, intH a cap C.qs, pt fb (fgC f (g.1, ms.length, g.2)) frT, pt cb (C.cells a cap) 24, logH lq R.log]) (fun _ => True) ?_ ?_
    ·skip
     refine xpb ?_
     by_cases k5 : f.kind = 5
     rotate_left
     ·refine VG (VY 131 false Z (by rw [beq_eq_false_iff_ne]; exact k5) ?_)
      refine xpb ?_
      refine VG (VY 135 false Z Z ?_)
      refine xpb ?_
      refine VG (VY 140 false Z Z ?_)
      refine xpb ?_
      refine VG (VY 146 false Z Z ?_)
      refine zqt ?_
      rw [show g1 = gr by rw [hg1, if_neg (fun k => k5 k.1)]]
      exact xhh
     refine VG (VY 131 true Z (by rw [beq_iff_eq]; exact k5) ?_)
     refine xpb ?_
     by_cases k0 : 0 ≤ from_
     rotate_left
     ·refine VG (VY 135 false Z (DF k0) ?_)
      refine xpb ?_
      refine VG (VY 140 false Z Z ?_)
      refine xpb ?_
      refine VG (VY 146 false Z Z ?_)
      refine zqt ?_
      rw [show g1 = gr by rw [hg1, if_neg (fun k => k0 k.2.1)]]
      exact xhh
     refine VG (VY 135 true Z (DT k0) ?_)
     refine xpb ?_
     by_cases kn : from_ = R1.nextM
     rotate_left
     ·refine VG (VY 140 false Z (by rw [beq_eq_false_iff_ne]; exact kn) ?_)
      refine xpb ?_
      refine VG (VY 146 false Z Z ?_)
      refine zqt ?_
      rw [show g1 = gr by rw [hg1, if_neg (fun k => kn k.2.2.1)]]
      exact xhh
     refine VG (VY 140 true Z (by rw [beq_iff_eq]; exact kn) ?_)
     refine xpb ?_
     by_cases ke : f.epoch = R.ch.epoch
     rotate_left
     ·refine VG (VY 146 false Z (by rw [beq_eq_false_iff_ne]; exact ke) ?_)
      refine zqt ?_
      rw [show g1 = gr by rw [hg1, if_neg (fun k => ke k.2.2.2.1)]]
      exact xhh
     refine VG (VY 146 true Z (by rw [beq_iff_eq]; exact ke) ?_)
     refine xpb ?_
     refine VC.condNE (i := R.since) (j := 0) Z (fun ks => ?_) (fun ks => CK ?_)
     ·refine xpb ?_
      have e1 : g1 = max gr f.grant := by rw [hg1, if_pos ⟨k5, k0, kn, ke, ks⟩]
      rw [show g1 = if gr < f.grant then f.grant else gr by rw [e1]; split <;> omega]
      exact xhh
     ·rw [show g1 = gr by rw [hg1, if_neg (fun k => k.2.2.2.2 (by simpa using ks))]]
      exact xhh
    rintro _ -
    have fin : ∀ {X : Cx} {E : Env}, Sub (bE mb mo l.length lc cb r q g1 i [(14, pV lq), (15, .int .i64 R.win.done), (16, .int .i64 R.since), (17, .int .i64 R.ch.epoch), (19, rs.v)]) E → ∃ s : CrW, s.Ok Fr w C R i ∧ Sub (bE mb mo l.length lc cb r q s.g i [(14, pV lq), (15, .int .i64 R.win.done), (16, .int .i64 R.since), (17, .int .i64 R.ch.epoch), (19, s.rs.v)]) E ∧ Ent X [rs.h sndT, repH r R1, nm0 q C a cap m1 N1, H, HF, intH a cap C.qs, pt fb (fgC f (g.1, ms.length, g.2)) frT, pt cb (C.cells a cap) 24, logH lq R.log] (lawH r q C a cap s.s [pt cb (C.cells a cap) 24, logH lq R.log, s.rs.h sndT]) := fun {X E} h => by
     rcases hM1 with k6 | k6
     ·exact ⟨⟨⟨R1, N1, m1, H⟩, S1, rs, g1⟩, ⟨⟨hI1.mono yd, k6⟩, rok, hrx, hlen, hcr1⟩, h, (pkZ [1, 1, 1, 2, 3, 3, 0]).ent⟩
     ·exact ⟨⟨⟨R1, N1, m1, HF⟩, S1, rs, g1⟩, ⟨⟨hI1.mono yd, k6⟩, rok, hrx, hlen, hcr1⟩, h, (pkZ [1, 1, 2, 2, 3, 3, 0]).ent⟩
    refine xpb ?_
    by_cases k1 : f.kind = 1
    rotate_left
    ·refine VG (VY 157 false Z (by rw [beq_eq_false_iff_ne]; exact k1) ?_)
     refine xpb ?_
     refine VG (VY 161 false Z Z ?_)
     refine zqt ?_
     exact fin sbZ
    refine VG (VY 157 true Z (by rw [beq_iff_eq]; exact k1) ?_)
    refine xpb ?_
    cases hwh : R.whole with
    | true =>
     refine VG (VY 161 false Z Z ?_)
     refine zqt ?_
     exact fin sbZ
    | false =>
     refine VG (VY 161 true Z Z ?_)
     refine xpb ?_
     have hrd : R.rds.l = [] := Decidable.byContradiction fun hne => by
      have := (hI.r.rw hne).1
      rw [hwh] at this; cases this
     obtain ⟨hr1, hk3⟩ := hask hwh hrd k1
     refine VG (VV (fun Fr w hF hs hS => Rep.reading_spec Fr w hI1.r.ok (hS.at_ 1 Z)) Z ?_)
     refine xpb ?_
     refine VG (VY 165 false Z (by rw [hr1]; rfl) ?_)
     refine xpb ?_
     refine VG (VL 6 (fgC f (g.1, ms.length, g.2)) Z Z Z Z ?_)
     have hcl : S1 ≠ [] → 0 ≤ f.client ∧ f.client ≤ 1000 := fun hne => by
      have h4 : 0 ≤ f.client ∧ f.client < R.clients := Decidable.byContradiction fun hc => hne (congrArg Prod.snd (hnob k1 hc))
      have := hI.r.fit.cl
      omega
     have hv : rs.v = .slice rs.addr S1.length rs.cap := by rw [RL.v, hrl]
     rw [hv]
     refine VG (VV (fun Fr w hF hs hS => answered_spec Fr w (by have := RwIn.rl (hS.at_ 0 Z) rok; rw [hrx] at this; exact this) hlen f (g.1, ms.length, g.2) hcl) Z ?_)
     rw [← hv]
     refine xpb ?_
     by_cases ka : ((ansM f S1 : Nat) : Int) = 1
     rotate_left
     ·refine VG (VY 170 false Z (by rw [beq_eq_false_iff_ne]; exact ka) ?_)
      refine zqt ?_
      exact fin sbZ
     refine VG (VY 170 true Z (by rw [beq_iff_eq]; exact ka) ?_)
     refine xpb ?_
     have hpos : 0 < S1.length := by have := ansM_le f S1; omega
     obtain ⟨sd, hsd⟩ : ∃ sd, S1[0]? = some sd := ⟨_, GE hpos⟩
     have hs3 := hk3 sd (ME hsd)
     obtain ⟨tb, tof, htb, hta, hrd2⟩ := RL.Ok.ld (t := sndT) (k := 0) (x := sd) rok (by rw [hrx]; exact hsd) (sndC_len sd)
     have hv2 : rs.v = .slice (some ⟨tb, tof, none⟩) S1.length rs.cap := by rw [hv, hta]
     refine VG (VI (light_idx 0 (by show some rs.v = _; rw [hv2]) Z Z Z Z Z hpos) ?_)
     refine VG (VD Z Z ((hrd2 0 Z).2 _ 1 _ Z Z) ?_)
     refine xpb ?_
     refine CC Z (fun hb2 => ?_) (fun _ => CK ?_)
     ·exfalso
      have : sd.2.kind = 2 := by simpa using hb2
      omega
     exact fin sbZ
 rintro ⟨⟨R1, N1, m1, H1⟩, S1, rs, g1⟩ ⟨⟨hI1, hM1⟩, rok, hrx, hlen, hcr⟩
 dsimp only at hI1 hM1 rok hrx hlen hcr ⊢
 obtain ⟨g2, hg2⟩ : ∃ g2 : Int, g2 = if R1.ch.epoch ≠ R.ch.epoch then 0 else g1 := ⟨_, rfl⟩
 rw [← hg2] at hcr
 have hw1c := hI1.r.ok.win.cap0
 have hR1l := hI1.r.logl
 have hrl : rs.xs.length = S1.length := by rw [hrx]
 refine CS ?_
 refine VC.meetS (σ := Unit) (fun _ => (bE mb mo l.length lc cb r q g2 i [(14, pV lq), (15, .int .i64 R.win.done), (16, .int .i64 R.since), (17, .int .i64 R.ch.epoch), (19, rs.v)])) (fun _ => [repH r R1, nm0 q C a cap m1 N1, H1, intH a cap C.qs, pt cb (C.cells a cap) 24, logH lq R.log, rs.h sndT]) (fun _ => True) ?_ ?_
 ·refine xhm ?_
  refine VG (VK (Lc := []) (fun Fr w hF hs hS => Rep.chain_spec Fr w hI1.r.ok (hS.at_ 0 Z)) Z Z ?_)
  rintro _ _ ⟨a1, c1, rfl, rfl⟩
  refine VG (VI (light_fld Tryz.underlying36 Z Z Z Z Z) ?_)
  refine xlf ?_
  refine VC.condNE (i := R1.ch.epoch) (j := R.ch.epoch) Z (fun h => ?_) (fun h => CK ?_)
  ·refine xlf ?_
   refine ⟨(), trivial, ?_, (pkZ [1, 1, 1, 1, 1, 1, 1]).ent⟩
   rw [hg2, if_pos h]
   exact sbZ
  ·refine ⟨(), trivial, ?_, (pkZ [1, 1, 1, 1, 1, 1, 1]).ent⟩
   rw [hg2, if_neg (fun k => k h)]
   exact sbZ
 rintro _ -
 refine xhm ?_
 refine xpa ?_
 rintro _ _ ⟨kq, rfl, rfl⟩
 refine VG (VK (Lc := []) (fun Fr w hF hs hS => window_spec Fr w hI1.r.ok (hS.at_ 1 Z)) Z Z ?_)
 rintro _ _ ⟨vq, rfl, rfl⟩
 refine xgk ?_
 show VC _ _ _ [winH vq R1.win, logH kq R1.log, repH r R1, nm0 q C a cap m1 N1, H1, intH a cap C.qs, pt cb (C.cells a cap) 24, logH lq R.log, rs.h sndT] _
 have o1 := hI1.r.ok.last
 have o2 := hI1.r.ok.win.done1
 have o3 := hI1.r.ahead
 have o4 := hI1.r.wcap
 have o5 := hI1.r.cap
 have o6 := hI1.r.ok.win.done0
 have o7 := hI1.r.ok.win.last1
 refine CS (CS ?_)
 refine CD (.take 0 (.take 2 (.only 1 (.only 3 (.take 4 (.take 5 (.take 6 (.take 8 (.only 7 (.only 9 (.take 10 (.take 11 (.take 12 (.take 13 (.take 15 (.take 18 (.take 19 (.only 14 (.only 16 (.take 17 (.take 20 (.take 21 .nil)))))))))))))))))))))) ym yq ?_
 refine xpc ?_
 refine VA.go (AR (fun Fr w hF hs hS => Lg.len_spec Fr w (hS.at_ 1 Z)) Z Z yr ?_)
 refine VA.go (AY 220 false Z (by rw [bne_eq_false_iff_eq]; exact o1) ?_)
 refine xkw ?_
 refine xpd ?_
 refine xpc ?_
 refine VA.go (AY 227 false Z (DF yd) ?_)
 refine xkw ?_
 refine xpc ?_
 refine xpd ?_
 refine xgl ?_
 refine xkw ?_
 refine CP (p := C.window < R1.win.last - R1.win.done) Z (fun h => absurd h yd) (fun _ => CK ?_)
 refine CS ?_
 refine VC.meetS (σ := Unit) (fun _ => (bE mb mo l.length lc cb r q g2 i [(24, pV kq), (19, .slice rs.addr rs.xs.length rs.cap)])) (fun _ => [logH kq R1.log, repH r R1, nm0 q C a cap m1 N1, H1, intH a cap C.qs, pt cb (C.cells a cap) 24, rs.h sndT]) (fun _ => True) ?_ ?_
 ·skip
  refine CS ?_
  refine VC.meetS (σ := Bool) (fun b => (bE mb mo l.length lc cb r q g2 i [(14, pV lq), (15, .int .i64 R.win.done), (16, .int .i64 R.since), (19, .slice rs.addr rs.xs.length rs.cap), (24, pV kq), (25, pV vq), (245, .bool b)])) (fun _ => [winH vq R1.win, logH kq R1.log, repH r R1, nm0 q C a cap m1 N1, H1, intH a cap C.qs, pt cb (C.cells a cap) 24, logH lq R.log, rs.h sndT]) (fun b => b = true → R1.since = R.since ∨ R1.since = 0) ?_ ?_
  ·refine CG ?_
   refine xow ?_
   by_cases hsi : R1.since = R.since
   ·refine VG (VY 241 true Z (by rw [beq_iff_eq]; exact hsi) ?_)
    refine xlf ?_
    exact ⟨true, fun _ => .inl hsi, sbZ, ER⟩
   refine VG (VY 241 false Z (by rw [beq_eq_false_iff_ne]; exact hsi) ?_)
   refine xlf ?_
   refine xow ?_
   refine xlf ?_
   exact ⟨R1.since == 0, fun h => .inr yb, sbZ, ER⟩
  rintro b hb
  refine CC Z (fun hbt => ?_) (fun hbf => CK ?_)
  rotate_left
  ·exact ⟨(), trivial, sbZ, (pkZ [1, 1, 1, 1, 1, 1, 2]).ent⟩
  obtain ⟨hpre, hdn⟩ := hcr.same (hb hbt)
  have hple := hpre.length_le
  refine xlf ?_
  refine VG (VV (fun Fr w hF hs hS => Lg.len_spec Fr w (hS.at_ 1 Z)) Z ?_)
  refine xlf ?_
  refine VG (VV (fun Fr w hF hs hS => Lg.len_spec Fr w (hS.at_ 7 Z)) Z ?_)
  refine VG (VY 251 false Z (DF yd) ?_)
  refine xlf ?_
  refine VG (VV (fun Fr w hF hs hS => Win.done_spec Fr w (hS.blk 0 Z) hw1c) Z ?_)
  refine xlf ?_
  refine CP (p := R1.win.done < R.win.done) Z (fun h => absurd h yd) (fun _ => CK ?_)
  refine xlf ?_
  refine VC.loop (σ := Nat) (fun k => (bE mb mo l.length lc cb r q g2 i [(14, pV lq), (19, .slice rs.addr rs.xs.length rs.cap), (24, pV kq), (26, .int .i64 k)])) (fun _ => [winH vq R1.win, logH kq R1.log, repH r R1, nm0 q C a cap m1 N1, H1, intH a cap C.qs, pt cb (C.cells a cap) 24, logH lq R.log, rs.h sndT]) (fun k => 1 ≤ k ∧ k ≤ R.log.length + 1) (fun k => R.log.length + 1 - k) 1 ⟨NR _, by omega⟩ sbZ ER ?_
  rintro k ⟨hk1, hk2⟩
  refine xlf ?_
  refine VG (VV (fun Fr w hF hs hS => Lg.len_spec Fr w (hS.at_ 7 Z)) Z ?_)
  refine xlf ?_
  refine CP (p := (k : Int) ≤ (R.log.length : Int)) Z (fun h3 => CK ?_) (fun h3 => CX ?_)
  rotate_left
  ·exact ⟨(), trivial, sbZ, (pkZ [1, 1, 1, 1, 1, 1, 2]).ent⟩
  have hat := pre_atI hpre (k := (k : Int)) yd h3
  refine xdx ?_
  refine xlf ?_
  refine VG (VV (fun Fr w hF hs hS => Lg.at_spec Fr w (hS.at_ 7 Z) k yd yd) Z ?_)
  refine VG (VO.alloc Z fun b1 => ?_)
  refine xpe ?_
  refine xlf ?_
  refine VG (VV (fun Fr w hF hs hS => Lg.at_spec Fr w (hS.at_ 2 Z) k yd yd) Z ?_)
  rw [hat]
  refine VG (VO.alloc Z fun b2 => ?_)
  refine xpe ?_
  refine xlf ?_
  refine VG (VL 1 (entC ((atI R.log k).getD entZ)) Z Z Z Z ?_)
  refine VG (VL 0 (entC ((atI R.log k).getD entZ)) Z Z Z Z ?_)
  refine VG (VI (light_neS guardEnt Z Z (ent_eq _ _)) ?_)
  refine xlf ?_
  refine CC Z (fun h => ?_) (fun _ => CK ?_)
  ·rw [(entEqB_iff _ _).2 rfl] at h; cases h
  refine zpm ?_
  exact ⟨k + 1, ⟨by omega, by omega⟩, by dsimp only; omega, sbZ, (pkZ [2, 2, 2, 2, 2, 2, 2, 2, 2]).ent⟩
 rintro _ -
 refine xlf ?_
 have hml1 : N1.ch.ms.length ≤ 1000 := by have h1 : N1.ch = R1.ch := hI1.e.ch; rw [h1]; have := hI1.r.chE; omega
 have hnx := next19_is hI1.e hI1.r
 refine VC.loop (σ := Nat) (fun k => (bE mb mo l.length lc cb r q g2 i [(24, pV kq), (19, .slice rs.addr rs.xs.length rs.cap), (31, .int .i64 (lastF (S1.take k))), (32, .int .i64 k)])) (fun _ => [logH kq R1.log, repH r R1, nm0 q C a cap m1 N1, H1, intH a cap C.qs, pt cb (C.cells a cap) 24, rs.h sndT]) (fun k => k ≤ rs.xs.length) (fun k => rs.xs.length - k) 0 (Nat.zero_le _) sbZ ER ?_
 rintro k hk
 refine xlf ?_
 refine CP (p := (k : Int) < (rs.xs.length : Int)) Z (fun h3 => CK ?_) (fun h3 => CX ?_)
 rotate_left
 ·exact ⟨(⟨R1, N1, m1, H1⟩, g2), ⟨⟨hI1, hM1⟩, hcr.limit⟩, sbZ, (pkZ [1, 1, 1, 1, 1]).ent⟩
 have hk2 : k < rs.xs.length := by omega
 obtain ⟨sd, hsd⟩ : ∃ sd, S1[k]? = some sd := ⟨_, GE yd⟩
 have hsd2 : rs.xs[k]? = some sd := by rw [hrx]; exact hsd
 have hlf := lastF_succ hsd
 have hlow := hcr.pas.low k
 obtain ⟨tb, tof, htb, hta, hrd⟩ := RL.Ok.ld (t := sndT) (k := k) (x := sd) rok hsd2 (sndC_len sd)
 rw [hta]
 refine CS ?_
 refine VC.meetS (σ := Unit) (fun _ => (bE mb mo l.length lc cb r q g2 i [(24, pV kq), (19, .slice (some ⟨tb, tof, none⟩) rs.xs.length rs.cap), (31, .int .i64 (lastF (S1.take (k + 1)))), (32, .int .i64 k)])) (fun _ => [logH kq R1.log, repH r R1, nm0 q C a cap m1 N1, H1, intH a cap C.qs, pt cb (C.cells a cap) 24, rs.h sndT]) (fun _ => True) ?_ ?_
 rotate_left
 ·rintro _ -
  refine zpm ?_
  exact ⟨k + 1, by dsimp only; omega, by dsimp only; omega, sbZ, ER⟩
 refine xjt ?_
 refine CS (CS (CG ?_))
 refine VG (VI (light_idx k Z Z Z Z Z Z hk2) ?_)
 refine VG (VD Z Z ((hrd 6 Z).2 _ 1 _ Z Z) ?_)
 refine xlf ?_
 refine VC.condNE (i := sd.2.kind) (j := 4) Z (fun h4 => CX ?_) (fun h4 => CK ?_)
 ·rw [if_neg h4] at hlf
  exact ⟨(), trivial, by rw [hlf]; exact sbZ, ER⟩
 rw [if_pos h4] at hlf
 obtain ⟨p1, p2, p3, p4, p5⟩ := hcr.pas.at_ k sd hsd h4
 have hle : sd.2.entry.index ≤ R1.log.length := Decidable.byContradiction fun h => by rw [atI_none (.inr yd)] at p2; cases p2
 refine xhm ?_
 refine VG (VI (light_idx k Z Z Z Z Z Z hk2) ?_)
 refine VG (VD Z Z (RL.Ok.sub rok hsd2 htb hta 6 Z _ 17 (entC sd.2.entry) Z yy Z Z) ?_)
 refine VG (VO.alloc Z fun b3 => ?_)
 refine VG (VT (vs := entC sd.2.entry) (cs' := entC sd.2.entry) 0 Z Z Z Z (NR _) Z Z Z ?_)
 refine xel ?_
 refine VG (VV (fun Fr w hF hs hS => Lg.at_spec Fr w (hS.at_ 1 Z) sd.2.entry.index yd yd) Z ?_)
 rw [p2]
 refine VG (VO.alloc Z fun b4 => ?_)
 refine VG (VT (vs := entC sd.2.entry) (cs' := entC sd.2.entry) 0 Z Z Z Z (NR _) Z Z Z (VG (VN ?_)))
 show VC _ _ _ [pt b4 (entC sd.2.entry) 44, pt b3 (entC sd.2.entry) 44, logH kq R1.log, repH r R1, nm0 q C a cap m1 N1, H1, intH a cap C.qs, pt cb (C.cells a cap) 24, rs.h sndT] _
 refine CS (CS ?_)
 refine CD (ts 0 6 (.only 6 (ts 7 27 .nil))) ym yq ?_
 refine VA.go (AI Z (light_idx k Z Z Z Z Z Z hk2) ?_)
 refine VA.go (VA.load Z Z Z ((hrd 8 Z).2 _ 0 _ Z Z) ?_)
 refine xmx ?_
 refine VA.go (AR (fun Fr w hF hs hS => next19_spec Fr w (hS.at_ 4 Z) (hM1.rd hF hs hS 5 Z) hml1) Z Z (by (try refine Pd.st ?_);(repeat (first|exact Pd.nil|exact Pd.fnil|refine Pd.inner ?_|refine Pd.skip yq ?_|refine zf (zo 0 Z Z) ?_|refine zf (zo 1 Z Z) ?_|refine zf (zm 0 Z Z) ?_|refine zf (zm 1 Z Z) ?_|refine zf (RdL.blk ((hrd 8 Z).2 _ 0 _ Z Z) Z) ?_|refine zf (((hrd 8 Z).2 _ 0 _ Z Z)) ?_|refine zc (zo 0 Z Z) ?_|refine zc (zo 1 Z Z) ?_|refine zc (zm 0 Z Z) ?_|refine zc (zm 1 Z Z) ?_|refine zc (RdL.blk ((hrd 8 Z).2 _ 0 _ Z Z) Z) ?_|refine zc (((hrd 8 Z).2 _ 0 _ Z Z)) ?_))) ?_)
 rw [hnx]
 refine xos ?_
 refine VA.go (AY 312 false Z (by rw [bne_eq_false_iff_eq]; exact p1) ?_)
 refine xos ?_
 refine VA.go (AY 316 false Z Z ?_)
 refine xos ?_
 refine VA.go (VA.ldA 1 (entC sd.2.entry) Z Z Z Z Z ?_)
 refine VA.go (VA.ldA 0 (entC sd.2.entry) Z Z Z Z Z ?_)
 refine VA.go (AI Z (light_neS guardEnt Z Z (ent_eq _ _)) ?_)
 refine xos ?_
 refine VA.go (AY 321 false Z (by rw [(entEqB_iff _ _).2 rfl]; rfl) ?_)
 refine xos ?_
 refine VA.go (AY 327 false Z (DF yd) ?_)
 refine xos ?_
 rw [hlf]
 by_cases hl0 : 0 < lastF (S1.take k)
 ·refine VA.go (AY 330 true Z (DT hl0) ?_)
  refine xos ?_
  refine xeg ?_
  refine xos ?_
  refine VC.condNE (i := sd.2.entry.index) (j := lastF (S1.take k) + 1) Z (fun h => absurd (p5 hl0) h) (fun _ => CK ?_)
  refine xgf ?_
  exact ⟨(), trivial, sbZ, (pkZ [2, 2, 2, 2, 2, 2, 2]).ent⟩
 ·refine VA.go (AY 330 false Z (DF hl0) ?_)
  refine zqg ?_
  refine xgf ?_
  exact ⟨(), trivial, sbZ, (pkZ [2, 2, 2, 2, 2, 2, 2]).ent⟩
end Nd
end Go.Proofs.YtbbnmgakmcppdaaGreat
