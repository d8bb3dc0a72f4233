/- Windows: how far a log is there, done, sent and granted. No condition. -/
import Derived.Test.YtbbnmgakmcppdaaGreatVgK
import Derived.Test.YtbbnmgakmcppdaaGreatApi
import Derived.Test.YtbbnmgakmcppdaaGreatTab
namespace Go.Proofs.YtbbnmgakmcppdaaGreat.Win
open Go Go.Proofs.YtbbnmgakmcppdaaGreat.Vg Go.Proofs.YtbbnmgakmcppdaaGreat.T Go.Proofs.YtbbnmgakmcppdaaGreat.Api
set_option linter.unusedSimpArgs false
set_option linter.unusedVariables false
attribute [local irreducible] VO VC VA

structure WinM where
  cap : Int
  last : Int
  done : Int
  sent : Int
  limit : Int
def WinM.cells (W : WinM) : List Value := [.int .i64 W.cap, .int .i64 W.last, .int .i64 W.done, .int .i64 W.sent, .int .i64 W.limit]
abbrev winT : TypeId := 141
def winH (p : Nat) (W : WinM) : HP := pt p W.cells winT
structure WinM.Ok (W : WinM) : Prop where
  cap0 : 1 ≤ W.cap
  cap1 : W.cap ≤ 16
  done0 : 0 ≤ W.done
  done1 : W.done ≤ W.last
  last1 : W.last ≤ 4096
  sent0 : 0 ≤ W.sent
  sent1 : W.sent ≤ W.last
  lim0 : 0 ≤ W.limit
  lim1 : W.limit ≤ 4112
section
variable {p : Nat} {W : WinM}
theorem none_spec (Fr : Nat → Prop) (w : World) (h : Blk Fr w p W.cells) (hc : 1 ≤ W.cap) : Tri Tryz.prog 74 [.pointer (some ⟨p, 0, none⟩)] Fr w [] (fun v L => v = .bool false ∧ L = []) := by
  refine Tri.of 12 Tryz.func74 rfl (by kernel_rfl) tabOk rfl rfl ?_
  (repeat (first|refine zS ?_|refine zR ?_|refine zB ?_|refine zL ?_|refine zC ?_|refine zG (zN ?_)|refine zG (zD 0 rfl rfl rfl rfl ?_)))
  refine VO.go (VO.split 5 rfl rfl (fun h => by cases h) (fun _ => ?_))
  (repeat (first|refine zS ?_|refine zR ?_|refine zB ?_|refine zL ?_|refine zC ?_|refine zG (zN ?_)|refine zG (zE rfl rfl (RdL.blk h rfl) ?_)))
  exact VC.ret (Ret.bool 2 rfl rfl (by simp; omega) Ent.refl ⟨rfl, rfl⟩)
theorem last_spec (Fr : Nat → Prop) (w : World) (h : Blk Fr w p W.cells) (hc : 1 ≤ W.cap) : Tri Tryz.prog 35 [.pointer (some ⟨p, 0, none⟩)] Fr w [] (fun v L => v = .int .i64 W.last ∧ L = []) := by
  refine Tri.of 9 Tryz.func35 rfl (by kernel_rfl) tabOk rfl rfl ?_
  (repeat (first|refine zS ?_|refine zR ?_|refine zB ?_|refine zL ?_|refine zC ?_|refine zG (zN ?_)|refine zG (zD 0 rfl rfl rfl rfl ?_)))
  refine VO.go (VO.callV' (fun Fr w hF hs _ => none_spec Fr w (h.of hF hs) hc) rfl ?_)
  (repeat (first|refine zS ?_|refine zR ?_|refine zB ?_|refine zL ?_|refine zC ?_|refine zG (zN ?_)|refine zG (zD 0 rfl rfl rfl rfl ?_)))
  refine VC.condF rfl (VC.skip ?_)
  (repeat (first|refine zS ?_|refine zR ?_|refine zB ?_|refine zL ?_|refine zC ?_|refine zG (zN ?_)|refine zG (zE rfl rfl (RdL.blk h rfl) ?_)))
  exact VC.ret (Ret.int 2 rfl rfl rfl Ent.refl ⟨rfl, rfl⟩)
theorem done_spec (Fr : Nat → Prop) (w : World) (h : Blk Fr w p W.cells) (hc : 1 ≤ W.cap) : Tri Tryz.prog 22 [.pointer (some ⟨p, 0, none⟩)] Fr w [] (fun v L => v = .int .i64 W.done ∧ L = []) := by
  refine Tri.of 9 Tryz.func22 rfl (by kernel_rfl) tabOk rfl rfl ?_
  (repeat (first|refine zS ?_|refine zR ?_|refine zB ?_|refine zL ?_|refine zC ?_|refine zG (zN ?_)|refine zG (zD 0 rfl rfl rfl rfl ?_)))
  refine VO.go (VO.callV' (fun Fr w hF hs _ => none_spec Fr w (h.of hF hs) hc) rfl ?_)
  (repeat (first|refine zS ?_|refine zR ?_|refine zB ?_|refine zL ?_|refine zC ?_|refine zG (zN ?_)|refine zG (zD 0 rfl rfl rfl rfl ?_)))
  refine VC.condF rfl (VC.skip ?_)
  (repeat (first|refine zS ?_|refine zR ?_|refine zB ?_|refine zL ?_|refine zC ?_|refine zG (zN ?_)|refine zG (zE rfl rfl (RdL.blk h rfl) ?_)))
  exact VC.ret (Ret.int 2 rfl rfl rfl Ent.refl ⟨rfl, rfl⟩)
theorem sent_spec (Fr : Nat → Prop) (w : World) (h : Blk Fr w p W.cells) (hc : 1 ≤ W.cap) : Tri Tryz.prog 125 [.pointer (some ⟨p, 0, none⟩)] Fr w [] (fun v L => v = .int .i64 W.sent ∧ L = []) := by
  refine Tri.of 9 Tryz.func125 rfl (by kernel_rfl) tabOk rfl rfl ?_
  (repeat (first|refine zS ?_|refine zR ?_|refine zB ?_|refine zL ?_|refine zC ?_|refine zG (zN ?_)|refine zG (zD 0 rfl rfl rfl rfl ?_)))
  refine VO.go (VO.callV' (fun Fr w hF hs _ => none_spec Fr w (h.of hF hs) hc) rfl ?_)
  (repeat (first|refine zS ?_|refine zR ?_|refine zB ?_|refine zL ?_|refine zC ?_|refine zG (zN ?_)|refine zG (zD 0 rfl rfl rfl rfl ?_)))
  refine VC.condF rfl (VC.skip ?_)
  (repeat (first|refine zS ?_|refine zR ?_|refine zB ?_|refine zL ?_|refine zC ?_|refine zG (zN ?_)|refine zG (zE rfl rfl (RdL.blk h rfl) ?_)))
  exact VC.ret (Ret.int 2 rfl rfl rfl Ent.refl ⟨rfl, rfl⟩)
theorem limit_spec (Fr : Nat → Prop) (w : World) (h : Blk Fr w p W.cells) (hc : 1 ≤ W.cap) : Tri Tryz.prog 36 [.pointer (some ⟨p, 0, none⟩)] Fr w [] (fun v L => v = .int .i64 W.limit ∧ L = []) := by
  refine Tri.of 9 Tryz.func36 rfl (by kernel_rfl) tabOk rfl rfl ?_
  (repeat (first|refine zS ?_|refine zR ?_|refine zB ?_|refine zL ?_|refine zC ?_|refine zG (zN ?_)|refine zG (zD 0 rfl rfl rfl rfl ?_)))
  refine VO.go (VO.callV' (fun Fr w hF hs _ => none_spec Fr w (h.of hF hs) hc) rfl ?_)
  (repeat (first|refine zS ?_|refine zR ?_|refine zB ?_|refine zL ?_|refine zC ?_|refine zG (zN ?_)|refine zG (zD 0 rfl rfl rfl rfl ?_)))
  refine VC.condF rfl (VC.skip ?_)
  (repeat (first|refine zS ?_|refine zR ?_|refine zB ?_|refine zL ?_|refine zC ?_|refine zG (zN ?_)|refine zG (zE rfl rfl (RdL.blk h rfl) ?_)))
  exact VC.ret (Ret.int 2 rfl rfl rfl Ent.refl ⟨rfl, rfl⟩)
theorem offer_spec (Fr : Nat → Prop) (w : World) (h : Blk Fr w p W.cells) (ok : W.Ok) : Tri Tryz.prog 161 [.pointer (some ⟨p, 0, none⟩)] Fr w [] (fun v L => v = .int .i64 (W.done + W.cap) ∧ L = []) := by
  have o1 := ok.cap0; have o2 := ok.cap1; have o3 := ok.done0; have o4 := ok.done1; have o5 := ok.last1
  refine Tri.of 14 Tryz.func161 rfl (by kernel_rfl) tabOk rfl rfl ?_
  (repeat (first|refine zS ?_|refine zR ?_|refine zB ?_|refine zL ?_|refine zC ?_|refine zG (zN ?_)|refine zG (zD 0 rfl rfl rfl rfl ?_)))
  refine VO.go (VO.callV' (fun Fr w hF hs _ => none_spec Fr w (h.of hF hs) o1) rfl ?_)
  (repeat (first|refine zS ?_|refine zR ?_|refine zB ?_|refine zL ?_|refine zC ?_|refine zG (zN ?_)|refine zG (zD 0 rfl rfl rfl rfl ?_)))
  refine VC.condF rfl (VC.skip ?_)
  refine VC.seq (VC.draw (ts 0 10 .nil) (by kernel_rfl) (by decide +kernel) ?_)
  (repeat (first|refine yG (yN ?_)|refine yG (yE rfl rfl rfl (RdL.blk h rfl) ?_)))
  refine VA.go (VA.add rfl rfl rfl (by omega) (by omega) ?_)
  (repeat (first|refine yG (yN ?_)|refine yG (yD 0 rfl rfl rfl rfl rfl ?_)))
  exact VC.ret (Ret.int 2 rfl rfl rfl Ent.refl ⟨rfl, rfl⟩)
theorem free_spec (Fr : Nat → Prop) (w : World) (h : Blk Fr w p W.cells) (ok : W.Ok) : Tri Tryz.prog 84 [.pointer (some ⟨p, 0, none⟩)] Fr w [] (fun v L => v = .int .i64 (max (min (W.done + W.cap) 4096 - W.last) 0) ∧ L = []) := by
  have o1 := ok.cap0; have o2 := ok.cap1; have o3 := ok.done0; have o4 := ok.done1; have o5 := ok.last1
  refine Tri.of 14 Tryz.func84 rfl (by kernel_rfl) tabOk rfl rfl ?_
  (repeat (first|refine zS ?_|refine zR ?_|refine zB ?_|refine zL ?_|refine zC ?_|refine zG (zN ?_)|refine zG (zD 0 rfl rfl rfl rfl ?_)))
  refine VO.go (VO.callV' (fun Fr w hF hs _ => none_spec Fr w (h.of hF hs) o1) rfl ?_)
  (repeat (first|refine zS ?_|refine zR ?_|refine zB ?_|refine zL ?_|refine zC ?_|refine zG (zN ?_)|refine zG (zD 0 rfl rfl rfl rfl ?_)))
  refine VC.condF rfl (VC.skip ?_)
  refine VC.seq (VC.draw (.take 0 (ts 3 4 (.only 1 (.take 2 (ts 7 3 .nil))))) (by kernel_rfl) (by decide +kernel) ?_)
  (repeat (first|refine yG (yN ?_)|refine yG (yE rfl rfl rfl (RdL.blk h rfl) ?_)))
  refine VA.go (VA.callR (fun Fr w hF hs hS => offer_spec Fr w (h.of hF hs) ok) rfl rfl (by (try refine Pd.st ?_);(repeat (first|exact Pd.nil|exact Pd.fnil|refine Pd.inner ?_|refine Pd.skip (by decide +kernel) ?_|refine zf (RdL.blk (RdL.blk h rfl) rfl) ?_|refine zf ((RdL.blk h rfl)) ?_|refine zc (RdL.blk (RdL.blk h rfl) rfl) ?_|refine zc ((RdL.blk h rfl)) ?_))) ?_)
  (repeat (first|refine yG (yN ?_)|refine yG (yE rfl rfl rfl (RdL.blk h rfl) ?_)))
  refine VA.go (VA.sub' rfl rfl rfl (by split <;> omega) (by split <;> omega) ?_)
  (repeat (first|refine yG (yN ?_)|refine yG (yD 0 rfl rfl rfl rfl rfl ?_)))
  exact VC.ret (Ret.int 2 rfl rfl (by simp only [Int.min_def, Int.max_def]; repeat' split <;> omega) Ent.refl ⟨rfl, rfl⟩)
def WinM.room (W : WinM) : Bool := decide (W.last < W.done + W.cap) && decide (W.last < 4096)
theorem push_spec (Fr : Nat → Prop) (w : World) (ok : W.Ok) (hr : W.room = true) : Tri Tryz.prog 146 [.pointer (some ⟨p, 0, none⟩)] Fr w [winH p W] (fun v L => v = .bool true ∧ L = [winH p { W with last := W.last + 1 }]) := by
  have o1 := ok.cap0; have o2 := ok.cap1; have o3 := ok.done0; have o4 := ok.done1; have o5 := ok.last1
  have hr1 : W.last < W.done + W.cap ∧ W.last < 4096 := by simpa [WinM.room] using hr
  refine Tri.of 13 Tryz.func146 rfl (by kernel_rfl) tabOk rfl rfl ?_
  unfold winH
  (repeat (first|refine zS ?_|refine zR ?_|refine zB ?_|refine zL ?_|refine zC ?_|refine zG (zN ?_)|refine zG (zD 0 rfl rfl rfl rfl ?_)))
  refine VO.go (VO.callV' (fun Fr w hF hs hS => free_spec Fr w (hS.blk 0 rfl) ok) rfl ?_)
  (repeat (first|refine zS ?_|refine zR ?_|refine zB ?_|refine zL ?_|refine zC ?_|refine zG (zN ?_)|refine zG (zD 0 rfl rfl rfl rfl ?_)))
  refine VC.cond (t := false) (by simp only [Vg.ev, Vg.look]; simp [Int.min_def, Int.max_def]; split <;> constructor <;> omega) (fun hh => by cases hh) (fun _ => VC.skip ?_)
  (repeat (first|refine zS ?_|refine zR ?_|refine zB ?_|refine zL ?_|refine zC ?_|refine zG (zN ?_)|refine zG (zD 0 rfl rfl rfl rfl ?_)))
  refine VO.go (VO.add rfl rfl (by omega) (by omega) ?_)
  refine VO.go (VO.st 0 (cs' := ({ W with last := W.last + 1 } : WinM).cells) rfl rfl rfl rfl (Nat.le_of_ble_eq_true rfl) rfl rfl ?_)
  (repeat (first|refine zS ?_|refine zR ?_|refine zB ?_|refine zL ?_|refine zC ?_|refine zG (zN ?_)|refine zG (zD 0 rfl rfl rfl rfl ?_)))
  exact VC.ret (Ret.bool 2 rfl rfl rfl Ent.refl ⟨rfl, rfl⟩)
def WinM.ackB (W : WinM) (i : Int) : Bool := decide (W.done < i) && decide (i ≤ W.last)
def WinM.ack (W : WinM) (i : Int) : WinM := if W.ackB i then { W with done := i } else W
theorem ack_spec (Fr : Nat → Prop) (w : World) (ok : W.Ok) (i : Int) : Tri Tryz.prog 149 [.pointer (some ⟨p, 0, none⟩), .int .i64 i] Fr w [winH p W] (fun v L => v = .bool (W.ackB i) ∧ L = [winH p (W.ack i)]) := by
  have o1 := ok.cap0
  refine Tri.of 27 Tryz.func149 rfl (by kernel_rfl) tabOk rfl rfl ?_
  unfold winH
  (repeat (first|refine zS ?_|refine zR ?_|refine zB ?_|refine zL ?_|refine zC ?_|refine zG (zN ?_)|refine zG (zD 0 rfl rfl rfl rfl ?_)))
  refine VO.go (VO.callV' (fun Fr w hF hs hS => none_spec Fr w (hS.blk 0 rfl) o1) rfl ?_)
  (repeat (first|refine zS ?_|refine zR ?_|refine zB ?_|refine zL ?_|refine zC ?_|refine zG (zN ?_)|refine zG (zD 0 rfl rfl rfl rfl ?_)))
  refine VO.go (VO.yes 7 false rfl rfl ?_)
  (repeat (first|refine zS ?_|refine zR ?_|refine zB ?_|refine zL ?_|refine zC ?_|refine zG (zN ?_)|refine zG (zD 0 rfl rfl rfl rfl ?_)|refine zG (zU rfl rfl rfl ?_)))
  by_cases h1 : i ≤ W.done
  · have hb : W.ackB i = false := by simp [WinM.ackB]; omega
    refine VO.go (VO.yes 15 true rfl (decide_eq_true h1) ?_)
    (repeat (first|refine zS ?_|refine zR ?_|refine zB ?_|refine zL ?_|refine zC ?_|refine zG (zN ?_)|refine zG (zD 0 rfl rfl rfl rfl ?_)|refine zG (zU rfl rfl rfl ?_)))
    refine VC.condT rfl ?_
    (repeat (first|refine zS ?_|refine zR ?_|refine zB ?_|refine zL ?_|refine zC ?_|refine zG (zN ?_)|refine zG (zD 0 rfl rfl rfl rfl ?_)))
    exact VC.ret (Ret.tmp 4 rfl rfl Ent.refl ⟨by rw [hb], by rw [WinM.ack, hb]; rfl⟩)
  · refine VO.go (VO.yes 15 false rfl (decide_eq_false h1) ?_)
    (repeat (first|refine zS ?_|refine zR ?_|refine zB ?_|refine zL ?_|refine zC ?_|refine zG (zN ?_)|refine zG (zD 0 rfl rfl rfl rfl ?_)|refine zG (zU rfl rfl rfl ?_)))
    refine VC.condP rfl (fun h2 => ?_) (fun h2 => VC.skip ?_)
    · have hb : W.ackB i = false := by simp [WinM.ackB]; omega
      (repeat (first|refine zS ?_|refine zR ?_|refine zB ?_|refine zL ?_|refine zC ?_|refine zG (zN ?_)|refine zG (zD 0 rfl rfl rfl rfl ?_)))
      exact VC.ret (Ret.tmp 4 rfl rfl Ent.refl ⟨by rw [hb], by rw [WinM.ack, hb]; rfl⟩)
    · have hb : W.ackB i = true := by simp [WinM.ackB]; omega
      (repeat (first|refine zS ?_|refine zR ?_|refine zB ?_|refine zL ?_|refine zC ?_|refine zG (zN ?_)|refine zG (zD 0 rfl rfl rfl rfl ?_)))
      refine VO.go (VO.st 0 (cs' := ({ W with done := i } : WinM).cells) rfl rfl rfl rfl (Nat.le_of_ble_eq_true rfl) rfl rfl ?_)
      (repeat (first|refine zS ?_|refine zR ?_|refine zB ?_|refine zL ?_|refine zC ?_|refine zG (zN ?_)|refine zG (zD 0 rfl rfl rfl rfl ?_)))
      exact VC.ret (Ret.tmp 4 rfl rfl Ent.refl ⟨by rw [hb], by rw [WinM.ack, hb]; rfl⟩)
theorem grant_spec (Fr : Nat → Prop) (w : World) (ok : W.Ok) (g : Int) : Tri Tryz.prog 148 [.pointer (some ⟨p, 0, none⟩), .int .i64 g] Fr w [winH p W] (fun v L => v = .tuple #[] ∧ L = [winH p { W with limit := max W.limit (min g 4112) }]) := by
  have o1 := ok.cap0
  refine Tri.of 16 Tryz.func148 rfl (by kernel_rfl) tabOk rfl rfl ?_
  unfold winH
  (repeat (first|refine zS ?_|refine zR ?_|refine zB ?_|refine zL ?_|refine zC ?_|refine zG (zN ?_)|refine zG (zD 0 rfl rfl rfl rfl ?_)))
  refine VO.go (VO.callV' (fun Fr w hF hs hS => none_spec Fr w (hS.blk 0 rfl) o1) rfl ?_)
  (repeat (first|refine zS ?_|refine zR ?_|refine zB ?_|refine zL ?_|refine zC ?_|refine zG (zN ?_)|refine zG (zD 0 rfl rfl rfl rfl ?_)))
  refine VC.condF rfl (VC.skip ?_)
  (repeat (first|refine zS ?_|refine zR ?_|refine zB ?_|refine zL ?_|refine zC ?_|refine zG (zN ?_)|refine zG (zD 0 rfl rfl rfl rfl ?_)))
  refine VO.go (VO.st 0 (cs' := ({ W with limit := if W.limit < (if 4112 < g then 4112 else g) then (if 4112 < g then 4112 else g) else W.limit } : WinM).cells) rfl rfl rfl rfl (Nat.le_of_ble_eq_true rfl) rfl rfl ?_)
  (repeat (first|refine zS ?_|refine zR ?_|refine zB ?_|refine zL ?_|refine zC ?_|refine zG (zN ?_)|refine zG (zD 0 rfl rfl rfl rfl ?_)))
  exact Ret.void rfl Ent.refl ⟨rfl, by rw [show max W.limit (min g 4112) = (if W.limit < (if 4112 < g then 4112 else g) then (if 4112 < g then 4112 else g) else W.limit) by split <;> split <;> omega]; rfl⟩
theorem back_spec (Fr : Nat → Prop) (w : World) (ok : W.Ok) (g : Int) : Tri Tryz.prog 102 [.pointer (some ⟨p, 0, none⟩), .int .i64 g] Fr w [winH p W] (fun v L => v = .tuple #[] ∧ L = [winH p { W with sent := min (max g 0) W.last }]) := by
  have o1 := ok.cap0
  refine Tri.of 16 Tryz.func102 rfl (by kernel_rfl) tabOk rfl rfl ?_
  unfold winH
  (repeat (first|refine zS ?_|refine zR ?_|refine zB ?_|refine zL ?_|refine zC ?_|refine zG (zN ?_)|refine zG (zD 0 rfl rfl rfl rfl ?_)))
  refine VO.go (VO.callV' (fun Fr w hF hs hS => none_spec Fr w (hS.blk 0 rfl) o1) rfl ?_)
  (repeat (first|refine zS ?_|refine zR ?_|refine zB ?_|refine zL ?_|refine zC ?_|refine zG (zN ?_)|refine zG (zD 0 rfl rfl rfl rfl ?_)))
  refine VC.condF rfl (VC.skip ?_)
  (repeat (first|refine zS ?_|refine zR ?_|refine zB ?_|refine zL ?_|refine zC ?_|refine zG (zN ?_)|refine zG (zD 0 rfl rfl rfl rfl ?_)))
  refine VO.go (VO.st 0 (cs' := ({ W with sent := if W.last < (if g < 0 then 0 else g) then W.last else (if g < 0 then 0 else g) } : WinM).cells) rfl rfl rfl rfl (Nat.le_of_ble_eq_true rfl) rfl rfl ?_)
  (repeat (first|refine zS ?_|refine zR ?_|refine zB ?_|refine zL ?_|refine zC ?_|refine zG (zN ?_)|refine zG (zD 0 rfl rfl rfl rfl ?_)))
  exact Ret.void rfl Ent.refl ⟨rfl, by rw [show min (max g 0) W.last = (if W.last < (if g < 0 then 0 else g) then W.last else (if g < 0 then 0 else g)) by split <;> split <;> omega]; rfl⟩
theorem renew_spec (Fr : Nat → Prop) (w : World) (ok : W.Ok) : Tri Tryz.prog 142 [.pointer (some ⟨p, 0, none⟩)] Fr w [winH p W] (fun v L => v = .tuple #[] ∧ L = [winH p { W with sent := W.last, limit := 0 }]) := by
  have o1 := ok.cap0
  refine Tri.of 14 Tryz.func142 rfl (by kernel_rfl) tabOk rfl rfl ?_
  unfold winH
  (repeat (first|refine zS ?_|refine zR ?_|refine zB ?_|refine zL ?_|refine zC ?_|refine zG (zN ?_)|refine zG (zD 0 rfl rfl rfl rfl ?_)))
  refine VO.go (VO.callV' (fun Fr w hF hs hS => none_spec Fr w (hS.blk 0 rfl) o1) rfl ?_)
  (repeat (first|refine zS ?_|refine zR ?_|refine zB ?_|refine zL ?_|refine zC ?_|refine zG (zN ?_)|refine zG (zD 0 rfl rfl rfl rfl ?_)))
  refine VC.condF rfl (VC.skip ?_)
  (repeat (first|refine zS ?_|refine zR ?_|refine zB ?_|refine zL ?_|refine zC ?_|refine zG (zN ?_)|refine zG (zD 0 rfl rfl rfl rfl ?_)))
  refine VO.go (VO.st 0 (cs' := ({ W with sent := W.last } : WinM).cells) rfl rfl rfl rfl (Nat.le_of_ble_eq_true rfl) rfl rfl ?_)
  (repeat (first|refine zS ?_|refine zR ?_|refine zB ?_|refine zL ?_|refine zC ?_|refine zG (zN ?_)|refine zG (zD 0 rfl rfl rfl rfl ?_)))
  refine VO.go (VO.st 0 (cs' := ({ W with sent := W.last, limit := 0 } : WinM).cells) rfl rfl rfl rfl (Nat.le_of_ble_eq_true rfl) rfl rfl ?_)
  (repeat (first|refine zS ?_|refine zR ?_|refine zB ?_|refine zL ?_|refine zC ?_|refine zG (zN ?_)|refine zG (zD 0 rfl rfl rfl rfl ?_)))
  exact Ret.void rfl Ent.refl ⟨rfl, rfl⟩
def WinM.nextB (W : WinM) : Bool := decide (W.sent < W.last) && decide (W.sent < W.limit)
def WinM.next (W : WinM) : WinM := if W.nextB then { W with sent := W.sent + 1 } else W
theorem next_spec (Fr : Nat → Prop) (w : World) (ok : W.Ok) : Tri Tryz.prog 163 [.pointer (some ⟨p, 0, none⟩)] Fr w [winH p W] (fun v L => v = .tuple #[.int .i64 (if W.nextB then W.sent + 1 else 0), .bool W.nextB] ∧ L = [winH p W.next]) := by
  have o1 := ok.cap0; have o2 := ok.sent0; have o3 := ok.sent1; have o4 := ok.last1
  refine Tri.of 39 Tryz.func163 rfl (by kernel_rfl) tabOk rfl rfl ?_
  unfold winH
  refine VC.seq (VC.region (VO.go (VO.nil ?_)))
  refine VC.seq (VC.seq (VC.draw (.take 0 (.only 1 (ts 2 22 .nil))) (by kernel_rfl) (by decide +kernel) ?_))
  (repeat (first|refine yG (yN ?_)|refine yG (yD 0 rfl rfl rfl rfl rfl ?_)))
  refine VA.go (VA.callR (fun Fr w hF hs hS => none_spec Fr w (hS.blk 0 rfl) o1) rfl rfl (by (try refine Pd.st ?_);(repeat (first|exact Pd.nil|exact Pd.fnil|refine Pd.inner ?_|refine Pd.skip (by decide +kernel) ?_|refine zf (zo 0 rfl rfl) ?_|refine zf (zm 0 rfl rfl) ?_|refine zc (zo 0 rfl rfl) ?_|refine zc (zm 0 rfl rfl) ?_))) ?_)
  (repeat (first|refine yG (yN ?_)|refine yG (yD 0 rfl rfl rfl rfl rfl ?_)))
  refine VA.go (VA.yes 6 false rfl rfl ?_)
  (repeat (first|refine yG (yN ?_)|refine yG (yD 0 rfl rfl rfl rfl rfl ?_)|refine yG (yU rfl rfl rfl rfl ?_)))
  by_cases h1 : W.last ≤ W.sent
  · have hb : W.nextB = false := by simp [WinM.nextB]; omega
    refine VA.go (VA.yes 17 true rfl (decide_eq_true h1) ?_)
    (repeat (first|refine yG (yN ?_)|refine yG (yD 0 rfl rfl rfl rfl rfl ?_)|refine yG (yU rfl rfl rfl rfl ?_)))
    refine VC.condT rfl ?_
    (repeat (first|refine zS ?_|refine zR ?_|refine zB ?_|refine zL ?_|refine zC ?_|refine zG (zN ?_)|refine zG (zD 0 rfl rfl rfl rfl ?_)))
    exact VC.ret (Ret.tmp2 2 3 rfl rfl rfl Ent.refl ⟨by rw [hb]; rfl, by rw [WinM.next, hb]; rfl⟩)
  · refine VA.go (VA.yes 17 false rfl (decide_eq_false h1) ?_)
    (repeat (first|refine yG (yN ?_)|refine yG (yD 0 rfl rfl rfl rfl rfl ?_)|refine yG (yU rfl rfl rfl rfl ?_)))
    refine VC.condP rfl (fun h2 => ?_) (fun h2 => VC.skip ?_)
    · have hb : W.nextB = false := by simp [WinM.nextB]; omega
      (repeat (first|refine zS ?_|refine zR ?_|refine zB ?_|refine zL ?_|refine zC ?_|refine zG (zN ?_)|refine zG (zD 0 rfl rfl rfl rfl ?_)))
      exact VC.ret (Ret.tmp2 2 3 rfl rfl rfl Ent.refl ⟨by rw [hb]; rfl, by rw [WinM.next, hb]; rfl⟩)
    · have hb : W.nextB = true := by simp [WinM.nextB]; omega
      (repeat (first|refine zS ?_|refine zR ?_|refine zB ?_|refine zL ?_|refine zC ?_|refine zG (zN ?_)|refine zG (zD 0 rfl rfl rfl rfl ?_)))
      refine VO.go (VO.add rfl rfl (by omega) (by omega) ?_)
      refine VO.go (VO.st 0 (cs' := ({ W with sent := W.sent + 1 } : WinM).cells) rfl rfl rfl rfl (Nat.le_of_ble_eq_true rfl) rfl rfl ?_)
      (repeat (first|refine zS ?_|refine zR ?_|refine zB ?_|refine zL ?_|refine zC ?_|refine zG (zN ?_)|refine zG (zD 0 rfl rfl rfl rfl ?_)))
      exact VC.ret (Ret.tmp2 2 3 rfl rfl rfl Ent.refl ⟨by rw [hb]; rfl, by rw [WinM.next, hb]; rfl⟩)
theorem copy_spec (Fr : Nat → Prop) (w : World) (h : Blk Fr w p W.cells) (hc : 1 ≤ W.cap) : Tri Tryz.prog 73 [.pointer (some ⟨p, 0, none⟩)] Fr w [] (fun v L => ∃ q, v = .pointer (some ⟨q, 0, none⟩) ∧ L = [winH q W]) := by
  refine Tri.of 9 Tryz.func73 rfl (by kernel_rfl) tabOk rfl rfl ?_
  (repeat (first|refine zS ?_|refine zR ?_|refine zB ?_|refine zL ?_|refine zC ?_|refine zG (zN ?_)|refine zG (zD 0 rfl rfl rfl rfl ?_)))
  refine VO.go (VO.callV' (fun Fr w hF hs _ => none_spec Fr w (h.of hF hs) hc) rfl ?_)
  (repeat (first|refine zS ?_|refine zR ?_|refine zB ?_|refine zL ?_|refine zC ?_|refine zG (zN ?_)|refine zG (zD 0 rfl rfl rfl rfl ?_)))
  refine VC.condF rfl (VC.skip ?_)
  (repeat (first|refine zS ?_|refine zR ?_|refine zB ?_|refine zL ?_|refine zC ?_|refine zG (zN ?_)|refine zG (zD 0 rfl rfl rfl rfl ?_)))
  refine VO.go (VO.load rfl rfl (RdL.blkA (ds := W.cells) h rfl) ?_)
  refine VO.go (VO.alloc rfl fun q => ?_)
  refine VO.go (VO.stA (vs := W.cells) 0 rfl rfl rfl rfl (Nat.le_refl _) rfl rfl rfl ?_)
  (repeat (first|refine zS ?_|refine zR ?_|refine zB ?_|refine zL ?_|refine zC ?_|refine zG (zN ?_)|refine zG (zD 0 rfl rfl rfl rfl ?_)))
  exact VC.ret (Ret.tmp 2 rfl rfl Ent.refl ⟨q, rfl, rfl⟩)
end
def WinM.new (cap : Int) : WinM := ⟨cap, 0, 0, 0, 0⟩
theorem new_spec (Fr : Nat → Prop) (w : World) {c : Int} (h0 : 1 ≤ c) (h1 : c ≤ 16) : Tri Tryz.prog 51 [.int .i64 c, .int .i64 0, .int .i64 0] Fr w [] (fun v L => ∃ q, v = .tuple #[.pointer (some ⟨q, 0, none⟩), .int .i64 0] ∧ L = [winH q (WinM.new c)]) := by
  refine Tri.of 33 Tryz.func51 rfl (by kernel_rfl) tabOk rfl rfl ?_
  (repeat (first|refine zS ?_|refine zR ?_|refine zB ?_|refine zL ?_|refine zC ?_|refine zG (zN ?_)|refine zG (zD 0 rfl rfl rfl rfl ?_)))
  refine VO.go (VO.yes 10 false rfl (decide_eq_false (by omega)) ?_)
  (repeat (first|refine zS ?_|refine zR ?_|refine zB ?_|refine zL ?_|refine zC ?_|refine zG (zN ?_)|refine zG (zD 0 rfl rfl rfl rfl ?_)|refine zG (zU rfl rfl rfl ?_)))
  refine VO.go (VO.yes 14 false rfl (decide_eq_false (by omega)) ?_)
  (repeat (first|refine zS ?_|refine zR ?_|refine zB ?_|refine zL ?_|refine zC ?_|refine zG (zN ?_)|refine zG (zD 0 rfl rfl rfl rfl ?_)|refine zG (zU rfl rfl rfl ?_)))
  refine VO.go (VO.yes 18 false rfl rfl ?_)
  (repeat (first|refine zS ?_|refine zR ?_|refine zB ?_|refine zL ?_|refine zC ?_|refine zG (zN ?_)|refine zG (zD 0 rfl rfl rfl rfl ?_)|refine zG (zU rfl rfl rfl ?_)))
  refine VO.go (VO.yes 23 false rfl rfl ?_)
  (repeat (first|refine zS ?_|refine zR ?_|refine zB ?_|refine zL ?_|refine zC ?_|refine zG (zN ?_)|refine zG (zD 0 rfl rfl rfl rfl ?_)|refine zG (zU rfl rfl rfl ?_)))
  refine VC.condF rfl (VC.skip ?_)
  (repeat (first|refine zS ?_|refine zR ?_|refine zB ?_|refine zL ?_|refine zC ?_|refine zG (zN ?_)|refine zG (zD 0 rfl rfl rfl rfl ?_)))
  refine VO.go (VO.light (light_build (pv := [(0, .int .i64 c), (1, .int .i64 0), (2, .int .i64 0), (3, .int .i64 0)]) (WinM.new c).cells rfl rfl rfl (by kernel_rfl) rfl) ?_)
  refine VO.go (VO.boxA (vs := (WinM.new c).cells) rfl fun q => ?_)
  (repeat (first|refine zS ?_|refine zR ?_|refine zB ?_|refine zL ?_|refine zC ?_|refine zG (zN ?_)|refine zG (zD 0 rfl rfl rfl rfl ?_)))
  exact VC.ret (Ret.tmp2 6 7 rfl rfl rfl Ent.refl ⟨q, rfl, rfl⟩)
theorem WinM.new_ok {c : Int} (h0 : 1 ≤ c) (h1 : c ≤ 16) : (WinM.new c).Ok := ⟨h0, h1, Int.le_refl _, Int.le_refl _, (by decide : (0 : Int) ≤ 4096), Int.le_refl _, Int.le_refl _, Int.le_refl _, (by decide : (0 : Int) ≤ 4112)⟩
end Go.Proofs.YtbbnmgakmcppdaaGreat.Win
