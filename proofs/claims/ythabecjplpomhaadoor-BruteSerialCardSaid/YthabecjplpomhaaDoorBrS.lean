/- Layer 23's small calls, and such as are done one after the other. No condition. -/
import Derived.Test.YthabecjplpomhaaDoorBrM
namespace Go.Proofs.YthabecjplpomhaaDoor.Br
open Go Go.Proofs.YthabecjplpomhaaDoor.Vg Go.Proofs.YthabecjplpomhaaDoor.T Go.Proofs.YthabecjplpomhaaDoor.Api Go.Proofs.YthabecjplpomhaaDoor.Kv Go.Proofs.YthabecjplpomhaaDoor.LibC
set_option linter.unusedSimpArgs false
set_option linter.unusedVariables false
attribute [local irreducible] VO VC VA

structure SmM where
  x0 : Int
  x1 : Int
  x2 : Int
  x3 : Int
  x4 : Int
  x5 : Int
  x6 : Int
  x7 : Int
  x8 : Int
def smC (s : SmM) : List Value := [.int .u8 s.x0, .int .u8 s.x1, .int .u8 s.x2, .int .u8 s.x3, .int .u8 s.x4, .int .u8 s.x5, .int .u8 s.x6, .int .u8 s.x7, .int .u8 s.x8]
theorem smC_len (s : SmM) : (smC s).length = 9 := rfl
def isB (x : Int) : Prop := 0 ≤ x ∧ x ≤ 255
structure SmM.Ok (s : SmM) : Prop where
  h0 : isB s.x0
  h1 : isB s.x1
  h2 : isB s.x2
  h3 : isB s.x3
  h4 : isB s.x4
  h5 : isB s.x5
  h6 : isB s.x6
  h7 : isB s.x7
  h8 : isB s.x8
theorem u8_in {n : Int} (h : isB n) : IntKind.u8.wrap n = n := by
  rw [IntKind.wrap_u8']; exact Int.emod_eq_of_lt h.1 (by have := h.2; omega)
theorem i64_b {n : Int} (h : isB n) : IntKind.i64.wrap n = n := i64_in _ (by have := h.1; omega) (by have := h.2; omega)
theorem byte_cell {n : Int} (h : isB n) : Value.int .u8 n = .int .u8 ((UInt8.ofNat n.toNat).toNat : Int) := by
  obtain ⟨h1, h2⟩ := h
  have : n.toNat % 256 = n.toNat := Nat.mod_eq_of_lt (by omega)
  congr 1
  simp [this]; omega

structure Op1 (o : OpM) : Prop where
  kind : 1 ≤ o.kind ∧ o.kind ≤ 4
  key : o.key.size = 1
  ver : o.version = 0
  val : o.value.size = 0 ∨ o.value.size = 1 ∧ (o.kind = 2 ∨ o.kind = 4)
theorem Op1.check {o : OpM} (h : Op1 o) {v : Int} (hv : v = 0 ∨ o.kind = 4 ∧ 0 ≤ v ∧ v ≤ 3) : opCheck { o with version := v } = 0 := by
  have h1 := h.kind
  have h2 := h.key
  have hb : opBad { o with version := v } = false := by
    simp only [opBad, Bool.or_eq_false_iff, Bool.and_eq_false_iff, decide_eq_false_iff_not]
    refine ⟨⟨⟨⟨⟨⟨by omega, by omega⟩, by omega⟩, by omega⟩, by omega⟩, by omega⟩, ?_⟩
    rcases h.val with hz | ⟨hz, hk | hk⟩
    · exact .inl (by omega)
    · exact .inr (by simp [hk])
    · exact .inr (by simp [hk])
  have hl : opLong { o with version := v } = false := by
    simp only [opLong, Bool.or_eq_false_iff, decide_eq_false_iff_not]
    rcases h.val with hz | ⟨hz, _⟩ <;> omega
  rw [opCheck, hb, hl]; rfl

set_option maxRecDepth 100000 in
set_option maxHeartbeats 1000000 in
theorem record_spec (Fr : Nat → Prop) (w : World) {s : SmM} (hs : s.Ok) (i : Nat) (hi : i ≤ 1000) : Tri Tryd.prog 22 [.agg (smC s).toArray, .int .i64 i] Fr w [] (fun v L => (∃ r : RecM, opCheck r.op = 0 ∧ v = .agg (recC r).toArray) ∧ L = []) := by
  obtain ⟨⟨a0, b0⟩, ⟨a1, b1⟩, ⟨a2, b2⟩, ⟨a3, b3⟩, ⟨a4, b4⟩, ⟨a5, b5⟩, ⟨a6, b6⟩, _, ⟨a8, b8⟩⟩ := hs
  refine Tri.of 80 Tryd.func22 rfl (by kernel_rfl) tabOk rfl rfl ?_
  (repeat (first | refine VC.seq ?_ | refine VC.region ?_ | refine VC.block ?_ | refine VC.label ?_ | refine VC.scope ?_ | refine VO.go (VO.nil ?_) | refine VO.go (VO.ld 0 rfl rfl rfl rfl ?_)))
  refine VO.go (VO.boxA (vs := smC s) rfl fun sb => ?_)
  refine VO.go (VO.alloc rfl fun rb => ?_)
  (repeat (first | refine VC.seq ?_ | refine VC.region ?_ | refine VC.block ?_ | refine VC.label ?_ | refine VC.scope ?_ | refine VO.go (VO.nil ?_) | refine VO.go (VO.ld 0 rfl rfl rfl rfl ?_) | refine VO.go (VO.ld 1 rfl rfl rfl rfl ?_)))
  refine VO.go (VO.light (light_conv s.x0 rfl rfl rfl rfl rfl (i64_b ⟨a0, b0⟩)) ?_)
  refine VO.go (VO.light (light_rem rfl rfl a0 (by decide)) ?_)
  refine VO.go (VO.add rfl rfl (by omega) (by omega) ?_)
  (repeat (first | refine VC.seq ?_ | refine VC.region ?_ | refine VC.block ?_ | refine VC.label ?_ | refine VC.scope ?_ | refine VO.go (VO.nil ?_) | refine VO.go (VO.ld 0 rfl rfl rfl rfl ?_) | refine VO.go (VO.ld 1 rfl rfl rfl rfl ?_)))
  refine VO.go (VO.light (light_rem rfl rfl a1 (by decide)) ?_)
  refine VO.go (VO.arith (97 + s.x1 % 2) rfl rfl (u8_in ⟨by omega, by omega⟩) ?_)
  refine VO.go (VO.buildSlice [.int .u8 (97 + s.x1 % 2)] rfl rfl rfl rfl (by decide) rfl fun kb => ?_)
  refine VO.go (VO.op1 (OpT.str (bs := [UInt8.ofNat (97 + s.x1 % 2).toNat]) 0 rfl rfl rfl rfl rfl rfl rfl rfl rfl (by show [Value.int .u8 (97 + s.x1 % 2)] = _; rw [byte_cell ⟨by omega, by omega⟩]; rfl)) ?_)
  generalize hkey : (⟨[UInt8.ofNat (97 + s.x1 % 2).toNat].toArray⟩ : ByteArray) = key
  have hk1 : key.size = 1 := by rw [← hkey]; rfl
  refine VO.go (VO.light (light_build (pv := [(0, .int .i64 (1 + s.x0 % 4)), (1, .string key)]) (OpM.cells ⟨1 + s.x0 % 4, key, nilB, 0⟩) rfl rfl rfl (by kernel_rfl) rfl) ?_)
  refine VO.go (VO.alloc rfl fun ob => ?_)
  refine VO.go (VO.stA (vs := OpM.cells ⟨1 + s.x0 % 4, key, nilB, 0⟩) 0 rfl rfl rfl rfl (Nat.le_refl _) rfl rfl rfl ?_)
  refine VO.go (VO.nil ?_)
  refine VC.meet (σ := OpM) (fun o => [(1, .int .i64 i), (2, .pointer (some ⟨sb, 0, none⟩)), (4, .pointer (some ⟨rb, 0, none⟩)), (5, .pointer (some ⟨ob, 0, none⟩))]) (fun o => [pt ob o.cells 27, pt sb (smC s) 62, pt rb (recC recZ) 34]) (fun o => Op1 o) ?_ ?_
  · (repeat (first | refine VC.seq ?_ | refine VC.region ?_ | refine VC.block ?_ | refine VC.label ?_ | refine VC.scope ?_ | refine VO.go (VO.nil ?_) | refine VO.go (VO.ld 0 rfl rfl rfl rfl ?_) | refine VO.go (VO.ld 1 rfl rfl rfl rfl ?_)))
    refine VO.go (VO.split 23 rfl rfl (fun h1 => ?_) (fun h1 => ?_))
    · (repeat (first | refine VC.seq ?_ | refine VC.region ?_ | refine VC.block ?_ | refine VC.label ?_ | refine VC.scope ?_ | refine VO.go (VO.nil ?_) | refine VO.go (VO.ld 0 rfl rfl rfl rfl ?_) | refine VO.go (VO.ld 1 rfl rfl rfl rfl ?_)))
      refine VC.condT rfl ?_
      (repeat (first | refine VC.seq ?_ | refine VC.region ?_ | refine VC.block ?_ | refine VC.label ?_ | refine VC.scope ?_ | refine VO.go (VO.nil ?_) | refine VO.go (VO.ld 0 rfl rfl rfl rfl ?_) | refine VO.go (VO.ld 1 rfl rfl rfl rfl ?_) | refine VO.go (VO.ld 2 rfl rfl rfl rfl ?_) | refine VO.go (VO.ld 3 rfl rfl rfl rfl ?_) | refine VO.go (VO.ld 4 rfl rfl rfl rfl ?_)))
      refine VO.go (VO.light (light_rem rfl rfl a2 (by decide)) ?_)
      refine VO.go (VO.arith (48 + s.x2 % 3) rfl rfl (u8_in ⟨by omega, by omega⟩) ?_)
      refine VO.go (VO.buildSlice [.int .u8 (48 + s.x2 % 3)] rfl rfl rfl rfl (by decide) rfl fun vb => ?_)
      refine VO.go (VO.op1 (OpT.str (bs := [UInt8.ofNat (48 + s.x2 % 3).toNat]) 0 rfl rfl rfl rfl rfl rfl rfl rfl rfl (by show [Value.int .u8 (48 + s.x2 % 3)] = _; rw [byte_cell ⟨by omega, by omega⟩]; rfl)) ?_)
      generalize hval : (⟨[UInt8.ofNat (48 + s.x2 % 3).toNat].toArray⟩ : ByteArray) = val
      have hv1 : val.size = 1 := by rw [← hval]; rfl
      (repeat (first | refine VC.seq ?_ | refine VC.region ?_ | refine VC.block ?_ | refine VC.label ?_ | refine VC.scope ?_ | refine VO.go (VO.nil ?_) | refine VO.go (VO.ld 0 rfl rfl rfl rfl ?_)))
      refine VO.go (VO.st 1 (cs' := OpM.cells ⟨1 + s.x0 % 4, key, val, 0⟩) rfl rfl rfl rfl (Nat.le_of_ble_eq_true rfl) rfl rfl ?_)
      (repeat (first | refine VC.seq ?_ | refine VC.region ?_ | refine VC.block ?_ | refine VC.label ?_ | refine VC.scope ?_ | refine VO.go (VO.nil ?_) | refine VO.go (VO.ld 0 rfl rfl rfl rfl ?_)))
      exact ⟨⟨1 + s.x0 % 4, key, val, 0⟩, ⟨⟨by dsimp only; omega, by dsimp only; omega⟩, hk1, rfl, .inr ⟨hv1, .inl (eq_of_beq h1)⟩⟩, Sub.cons rfl (Sub.cons rfl (Sub.cons rfl (Sub.cons rfl (Sub.nil _)))), (Imp.pick 1 rfl (Imp.pick 3 rfl (Imp.pick 2 rfl Imp.nil))).ent⟩
    · (repeat (first | refine VC.seq ?_ | refine VC.region ?_ | refine VC.block ?_ | refine VC.label ?_ | refine VC.scope ?_ | refine VO.go (VO.nil ?_) | refine VO.go (VO.ld 0 rfl rfl rfl rfl ?_) | refine VO.go (VO.ld 1 rfl rfl rfl rfl ?_)))
      refine VC.condE rfl (fun h2 => ?_) (fun h2 => VC.skip ?_)
      · (repeat (first | refine VC.seq ?_ | refine VC.region ?_ | refine VC.block ?_ | refine VC.label ?_ | refine VC.scope ?_ | refine VO.go (VO.nil ?_) | refine VO.go (VO.ld 0 rfl rfl rfl rfl ?_) | refine VO.go (VO.ld 1 rfl rfl rfl rfl ?_) | refine VO.go (VO.ld 2 rfl rfl rfl rfl ?_) | refine VO.go (VO.ld 3 rfl rfl rfl rfl ?_) | refine VO.go (VO.ld 4 rfl rfl rfl rfl ?_)))
        refine VO.go (VO.light (light_rem rfl rfl a2 (by decide)) ?_)
        refine VO.go (VO.arith (48 + s.x2 % 3) rfl rfl (u8_in ⟨by omega, by omega⟩) ?_)
        refine VO.go (VO.buildSlice [.int .u8 (48 + s.x2 % 3)] rfl rfl rfl rfl (by decide) rfl fun vb => ?_)
        refine VO.go (VO.op1 (OpT.str (bs := [UInt8.ofNat (48 + s.x2 % 3).toNat]) 0 rfl rfl rfl rfl rfl rfl rfl rfl rfl (by show [Value.int .u8 (48 + s.x2 % 3)] = _; rw [byte_cell ⟨by omega, by omega⟩]; rfl)) ?_)
        generalize hval : (⟨[UInt8.ofNat (48 + s.x2 % 3).toNat].toArray⟩ : ByteArray) = val
        have hv1 : val.size = 1 := by rw [← hval]; rfl
        (repeat (first | refine VC.seq ?_ | refine VC.region ?_ | refine VC.block ?_ | refine VC.label ?_ | refine VC.scope ?_ | refine VO.go (VO.nil ?_) | refine VO.go (VO.ld 0 rfl rfl rfl rfl ?_)))
        refine VO.go (VO.st 1 (cs' := OpM.cells ⟨1 + s.x0 % 4, key, val, 0⟩) rfl rfl rfl rfl (Nat.le_of_ble_eq_true rfl) rfl rfl ?_)
        (repeat (first | refine VC.seq ?_ | refine VC.region ?_ | refine VC.block ?_ | refine VC.label ?_ | refine VC.scope ?_ | refine VO.go (VO.nil ?_) | refine VO.go (VO.ld 0 rfl rfl rfl rfl ?_)))
        exact ⟨⟨1 + s.x0 % 4, key, val, 0⟩, ⟨⟨by dsimp only; omega, by dsimp only; omega⟩, hk1, rfl, .inr ⟨hv1, .inr h2⟩⟩, Sub.cons rfl (Sub.cons rfl (Sub.cons rfl (Sub.cons rfl (Sub.nil _)))), (Imp.pick 1 rfl (Imp.pick 3 rfl (Imp.pick 2 rfl Imp.nil))).ent⟩
      · exact ⟨⟨1 + s.x0 % 4, key, nilB, 0⟩, ⟨⟨by dsimp only; omega, by dsimp only; omega⟩, hk1, rfl, .inl rfl⟩, Sub.cons rfl (Sub.cons rfl (Sub.cons rfl (Sub.cons rfl (Sub.nil _)))), (Imp.pick 0 rfl (Imp.pick 2 rfl (Imp.pick 1 rfl Imp.nil))).ent⟩
  intro o ho
  refine VC.meet (σ := OpM) (fun o => [(1, .int .i64 i), (2, .pointer (some ⟨sb, 0, none⟩)), (4, .pointer (some ⟨rb, 0, none⟩)), (5, .pointer (some ⟨ob, 0, none⟩))]) (fun o => [pt ob o.cells 27, pt sb (smC s) 62, pt rb (recC recZ) 34]) (fun o => opCheck o = 0) ?_ ?_
  · (repeat (first | refine VC.seq ?_ | refine VC.region ?_ | refine VC.block ?_ | refine VC.label ?_ | refine VC.scope ?_ | refine VO.go (VO.nil ?_) | refine VO.go (VO.ld 0 rfl rfl rfl rfl ?_) | refine VO.go (VO.ld 1 rfl rfl rfl rfl ?_)))
    refine VC.condE rfl (fun h2 => ?_) (fun h2 => VC.skip ?_)
    · (repeat (first | refine VC.seq ?_ | refine VC.region ?_ | refine VC.block ?_ | refine VC.label ?_ | refine VC.scope ?_ | refine VO.go (VO.nil ?_) | refine VO.go (VO.ld 0 rfl rfl rfl rfl ?_) | refine VO.go (VO.ld 1 rfl rfl rfl rfl ?_)))
      refine VO.go (VO.light (light_conv s.x8 rfl rfl rfl rfl rfl (i64_b ⟨a8, b8⟩)) ?_)
      refine VO.go (VO.light (light_rem rfl rfl a8 (by decide)) ?_)
      (repeat (first | refine VC.seq ?_ | refine VC.region ?_ | refine VC.block ?_ | refine VC.label ?_ | refine VC.scope ?_ | refine VO.go (VO.nil ?_) | refine VO.go (VO.ld 0 rfl rfl rfl rfl ?_) | refine VO.go (VO.ld 1 rfl rfl rfl rfl ?_)))
      refine VO.go (VO.st 0 (cs' := OpM.cells { o with version := s.x8 % 4 }) rfl rfl rfl rfl (by show 0 + 3 < 4; omega) rfl rfl ?_)
      (repeat (first | refine VC.seq ?_ | refine VC.region ?_ | refine VC.block ?_ | refine VC.label ?_ | refine VC.scope ?_ | refine VO.go (VO.nil ?_) | refine VO.go (VO.ld 0 rfl rfl rfl rfl ?_)))
      exact ⟨_, ho.check (v := s.x8 % 4) (.inr ⟨h2, by omega, by omega⟩), Sub.cons rfl (Sub.cons rfl (Sub.cons rfl (Sub.cons rfl (Sub.nil _)))), Ent.refl⟩
    · refine ⟨o, ?_, Sub.cons rfl (Sub.cons rfl (Sub.cons rfl (Sub.cons rfl (Sub.nil _)))), Ent.refl⟩
      have := ho.check (v := 0) (.inl rfl)
      have e : ({ o with version := 0 } : OpM) = o := by rw [← ho.ver]
      rw [e] at this; exact this
  intro o2 ho2
  (repeat (first | refine VC.seq ?_ | refine VC.region ?_ | refine VC.block ?_ | refine VC.label ?_ | refine VC.scope ?_ | refine VO.go (VO.nil ?_) | refine VO.go (VO.ld 0 rfl rfl rfl rfl ?_) | refine VO.go (VO.ld 1 rfl rfl rfl rfl ?_)))
  refine VO.go (VO.light (light_conv s.x4 rfl rfl rfl rfl rfl (i64_b ⟨a4, b4⟩)) ?_)
  refine VO.go (VO.light (light_rem rfl rfl a4 (by decide)) ?_)
  (repeat (first | refine VC.seq ?_ | refine VC.region ?_ | refine VC.block ?_ | refine VC.label ?_ | refine VC.scope ?_ | refine VO.go (VO.nil ?_) | refine VO.go (VO.ld 0 rfl rfl rfl rfl ?_) | refine VO.go (VO.ld 1 rfl rfl rfl rfl ?_)))
  refine VO.go (VO.light (light_conv s.x3 rfl rfl rfl rfl rfl (i64_b ⟨a3, b3⟩)) ?_)
  refine VO.go (VO.light (light_rem rfl rfl a3 (by decide)) ?_)
  (repeat (first | refine VC.seq ?_ | refine VC.region ?_ | refine VC.block ?_ | refine VC.label ?_ | refine VC.scope ?_ | refine VO.go (VO.nil ?_) | refine VO.go (VO.ld 0 rfl rfl rfl rfl ?_) | refine VO.go (VO.ld 1 rfl rfl rfl rfl ?_)))
  refine VO.go (VO.add rfl rfl (by omega) (by omega) ?_)
  refine VO.go (VO.ldA 0 o2.cells rfl rfl rfl rfl ?_)
  (repeat (first | refine VC.seq ?_ | refine VC.region ?_ | refine VC.block ?_ | refine VC.label ?_ | refine VC.scope ?_ | refine VO.go (VO.nil ?_) | refine VO.go (VO.ld 0 rfl rfl rfl rfl ?_) | refine VO.go (VO.ld 1 rfl rfl rfl rfl ?_)))
  refine VO.go (VO.add rfl rfl (by omega) (by omega) ?_)
  (repeat (first | refine VC.seq ?_ | refine VC.region ?_ | refine VC.block ?_ | refine VC.label ?_ | refine VC.scope ?_ | refine VO.go (VO.nil ?_) | refine VO.go (VO.ld 0 rfl rfl rfl rfl ?_) | refine VO.go (VO.ld 1 rfl rfl rfl rfl ?_)))
  refine VO.go (VO.light (light_conv s.x5 rfl rfl rfl rfl rfl (i64_b ⟨a5, b5⟩)) ?_)
  refine VO.go (VO.light (light_rem rfl rfl a5 (by decide)) ?_)
  refine VO.go (VO.add rfl rfl (by omega) (by omega) ?_)
  generalize hto : s.x4 % 8 + 1 + s.x5 % 6 = to
  generalize s.x4 % 8 = frm at hto ⊢
  generalize s.x3 % 3 = cl
  refine VO.go (VO.light (light_build (pv := [(0, .int .i64 cl), (1, .int .i64 (i + 1)), (2, .agg o2.cells.toArray), (3, .int .i64 frm), (4, .int .i64 to)]) (recC ⟨cl, i + 1, o2, frm, to, 0, 0, resZ⟩) rfl rfl rfl (by kernel_rfl) rfl) ?_)
  refine VO.go (VO.alloc rfl fun qb => ?_)
  refine VO.go (VO.stA (vs := recC ⟨cl, i + 1, o2, frm, to, 0, 0, resZ⟩) 0 rfl rfl rfl rfl (Nat.le_refl _) rfl rfl rfl ?_)
  (repeat (first | refine VC.seq ?_ | refine VC.region ?_ | refine VC.block ?_ | refine VC.label ?_ | refine VC.scope ?_ | refine VO.go (VO.nil ?_) | refine VO.go (VO.ld 0 rfl rfl rfl rfl ?_) | refine VO.go (VO.ld 1 rfl rfl rfl rfl ?_) | refine VO.go (VO.ld 2 rfl rfl rfl rfl ?_)))
  refine VO.go (VO.light (light_rem rfl rfl a6 (by decide)) ?_)
  refine VO.go (VO.nil ?_)
  refine VC.meetS (σ := RecM) (fun r => [(4, .pointer (some ⟨rb, 0, none⟩)), (7, .pointer (some ⟨qb, 0, none⟩))]) (fun r => [pt qb (recC r) 34, pt rb (recC recZ) 34]) (fun r => opCheck r.op = 0) ?_ ?_
  · (repeat (first | refine VC.seq ?_ | refine VC.region ?_ | refine VC.block ?_ | refine VC.label ?_ | refine VC.scope ?_ | refine VO.go (VO.nil ?_) | refine VO.go (VO.ld 0 rfl rfl rfl rfl ?_)))
    refine VC.cond rfl (fun _ => ?_) (fun _ => ?_)
    · (repeat (first | refine VC.seq ?_ | refine VC.region ?_ | refine VC.block ?_ | refine VC.label ?_ | refine VC.scope ?_ | refine VO.go (VO.nil ?_) | refine VO.go (VO.ld 0 rfl rfl rfl rfl ?_)))
      refine VO.go (VO.st 0 (cs' := recC ⟨cl, i + 1, o2, frm, -1, 0, 0, resZ⟩) rfl rfl rfl rfl (Nat.le_of_ble_eq_true rfl) rfl rfl ?_)
      (repeat (first | refine VC.seq ?_ | refine VC.region ?_ | refine VC.block ?_ | refine VC.label ?_ | refine VC.scope ?_ | refine VO.go (VO.nil ?_) | refine VO.go (VO.ld 0 rfl rfl rfl rfl ?_)))
      exact ⟨⟨cl, i + 1, o2, frm, -1, 0, 0, resZ⟩, ho2, Sub.cons rfl (Sub.cons rfl (Sub.nil _)), (Imp.pick 0 rfl (Imp.pick 2 rfl Imp.nil)).ent⟩
    (repeat (first | refine VC.seq ?_ | refine VC.region ?_ | refine VC.block ?_ | refine VC.label ?_ | refine VC.scope ?_ | refine VO.go (VO.nil ?_) | refine VO.go (VO.ld 0 rfl rfl rfl rfl ?_)))
    refine VC.cond rfl (fun _ => ?_) (fun _ => ?_)
    · (repeat (first | refine VC.seq ?_ | refine VC.region ?_ | refine VC.block ?_ | refine VC.label ?_ | refine VC.scope ?_ | refine VO.go (VO.nil ?_) | refine VO.go (VO.ld 0 rfl rfl rfl rfl ?_)))
      refine VO.go (VO.st 0 (cs' := recC ⟨cl, i + 1, o2, frm, to, 3, 0, resZ⟩) rfl rfl rfl rfl (Nat.le_of_ble_eq_true rfl) rfl rfl ?_)
      (repeat (first | refine VC.seq ?_ | refine VC.region ?_ | refine VC.block ?_ | refine VC.label ?_ | refine VC.scope ?_ | refine VO.go (VO.nil ?_) | refine VO.go (VO.ld 0 rfl rfl rfl rfl ?_)))
      exact ⟨⟨cl, i + 1, o2, frm, to, 3, 0, resZ⟩, ho2, Sub.cons rfl (Sub.cons rfl (Sub.nil _)), (Imp.pick 0 rfl (Imp.pick 2 rfl Imp.nil)).ent⟩
    (repeat (first | refine VC.seq ?_ | refine VC.region ?_ | refine VC.block ?_ | refine VC.label ?_ | refine VC.scope ?_ | refine VO.go (VO.nil ?_) | refine VO.go (VO.ld 0 rfl rfl rfl rfl ?_)))
    refine VC.cond rfl (fun _ => ?_) (fun _ => ?_)
    · (repeat (first | refine VC.seq ?_ | refine VC.region ?_ | refine VC.block ?_ | refine VC.label ?_ | refine VC.scope ?_ | refine VO.go (VO.nil ?_) | refine VO.go (VO.ld 0 rfl rfl rfl rfl ?_)))
      refine VO.go (VO.st 0 (cs' := recC ⟨cl, i + 1, o2, frm, to, 2, 0, resZ⟩) rfl rfl rfl rfl (Nat.le_of_ble_eq_true rfl) rfl rfl ?_)
      (repeat (first | refine VC.seq ?_ | refine VC.region ?_ | refine VC.block ?_ | refine VC.label ?_ | refine VC.scope ?_ | refine VO.go (VO.nil ?_) | refine VO.go (VO.ld 0 rfl rfl rfl rfl ?_)))
      exact ⟨⟨cl, i + 1, o2, frm, to, 2, 0, resZ⟩, ho2, Sub.cons rfl (Sub.cons rfl (Sub.nil _)), (Imp.pick 0 rfl (Imp.pick 2 rfl Imp.nil)).ent⟩
    · (repeat (first | refine VC.seq ?_ | refine VC.region ?_ | refine VC.block ?_ | refine VC.label ?_ | refine VC.scope ?_ | refine VO.go (VO.nil ?_) | refine VO.go (VO.ld 0 rfl rfl rfl rfl ?_)))
      refine VO.go (VO.st 0 (cs' := recC ⟨cl, i + 1, o2, frm, to, 1, 0, resZ⟩) rfl rfl rfl rfl (Nat.le_of_ble_eq_true rfl) rfl rfl ?_)
      (repeat (first | refine VC.seq ?_ | refine VC.region ?_ | refine VC.block ?_ | refine VC.label ?_ | refine VC.scope ?_ | refine VO.go (VO.nil ?_) | refine VO.go (VO.ld 0 rfl rfl rfl rfl ?_)))
      exact ⟨⟨cl, i + 1, o2, frm, to, 1, 0, resZ⟩, ho2, Sub.cons rfl (Sub.cons rfl (Sub.nil _)), (Imp.pick 0 rfl (Imp.pick 2 rfl Imp.nil)).ent⟩
  intro r hr
  (repeat (first | refine VC.seq ?_ | refine VC.region ?_ | refine VC.block ?_ | refine VC.label ?_ | refine VC.scope ?_ | refine VO.go (VO.nil ?_) | refine VO.go (VO.ld 0 rfl rfl rfl rfl ?_)))
  refine VO.go (VO.ldA 0 (recC r) rfl rfl rfl rfl ?_)
  refine VO.go (VO.stA (vs := recC r) 1 rfl rfl rfl rfl (Nat.le_refl _) rfl rfl rfl ?_)
  (repeat (first | refine VC.seq ?_ | refine VC.region ?_ | refine VC.block ?_ | refine VC.label ?_ | refine VC.scope ?_ | refine VO.go (VO.nil ?_) | refine VO.go (VO.ld 0 rfl rfl rfl rfl ?_)))
  exact VC.ret (Ret.cell 4 rfl rfl rfl (RdL.many (ds := recC r) 1 rfl rfl) Imp.nil.ent ⟨⟨r, hr, rfl⟩, rfl⟩)
end Go.Proofs.YthabecjplpomhaaDoor.Br
