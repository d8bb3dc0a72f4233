/- Texts of the proof, put together and shortened. No condition. -/
import Derived.Test.YtmghpgpfeabghaaGreatZd4
set_option maxRecDepth 100000
set_option maxHeartbeats 16000000
set_option linter.unusedVariables false
set_option linter.unusedSectionVars false
set_option linter.unusedSimpArgs false
namespace Go.Proofs.YtmghpgpfeabghaaGreat
variable (Fr : Nat → Prop) (w : World)
namespace Cl
open Go Vg T Api Ch Rep
attribute [local irreducible] VO VC VA
def fdV (S : LnkM) (p : PrM) (i : Int) : Value := match S.find p i with
 | none => .tuple #[.agg (mailC 0 0 ⟨#[]⟩).toArray, .int .i64 4]
 | some t => .tuple #[.agg (mailC p.1 p.2 t).toArray, .int .i64 0]
theorem fdV_none {S : LnkM} {p : PrM} {i : Int} (h : S.find p i = none) : fdV S p i = .tuple #[.agg (mailC 0 0 ⟨#[]⟩).toArray, .int .i64 4] := by unfold fdV; rw [h]
theorem fdV_some {S : LnkM} {p : PrM} {i : Int} {t : ByteArray} (h : S.find p i = some t) : fdV S p i = .tuple #[.agg (mailC p.1 p.2 t).toArray, .int .i64 0] := by unfold fdV; rw [h]
theorem mDel_put {κ α : Type} [DecidableEq κ] (a : κ) (u : α) : ∀ l : List (κ × α), mDel (mPut l a u) a = mDel l a
 | [] => by simp [mPut, mDel]
 | (k, v) :: r => by
  unfold mPut
  by_cases h : k = a
  ·rw [if_pos h]; simp [mDel, h]
  ·rw [if_neg h]; simp [mDel, h, mDel_put a u r]
theorem lk_rows {Fr : Nat → Prop} {w : World} {A : List HP} {X : List LnG} (h : SatIn Fr (A ++ X.map txH) w) : ∀ z ∈ X, RwIn txC 1 Fr w z.2.2.1 z.2.1 := fun z hz => by
 obtain ⟨i, hi, rfl⟩ := List.getElem_of_mem hz
 exact RwIn.slH txC_len (h.at_ (A.length + i) (by rw [List.getElem?_append_right yd, Nat.add_sub_cancel_left, List.getElem?_map, GE hi]; rfl))
section
variable {p : Nat} {S : LnkM} {b : Nat} {X : List LnG}
theorem lfind_spec (ok : S.Ok) (h : Blk Fr w p (lnkC S b)) (hm : MapBlk Fr w iiV txV b X) (hr : ∀ z ∈ X, RwIn txC 1 Fr w z.2.2.1 z.2.1) (hX : erX X = S.mail) (x y i : Int) : Tri Tryz.prog 130 [.pointer (some ⟨p, 0, none⟩), .int .i64 x, .int .i64 y, .int .i64 i] Fr w [] (fun v L => v = fdV S (x, y) i ∧ L = []) := by
 have hll := list_len ok (x, y)
 have eg : mGet S.mail (x, y) = (mGet X (x, y)).map Prod.fst := by rw [← hX]; exact mGet_map Prod.fst _ X
 obtain ⟨l, a, c, e1, e2, e3⟩ : ∃ (l : List ByteArray) (a : Option Addr) (c : Nat), S.list (x, y) = l ∧ ((mGet X (x, y)).map txV).getD (.slice none 0 0) = .slice a l.length c ∧ RwIn txC 1 Fr w a l := by
  unfold LnkM.list
  rw [eg]
  cases hg : mGet X (x, y) with
  | none => exact ⟨[], none, 0, rfl, rfl, RwIn.nil⟩
  | some v => exact ⟨v.1, v.2.1, v.2.2, rfl, rfl, hr _ (mGet_mem hg)⟩
 have hf : S.find (x, y) i = if i < 0 then none else l[i.toNat]? := by unfold LnkM.find; rw [e1]
 rw [e1] at hll
 refine TF 38 Tryz.func130 rfl ym tabOk rfl rfl ?_
 refine CS (CG (VG (VO.alloc rfl fun rb => ?_)))
 refine xjs ?_
 refine xmx ?_
 refine zor ?_
 refine xjt ?_
 refine xmt ?_
 refine VG (VO.op1 (OpT.lookupV keyI Tryz.underlying127 rfl (a := (x, y)) (.slice a l.length c) rfl rfl (MpL.blk hm) e2) ?_)
 refine xjs ?_
 by_cases h0 : i < 0
 ·refine VG (VY 24 true rfl (DT h0) ?_)
  refine zop ?_
  refine xmy ?_
  refine xmz ?_
  refine xjs ?_
  exact CR (Ret.cellTmp 8 9 rfl rfl rfl (RdL.many (ds := mailC 0 0 ⟨#[]⟩) 0 rfl rfl) rfl Imp.nil.ent ⟨(fdV_none (by rw [hf, if_pos h0])).symm, rfl⟩)
 obtain ⟨k, rfl⟩ : ∃ k : Nat, i = k := ⟨i.toNat, by omega⟩
 rw [if_neg h0, Int.toNat_natCast] at hf
 refine VG (VY 24 false rfl (DF h0) ?_)
 refine xjs ?_
 refine CP (p := (l.length : Int) ≤ k) rfl (fun h1 => ?_) (fun h1 => CK ?_)
 ·refine xjs ?_
  refine xmy ?_
  refine xmz ?_
  refine xjs ?_
  exact CR (Ret.cellTmp 8 9 rfl rfl rfl (RdL.many (ds := mailC 0 0 ⟨#[]⟩) 0 rfl rfl) rfl Imp.nil.ent ⟨(fdV_none (by rw [hf, List.getElem?_eq_none yd])).symm, rfl⟩)
 have hk : k < l.length := by omega
 have hk2 : l[k]? = some l[k] := GE hk
 generalize l[k] = t at hk2
 obtain ⟨tb, to, rfl, _, hrd⟩ := RwIn.rd (X := ⟨Tryz.prog, tab, tabOk, 38, Fr, w⟩) e3 hk2
 refine xjs ?_
 refine xdw ?_
 refine VG (VO.load rfl rfl (hrd _ _ 0 _ rfl rfl) ?_)
 refine xjs ?_
 refine VG (VI (LB (pv := [(0, .int .i64 x), (1, .int .i64 y), (2, .string t)]) (mailC x y t) rfl rfl rfl ym rfl) ?_)
 refine xna ?_
 refine xjs ?_
 exact CR (Ret.cellTmp 8 9 rfl rfl rfl (RdL.many (ds := mailC x y t) 0 rfl rfl) rfl Imp.nil.ent ⟨(fdV_some (by rw [hf, hk2])).symm, rfl⟩)
end
end Cl
namespace Cl
open Go Vg T Api Ch Rep
attribute [local irreducible] VO VC VA
theorem find_is {S : LnkM} {q : PrM} {i : Int} {t : ByteArray} (h : S.find q i = some t) : ∃ k : Nat, i = k ∧ k < (S.list q).length ∧ (S.list q)[k]? = some t := by
 unfold LnkM.find at h
 split at h
 ·cases h
 ·exact ⟨i.toNat, by omega, (List.getElem?_eq_some_iff.1 h).1, h⟩
theorem drop_none {S : LnkM} {q : PrM} {i : Int} (h : S.find q i = none) : S.drop q i = (S, 4) := by unfold LnkM.drop; rw [if_pos h]
theorem drop_some {S : LnkM} {q : PrM} {i : Int} {t : ByteArray} (h : S.find q i = some t) : S.drop q i = (S.without q i, 0) := by unfold LnkM.drop; rw [if_neg (by rw [h]; intro e; cases e)]
theorem LnkM.Ok.drop {S : LnkM} (ok : S.Ok) (q : PrM) (i : Int) : (S.drop q i).1.Ok := by
 unfold LnkM.drop
 split
 ·exact ok
 show (S.without q i).Ok
 have hl := list_len ok q
 have hl2 : ((S.list q).eraseIdx i.toNat).length ≤ 64 := Nat.le_trans (List.length_eraseIdx_le _ _) hl
 unfold LnkM.without
 split
 ·exact LnkM.Ok.del (ok.put q hl2) q
 ·exact ok.put q hl2
section
variable {p : Nat} {S : LnkM} {b : Nat} {X : List LnG}
theorem ldeliver_spec (ok : S.Ok) (x y i : Int) : Tri Tryz.prog 127 [.pointer (some ⟨p, 0, none⟩), .int .i64 x, .int .i64 y, .int .i64 i] Fr w [lnkH p S]
  (fun v L => v = fdV S (x, y) i ∧ L = [lnkH p (S.drop (x, y) i).1]) := by
 have hll := list_len ok (x, y)
 refine TF 55 Tryz.func127 rfl ym tabOk rfl rfl ?_
 refine VC.opn 0 rfl (HOpn.lnk p S) ?_
 rintro ⟨b, X⟩ hX
 dsimp only at hX
 refine xms ?_
 obtain ⟨old, a, c, R, e1, e2, e3, e4, e5⟩ := lk_take X (x, y)
 have eo : old = S.list (x, y) := by rw [e1, hX]; rfl
 refine CS (CG (VG (VO.alloc rfl fun rb => ?_)))
 refine xjr ?_
 refine VG (VV (fun Fr w hF hw hS => lfind_spec Fr w ok (hS.blk 1 rfl) (hS.mapBlk 2 rfl) (lk_rows (A := [_, _, _]) hS) hX x y i) rfl ?_)
 cases hf : S.find (x, y) i with
 | none =>
  rw [fdV_none hf]
  refine xjr ?_
  refine xmz ?_
  refine zow ?_
  refine xmy ?_
  refine xmz ?_
  refine xjr ?_
  refine CR (Ret.cellTmp 8 9 rfl rfl rfl (RdL.many (ds := mailC 0 0 ⟨#[]⟩) 0 rfl rfl) rfl (L' := [lnkH p S]) ?_ ⟨rfl, by rw [drop_none hf]⟩)
  exact (Imp.lnk (K := []) b X hX (by rw [List.append_nil]; exact IP 1 rfl (IP 1 rfl (Imp.app (L := [_]) (M := []) Imp.nil Imp.refl)))).ent
 | some t =>
  obtain ⟨k, rfl, hk, hkt⟩ := find_is hf
  rw [← eo] at hk hkt
  rw [fdV_some hf]
  refine xjr ?_
  refine xna ?_
  refine zot ?_
  refine xmt ?_
  refine VG (VO.alloc rfl fun kb => ?_)
  refine xmu ?_
  refine VO.ent (L' := slH strT 1 a old.length c (flat txC old) :: pt kb [.int .i64 x, .int .i64 y] prT :: pt rb (mailC x y t) mailT :: pt p (lnkC S b) lnkT :: mapH iiV txV b X :: R) ?_ ?_
  ·exact ((Imp.app (L := [_, _, _, _]) (M := [_, _, _, _]) Imp.refl e3).trans (IP 4 rfl Imp.refl)).ent
  have hlo : old.length ≤ 64 := by rw [eo]; exact hll
  refine xjr ?_
  refine CD (ts 0 14 (.only 14 (.only 15 .nil))) ym yq ?_
  refine xfb ?_
  refine xmw ?_
  refine xfb ?_
  refine xmw ?_
  refine AG (VA.lookupV (a := (x, y)) keyI Tryz.underlying127 rfl (.slice a old.length c) rfl rfl rfl (MpL.one 4 rfl) e2 ?_)
  refine xfb ?_
  refine xel ?_
  refine AG (AQ 0 rfl (fun Fr w hF hs hS => tdelete_spec (a := a) (cap := c) Fr w hk yd) rfl rfl (ψ := fun v H => ∃ a' cap', v = .slice a' (old.eraseIdx k).length cap' ∧ H = slH strT 1 a' (old.eraseIdx k).length cap' (flat txC (old.eraseIdx k))) (fun v L h => by obtain ⟨a', c', h1, h2⟩ := h; exact ⟨_, h2, a', c', h1, rfl⟩) ?_ ?_)
  ·rintro _ _ ⟨a1, c1, rfl, rfl⟩
   exact yv
  rintro _ _ ⟨a1, c1, rfl, rfl⟩
  refine AG (AO (OpT.mapUpdate 4 (c := iiV) (d := txV) (xs := X) (a := (x, y)) (u := (old.eraseIdx k, (a1, c1))) keyI Tryz.underlying127 rfl rfl rfl rfl) rfl ?_ ?_)
  ·rintro _ _ ⟨rfl, rfl⟩
   exact yv
  rintro _ _ ⟨rfl, rfl⟩
  refine xju ?_
  have ew : S.without (x, y) k = if (old.eraseIdx k).length = 0 then { S with mail := mDel (mPut S.mail (x, y) (old.eraseIdx k)) (x, y) } else { S with mail := mPut S.mail (x, y) (old.eraseIdx k) } := by unfold LnkM.without; rw [← eo, Int.toNat_natCast]
  have eX : erX (mPut X (x, y) (old.eraseIdx k, (a1, c1))) = mPut S.mail (x, y) (old.eraseIdx k) := by rw [← hX]; exact mPut_map Prod.fst _ _ _
  refine CS (VC.meetS (σ := Unit) (fun _ => [(8, pV rb)]) (fun _ => [lnkH p (S.without (x, y) k), pt rb (mailC x y t) mailT]) (fun _ => True) ?_ ?_)
  ·refine CS (CD (ts 0 8 .nil) ym yq ?_)
   refine xfb ?_
   refine xmw ?_
   refine AG (VA.lookupV (a := (x, y)) keyI Tryz.underlying127 rfl (.slice a1 (old.eraseIdx k).length c1) rfl rfl rfl (MpL.one 4 rfl) (by rw [mGet_put, if_pos rfl]; rfl) ?_)
   refine xfb ?_
   refine CE (i := ((old.eraseIdx k).length : Int)) (j := 0) rfl (fun k0 => ?_) (fun k0 => CK ?_)
   ·refine CD (ts 0 5 (.only 5 .nil)) ym yq ?_
    refine xfb ?_
    refine xmw ?_
    refine AG (AO (OpT.delete 4 (c := iiV) (d := txV) (xs := mPut X (x, y) (old.eraseIdx k, (a1, c1))) (a := (x, y)) keyI Tryz.underlying127 rfl rfl rfl) rfl ?_ ?_)
    ·rintro _ _ ⟨rfl, rfl⟩
     exact yv
    rintro _ _ ⟨rfl, rfl⟩
    refine xju ?_
    refine ⟨(), trivial, sbZ, ?_⟩
    rw [ew, if_pos yd]
    refine (Imp.lnk (S := { S with mail := mDel (mPut S.mail (x, y) (old.eraseIdx k)) (x, y) }) b (mDel (mPut X (x, y) (old.eraseIdx k, (a1, c1))) (x, y)) (by show erX _ = mDel (mPut S.mail (x, y) (old.eraseIdx k)) (x, y); rw [← eX]; exact mDel_map Prod.fst _ _) ?_).ent
    refine IP 3 rfl (IP 3 rfl ?_)
    refine (Imp.perm (List.perm_append_comm (l₁ := [_, _, _]) (l₂ := R))).trans (Imp.app ?_ (IP 2 rfl Imp.nil))
    rw [mDel_put]
    exact e5
   ·refine ⟨(), trivial, sbZ, ?_⟩
    rw [ew, if_neg yd]
    refine (Imp.lnk (S := { S with mail := mPut S.mail (x, y) (old.eraseIdx k) }) b (mPut X (x, y) (old.eraseIdx k, (a1, c1))) eX ?_).ent
    refine IP 3 rfl (IP 3 rfl ?_)
    refine Imp.trans (M := [pt rb (mailC x y t) mailT] ++ (mPut X (x, y) (old.eraseIdx k, (a1, c1))).map txH) (IP 2 rfl ?_) (Imp.perm List.perm_append_comm)
    exact (Imp.app (L := [_]) (L' := _) (M := [_]) Imp.refl (Imp.app (L := [_]) (M := []) Imp.nil Imp.refl)).trans (e4 (old.eraseIdx k, (a1, c1)))
  rintro - -
  refine xjr ?_
  refine VG (VL 1 (mailC x y t) rfl rfl rfl rfl ?_)
  refine VG (VT (vs := mailC x y t) (cs' := mailC x y t) 1 rfl rfl rfl rfl (NR _) rfl rfl rfl ?_)
  refine xjr ?_
  exact CR (Ret.cellTmp 8 9 rfl rfl rfl (RdL.many (ds := mailC x y t) 1 rfl rfl) rfl (L' := [lnkH p (S.without (x, y) k)]) (IP 0 rfl Imp.nil).ent ⟨rfl, by rw [drop_some hf]⟩)
end
end Cl
namespace Cl
open Go Vg T Api Ch Rep
attribute [local irreducible] VO VC VA
theorem nat_sub_len : ∀ {l m : List Nat}, l.Nodup → (∀ x ∈ l, x ∈ m) → l.length ≤ m.length
 | [], m, _, _ => Nat.zero_le _
 | x :: l, m, hn, hs => by
  have hx := hs x List.mem_cons_self
  have h1 := List.nodup_cons.1 hn
  have := nat_sub_len (l := l) (m := m.erase x) h1.2 (fun y hy => (List.mem_erase_of_ne (fun e => h1.1 (by rw [← e]; exact hy))).2 (hs y (List.mem_cons_of_mem _ hy)))
  have h2 := List.length_erase_of_mem hx
  have h3 : 0 < m.length := List.length_pos_of_mem hx
  rw [List.length_cons]; omega
theorem ZOk.len {κ α : Type} {c : κ → Value} {d : α → Value} {xs : List (κ × α)} {es : Array MapEntry} {k : Nat} {J : Zed κ α} (h : ZAt c d xs es k) (ok : ZOk c d xs es J) : J.length ≤ xs.length := by
 have h1 := nat_sub_len (m := es.toList.map (·.born)) ok.nd (fun x hx => by
  obtain ⟨z, hz, rfl⟩ := List.mem_map.1 hx
  exact List.mem_map.2 ⟨z.1, (h.kv (ok.sub z hz)).1, rfl⟩)
 rw [List.length_map, List.length_map, h.len] at h1
 exact h1
theorem ZOk.keys {κ α : Type} {c : κ → Value} {d : α → Value} {xs : List (κ × α)} {es : Array MapEntry} {k : Nat} {J : Zed κ α} (h : ZAt c d xs es k) (ok : ZOk c d xs es J) : ((J.map Prod.snd).map Prod.fst).Nodup := by
 rw [List.map_map]
 refine List.pairwise_map.2 ((List.pairwise_map.1 ok.nd).imp_of_mem fun {z1 z2} h1 h2 hne e => hne ?_)
 obtain ⟨a1, _, a2, _⟩ := h.kv (ok.sub z1 h1)
 obtain ⟨b1, _, b2, _⟩ := h.kv (ok.sub z2 h2)
 rw [inj_of_nodup_map h.st.2.2 a1 b1 (by rw [a2, b2]; exact congrArg c e)]
theorem mPut_new {κ α : Type} [DecidableEq κ] {a : κ} (u : α) : ∀ {l : List (κ × α)}, a ∉ l.map Prod.fst → mPut l a u = l ++ [(a, u)]
 | [], _ => rfl
 | (k, v) :: r, h => by
  simp only [List.map_cons, List.mem_cons, not_or] at h
  unfold mPut
  rw [if_neg (fun e => h.1 e.symm), mPut_new u h.2]; rfl
theorem fdV_is (S : LnkM) (q : PrM) (i : Int) : ∃ x y t, fdV S q i = .tuple #[.agg (mailC x y t).toArray, .int .i64 (S.drop q i).2] := by
 cases hf : S.find q i with
 | none => exact ⟨_, _, _, by rw [fdV_none hf, drop_none hf]⟩
 | some t => exact ⟨_, _, _, by rw [fdV_some hf, drop_some hf]⟩
section
variable {p : Nat} {S : LnkM} {b : Nat} {X : List LnG}
theorem ldrop_spec (ok : S.Ok) (x y i : Int) : Tri Tryz.prog 84 [.pointer (some ⟨p, 0, none⟩), .int .i64 x, .int .i64 y, .int .i64 i] Fr w [lnkH p S]
  (fun v L => v = .int .i64 (S.drop (x, y) i).2 ∧ L = [lnkH p (S.drop (x, y) i).1]) := by
 refine TF 20 Tryz.func84 rfl ym tabOk rfl rfl ?_
 refine xjr ?_
 refine VG (VK (Lc := [lnkH p S]) (Lr := []) (fun Fr w hF hw _ => ldeliver_spec Fr w ok x y i) rfl rfl ?_)
 rintro _ _ ⟨rfl, rfl⟩
 obtain ⟨x', y', t', e⟩ := fdV_is S (x, y) i
 rw [e]
 refine xjr ?_
 refine VG (VO.alloc rfl fun rb => ?_)
 refine VG (VT (vs := mailC x' y' t') (cs' := mailC x' y' t') 0 rfl rfl rfl rfl (NR _) rfl rfl rfl ?_)
 refine xjr ?_
 exact CR (Ret.tmp 8 rfl rfl (IP 1 rfl Imp.nil).ent ⟨rfl, rfl⟩)
theorem double_none {q : PrM} {i : Int} (h : S.find q i = none) : S.double q i = (S, 4) := by unfold LnkM.double; rw [h]
theorem double_some {q : PrM} {i : Int} {t : ByteArray} (h : S.find q i = some t) : S.double q i = (S.send q t, S.sendE q t) := by unfold LnkM.double; rw [h]
theorem LnkM.Ok.double (ok : S.Ok) (q : PrM) (i : Int) : (S.double q i).1.Ok := by
 unfold LnkM.double
 split
 ·exact ok
 ·exact ok.send _ _
theorem ldouble_spec (ok : S.Ok) (x y i : Int) : Tri Tryz.prog 85 [.pointer (some ⟨p, 0, none⟩), .int .i64 x, .int .i64 y, .int .i64 i] Fr w [lnkH p S]
  (fun v L => v = .int .i64 (S.double (x, y) i).2 ∧ L = [lnkH p (S.double (x, y) i).1]) := by
 refine TF 25 Tryz.func85 rfl ym tabOk rfl rfl ?_
 refine VC.opn 0 rfl (HOpn.lnk p S) ?_
 rintro ⟨b, X⟩ hX
 dsimp only at hX
 refine xms ?_
 refine xjr ?_
 refine VG (VV (fun Fr w hF hw hS => lfind_spec Fr w ok (hS.blk 0 rfl) (hS.mapBlk 1 rfl) (lk_rows (A := [_, _]) hS) hX x y i) rfl ?_)
 refine VO.ent (L' := [lnkH p S]) (Imp.lnk (K := []) b X hX (by rw [List.append_nil]; exact Imp.refl)).ent ?_
 cases hf : S.find (x, y) i with
 | none =>
  rw [fdV_none hf]
  refine xjr ?_
  refine VG (VO.alloc rfl fun rb => ?_)
  refine xmz ?_
  refine zow ?_
  exact CR (Ret.tmp 8 rfl rfl (IP 1 rfl Imp.nil).ent ⟨by rw [double_none hf], by rw [double_none hf]⟩)
 | some t =>
  rw [fdV_some hf]
  refine xjr ?_
  refine VG (VO.alloc rfl fun rb => ?_)
  refine xna ?_
  refine zot ?_
  refine VG (VL 0 (mailC x y t) rfl rfl rfl rfl ?_)
  refine VO.ent (L' := [lnkH p S, pt rb (mailC x y t) mailT]) (IP 1 rfl Imp.refl).ent ?_
  refine VG (VK (Lc := [lnkH p S]) (Lr := [pt rb (mailC x y t) mailT]) (fun Fr w hF hw _ => lsend_spec Fr w ok x y t) rfl rfl ?_)
  rintro _ _ ⟨rfl, rfl⟩
  refine xjr ?_
  exact CR (Ret.tmp 8 rfl rfl (IP 0 rfl Imp.nil).ent ⟨by rw [double_some hf], by rw [double_some hf]⟩)
theorem lcopy_spec (ok : S.Ok) (h : Blk Fr w p (lnkC S b)) (hm : MapBlk Fr w iiV txV b X) (hr : ∀ z ∈ X, RwIn txC 1 Fr w z.2.2.1 z.2.1) (hX : erX X = S.mail) : Tri Tryz.prog 102 [.pointer (some ⟨p, 0, none⟩)] Fr w [] (fun v L => ∃ q m, m.Perm S.mail ∧ v = .pointer (some ⟨q, 0, none⟩) ∧ L = [lnkH q ⟨S.cap, m⟩]) := by
 obtain ⟨es, clock, g1, g2, g3⟩ := hm.at_
 have hz : ZAt iiV txV X es clock := ⟨g2, g3⟩
 have hXe : ∀ z ∈ X, z.2.1.length ≤ 64 := fun z hz => by
  have := ok.each (z.1, z.2.1) (by rw [← hX]; exact List.mem_map.2 ⟨z, hz, rfl⟩)
  exact this
 refine TF 33 Tryz.func102 rfl ym tabOk rfl rfl ?_
 refine xjs ?_
 refine xmx ?_
 refine zor ?_
 refine xjt ?_
 refine VG (VO.opx (OpT.makeMap iiV txV) ?_)
 rintro _ _ ⟨m, rfl, rfl⟩
 refine VG (VI (LB (pv := [(0, .int .i64 S.cap), (1, .map (some m))]) (lnkC S m) rfl rfl rfl ym rfl) ?_)
 refine VG (VB (vs := lnkC S m) rfl fun q => ?_)
 refine xjt ?_
 refine xnb ?_
 rintro _ _ ⟨it, rfl, rfl⟩
 refine xec ?_
 refine VC.block ?_
 refine VC.loop (σ := Zed PrM LnV × List LnG) (fun s => [(3, pV q), (19, pV it)]) (fun s => itmH it b clock s.1 :: pt q (lnkC S m) lnkT :: mapH iiV txV m s.2 :: s.2.map txH) (fun s => ZOk iiV txV X es s.1 ∧ erX s.2 = erX (s.1.map Prod.snd)) (fun s => X.length - s.1.length) ([], [])
  ⟨ZOk.nil, rfl⟩ sbZ ER ?_
 rintro ⟨J, Y⟩ ⟨hJ, hY⟩
 dsimp only at hJ hY ⊢
 refine xjr ?_
 refine xnc ?_
 rintro v L' (⟨rfl, rfl, hp⟩ | ⟨z, rfl, z1, z2, hok, rfl⟩)
 ·refine xjr ?_
  refine VC.condF rfl (CX ?_)
  refine xjr ?_
  refine CR (Ret.tmp 2 rfl rfl (L' := [lnkH q ⟨S.cap, erX Y⟩]) ?_ ⟨q, erX Y, ?_, rfl, rfl⟩)
  ·exact (Imp.lnk (S := ⟨S.cap, erX Y⟩) (K := []) m Y rfl (by rw [List.append_nil]; exact Imp.app (L := [_]) (M := []) Imp.nil Imp.refl)).ent
  ·rw [hY, ← hX]; exact hp.map _
 ·refine xjr ?_
  refine VC.condT rfl (CK ?_)
  refine xjr ?_
  refine xnd ?_
  refine xjr ?_
  refine VG (VO.alloc rfl fun kb => ?_)
  refine xne ?_
  refine xjr ?_
  refine CD (ts 0 6 (.only 6 (.only 7 .nil))) ym yq ?_
  refine xgb ?_
  refine AG (VA.ldA 0 [.int .i64 z.2.1.1, .int .i64 z.2.1.2] rfl rfl rfl rfl rfl ?_)
  refine xgb ?_
  have hzl := hXe _ z1
  refine AG (AO (OC (Lc := []) rfl (.refl _) (fun Fr w hF hs _ => tclone_spec (a := z.2.2.2.1) (cap := z.2.2.2.2) Fr w ((hr _ z1).of hF hs) yd)) rfl (fun v L' g => by obtain ⟨_, ⟨a1, c1, rfl, rfl⟩, rfl⟩ := g; exact yv) ?_)
  rintro _ _ ⟨_, ⟨a1, c1, rfl, rfl⟩, rfl⟩
  refine AG (AO (OpT.mapUpdate 4 (c := iiV) (d := txV) (xs := Y) (a := z.2.1) (u := (z.2.2.1, (a1, c1))) keyI Tryz.underlying127 rfl rfl rfl rfl) rfl ?_ ?_)
  ·rintro _ _ ⟨rfl, rfl⟩
   exact yv
  rintro _ _ ⟨rfl, rfl⟩
  refine xju ?_
  have hnk : z.2.1 ∉ Y.map Prod.fst := fun hh => by
   have e1 : Y.map Prod.fst = (J.map Prod.snd).map Prod.fst := by
    have := congrArg (List.map Prod.fst) hY
    unfold erX at this
    rw [List.map_map, List.map_map] at this
    exact this
   rw [e1] at hh
   have := ZOk.keys hz hok
   rw [List.map_append, List.map_append] at this
   exact (List.nodup_append.1 this).2.2 _ hh _ (List.mem_singleton.2 rfl) rfl
  have b2 := ZOk.len hz hok
  rw [List.length_append] at b2
  refine ⟨(J ++ [z], Y ++ [(z.2.1, (z.2.2.1, (a1, c1)))]), ⟨hok, by show erX (Y ++ _) = erX ((J ++ [z]).map Prod.snd); rw [erX, List.map_append, List.map_append, erX, List.map_append]; exact congrArg (· ++ _) hY⟩, by show X.length - (J ++ [z]).length < X.length - J.length; rw [List.length_append]; simp at b2 ⊢; omega, sbZ, ?_⟩
  dsimp only
  rw [mPut_new _ hnk, List.map_append]
  refine Imp.ent ?_
  refine IP 2 rfl (IP 2 rfl (IP 2 rfl ?_))
  exact (Imp.perm (List.perm_append_comm (l₁ := [_, _]) (l₂ := Y.map txH))).trans (Imp.app Imp.refl (IP 0 rfl Imp.nil))
end
end Cl
namespace Cl
open Go Vg T Api Ch Conf Rep
structure StpM where
 kind : Int
 a : Int
 b : Int
 c : Int
 op : OpM
structure CluM where
 conf : ConfM
 now : Int
 mas : MasM
 nodes : List (Option RepM)
 clis : List CliM
 lnk : LnkM
 his : HisM
 done : List EntryM
def newC (c : ConfM) : CluM := ⟨c, 0, newM c, (List.range c.nodes.toNat).map fun (n : Nat) => some (newR c n false), (List.range c.clients.toNat).map fun (n : Nat) => newCl c n, ⟨c.link, []⟩, newH, []⟩
def post1 (from_ : Int) (l : LnkM) (s : SdM) : LnkM := match putM s.2.1 s.2.2 with
 | none => l
 | some t => l.send (from_, s.1) (bT t)
def postL (from_ : Int) (l : LnkM) (S : List SdM) : LnkM := S.foldl (post1 from_) l
def CluM.post (C : CluM) (from_ : Int) (S : List SdM) : CluM := { C with lnk := postL from_ C.lnk S }
def CluM.node (C : CluM) (n : Int) : Option RepM := if n < 0 then none else (C.nodes[n.toNat]?).getD none
def CluM.upE (C : CluM) (n : Int) : Int := if n < 0 ∨ (C.nodes.length : Int) ≤ n then 4 else if (C.node n).isNone then 61 else 0
def CluM.setNode (C : CluM) (n : Int) (r : Option RepM) : CluM := { C with nodes := C.nodes.set n.toNat r }
def CluM.cli (C : CluM) (n : Int) : Option CliM := if n < 0 then none else C.clis[n.toNat]?
def CluM.setCli (C : CluM) (n : Int) (s : CliM) : CluM := { C with clis := C.clis.set n.toNat s }
def CluM.dead (C : CluM) (c : Int) : Int := min (C.now + min (max c 0) 1099511627776) 1099511627776
def CluM.call (C : CluM) (s : StpM) : CluM × Int := match C.cli s.a with
 | none => (C, 4)
 | some x =>
  if x.callE s.op s.b (C.dead s.c) ≠ 0 then (C, x.callE s.op s.b (C.dead s.c))
  else
   let y := x.call s.op s.b (C.dead s.c) C.now
   (({ C.setCli s.a y.1 with his := C.his.call s.a y.1.seq s.op } : CluM).post (32 + s.a) y.2, 0)
def CluM.tickN (C : CluM) (n : Nat) : CluM := match (C.nodes[n]?).getD none with
 | none => C
 | some r => (C.setNode n (some (tickR r).1)).post n (ofS (tickR r).2)
def CluM.tickC (C : CluM) (n : Nat) : CluM := match C.clis[n]? with
 | none => C
 | some s => (C.setCli n (s.tick C.now).1).post (32 + n) (s.tick C.now).2
def CluM.tick (C : CluM) : CluM :=
 let C := { C with now := min (C.now + 1) 1099511627776 }
 let C := (List.range C.nodes.length).foldl CluM.tickN C
 (List.range C.clis.length).foldl CluM.tickC C
def CluM.takes (C : CluM) (from_ to : Int) (f : FrameM) (ms : List MemM) : CluM :=
 if to = 16 then ({ C with mas := (C.mas.take from_ f C.now).1 }).post to (C.mas.take from_ f C.now).2
 else match C.node to with
  | some r => (C.setNode to (some (takeR r from_ f ms C.now).1)).post to (ofS (takeR r from_ f ms C.now).2)
  | none => match C.cli (to - 32) with
   | some s => (C.setCli (to - 32) (s.take f ms C.now).1).post to (s.take f ms C.now).2
   | none => C
def CluM.got (C : CluM) (from_ to : Int) (t : ByteArray) : CluM := match getM (sB t) with
 | some (f, ms) => C.takes from_ to f ms
 | none => C
def CluM.deliver (C : CluM) (p : PrM) (i : Int) : CluM × Int := match C.lnk.find p i with
 | none => (C, 4)
 | some t => (({ C with lnk := C.lnk.without p i } : CluM).got p.1 p.2 t, 0)
def CluM.back (C : CluM) (n : Int) : CluM :=
 if C.upE n = 61 then
  let r := takeR (newR C.conf n true) 16 (cfgF C.mas.ch) C.mas.ch.ms C.now
  (C.setNode n (some r.1)).post n (ofS r.2)
 else C
def CluM.join (C : CluM) (n : Int) : CluM × Int :=
 let j := C.mas.join n C.now
 if j.2.2 ≠ 0 then (C, j.2.2) else ((({ C with mas := j.1 } : CluM).back n).post 16 j.2.1, 0)
def CluM.step (C : CluM) (s : StpM) : CluM × Int :=
 if s.kind = 1 then C.call s
 else if s.kind = 2 then match C.node s.a with
  | none => (C, C.upE s.a)
  | some r => ((C.setNode s.a (some (stepR r C.now).1)).post s.a (ofS (stepR r C.now).2), 0)
 else if s.kind = 3 then (C.tick, 0)
 else if s.kind = 4 then C.deliver (s.a, s.b) s.c
 else if s.kind = 5 then ({ C with lnk := (C.lnk.drop (s.a, s.b) s.c).1 }, (C.lnk.drop (s.a, s.b) s.c).2)
 else if s.kind = 6 then ({ C with lnk := (C.lnk.double (s.a, s.b) s.c).1 }, (C.lnk.double (s.a, s.b) s.c).2)
 else if s.kind = 7 then if C.upE s.a ≠ 0 then (C, C.upE s.a) else (C.setNode s.a none, 0)
 else if s.kind = 8 then (({ C with mas := (C.mas.suspect s.a).1 } : CluM).post 16 (C.mas.suspect s.a).2.1, (C.mas.suspect s.a).2.2)
 else if s.kind = 9 then C.join s.a
 else if s.kind = 10 then (({ C with mas := (C.mas.drain s.a).1 } : CluM).post 16 (C.mas.drain s.a).2.1, (C.mas.drain s.a).2.2)
 else if s.kind = 11 then (({ C with mas := (C.mas.tick C.now).1 } : CluM).post 16 (C.mas.tick C.now).2, 0)
 else (C, 2)
def endH (h : HisM) (x : CliM × Nat) : HisM := match x.1.outcome with
 | none => h
 | some o => h.end_ (x.2 : Int) x.1.seq o
def lastMem (ms : List MemM) : Int := match ms.getLast? with
 | none => -1
 | some m => m.1
def doneN (d : List EntryM) (x : Option RepM × Nat) : List EntryM := match x.1 with
 | none => d
 | some r => if r.since = 0 ∨ r.ch.ms.length = 0 ∨ lastMem r.ch.ms ≠ x.2 ∨ r.win.done ≤ d.length then d else d ++ (r.log.take r.win.done.toNat).drop d.length
def CluM.behind (C : CluM) : CluM := { C with his := C.clis.zipIdx.foldl endH C.his, done := C.nodes.zipIdx.foldl doneN C.done }
def CluM.do_ (C : CluM) (s : StpM) : CluM × Int := ((C.step s).1.behind, (C.step s).2)
def stS (k a b : Int) : StpM := ⟨k, a, b, 0, opZe⟩
end Cl
namespace Cl
open Go Vg T Api Ch Rep Conf Lg
attribute [local irreducible] VO VC VA
abbrev cluT : TypeId := 50
abbrev rpT : TypeId := 81
abbrev cpT : TypeId := 84
abbrev NdG := Option (Nat × RepM)
abbrev CiG := Nat × CliM
def nodV : NdG → Value
 | none => .pointer none
 | some x => .pointer (some ⟨x.1, 0, none⟩)
def nodC (x : NdG) : List Value := [nodV x]
theorem nodC_len (x : NdG) : (nodC x).length = 1 := rfl
def nodP : NdG → HP
 | none => hpure True
 | some x => repH x.1 x.2
def cliV (x : CiG) : List Value := [.pointer (some ⟨x.1, 0, none⟩)]
theorem cliV_len (x : CiG) : (cliV x).length = 1 := rfl
def cliP (x : CiG) : HP := cliH x.1 x.2
structure CluS where
 qa : Option Addr
 qc : Nat
 mp : Nat
 nb : Nat
 nc : Nat
 nx : List Value
 nr : List NdG
 cb : Nat
 cc : Nat
 cx : List Value
 cr : List CiG
 lp : Nat
 hp : Nat
 da : Option Addr
 dc : Nat
def cluC (C : CluM) (y : CluS) : List Value := C.conf.cells y.qa y.qc ++ [.int .i64 C.now, .pointer (some ⟨y.mp, 0, none⟩), .slice (some ⟨y.nb, 0, none⟩) y.nr.length y.nc, .slice (some ⟨y.cb, 0, none⟩) y.cr.length y.cc, .pointer (some ⟨y.lp, 0, none⟩), .pointer (some ⟨y.hp, 0, none⟩), .slice y.da C.done.length y.dc]
def cluL (p : Nat) (C : CluM) (y : CluS) : List HP := [pt p (cluC C y) cluT, intH y.qa y.qc C.conf.qs, masH y.mp C.mas, pt y.nb (flat nodC y.nr ++ y.nx) rpT, pt y.cb (flat cliV y.cr ++ y.cx) cpT, lnkH y.lp C.lnk, hisH y.hp C.his, slH entT 7 y.da C.done.length y.dc (flat entC C.done), hsep (y.nr.map nodP), hsep (y.cr.map cliP)]
structure CluFit (C : CluM) (y : CluS) : Prop where
 nr : y.nr.map (Option.map Prod.snd) = C.nodes
 cr : y.cr.map Prod.snd = C.clis
 qc : C.conf.qs.length ≤ y.qc
def cluH (p : Nat) (C : CluM) : HP := hex fun y : CluS => hsep (hpure (CluFit C y) :: cluL p C y)
theorem HOpn.clu (p : Nat) (C : CluM) : HOpn (ι := CluS) (cluH p C) (fun y => CluFit C y) (fun y => cluL p C y) := fun w ids ⟨x, h⟩ hn => by
 obtain ⟨i1, i2, rfl, ⟨rfl, h1⟩, h2⟩ := h
 exact ⟨x, h1, i2, h2, hn, fun _ h => h⟩
theorem Imp.clu {p : Nat} {C : CluM} {L K : List HP} (y : CluS) (hy : CluFit C y) (h : Imp L (cluL p C y ++ K)) : Imp L (cluH p C :: K) := Imp.ex (f := fun y : CluS => hsep (hpure (CluFit C y) :: cluL p C y)) y (Imp.sep (Imp.pure hy h))
theorem clu_in {Fr : Nat → Prop} {w : World} {p : Nat} {C : CluM} (h : SatIn Fr [cluH p C] w) : ∃ y, CluFit C y ∧ SatIn Fr (cluL p C y) w := by
 obtain ⟨y, hy⟩ := h.ex
 have hs := hy.sep
 exact ⟨y, hs.pure 0 rfl, SatIn.tail hs⟩
def LnkM.Adr (S : LnkM) : Prop := ∀ x ∈ S.mail, adrB x.1.1 = true ∧ adrB x.1.2 = true
structure CluM.Ok (C : CluM) (b e : Nat) : Prop where
 cf : C.conf = fitM C.conf
 n0 : 0 ≤ C.now
 n1 : C.now ≤ 1099511627776
 mas : C.mas.Ok
 nl : C.nodes.length = C.conf.nodes.toNat
 cl : C.clis.length = C.conf.clients.toNat
 lnk : C.lnk.Ok
 his : C.his.Ok
 fit : ∀ r, some r ∈ C.nodes → r.Fit
 last : ∀ r, some r ∈ C.nodes → r.rds.last ≤ b
 cok : ∀ s ∈ C.clis, s.Ok
 seq : ∀ s ∈ C.clis, s.seq ≤ b
 rc : C.his.recs.length ≤ b
 ev : C.his.events ≤ e
 dn : C.done.length ≤ 4096
 adr : C.lnk.Adr
section
variable {p : Nat} {C : CluM} {y : CluS}
theorem umade_spec (h : Blk Fr w p (cluC C y)) : Tri Tryz.prog 41 [.pointer (some ⟨p, 0, none⟩)] Fr w [] (fun v L => v = .bool true ∧ L = []) := by
 refine xnf ?_
 refine xjs ?_
 refine xjq ?_
 refine xjt ?_
 exact xex
theorem node_len (fit : CluFit C y) : y.nr.length = C.nodes.length := by rw [← fit.nr, List.length_map]
theorem cli_len (fit : CluFit C y) : y.cr.length = C.clis.length := by rw [← fit.cr, List.length_map]
theorem node_at (fit : CluFit C y) {k : Nat} {x : NdG} (h : y.nr[k]? = some x) : C.node (k : Int) = x.map Prod.snd ∧ C.nodes[k]? = some (x.map Prod.snd) := by
 have : C.nodes[k]? = some (x.map Prod.snd) := by rw [← fit.nr, List.getElem?_map, h]; rfl
 refine ⟨?_, this⟩
 unfold CluM.node
 rw [if_neg yd, Int.toNat_natCast, this]; rfl
theorem cli_at (fit : CluFit C y) {k : Nat} {x : CiG} (h : y.cr[k]? = some x) : C.cli (k : Int) = some x.2 ∧ C.clis[k]? = some x.2 := by
 have : C.clis[k]? = some x.2 := by rw [← fit.cr, List.getElem?_map, h]; rfl
 refine ⟨?_, this⟩
 unfold CluM.cli
 rw [if_neg yd, Int.toNat_natCast, this]
theorem nod_cell {l : List NdG} {k : Nat} {x : NdG} {r : List Value} (h : l[k]? = some x) : (flat nodC l ++ r)[0 + k * 1]? = some (nodV x) := by rw [Nat.zero_add]; exact flat_cell (j := 0) nodC_len h rfl r
theorem cli_cell {l : List CiG} {k : Nat} {x : CiG} {r : List Value} (h : l[k]? = some x) : (flat cliV l ++ r)[0 + k * 1]? = some (.pointer (some ⟨x.1, 0, none⟩)) := by rw [Nat.zero_add]; exact flat_cell (j := 0) cliV_len h rfl r
theorem up_spec (fit : CluFit C y) (h : Blk Fr w p (cluC C y)) (hr : Blk Fr w y.nb (flat nodC y.nr ++ y.nx)) (n : Int) : Tri Tryz.prog 56 [.pointer (some ⟨p, 0, none⟩), .int .i64 n] Fr w [] (fun v L => v = .int .i64 (C.upE n) ∧ L = []) := by
 have hl := node_len fit
 refine TF 26 Tryz.func56 rfl ym tabOk rfl rfl ?_
 refine xjs ?_
 by_cases h0 : n < 0
 ·refine VG (VY 8 true rfl (DT h0) ?_)
  refine xjt ?_
  refine xdv ?_
  refine xjs ?_
  exact CR (Ret.tmp 4 rfl rfl ER ⟨by rw [CluM.upE, if_pos (.inl h0)], rfl⟩)
 obtain ⟨k, rfl⟩ : ∃ k : Nat, n = k := ⟨n.toNat, by omega⟩
 refine VG (VY 8 false rfl (DF h0) ?_)
 refine xjt ?_
 refine CP (p := (y.nr.length : Int) ≤ k) rfl (fun h1 => ?_) (fun h1 => ?_)
 ·refine xjs ?_
  exact CR (Ret.tmp 4 rfl rfl ER ⟨by rw [CluM.upE, if_pos (.inr yd)], rfl⟩)
 have hk : k < y.nr.length := by omega
 have hk2 : y.nr[k]? = some y.nr[k] := GE hk
 generalize y.nr[k] = x at hk2
 obtain ⟨e1, e2⟩ := node_at fit hk2
 have hu : C.upE (k : Int) = if x.isNone then 61 else 0 := by
  unfold CluM.upE
  rw [if_neg yd, e1]
  cases x <;> rfl
 refine xjt ?_
 refine xdw ?_
 refine VG (VO.load rfl rfl (RdL.blk hr (nod_cell hk2)) ?_)
 cases x with
 | none =>
  refine zop ?_
  exact CR (Ret.tmp 4 rfl rfl ER ⟨by rw [hu]; rfl, rfl⟩)
 | some z =>
  show VO _ _ _ _ (putE (some 24) (.pointer (some ⟨z.1, 0, none⟩)) _) _ _
  refine zor ?_
  refine xjs ?_
  exact CR (Ret.tmp 4 rfl rfl ER ⟨by rw [hu]; rfl, rfl⟩)
end
end Cl
namespace Cl
open Go Vg T Api Ch Rep Conf Lg
attribute [local irreducible] VO VC VA
structure SdIn (Fr : Nat → Prop) (w : World) (a : Option Addr) (X : List SdG) : Prop where
 rows : RwIn sdC 30 Fr w a X
 mems : ∀ x ∈ X, RwIn memC 2 Fr w x.2.1 x.1.2.2
 len : X.length ≤ 1000000
 ml : ∀ x ∈ X, x.1.2.2.length ≤ 1000000
theorem sd_in {Fr : Nat → Prop} {w : World} {A : List HP} {a : Option Addr} {c : Nat} {X : List SdG} (h : SatIn Fr (slH sndT 30 a X.length c (flat sdC X) :: (X.map memH ++ A)) w) (hl : X.length ≤ 1000000) (hm : ∀ x ∈ X.map Prod.fst, x.2.2.length ≤ 1000000) : SdIn Fr w a X :=
 ⟨RwIn.slH sdC_len (h.at_ 0 rfl), fun x hx => by
  obtain ⟨i, hi, rfl⟩ := List.getElem_of_mem hx
  exact RwIn.slH memC_len (h.at_ (1 + i) (by rw [show 1 + i = i + 1 from by omega, List.getElem?_cons_succ, List.getElem?_append_left (by rw [List.length_map]; exact hi), List.getElem?_map, GE hi]; rfl)), hl, fun x hx => hm x.1 (List.mem_map.2 ⟨x, hx, rfl⟩)⟩
theorem postL_snoc (from_ : Int) (l : LnkM) (S : List SdM) (s : SdM) : postL from_ l (S ++ [s]) = post1 from_ (postL from_ l S) s := by unfold postL; rw [List.foldl_append]; rfl
theorem LnkM.Ok.post1 {S : LnkM} (ok : S.Ok) (from_ : Int) (s : SdM) : (Cl.post1 from_ S s).Ok := by
 unfold Cl.post1
 split
 ·exact ok
 ·exact ok.send _ _
theorem LnkM.Ok.postL (from_ : Int) : ∀ (l : List SdM) {S : LnkM}, S.Ok → (Cl.postL from_ S l).Ok
 | [], _, ok => ok
 | s :: l, S, ok => LnkM.Ok.postL from_ l (ok.post1 from_ s)
theorem sd_frame (x : SdG) : ((sdC x).drop 1).take 29 = x.1.2.1.cells (x.2.1, x.1.2.2.length, x.2.2) := rfl
theorem usend_spec {p : Nat} {C : CluM} {y : CluS} {S : LnkM} (h : Blk Fr w p (cluC C y)) (ok : S.Ok) (from_ : Int) {a : Option Addr} {c : Nat} {X : List SdG} (hX : SdIn Fr w a X) : Tri Tryz.prog 79 [.pointer (some ⟨p, 0, none⟩), .int .i64 from_, .slice a X.length c] Fr w [lnkH y.lp S]
  (fun v L => v = .tuple #[] ∧ L = [lnkH y.lp (postL from_ S (X.map Prod.fst))]) := by
 have hlen := hX.len
 refine TF 35 Tryz.func79 rfl ym tabOk rfl rfl ?_
 refine xjs ?_
 refine VC.loop (σ := Nat) (fun k => [(0, pV p), (1, .int .i64 from_), (10, .slice a X.length c), (11, .int .i64 X.length), (12, .int .i64 (k : Int))]) (fun k => [lnkH y.lp (postL from_ S ((X.take k).map Prod.fst))]) (fun k => k ≤ X.length) (fun k => X.length - k) 0
  (Nat.zero_le _) sbZ ER ?_
 rintro k hk
 refine xjs ?_
 refine CP (p := (k : Int) < X.length) rfl (fun h1 => CK ?_) (fun h1 => CX ?_)
 rotate_left
 ·obtain rfl : k = X.length := by omega
  exact Ret.void rfl ER ⟨rfl, by rw [List.take_length]⟩
 have hkl : k < X.length := by omega
 have hx : X[k]? = some X[k] := GE hkl
 have hxm : X[k] ∈ X := List.getElem_mem hkl
 generalize X[k] = x at hx hxm
 obtain ⟨xb, xo, rfl, ra, rc⟩ := RwIn.rd (X := ⟨Tryz.prog, tab, tabOk, 35, Fr, w⟩) hX.rows hx
 have okk : (postL from_ S ((X.take k).map Prod.fst)).Ok := LnkM.Ok.postL from_ _ ok
 have htk : (X.take (k + 1)).map Prod.fst = (X.take k).map Prod.fst ++ [x.1] := by
  rw [List.take_add_one, hx, List.map_append]; rfl
 have hxml := hX.ml x hxm
 refine xjs ?_
 refine VG (VI (light_idx k rfl rfl rfl rfl rfl rfl hkl) ?_)
 refine xdh ?_
 refine VG (VO.alloc rfl fun sb => ?_)
 refine VG (VT (vs := sdC x) (cs' := sdC x) 0 rfl rfl rfl rfl (NR _) rfl rfl rfl ?_)
 refine xjs ?_
 refine VG (VL 0 (x.1.2.1.cells (x.2.1, x.1.2.2.length, x.2.2)) rfl rfl rfl (sd_frame x) ?_)
 refine VG (VO.callP (φ := fpR (putM x.1.2.1 x.1.2.2)) (fun Fr w hF hw _ => fput_spec Fr w ((hX.mems x hxm).of hF hw) hxml) rfl ?_)
 intro v hv
 have fin : ∀ S', S' = post1 from_ (postL from_ S ((X.take k).map Prod.fst)) x.1 → S' = postL from_ S ((X.take (k + 1)).map Prod.fst) := fun S' h => by rw [htk, postL_snoc, h]
 cases hp : putM x.1.2.1 x.1.2.2 with
 | none =>
  rw [hp] at hv
  obtain ⟨e, he, rfl⟩ := hv
  have h1 := fin (postL from_ S ((X.take k).map Prod.fst)) (by unfold post1; rw [hp])
  refine xjs ?_
  refine CE rfl (fun k0 => absurd k0 he) (fun _ => CK ?_)
  refine xjs ?_
  refine xdi ?_
  refine xjs ?_
  exact xng
 | some t =>
  rw [hp] at hv
  obtain rfl := hv
  have h1 := fin ((postL from_ S ((X.take k).map Prod.fst)).send (from_, x.1.1) (bT t)) (by unfold post1; rw [hp])
  refine zop ?_
  refine CD (ts 0 9 (.only 9 .nil)) ym yq ?_
  refine xhr ?_
  refine AG (AI rfl (LB (pv := [(0, .int .i64 from_), (1, .int .i64 x.1.1), (2, .string (bT t))]) (mailC from_ x.1.1 (bT t)) rfl rfl rfl ym rfl) ?_)
  refine AG (AQ 1 rfl (fun Fr w hF hs hS => lsend_spec Fr w okk from_ x.1.1 (bT t)) rfl rfl (ψ := fun v H => v = .int .i64 ((postL from_ S ((X.take k).map Prod.fst)).sendE (from_, x.1.1) (bT t)) ∧ H = lnkH y.lp ((postL from_ S ((X.take k).map Prod.fst)).send (from_, x.1.1) (bT t))) yy ?_ ?_)
  ·rintro _ _ ⟨rfl, rfl⟩
   exact (by (try refine Pd.st ?_);(repeat (first|exact Pd.nil|exact Pd.fnil|refine Pd.inner ?_|refine Pd.skip yq ?_|refine zf (zo 0 rfl rfl) ?_|refine zf (zo 1 rfl rfl) ?_|refine zf (zm 0 rfl rfl) ?_|refine zf (zm 1 rfl rfl) ?_|refine zf (RdL.blk h rfl) ?_|refine zf (h) ?_|refine zc (zo 0 rfl rfl) ?_|refine zc (zo 1 rfl rfl) ?_|refine zc (zm 0 rfl rfl) ?_|refine zc (zm 1 rfl rfl) ?_|refine zc (RdL.blk h rfl) ?_|refine zc (h) ?_)))
  rintro _ _ ⟨rfl, rfl⟩
  refine xju ?_
  refine xjs ?_
  refine xdi ?_
  refine xjs ?_
  exact xng
end Cl
namespace Cl
open Go Vg T Api Ch Rep Conf Lg Rd
attribute [local irreducible] VO VC VA
theorem refs_len (e : Int) (l : List FrameM) (r : Int) : (refs e l r).length = l.length := by rw [refs, List.length_map]
theorem step_few {R : RepM} (h : R.Ok) (now : Int) : (stepR R now).2.length ≤ 300000 := by
 have h1 : (expS R now).length ≤ 16 := by
  unfold expS
  rw [refs_len, List.length_map]
  have := List.length_filter_le (fun y => !lives now y) R.rds.l
  have := h.rl
  have := h.rc1
  omega
 have h2 : (step2 R now).2.length ≤ 65 * 4200 := by
  unfold step2
  split
  ·exact serveLoop_len now 65 (expR_ok h now)
  ·simp
 have h3 : (step3 R now).2.length ≤ 4200 := by
  unfold step3
  split
  ·show (passN _ _).2.length ≤ _
   have ok2 := (step2_ok h now).win
   have := ok2.last1
   have := ok2.sent0
   rw [passN_len]
   unfold passK
   omega
  ·simp
 show List.length (_ ++ _ ++ _) ≤ _
 rw [List.length_append, List.length_append]
 omega
theorem tick_few (R : RepM) : (tickR R).2.length ≤ 5 := by
 have gl := greetM_len R
 have bl := baseM_len R
 have ml : R.masterM.length = 1 := rfl
 have x1 : (if (!R.rds.l.isEmpty) = true then [((16 : Int), confirmF R.ch.epoch R.rds.lastI)] else []).length ≤ 1 := by split <;> simp
 have x2 : (if R.drainsB = true ∧ R.win.done = R.win.last then [((16 : Int), drainedF R.ch.epoch)] else []).length ≤ 1 := by split <;> simp
 show List.length (_ ++ _ ++ _ ++ _ ++ _) ≤ _
 rw [List.length_append, List.length_append, List.length_append, List.length_append]
 omega
theorem enter_few {R : RepM} (h : R.Fit) {c : ChM} (hc : ChS c) : (enterR R c).2.length ≤ 5000 := by
 have h1 : (entG R c).length ≤ 80 := by
  unfold entG
  rw [List.length_append, refs_len, refs_len, List.length_map]
  have := gone_few h.ok maxI
  have := h.ok.rl
  have := h.ok.rc1
  omega
 have h2 := finishM_len (ent5_ok h.ok hc h.cap0 h.cap1)
 have h3 := greetM_len (ent5 R c).finishR
 have h4 := baseM_len (ent5 R c).finishR
 have h5 : (ent5 R c).finishR.masterM.length = 1 := rfl
 show List.length (_ ++ _ ++ _ ++ _ ++ _) ≤ _
 rw [List.length_append, List.length_append, List.length_append, List.length_append]
 omega
theorem take_few {R : RepM} (h : R.Fit) (from_ : Int) (f : FrameM) (ms : List MemM) (now : Int) : (takeR R from_ f ms now).2.length ≤ 5000 := by
 unfold takeR
 split
 ·split
  ·simp
  split
  ·simp
  split
  ·unfold readR; split <;> simp
  ·unfold updateR; split <;> (try split) <;> (try split) <;> simp
 split
 ·split
  ·rename_i h1; exact enter_few h ⟨by have := chE_len h1.1.2; omega⟩
  ·simp
 split
 ·split
  ·unfold forwardR
   have g1 := greetM_len R
   have g2 := greetM_len (pushE R f.entry).finishR.becomeR
   have g3 := becomeM_len (pushE R f.entry).finishR
   split
   ·rename_i h1
    have g4 := finishM_len (pushE_ok h.ok (e := f.entry) h1.2 (fwd_room h1.1))
    show List.length (_ ++ _ ++ _) ≤ _
    rw [List.length_append, List.length_append]
    omega
   ·show R.greetM.length ≤ _; omega
  ·simp
 split
 ·split
  ·show (if _ then _ else _ : List SndM).length ≤ _
   split
   ·have := greetM_len { ack2 R f with win := (ack2 R f).win.ack f.index }; omega
   ·simp
  ·simp
 split
 ·split
  ·have := becomeM_len (baseR R f.index); show (RepM.becomeM _).length ≤ _; omega
  ·simp
 split
 ·split
  ·show (sureS R f.index).length ≤ _
   unfold sureS
   rw [List.length_map]
   have := List.length_filter_le (fun y => !surely f.index y) R.rds.l
   have := h.ok.rl
   have := h.ok.rc1
   omega
  ·simp
 ·simp
theorem ofS_len (S : List SndM) : (ofS S).length = S.length := List.length_map ..
theorem ofS_ms (S : List SndM) : ∀ x ∈ ofS S, x.2.2.length ≤ 7 := fun x hx => by
 obtain ⟨y, _, rfl⟩ := List.mem_map.1 hx
 exact Nat.zero_le _
structure FewS (S : List SdM) : Prop where
 n : S.length ≤ 300000
 m : ∀ x ∈ S, x.2.2.length ≤ 7
theorem FewS.of {S : List SndM} (h : S.length ≤ 300000) : FewS (ofS S) := ⟨by rw [ofS_len]; exact h, ofS_ms S⟩
theorem FewS.nil : FewS [] := ⟨by decide, fun _ h => absurd h List.not_mem_nil⟩
theorem FewS.one {to : Int} {f : FrameM} {ms : List MemM} (h : ms.length ≤ 7) : FewS [(to, f, ms)] := ⟨by show 1 ≤ 300000; omega, fun x hx => by rw [List.mem_singleton.1 hx]; exact h⟩
theorem MasM.Ok.all_few {M : MasM} (ok : M.Ok) : FewS M.all := ⟨by have := ok.n1; unfold MasM.all; rw [List.length_map, List.length_range]; omega, fun x hx => by
 obtain ⟨n, _, rfl⟩ := List.mem_map.1 hx
 exact ok.ml⟩
theorem MasM.Ok.take_few {M : MasM} (ok : M.Ok) (from_ : Int) (f : FrameM) (now : Int) : FewS (M.take from_ f now).2 := by
 have c1 : ∀ n, FewS [cfgS M.ch n] := fun n => FewS.one ok.ml
 have c2 : ∀ n, (M.heardAt n now).ch = M.ch := fun _ => rfl
 unfold MasM.take
 split
 ·exact c1 _
 split
 ·exact .nil
 split
 ·split
  ·exact c1 _
  split <;> exact .nil
 split
 ·split
  ·exact c1 _
  split
  ·exact FewS.one (Nat.zero_le _)
  ·exact .nil
 split
 ·split
  ·rename_i h; exact (ok.gone h.2.2).all_few
  ·exact .nil
 ·exact .nil
theorem MasM.Ok.tick_few {M : MasM} (ok : M.Ok) (now : Int) : FewS (M.tick now).2 := by
 have := (ok.tick now).all_few
 unfold MasM.tick at this ⊢
 dsimp only at this ⊢
 split
 ·exact this
 ·exact .nil
theorem MasM.Ok.suspect_few {M : MasM} (ok : M.Ok) (n : Int) : FewS (M.suspect n).2.1 ∧ (M.suspect n).1.Ok := by
 unfold MasM.suspect
 split
 ·exact ⟨.nil, ok⟩
 split
 ·exact ⟨.nil, ok⟩
 ·rename_i h
  have := ok.gone (n := n) yc
  exact ⟨this.all_few, this⟩
theorem MasM.Ok.drain_few {M : MasM} (ok : M.Ok) (n : Int) : FewS (M.drain n).2.1 ∧ (M.drain n).1.Ok := by
 unfold MasM.drain
 split
 ·exact ⟨.nil, ok⟩
 split
 ·exact ⟨.nil, ok⟩
 ·rename_i h
  have := ok.drained (n := n) yc
  exact ⟨this.all_few, this⟩
theorem MasM.Ok.join_few {M : MasM} (ok : M.Ok) (n now : Int) : FewS (M.join n now).2.1 ∧ (M.join n now).1.Ok := by
 unfold MasM.join
 split
 ·exact ⟨.nil, ok⟩
 split
 ·exact ⟨.nil, ok⟩
 ·rename_i h
  have := ok.joined (n := n) yc now
  exact ⟨this.all_few, this⟩
theorem ask_few : FewS askS := FewS.one (Nat.zero_le _)
theorem try_few (s : CliM) (now : Int) : FewS (s.try_ now).2 := FewS.one (Nat.zero_le _)
theorem goOn_few (s : CliM) (r now : Int) : FewS (s.goOn r now).2 := by
 unfold CliM.goOn CliM.giveUp
 split
 ·exact ask_few
 split
 ·exact .nil
 ·exact ask_few
theorem CliM.call_few (s : CliM) (o : OpM) (cl d now : Int) : FewS (s.call o cl d now).2 := by
 unfold CliM.call
 split
 ·exact .nil
 split
 ·exact try_few _ _
 ·exact ask_few
theorem CliM.tick_few (s : CliM) (now : Int) : FewS (s.tick now).2 := by
 unfold CliM.tick
 split
 ·split
  ·exact goOn_few _ _ _
  ·exact .nil
 split
 ·split
  ·exact .nil
  split
  ·exact ask_few
  ·exact ask_few
 split
 ·split
  ·exact ask_few
  ·exact .nil
 ·exact .nil
theorem CliM.take_few (s : CliM) (f : FrameM) (ms : List MemM) (now : Int) : FewS (s.take f ms now).2 := by
 unfold CliM.take
 split
 ·split
  ·exact .nil
  split
  ·exact try_few _ _
  ·exact .nil
 split
 ·split <;> exact .nil
 split
 ·split
  ·unfold CliM.refused
   split
   ·exact goOn_few _ _ _
   split
   ·exact ask_few
   ·exact goOn_few _ _ _
  ·exact .nil
 ·exact .nil
def sentP (a : Option Addr) (c : Nat) (X : List SdG) : HP := hsep (slH sndT 30 a X.length c (flat sdC X) :: X.map memH)
def sentH (H : HP) (a : Option Addr) (c : Nat) (X : List SdG) : HP := hsep [H, sentP a c X]
def SentV1 (S : List SdM) (H : HP) (v : Value) (K : HP) : Prop := ∃ (X : List SdG) (a : Option Addr) (c : Nat), X.map Prod.fst = S ∧ v = .slice a X.length c ∧ K = sentH H a c X
def SentW1 (S : List SdM) (e : Int) (H : HP) (v : Value) (K : HP) : Prop := ∃ (X : List SdG) (a : Option Addr) (c : Nat), X.map Prod.fst = S ∧ v = .tuple #[.slice a X.length c, .int .i64 e] ∧ K = sentH H a c X
def SentV (S : List SdM) (H : HP) (v : Value) (L : List HP) : Prop := ∃ K, L = [K] ∧ SentV1 S H v K
def SentW (S : List SdM) (e : Int) (H : HP) (v : Value) (L : List HP) : Prop := ∃ K, L = [K] ∧ SentW1 S e H v K
theorem SdIn.at_ {Fr : Nat → Prop} {w : World} {L : List HP} {a : Option Addr} {c : Nat} {X : List SdG} {S : List SdM} (i : Nat) {H : HP} (h : SatIn Fr L w) (hL : L[i]? = some (sentH H a c X)) (hX : X.map Prod.fst = S) (hS : FewS S) : SdIn Fr w a X := by
 subst hX
 have hh := (((h.at_ i hL).sep).at_ 1 rfl).sep
 have hn := hS.n
 rw [List.length_map] at hn
 exact sd_in (A := []) (c := c) (by simpa using hh) yd (fun x hx => by have := hS.m x hx; omega)
def toX (S : List SndM) : List SdG := S.map fun x => ((x.1, x.2, []), (none, 0))
theorem toX_fst (S : List SndM) : (toX S).map Prod.fst = ofS S := by unfold toX ofS; rw [List.map_map]; rfl
theorem toX_len (S : List SndM) : (toX S).length = S.length := List.length_map ..
theorem toX_flat (S : List SndM) : flat sdC (toX S) = flat sndC S := by
 unfold flat toX
 rw [List.map_map]
 rfl
theorem toX_mems {L : List HP} : ∀ (S : List SndM), Imp L ((toX S).map memH)
 | [] => Imp.nil
 | s :: S => by
  show Imp L (slH memT 2 none 0 0 [] :: (toX S).map memH)
  exact Imp.slNil (toX_mems S)
theorem sentV_of {S : List SndM} {v : Value} {L : List HP} {H : HP} (h : sent S v L [H]) : ∃ L2, SentV (ofS S) H v L2 ∧ Imp L L2 := by
 obtain ⟨a, c, rfl, rfl⟩ := h
 refine ⟨[sentH H a c (toX S)], ⟨_, rfl, toX S, a, c, toX_fst S, by rw [toX_len], rfl⟩, Imp.sep (Imp.cons (Imp.sep ?_))⟩
 show Imp [_] ((slH sndT 30 a (toX S).length c (flat sdC (toX S)) :: List.map memH (toX S)) ++ [])
 rw [List.append_nil, toX_len, toX_flat]
 exact Imp.cons (toX_mems S)
theorem sentV_ofX {S : List SdM} {v : Value} {L : List HP} {H : HP} (h : sentX S v L [H]) : ∃ L2, SentV S H v L2 ∧ Imp L L2 := by
 obtain ⟨X, a, c, e, rfl, rfl⟩ := h
 exact xnh
theorem Imp.tail {H : HP} {L : List HP} : Imp (H :: L) L := Imp.app (L := [H]) (M := []) Imp.nil Imp.refl
theorem sentH_open {H : HP} {a : Option Addr} {c : Nat} {X : List SdG} {L : List HP} : Imp (sentH H a c X :: L) (H :: L) := Imp.unsep (Imp.cons Imp.tail)
theorem sentW_ofE {S : List SdM} {e : Int} {v : Value} {L : List HP} {H : HP} (h : sentE S e v L [H]) : ∃ L2, SentW S e H v L2 ∧ Imp L L2 := by
 obtain ⟨X, a, c, e, rfl, rfl⟩ := h
 exact xnh
section
variable {α : Type} {f : α → HP} {l : List α} {k : Nat} {x : α}
theorem many_take {A : List HP} (h : l[k]? = some x) : Imp (hsep (l.map f) :: A) (f x :: hsep ((l.eraseIdx k).map f) :: A) := by
 have e1 : (l.map f)[k]? = some (f x) := by rw [List.getElem?_map, h]; rfl
 have e2 : (l.map f).eraseIdx k = (l.eraseIdx k).map f := (map_eraseIdx f l k).symm
 refine Imp.unsep (Imp.trans (Imp.app (M := f x :: (l.eraseIdx k).map f) (Imp.perm ?_) Imp.refl) ?_)
 ·have := perm_eraseIdx e1
  rwa [e2] at this
 ·exact Imp.cons (Imp.sep Imp.refl)
theorem many_put {A : List HP} (h : k < l.length) (y : α) : Imp (f y :: hsep ((l.eraseIdx k).map f) :: A) (hsep ((l.set k y).map f) :: A) := by
 have e3 : ((l.set k y).map f)[k]? = some (f y) := by rw [List.getElem?_map, List.getElem?_set_self h]; rfl
 have e4 : ((l.set k y).map f).eraseIdx k = (l.eraseIdx k).map f := by rw [List.map_set, List.eraseIdx_set_eq, map_eraseIdx]
 have hp := (perm_eraseIdx e3).symm
 rw [e4] at hp
 refine Imp.sep ?_
 refine Imp.trans (M := (f y :: (l.eraseIdx k).map f) ++ A) (Imp.cons (Imp.unsep Imp.refl)) ?_
 exact Imp.app (Imp.perm hp) Imp.refl
end
end Cl
namespace Cl
open Go Vg T Api Ch Rep Conf Lg Rd
attribute [local irreducible] VO VC VA
theorem last_take (R : RepM) (from_ : Int) (f : FrameM) (ms : List MemM) (now : Int) : (takeR R from_ f ms now).1.rds.last ≤ R.rds.last + 1 := by
 have h : ∀ Q : RepM, Q.rds.last = R.rds.last → Q.rds.last ≤ R.rds.last + 1 := fun Q h => by omega
 unfold takeR
 split
 ·split
  ·exact h _ rfl
  split
  ·exact h _ rfl
  split
  ·unfold readR
   split
   ·exact h _ rfl
   ·show (R.rds.put _ _).last ≤ _
    unfold RdsM.put; split
    ·exact Int.le_refl _
    ·omega
  ·refine h _ ?_
   unfold updateR
   split
   ·rfl
   split
   ·rfl
   split <;> rfl
 split
 ·split
  ·refine h _ ?_
   show (Rep.ent5 R (frCh f ms)).finishR.rds.last = _
   unfold RepM.finishR
   split <;> (unfold Rep.ent5; split <;> rfl)
  ·exact h _ rfl
 split
 ·split
  ·refine h _ ?_
   unfold forwardR
   split
   ·show (Rep.pushE R f.entry).finishR.becomeR.rds.last = _
    unfold RepM.becomeR
    split <;> (unfold RepM.finishR; split <;> rfl)
   ·rfl
  ·exact h _ rfl
 split
 ·split
  ·refine h _ ?_
   show (Rep.ack2 R f).rds.last = _
   unfold Rep.ack2 Rep.ack1; dsimp only; split <;> rfl
  ·exact h _ rfl
 split
 ·split
  ·refine h _ ?_; unfold RepM.becomeR; split <;> rfl
  ·exact h _ rfl
 split
 ·split <;> exact h _ rfl
 ·exact h _ rfl
theorem last_step (R : RepM) (now : Int) : (stepR R now).1.rds.last = R.rds.last := by
 have hs : ∀ R : RepM, (serveR R now).1.rds = R.rds := fun R => by
  unfold serveR
  split
  ·rfl
  split
  ·rfl
  ·unfold RepM.finishR; split <;> rfl
 have hl : ∀ (k : Nat) (R : RepM), (serveLoop now k R).1.rds = R.rds := by
  intro k
  induction k with
  | zero => intro R; rfl
  | succ k ih =>
   intro R
   unfold serveLoop
   split
   ·split
    ·rw [ih, hs]
    ·exact hs R
   ·rfl
 have h2 : (step2 R now).1.rds.last = R.rds.last := by
  unfold Rep.step2
  split
  ·rw [hl]; rfl
  ·rfl
 show (step3 R now).1.rds.last = _
 unfold step3
 split
 ·exact h2
 ·exact h2
theorem last_tick (R : RepM) : (tickR R).1.rds.last = R.rds.last := by
 show (tick1 R).rds.last = _
 unfold tick1; split <;> rfl
theorem goOn_seq (s : CliM) (r now : Int) : (s.goOn r now).1.seq = s.seq := by
 unfold CliM.goOn CliM.giveUp CliM.pause CliM.took
 split
 ·rfl
 split <;> rfl
theorem ctick_seq (s : CliM) (now : Int) : (s.tick now).1.seq = s.seq := by
 unfold CliM.tick
 split
 ·split
  ·exact goOn_seq _ _ _
  ·rfl
 split
 ·split
  ·rfl
  split <;> rfl
 split
 ·split <;> rfl
 ·rfl
theorem ctake_seq (s : CliM) (f : FrameM) (ms : List MemM) (now : Int) : (s.take f ms now).1.seq = s.seq := by
 unfold CliM.take
 split
 ·split
  ·rfl
  split <;> rfl
 split
 ·split <;> rfl
 split
 ·split
  ·unfold CliM.refused
   split
   ·exact goOn_seq _ _ _
   split
   ·rfl
   ·exact goOn_seq _ _ _
  ·rfl
 ·rfl
theorem ccall_seq (s : CliM) (o : OpM) (cl d now : Int) : (s.call o cl d now).1.seq ≤ s.seq + 1 := by
 unfold CliM.call
 split
 ·show s.seq ≤ _; omega
 split <;> exact Int.le_refl _
theorem hcall_len (S : HisM) (c seq : Int) (o : OpM) : (S.call c seq o).recs.length ≤ S.recs.length + 1 ∧ (S.call c seq o).events ≤ S.events + 1 := by
 unfold HisM.call
 split
 ·exact ⟨by omega, by omega⟩
 ·exact ⟨by simp, Int.le_refl _⟩
theorem hend_len (S : HisM) (c seq : Int) (o : OutM) : (S.end_ c seq o).recs.length = S.recs.length ∧ (S.end_ c seq o).events ≤ S.events + 1 := by
 unfold HisM.end_
 split
 ·exact ⟨rfl, by omega⟩
 split
 ·exact ⟨rfl, by omega⟩
 split
 ·exact ⟨rfl, by omega⟩
 ·exact ⟨List.length_set, Int.le_refl _⟩
theorem mGet_mem {κ α : Type} [DecidableEq κ] {a : κ} {v : α} : ∀ {l : List (κ × α)}, mGet l a = some v → (a, v) ∈ l
 | [], h => by cases h
 | (k, u) :: r, h => by
  simp only [mGet] at h
  split at h
  ·rename_i e; cases h; rw [e]; exact List.mem_cons_self ..
  ·exact List.mem_cons_of_mem _ (mGet_mem h)
theorem mDel_mem {κ α : Type} [DecidableEq κ] {a : κ} : ∀ {l : List (κ × α)} {x : κ × α}, x ∈ mDel l a → x ∈ l
 | [], x, h => by cases h
 | (k, u) :: r, x, h => by
  simp only [mDel] at h
  split at h
  ·exact List.mem_cons_of_mem _ h
  ·rcases List.mem_cons.1 h with h | h
   ·rw [h]; exact List.mem_cons_self ..
   ·exact List.mem_cons_of_mem _ (mDel_mem h)
namespace LnkM.Adr
variable {S : LnkM}
theorem put (h : S.Adr) {p : PrM} (h1 : adrB p.1 = true) (h2 : adrB p.2 = true) (l : List ByteArray) : ({ S with mail := mPut S.mail p l } : LnkM).Adr := fun x hx => by
 rcases mPut_mem hx with h3 | h3
 ·exact h x h3
 ·rw [h3]; exact ⟨h1, h2⟩
theorem send (h : S.Adr) (p : PrM) (t : ByteArray) : (S.send p t).Adr := by
 unfold LnkM.send
 split
 ·exact h
 ·rename_i h0
  have h0 : S.sendE p t = 0 := by simpa using h0
  have : ¬ (adrB p.1 = false ∨ adrB p.2 = false ∨ p.1 = p.2) := fun g => by unfold LnkM.sendE at h0; rw [if_pos g] at h0; cases h0
  exact h.put (by cases hh : adrB p.1 <;> simp_all) (by cases hh : adrB p.2 <;> simp_all) _
theorem found (h : S.Adr) {p : PrM} {i : Int} {t : ByteArray} (hf : S.find p i = some t) : adrB p.1 = true ∧ adrB p.2 = true := by
 unfold LnkM.find LnkM.list at hf
 split at hf
 ·cases hf
 ·cases hg : mGet S.mail p with
  | none => rw [hg] at hf; cases hf
  | some l => exact h _ (mGet_mem hg)
theorem without (h : S.Adr) {p : PrM} {i : Int} {t : ByteArray} (hf : S.find p i = some t) : (S.without p i).Adr := by
 have := h.found hf
 unfold LnkM.without
 split
 ·exact fun x hx => (h.put this.1 this.2 _) x (mDel_mem hx)
 ·exact h.put this.1 this.2 _
theorem drop (h : S.Adr) (p : PrM) (i : Int) : (S.drop p i).1.Adr := by
 unfold LnkM.drop
 split
 ·exact h
 ·rename_i hf
  cases hg : S.find p i with
  | none => exact absurd hg hf
  | some t => exact h.without hg
theorem double (h : S.Adr) (p : PrM) (i : Int) : (S.double p i).1.Adr := by
 unfold LnkM.double
 split
 ·exact h
 ·exact h.send _ _
theorem postL (h : S.Adr) (from_ : Int) (l : List SdM) : (Cl.postL from_ S l).Adr := by
 unfold Cl.postL
 induction l generalizing S with
 | nil => exact h
 | cons s l ih =>
  refine ih ?_
  unfold post1
  split
  ·exact h
  ·exact h.send _ _
end LnkM.Adr
theorem adr_r {a : Int} (h : adrB a = true) : 0 ≤ a ∧ a < 38 := by
 unfold adrB at h
 simp only [Bool.or_eq_true, Bool.and_eq_true, decide_eq_true_eq] at h
 omega
namespace CluM.Ok
variable {C : CluM} {b e : Nat}
theorem mono (h : C.Ok b e) {b' e' : Nat} (hb : b ≤ b') (he : e ≤ e') : C.Ok b' e' where
 cf := h.cf
 n0 := h.n0
 n1 := h.n1
 mas := h.mas
 nl := h.nl
 cl := h.cl
 lnk := h.lnk
 his := h.his
 fit := h.fit
 last r hr := by have := h.last r hr; omega
 cok := h.cok
 seq s hs := by have := h.seq s hs; omega
 rc := Nat.le_trans h.rc hb
 ev := by have := h.ev; omega
 dn := h.dn
 adr := h.adr
theorem links (h : C.Ok b e) {l : LnkM} (hl : l.Ok) (ha : l.Adr) : ({ C with lnk := l } : CluM).Ok b e := ⟨h.cf, h.n0, h.n1, h.mas, h.nl, h.cl, hl, h.his, h.fit, h.last, h.cok, h.seq, h.rc, h.ev, h.dn, ha⟩
theorem master (h : C.Ok b e) {m : MasM} (hm : m.Ok) : ({ C with mas := m } : CluM).Ok b e := ⟨h.cf, h.n0, h.n1, hm, h.nl, h.cl, h.lnk, h.his, h.fit, h.last, h.cok, h.seq, h.rc, h.ev, h.dn, h.adr⟩
theorem at_ (h : C.Ok b e) : ({ C with now := min (C.now + 1) 1099511627776 } : CluM).Ok b e := ⟨h.cf, by show 0 ≤ min (C.now + 1) 1099511627776; have := h.n0; omega, by show min (C.now + 1) 1099511627776 ≤ 1099511627776; omega, h.mas, h.nl, h.cl, h.lnk, h.his, h.fit, h.last, h.cok, h.seq, h.rc, h.ev, h.dn, h.adr⟩
theorem post (h : C.Ok b e) (from_ : Int) (S : List SdM) : (C.post from_ S).Ok b e := h.links (h.lnk.postL from_ S) (h.adr.postL from_ S)
theorem setNode (h : C.Ok b e) (n : Int) {x : Option RepM} (hx : ∀ r, x = some r → r.Fit ∧ r.rds.last ≤ b) : (C.setNode n x).Ok b e := ⟨h.cf, h.n0, h.n1, h.mas, by show (C.nodes.set _ _).length = _; rw [List.length_set]; exact h.nl, h.cl, h.lnk, h.his, fun r hr => by
 rcases List.mem_or_eq_of_mem_set hr with h1 | h1
 ·exact h.fit r h1
 ·exact (hx r h1.symm).1, fun r hr => by
 rcases List.mem_or_eq_of_mem_set hr with h1 | h1
 ·exact h.last r h1
 ·exact (hx r h1.symm).2, h.cok, h.seq, h.rc, h.ev, h.dn, h.adr⟩
theorem node1 (h : C.Ok b e) (n : Int) {r : RepM} (h1 : r.Fit) (h2 : r.rds.last ≤ b) : (C.setNode n (some r)).Ok b e := h.setNode n fun r' e => by cases e; exact ⟨h1, h2⟩
theorem node0 (h : C.Ok b e) (n : Int) : (C.setNode n none).Ok b e := h.setNode n fun r' e => by cases e
theorem setCli (h : C.Ok b e) (n : Int) {s : CliM} (h1 : s.Ok) (h2 : s.seq ≤ b) : (C.setCli n s).Ok b e := ⟨h.cf, h.n0, h.n1, h.mas, h.nl, by show (C.clis.set _ _).length = _; rw [List.length_set]; exact h.cl, h.lnk, h.his, h.fit, h.last, fun x hx => by
 rcases List.mem_or_eq_of_mem_set hx with g | g
 ·exact h.cok x g
 ·rw [g]; exact h1, fun x hx => by
 rcases List.mem_or_eq_of_mem_set hx with g | g
 ·exact h.seq x g
 ·rw [g]; exact h2, h.rc, h.ev, h.dn, h.adr⟩
theorem hist (h : C.Ok b e) {H : HisM} (h1 : H.Ok) (h2 : H.recs.length ≤ b) (h3 : H.events ≤ e) : ({ C with his := H } : CluM).Ok b e := ⟨h.cf, h.n0, h.n1, h.mas, h.nl, h.cl, h.lnk, h1, h.fit, h.last, h.cok, h.seq, h2, h3, h.dn, h.adr⟩
theorem up (h : C.Ok b e) {n : Int} {r : RepM} (hn : C.node n = some r) : some r ∈ C.nodes := by
 unfold CluM.node at hn
 split at hn
 ·cases hn
 ·cases hx : C.nodes[n.toNat]? with
  | none => rw [hx] at hn; cases hn
  | some x => rw [hx] at hn; obtain rfl : x = some r := hn; exact ME hx
theorem upC (h : C.Ok b e) {n : Int} {s : CliM} (hn : C.cli n = some s) : s ∈ C.clis := by
 unfold CluM.cli at hn
 split at hn
 ·cases hn
 ·exact ME hn
theorem tickN (h : C.Ok b e) (n : Nat) : (C.tickN n).Ok b e := by
 unfold CluM.tickN
 split
 ·exact h
 ·rename_i r hr
  have hm : some r ∈ C.nodes := by
   cases hx : C.nodes[n]? with
   | none => rw [hx] at hr; cases hr
   | some x => rw [hx] at hr; obtain rfl : x = some r := hr; exact ME hx
  exact (h.node1 n (tickR_fit (h.fit r hm)) (by rw [last_tick]; exact h.last r hm)).post _ _
theorem tickC (h : C.Ok b e) (n : Nat) : (C.tickC n).Ok b e := by
 unfold CluM.tickC
 split
 ·exact h
 ·rename_i s hs
  have hm : s ∈ C.clis := ME hs
  exact (h.setCli n ((h.cok s hm).tick C.now) (by rw [ctick_seq]; exact h.seq s hm)).post _ _
theorem tickNs (h : C.Ok b e) (l : List Nat) : (l.foldl CluM.tickN C).Ok b e := by
 induction l generalizing C with
 | nil => exact h
 | cons x l ih => exact ih (h.tickN x)
theorem tickCs (h : C.Ok b e) (l : List Nat) : (l.foldl CluM.tickC C).Ok b e := by
 induction l generalizing C with
 | nil => exact h
 | cons x l ih => exact ih (h.tickC x)
theorem tick (h : C.Ok b e) : C.tick.Ok b e := (h.at_.tickNs _).tickCs _
theorem takes (h : C.Ok b e) (hb : b < 100000000) (from_ to : Int) (f : FrameM) (ms : List MemM) : (C.takes from_ to f ms).Ok (b + 1) e := by
 have h' := h.mono (b' := b + 1) yd (NR e)
 unfold CluM.takes
 split
 ·exact (h'.master (h.mas.take _ _ _)).post _ _
 split
 ·rename_i r hr
  have hm := h.up hr
  have hl := h.last r hm
  exact (h'.node1 _ (takeR_fit (h.fit r hm) yd _ _ _ _) (by have := last_take r from_ f ms C.now; omega)).post _ _
 split
 ·rename_i s hs
  have hm := h.upC hs
  exact (h'.setCli _ ((h.cok s hm).take f ms C.now) (by rw [ctake_seq]; exact h'.seq s hm)).post _ _
 ·exact h'
theorem got (h : C.Ok b e) (hb : b < 100000000) (from_ to : Int) (t : ByteArray) : (C.got from_ to t).Ok (b + 1) e := by
 unfold CluM.got
 split
 ·exact h.takes hb _ _ _ _
 ·exact h.mono yd (NR e)
theorem find_without {l : LnkM} {p : PrM} {i : Int} {t : ByteArray} (h : l.find p i = some t) : l.without p i = (l.drop p i).1 := by
 unfold LnkM.drop
 rw [if_neg (by rw [h]; intro g; cases g)]
theorem deliver (h : C.Ok b e) (hb : b < 100000000) (p : PrM) (i : Int) : (C.deliver p i).1.Ok (b + 1) e := by
 unfold CluM.deliver
 split
 ·exact h.mono yd (NR e)
 ·rename_i t ht
  have : (C.lnk.without p i).Ok := by rw [find_without ht]; exact h.lnk.drop p i
  exact (h.links this (h.adr.without ht)).got hb _ _ _
theorem back (h : C.Ok b e) (hb : b < 100000000) (n : Int) : (C.back n).Ok (b + 1) e := by
 have h' := h.mono (b' := b + 1) yd (NR e)
 unfold CluM.back
 split
 ·have hf := newR_fit h.cf n true
  have hl : (newR C.conf n true).rds.last = 0 := by
   unfold newR; split
   ·rfl
   split <;> rfl
  exact (h'.node1 _ (takeR_fit hf yd _ _ _ _) (by have := last_take (newR C.conf n true) 16 (cfgF C.mas.ch) C.mas.ch.ms C.now; omega)).post _ _
 ·exact h'
theorem join (h : C.Ok b e) (hb : b < 100000000) (n : Int) : (C.join n).1.Ok (b + 1) e := by
 unfold CluM.join
 dsimp only
 split
 ·exact h.mono yd (NR e)
 ·exact ((h.master (h.mas.join_few n C.now).2).back hb n).post _ _
theorem call (h : C.Ok b e) (hb : b < 100000) (he : e < 1000000) (s : StpM) : (C.call s).1.Ok (b + 1) (e + 1) := by
 have h' := h.mono (b' := b + 1) (e' := e + 1) yd yd
 unfold CluM.call
 split
 ·exact h'
 ·rename_i x hx
  have hm := h.upC hx
  split
  ·exact h'
  ·have h1 := h.rc
   have h2 := h.ev
   have h3 := h.seq x hm
   have h4 := ccall_seq x s.op s.b (C.dead s.c) C.now
   have h5 := hcall_len C.his s.a (x.call s.op s.b (C.dead s.c) C.now).1.seq s.op
   exact ((h'.setCli s.a ((h.cok x hm).call _ _ _ _) yd).hist (h.his.call yd yd s.a (x.call s.op s.b (C.dead s.c) C.now).1.seq s.op) yd yd).post _ _
theorem step (h : C.Ok b e) (hb : b < 100000) (he : e < 1000000) (s : StpM) : (C.step s).1.Ok (b + 1) (e + 1) := by
 have h' := h.mono (b' := b + 1) (e' := e + 1) yd yd
 have up1 : ∀ {D : CluM}, D.Ok (b + 1) e → D.Ok (b + 1) (e + 1) := fun g => g.mono (NR _) yd
 unfold CluM.step
 by_cases k1 : s.kind = 1
 ·rw [if_pos k1]
  exact h.call hb he s
 rw [if_neg k1]
 by_cases k2 : s.kind = 2
 ·rw [if_pos k2]
  split
  ·exact h'
  ·rename_i r hr
   have hm := h.up hr
   exact (h'.node1 _ (stepR_fit (h.fit r hm) C.now) (by rw [last_step]; exact h'.last r hm)).post _ _
 rw [if_neg k2]
 by_cases k3 : s.kind = 3
 ·rw [if_pos k3]
  exact h'.tick
 rw [if_neg k3]
 by_cases k4 : s.kind = 4
 ·rw [if_pos k4]
  exact up1 (h.deliver yd _ _)
 rw [if_neg k4]
 by_cases k5 : s.kind = 5
 ·rw [if_pos k5]
  exact h'.links (h.lnk.drop _ _) (h.adr.drop _ _)
 rw [if_neg k5]
 by_cases k6 : s.kind = 6
 ·rw [if_pos k6]
  exact h'.links (h.lnk.double _ _) (h.adr.double _ _)
 rw [if_neg k6]
 by_cases k7 : s.kind = 7
 ·rw [if_pos k7]
  split
  ·exact h'
  ·exact h'.node0 _
 rw [if_neg k7]
 by_cases k8 : s.kind = 8
 ·rw [if_pos k8]
  exact (h'.master (h.mas.suspect_few s.a).2).post _ _
 rw [if_neg k8]
 by_cases k9 : s.kind = 9
 ·rw [if_pos k9]
  exact up1 (h.join yd s.a)
 rw [if_neg k9]
 by_cases k10 : s.kind = 10
 ·rw [if_pos k10]
  exact (h'.master (h.mas.drain_few s.a).2).post _ _
 rw [if_neg k10]
 by_cases k11 : s.kind = 11
 ·rw [if_pos k11]
  exact (h'.master (h.mas.tick C.now)).post _ _
 rw [if_neg k11]
 exact h'
theorem endHs {H : HisM} (h : H.Ok) : ∀ (l : List (CliM × Nat)), H.events + l.length < 10000000 → (l.foldl endH H).Ok ∧ (l.foldl endH H).recs.length = H.recs.length ∧ (l.foldl endH H).events ≤ H.events + l.length
 | [], _ => ⟨h, rfl, by simp⟩
 | x :: l, hl => by
  rw [List.length_cons] at hl
  rw [List.foldl_cons, List.length_cons]
  have key : ∃ K, endH H x = K ∧ K.Ok ∧ K.recs.length = H.recs.length ∧ K.events ≤ H.events + 1 := by
   unfold endH
   split
   ·exact ⟨_, rfl, h, rfl, by omega⟩
   ·rename_i o ho
    exact ⟨_, rfl, h.end_ yd _ _ o, (hend_len H _ _ o).1, (hend_len H _ _ o).2⟩
  obtain ⟨K, e1, e2, e3, e4⟩ := key
  rw [e1]
  have := endHs e2 l yd
  exact ⟨this.1, by rw [this.2.1, e3], by have := this.2.2; omega⟩
theorem doneN_len {d : List EntryM} {x : Option RepM × Nat} (hd : d.length ≤ 4096) (hx : ∀ r, x.1 = some r → r.Fit) : (doneN d x).length ≤ 4096 := by
 unfold doneN
 split
 ·exact hd
 ·rename_i r hr
  split
  ·exact hd
  ·have hf := (hx r hr).ok
   have := hf.win.last1
   have := hf.win.done1
   rw [List.length_append, List.length_drop, List.length_take]
   omega
theorem doneNs {l : List (Option RepM × Nat)} {d : List EntryM} (hd : d.length ≤ 4096) (hx : ∀ x ∈ l, ∀ r, x.1 = some r → r.Fit) : (l.foldl doneN d).length ≤ 4096 := by
 induction l generalizing d with
 | nil => exact hd
 | cons x l ih => exact ih (doneN_len hd (hx x yf)) (fun y hy => hx y (by simp [hy]))
theorem clis (h : C.Ok b e) : C.clis.length ≤ 6 := by
 have := conf_bounds h.cf
 rw [h.cl]
 omega
theorem nods (h : C.Ok b e) : C.nodes.length ≤ 6 := by
 have := conf_bounds h.cf
 rw [h.nl]
 omega
theorem behind (h : C.Ok b e) (he : e < 1000000) : C.behind.Ok b (e + 6) := by
 have hc := h.clis
 have h2 := h.ev
 have key := endHs h.his C.clis.zipIdx (by rw [List.length_zipIdx]; omega)
 rw [List.length_zipIdx] at key
 have h' := (h.mono (b' := b) (e' := e + 6) (NR b) yd).hist key.1 (by rw [key.2.1]; exact h.rc) (by have := key.2.2; omega)
 exact ⟨h'.cf, h'.n0, h'.n1, h'.mas, h'.nl, h'.cl, h'.lnk, h'.his, h'.fit, h'.last, h'.cok, h'.seq, h'.rc, h'.ev, doneNs h.dn fun x hx r hr => h.fit r (by
  have : x.1 ∈ C.nodes := by
   have := List.mem_zipIdx' (x := x.1) (i := x.2) hx
   exact ME (by rw [GE this.1, ← this.2])
  rw [hr] at this; exact this), h'.adr⟩
theorem do_ (h : C.Ok b e) (hb : b < 100000) (he : e < 900000) (s : StpM) : (C.do_ s).1.Ok (b + 1) (e + 7) := (h.step hb yd s).behind yd
end CluM.Ok
theorem newC_ok {c : ConfM} (h : c = fitM c) : (newC c).Ok 0 0 := by
 have hb := conf_bounds h
 have hb2 := conf_bounds2 h
 have hM : (newM c).Ok := newM_eq c h ▸ newMk_ok h _
 exact ⟨h, Int.le_refl _, by show (0 : Int) ≤ _; decide, hM, by simp [newC], by simp [newC], ⟨by show 1 ≤ c.link; omega, hb2.2.2.2.2.1.2, fun x hx => absurd hx List.not_mem_nil, List.nodup_nil⟩,
  ⟨by show 0 ≤ 1000000; omega, by show (0 : Int) ≤ 0; decide, by show (0 : Int) ≤ 10000000; decide, rfl, fun x hx => by rw [List.eq_of_mem_replicate hx]; exact ⟨Int.le_refl _, Int.le_refl _⟩⟩, fun r hr => by
   obtain ⟨n, _, e⟩ := List.mem_map.1 hr
   cases e; exact newR_fit h _ _, fun r hr => by
   obtain ⟨n, _, e⟩ := List.mem_map.1 hr
   cases e
   have : (newR c n false).rds.last = 0 := by
    unfold newR; split
    ·rfl
    split <;> rfl
   omega, fun s hs => by
   obtain ⟨n, _, rfl⟩ := List.mem_map.1 hs
   exact newCl_ok h n, fun s hs => by
   obtain ⟨n, _, rfl⟩ := List.mem_map.1 hs
   exact Int.le_refl _, Nat.zero_le _, Int.le_refl _, Nat.zero_le _, fun x hx => absurd hx List.not_mem_nil⟩
end Cl
namespace Cl
open Go Vg T Api Ch Rep Conf Lg Rd
attribute [local irreducible] VO VC VA
section
variable {p : Nat} {C : CluM} {y : CluS}
def cnL (p : Nat) (C : CluM) (y : CluS) (k : Nat) (l : LnkM) : List HP := [pt p (cluC C y) cluT, intH y.qa y.qc C.conf.qs, masH y.mp C.mas, pt y.nb (flat nodC y.nr ++ y.nx) rpT, pt y.cb (flat cliV y.cr ++ y.cx) cpT, lnkH y.lp l, hisH y.hp C.his, slH entT 7 y.da C.done.length y.dc (flat entC C.done), hsep ((y.nr.eraseIdx k).map nodP), hsep (y.cr.map cliP)]
def ccL (p : Nat) (C : CluM) (y : CluS) (k : Nat) (l : LnkM) (h : HisM) : List HP := [pt p (cluC C y) cluT, intH y.qa y.qc C.conf.qs, masH y.mp C.mas, pt y.nb (flat nodC y.nr ++ y.nx) rpT, pt y.cb (flat cliV y.cr ++ y.cx) cpT, lnkH y.lp l, hisH y.hp h, slH entT 7 y.da C.done.length y.dc (flat entC C.done), hsep (y.nr.map nodP), hsep ((y.cr.eraseIdx k).map cliP)]
def cmL (p : Nat) (C : CluM) (y : CluS) (l : LnkM) : List HP := [pt p (cluC C y) cluT, intH y.qa y.qc C.conf.qs, pt y.nb (flat nodC y.nr ++ y.nx) rpT, pt y.cb (flat cliV y.cr ++ y.cx) cpT, lnkH y.lp l, hisH y.hp C.his, slH entT 7 y.da C.done.length y.dc (flat entC C.done), hsep (y.nr.map nodP), hsep (y.cr.map cliP)]
def CluS.node (y : CluS) (k : Nat) (x : NdG) : CluS := { y with nr := y.nr.set k x }
def CluS.cli (y : CluS) (k : Nat) (x : CiG) : CluS := { y with cr := y.cr.set k x }
theorem node_out {k q : Nat} {r : RepM} (h : y.nr[k]? = some (some (q, r))) : Imp (cluL p C y) (repH q r :: cnL p C y k C.lnk) :=
 Imp.trans (IP 8 rfl Imp.refl) (Imp.trans (many_take (f := nodP) h) (Imp.cons (IP 1 rfl (IP 1 rfl (IP 1 rfl (IP 1 rfl (IP 1 rfl (IP 1 rfl (IP 1 rfl (IP 1 rfl Imp.refl))))))))))
theorem cli_out {k q : Nat} {s : CliM} (h : y.cr[k]? = some (q, s)) : Imp (cluL p C y) (cliH q s :: ccL p C y k C.lnk C.his) :=
 Imp.trans (IP 9 rfl Imp.refl) (Imp.trans (many_take (f := cliP) h) (Imp.cons (IP 1 rfl (IP 1 rfl (IP 1 rfl (IP 1 rfl (IP 1 rfl (IP 1 rfl (IP 1 rfl (IP 1 rfl (IP 1 rfl Imp.refl)))))))))))
theorem mas_out : Imp (cluL p C y) (masH y.mp C.mas :: cmL p C y C.lnk) := IP 2 rfl Imp.refl
theorem nod_same {l : List NdG} {k q : Nat} {r r' : RepM} (h : l[k]? = some (some (q, r))) : flat nodC (l.set k (some (q, r'))) = flat nodC l := by
 have hk := (List.getElem?_eq_some_iff.1 h).1
 unfold flat
 rw [List.map_set]
 congr 1
 apply List.ext_getElem?
 intro j
 rw [List.getElem?_set]
 split
 ·rename_i e; subst e
  rw [if_pos (by rw [List.length_map]; exact hk), List.getElem?_map, h]; rfl
 ·rfl
theorem cli_same {l : List CiG} {k q : Nat} {s s' : CliM} (h : l[k]? = some (q, s)) : flat cliV (l.set k (q, s')) = flat cliV l := by
 have hk := (List.getElem?_eq_some_iff.1 h).1
 unfold flat
 rw [List.map_set]
 congr 1
 apply List.ext_getElem?
 intro j
 rw [List.getElem?_set]
 split
 ·rename_i e; subst e
  rw [if_pos (by rw [List.length_map]; exact hk), List.getElem?_map, h]; rfl
 ·rfl
theorem node_fit (fit : CluFit C y) (k : Nat) (x : NdG) (l : LnkM) : CluFit ({ C.setNode k (x.map Prod.snd) with lnk := l } : CluM) (y.node k x) :=
 ⟨by show (y.nr.set k x).map _ = C.nodes.set k _; rw [List.map_set, fit.nr], fit.cr, fit.qc⟩
theorem cli_fit (fit : CluFit C y) (k : Nat) (x : CiG) (l : LnkM) (h : HisM) : CluFit ({ C.setCli k x.2 with lnk := l, his := h } : CluM) (y.cli k x) :=
 ⟨fit.nr, by show (y.cr.set k x).map _ = C.clis.set k _; rw [List.map_set, fit.cr], fit.qc⟩
theorem node_cells (C' : CluM) {k : Nat} {x : NdG} (h1 : C'.conf = C.conf) (h2 : C'.now = C.now) (h3 : C'.done = C.done) : cluC C' (y.node k x) = cluC C y := by
 unfold cluC CluS.node
 rw [h1, h2, h3]
 dsimp only
 rw [List.length_set]
theorem cli_cells (C' : CluM) {k : Nat} {x : CiG} (h1 : C'.conf = C.conf) (h2 : C'.now = C.now) (h3 : C'.done = C.done) : cluC C' (y.cli k x) = cluC C y := by
 unfold cluC CluS.cli
 rw [h1, h2, h3]
 dsimp only
 rw [List.length_set]
theorem node_in {k q : Nat} {r r' : RepM} {l : LnkM} (h : y.nr[k]? = some (some (q, r))) : Imp (repH q r' :: cnL p C y k l) (cluL p ({ C.setNode k (some r') with lnk := l } : CluM) (y.node k (some (q, r')))) := by
 have hk := (List.getElem?_eq_some_iff.1 h).1
 have e1 := node_cells (C := C) (y := y) (k := k) (x := some (q, r')) ({ C.setNode k (some r') with lnk := l } : CluM) rfl rfl rfl
 have e2 := nod_same (r' := r') h
 unfold cluL
 rw [e1]
 show Imp _ [_, _, _, pt y.nb (flat nodC (y.nr.set k (some (q, r'))) ++ y.nx) rpT, _, _, _, _, hsep ((y.nr.set k (some (q, r'))).map nodP), _]
 rw [e2]
 refine Imp.trans (M := repH q r' :: hsep ((y.nr.eraseIdx k).map nodP) :: _) (Imp.cons (IP 8 rfl Imp.refl)) (Imp.trans (many_put (f := nodP) hk (some (q, r'))) ?_)
 exact IP 1 rfl (IP 1 rfl (IP 1 rfl (IP 1 rfl (IP 1 rfl (IP 1 rfl (IP 1 rfl (IP 1 rfl Imp.refl)))))))
theorem cli_in {k q : Nat} {s s' : CliM} {l : LnkM} {hi : HisM} (h : y.cr[k]? = some (q, s)) : Imp (cliH q s' :: ccL p C y k l hi) (cluL p ({ C.setCli k s' with lnk := l, his := hi } : CluM) (y.cli k (q, s'))) := by
 have hk := (List.getElem?_eq_some_iff.1 h).1
 have e1 := cli_cells (C := C) (y := y) (k := k) (x := (q, s')) ({ C.setCli k s' with lnk := l, his := hi } : CluM) rfl rfl rfl
 have e2 := cli_same (s' := s') h
 unfold cluL
 rw [e1]
 show Imp _ [_, _, _, _, pt y.cb (flat cliV (y.cr.set k (q, s')) ++ y.cx) cpT, _, _, _, _, hsep ((y.cr.set k (q, s')).map cliP)]
 rw [e2]
 refine Imp.trans (M := cliH q s' :: hsep ((y.cr.eraseIdx k).map cliP) :: _) (Imp.cons (IP 9 rfl Imp.refl)) (Imp.trans (many_put (f := cliP) hk (q, s')) ?_)
 exact IP 1 rfl (IP 1 rfl (IP 1 rfl (IP 1 rfl (IP 1 rfl (IP 1 rfl (IP 1 rfl (IP 1 rfl (IP 1 rfl Imp.refl))))))))
theorem mas_in {m : MasM} {l : LnkM} : Imp (masH y.mp m :: cmL p C y l) (cluL p ({ C with mas := m, lnk := l } : CluM) y) := IP 1 rfl (IP 1 rfl Imp.refl)
theorem clu_shut (fit : CluFit C y) {R : List HP} : Imp (cluL p C y ++ R) [cluH p C] := Imp.clu (K := []) y fit (by rw [List.append_nil]; exact Imp.trans (Imp.app (M := cluL p C y) (M' := []) Imp.refl Imp.nil) (Imp.of_eq (List.append_nil _)))
theorem node_shut (fit : CluFit C y) {k q : Nat} {r r' : RepM} {l : LnkM} {a : Option Addr} {c : Nat} {X : List SdG} (h : y.nr[k]? = some (some (q, r))) {R : List HP} : Imp (sentH (repH q r') a c X :: (cnL p C y k l ++ R)) [cluH p ({ C.setNode k (some r') with lnk := l } : CluM)] :=
 Imp.trans sentH_open (Imp.trans (Imp.app (L := repH q r' :: cnL p C y k l) (node_in h) Imp.refl) (clu_shut (node_fit fit k (some (q, r')) l)))
theorem cli_shut (fit : CluFit C y) {k q : Nat} {s s' : CliM} {l : LnkM} {hi : HisM} {a : Option Addr} {c : Nat} {X : List SdG} (h : y.cr[k]? = some (q, s)) {R : List HP} : Imp (sentH (cliH q s') a c X :: (ccL p C y k l hi ++ R)) [cluH p ({ C.setCli k s' with lnk := l, his := hi } : CluM)] :=
 Imp.trans sentH_open (Imp.trans (Imp.app (L := cliH q s' :: ccL p C y k l hi) (cli_in h) Imp.refl) (clu_shut (cli_fit fit k (q, s') l hi)))
theorem mas_shut (fit : CluFit C y) {m : MasM} {l : LnkM} {a : Option Addr} {c : Nat} {X : List SdG} {R : List HP} : Imp (sentH (masH y.mp m) a c X :: (cmL p C y l ++ R)) [cluH p ({ C with mas := m, lnk := l } : CluM)] :=
 Imp.trans sentH_open (Imp.trans (Imp.app (L := masH y.mp m :: cmL p C y l) mas_in Imp.refl) (clu_shut (C := ({ C with mas := m, lnk := l } : CluM)) ⟨fit.nr, fit.cr, fit.qc⟩))
end
section
variable {q : Nat}
theorem vstep_spec {r : RepM} (ok : r.Ok) (now : Int) : Tri Tryz.prog 80 [.pointer (some ⟨q, 0, none⟩), .int .i64 now] Fr w [repH q r] (fun v L => SentV (ofS (stepR r now).2) (repH q (stepR r now).1) v L) := Go.Proofs.YtmghpgpfeabghaaGreat.Ring.Tri.drop (step_spec Fr w ok now) fun _ _ h => sentV_of h
theorem vtick_spec {r : RepM} (ok : r.Ok) (now : Int) : Tri Tryz.prog 121 [.pointer (some ⟨q, 0, none⟩), .int .i64 now] Fr w [repH q r] (fun v L => SentV (ofS (tickR r).2) (repH q (tickR r).1) v L) := Go.Proofs.YtmghpgpfeabghaaGreat.Ring.Tri.drop (tick_spec Fr w ok now) fun _ _ h => sentV_of h
theorem vtake_spec {r : RepM} (fit : r.Fit) (hlast : r.rds.last < 100000000) (from_ : Int) (f : FrameM) {ma : Option Addr} {mc : Nat} {ms : List MemM} (hm : RwIn memC 2 Fr w ma ms) (hml : ms.length ≤ 1000000) (now : Int)
  (hi1 : -9223372036854775808 ≤ f.entry.index) (hi2 : f.entry.index ≤ 9223372036854775807) : Tri Tryz.prog 133 [.pointer (some ⟨q, 0, none⟩), .int .i64 from_, .agg (f.cells (ma, ms.length, mc)).toArray, .int .i64 now] Fr w [repH q r] (fun v L => SentV (ofS (takeR r from_ f ms now).2) (repH q (takeR r from_ f ms now).1) v L) :=
 Go.Proofs.YtmghpgpfeabghaaGreat.Ring.Tri.drop (take_spec Fr w fit hlast from_ f hm hml now hi1 hi2) fun _ _ h => sentV_of h
theorem vmtake_spec {M : MasM} (ok : M.Ok) (from_ : Int) (f : FrameM) (g : MemG) (now : Int) : Tri Tryz.prog 184 [.pointer (some ⟨q, 0, none⟩), .int .i64 from_, .agg (f.cells g).toArray, .int .i64 now] Fr w [masH q M] (fun v L => SentV (M.take from_ f now).2 (masH q (M.take from_ f now).1) v L) := Go.Proofs.YtmghpgpfeabghaaGreat.Ring.Tri.drop (mtake_spec Fr w ok from_ f g now) fun _ _ h => sentV_ofX h
theorem vmtick_spec {M : MasM} (ok : M.Ok) (now : Int) : Tri Tryz.prog 82 [.pointer (some ⟨q, 0, none⟩), .int .i64 now] Fr w [masH q M] (fun v L => SentV (M.tick now).2 (masH q (M.tick now).1) v L) := Go.Proofs.YtmghpgpfeabghaaGreat.Ring.Tri.drop (mtick_spec Fr w ok now) fun _ _ h => sentV_ofX h
theorem vsuspect_spec {M : MasM} (ok : M.Ok) (n : Int) : Tri Tryz.prog 86 [.pointer (some ⟨q, 0, none⟩), .int .i64 n] Fr w [masH q M] (fun v L => SentW (M.suspect n).2.1 (M.suspect n).2.2 (masH q (M.suspect n).1) v L) := Go.Proofs.YtmghpgpfeabghaaGreat.Ring.Tri.drop (msuspect_spec Fr w ok n) fun _ _ h => sentW_ofE h
theorem vdrain_spec {M : MasM} (ok : M.Ok) (n : Int) : Tri Tryz.prog 88 [.pointer (some ⟨q, 0, none⟩), .int .i64 n] Fr w [masH q M] (fun v L => SentW (M.drain n).2.1 (M.drain n).2.2 (masH q (M.drain n).1) v L) := Go.Proofs.YtmghpgpfeabghaaGreat.Ring.Tri.drop (mdrain_spec Fr w ok n) fun _ _ h => sentW_ofE h
theorem vjoin_spec {M : MasM} (ok : M.Ok) (n now : Int) : Tri Tryz.prog 132 [.pointer (some ⟨q, 0, none⟩), .int .i64 n, .int .i64 now] Fr w [masH q M] (fun v L => SentW (M.join n now).2.1 (M.join n now).2.2 (masH q (M.join n now).1) v L) := Go.Proofs.YtmghpgpfeabghaaGreat.Ring.Tri.drop (mjoin_spec Fr w ok n now) fun _ _ h => sentW_ofE h
theorem vctake_spec {S : CliM} (ok : S.Ok) (f : FrameM) {ma : Option Addr} {mc : Nat} {ms : List MemM} (hm : RwIn memC 2 Fr w ma ms) (hml : ms.length ≤ 1000000) (now : Int) : Tri Tryz.prog 246 [.pointer (some ⟨q, 0, none⟩), .agg (f.cells (ma, ms.length, mc)).toArray, .int .i64 now] Fr w [cliH q S] (fun v L => SentV (S.take f ms now).2 (cliH q (S.take f ms now).1) v L) := Go.Proofs.YtmghpgpfeabghaaGreat.Ring.Tri.drop (ctake_spec Fr w ok f hm hml now) fun _ _ h => sentV_ofX h
theorem vctick_spec {S : CliM} (ok : S.Ok) (now : Int) : Tri Tryz.prog 122 [.pointer (some ⟨q, 0, none⟩), .int .i64 now] Fr w [cliH q S] (fun v L => SentV (S.tick now).2 (cliH q (S.tick now).1) v L) := Go.Proofs.YtmghpgpfeabghaaGreat.Ring.Tri.drop (ctick_spec Fr w ok now) fun _ _ h => sentV_ofX h
theorem vccall_spec {S : CliM} (ok : S.Ok) (hq : S.seq ≤ 1000000000) (o : OpM) (cl d now : Int) : Tri Tryz.prog 108 [.pointer (some ⟨q, 0, none⟩), .agg o.cells.toArray, .int .i64 cl, .int .i64 d, .int .i64 now] Fr w [cliH q S] (fun v L => SentW (S.call o cl d now).2 (S.callE o cl d) (cliH q (S.call o cl d now).1) v L) := Go.Proofs.YtmghpgpfeabghaaGreat.Ring.Tri.drop (ccall_spec Fr w ok hq o cl d now) fun _ _ h => sentW_ofE h
theorem clic_in {Fr : Nat → Prop} {w : World} {S : CliM} (h : SatIn Fr [cliH q S] w) : ∃ y, Blk Fr w q (cliC S y) ∧ ∀ x, S.out = some x → Blk Fr w y.b (sloM x) := by
 obtain ⟨y, hy⟩ := h.ex
 have hs := hy.sep
 refine ⟨y, hs.blk 0 rfl, fun x hx => ?_⟩
 have hb := hs.at_ 3 rfl
 rw [hx] at hb
 exact hb.blk 0 rfl
theorem vseq_spec {S : CliM} (ok : S.Ok) (h : SatIn Fr [cliH q S] w) : Tri Tryz.prog 91 [.pointer (some ⟨q, 0, none⟩)] Fr w [] (fun v L => v = .int .i64 S.seq ∧ L = []) := by
 obtain ⟨y, h1, _⟩ := clic_in h
 exact cseq_spec Fr w ok h1
theorem voutcome_spec {S : CliM} (ok : S.Ok) (h : SatIn Fr [cliH q S] w) : Tri Tryz.prog 89 [.pointer (some ⟨q, 0, none⟩)] Fr w [] (fun v L => v = outV S.outcome ∧ L = []) := by
 obtain ⟨y, h1, h2⟩ := clic_in h
 exact coutcome_spec Fr w ok h1 h2
end
theorem set_same {α : Type} {l : List α} {k : Nat} {x : α} (h : l[k]? = some x) : l.set k x = l := by
 apply List.ext_getElem?
 intro j
 rw [List.getElem?_set]
 split
 ·rename_i e; subst e
  rw [if_pos (List.getElem?_eq_some_iff.1 h).1, h]
 ·rfl
end Cl
namespace Cl
open Go Vg T Api Ch Rep Conf Lg Rd
attribute [local irreducible] VO VC VA
abbrev doT : TypeId := 37
def StpM.cells (s : StpM) : List Value := [.int .i64 s.kind, .int .i64 s.a, .int .i64 s.b, .int .i64 s.c] ++ s.op.cells
theorem dead_if (C : CluM) (c : Int) : C.dead c = if 1099511627776 < C.now + (if 1099511627776 < (if c < 0 then 0 else c) then 1099511627776 else (if c < 0 then 0 else c)) then 1099511627776 else C.now + (if 1099511627776 < (if c < 0 then 0 else c) then 1099511627776 else (if c < 0 then 0 else c)) := by
 unfold CluM.dead
 repeat' split
 all_goals omega
section
variable {p : Nat} {C : CluM} {b e : Nat}
theorem ucall_spec (ok : C.Ok b e) (hb : b < 100000) (he : e < 1000000) (s : StpM) : Tri Tryz.prog 78 [.pointer (some ⟨p, 0, none⟩), .agg s.cells.toArray] Fr w [cluH p C]
  (fun v L => v = .int .i64 (C.call s).2 ∧ L = [cluH p (C.call s).1]) := by
 obtain ⟨kd, sa, sx, sc, op⟩ := s
 have hcl := ok.clis
 have hev := ok.ev
 have hn0 := ok.n0
 have hn1 := ok.n1
 refine TF 74 Tryz.func78 rfl ym tabOk rfl rfl ?_
 refine CS (CG (VG (VB (vs := (⟨kd, sa, sx, sc, op⟩ : StpM).cells) rfl fun sb => VO.opn 1 rfl (HOpn.clu p C) ?_)))
 rintro y fit
 have hln := cli_len fit
 refine VO.ent (L' := pt sb (⟨kd, sa, sx, sc, op⟩ : StpM).cells doT :: cluL p C y) (IP 10 rfl Imp.refl).ent ?_
 refine xjr ?_
 refine CD (ts 0 13 .nil) ym yq ?_
 refine xga ?_
 by_cases h0 : sa < 0
 ·have hc : C.cli sa = none := by unfold CluM.cli; rw [if_pos h0]
  have hr : C.call ⟨kd, sa, sx, sc, op⟩ = (C, 4) := by unfold CluM.call; dsimp only; rw [hc]
  refine AG (AY 12 true rfl (DT h0) ?_)
  refine xle ?_
  refine xdv ?_
  refine xjr ?_
  exact xni
 obtain ⟨k, rfl⟩ : ∃ k : Nat, sa = k := ⟨sa.toNat, by omega⟩
 refine AG (AY 12 false rfl (DF h0) ?_)
 refine xga ?_
 refine CP (p := (y.cr.length : Int) ≤ k) rfl (fun h1 => ?_) (fun h1 => CK ?_)
 ·have hc : C.cli (k : Int) = none := by
   unfold CluM.cli
   rw [if_neg h0, Int.toNat_natCast, List.getElem?_eq_none yd]
  have hr : C.call ⟨kd, k, sx, sc, op⟩ = (C, 4) := by unfold CluM.call; dsimp only; rw [hc]
  refine xjr ?_
  exact xni
 have hk : k < y.cr.length := by omega
 have hx2 : y.cr[k]? = some y.cr[k] := GE hk
 generalize y.cr[k] = z at hx2
 obtain ⟨q, x⟩ := z
 obtain ⟨hcx, hcs⟩ := cli_at fit hx2
 have hm : x ∈ C.clis := ME hcs
 have hsq := ok.seq x hm
 have okx := ok.cok x hm
 have okc := okx.call op sx (C.dead sc) C.now
 have hrc := ok.rc
 have fw : FewS (x.call op sx (C.dead sc) C.now).2 := CliM.call_few x op sx (C.dead sc) C.now
 have hr0 : x.callE op sx (C.dead sc) ≠ 0 → C.call ⟨kd, k, sx, sc, op⟩ = (C, x.callE op sx (C.dead sc)) := fun h => by
  unfold CluM.call; dsimp only; rw [hcx]; dsimp only; rw [if_pos h]
 have hr1 : x.callE op sx (C.dead sc) = 0 → C.call ⟨kd, k, sx, sc, op⟩ = (({ C.setCli k (x.call op sx (C.dead sc) C.now).1 with his := C.his.call k (x.call op sx (C.dead sc) C.now).1.seq op, lnk := postL (32 + k) C.lnk (x.call op sx (C.dead sc) C.now).2 } : CluM), 0) := fun h => by
  unfold CluM.call; dsimp only; rw [hcx]; dsimp only; rw [if_neg ybw]; rfl
 refine CS (CD (ts 0 9 .nil) ym yq ?_)
 refine xga ?_
 refine AG (AI rfl (light_idx k rfl rfl rfl rfl rfl rfl hk) ?_)
 refine AG (yE rfl rfl rfl (RdL.one 5 rfl (cli_cell hx2)) ?_)
 refine xga ?_
 refine CS (CD (ts 0 11 .nil) ym yq ?_)
 refine xga ?_
 refine xel ?_
 refine xga ?_
 refine CN (L' := pt sb (⟨kd, k, sx, sc, op⟩ : StpM).cells doT :: cliH q x :: ccL p C y k C.lnk C.his) (Imp.cons (cli_out hx2)).ent ?_
 refine xjr ?_
 refine CD (ts 0 10 (.only 10 (ts 11 5 .nil))) ym yq ?_
 refine xgb ?_
 refine AG (VA.ldA 0 op.cells rfl rfl rfl rfl rfl ?_)
 refine xgb ?_
 refine AG (AQ 1 rfl (fun Fr w hF hs hS => vccall_spec Fr w okx yd op sx (C.dead sc) C.now) rfl (by rw [dead_if]; rfl) ycg ?_ ?_)
 ·rintro _ _ ⟨X, a, c, hX, rfl, rfl⟩
  exact ych
 rintro _ _ ⟨X, a, c, hX, rfl, rfl⟩
 refine xgb ?_
 refine xjr ?_
 refine VC.condNE rfl (fun k1 => ?_) (fun k1 => CK ?_)
 ·refine xjr ?_
  refine CR (Ret.tmp 4 rfl rfl (Imp.tail.trans (cli_shut (R := []) fit hx2)).ent ⟨by rw [hr0 k1], ?_⟩)
  rw [hr0 k1, (call_bad rfl k1).1]
  have : C.setCli (k : Int) x = C := by unfold CluM.setCli; rw [Int.toNat_natCast, set_same hcs]
  rw [this]
 have hr := hr1 ycf
 have hss := ccall_seq x op sx (C.dead sc) C.now
 generalize x.call op sx (C.dead sc) C.now = X2 at hX okc fw hr hss
 obtain ⟨x', S'⟩ := X2
 dsimp only at hX okc fw hr hss ⊢
 refine CS (CD (ts 0 7 (ts 8 2 (.only 7 (.only 10 .nil)))) ym yq ?_)
 refine xgb ?_
 refine AG (VA.ldA 0 op.cells rfl rfl rfl rfl rfl ?_)
 refine AG (AR (fun Fr w hF hw hS => vseq_spec Fr w okc (((hS.at_ 1 rfl).sep).at_ 0 rfl)) rfl rfl ych ?_)
 refine AG (AQ 8 rfl (fun Fr w hF hs hS => hcall_spec Fr w ok.his yd k x'.seq op) rfl rfl (ψ := fun v H => v = .int .i64 (C.his.callE k x'.seq op) ∧ H = hisH y.hp (C.his.call k x'.seq op)) yy ?_ ?_)
 ·rintro _ _ ⟨rfl, rfl⟩
  exact ych
 rintro _ _ ⟨rfl, rfl⟩
 refine xgb ?_
 refine xdp ?_
 refine VG (VP rfl rfl ybb ybb ?_)
 refine xdp ?_
 refine VG (VQ 7 rfl (fun Fr w hF hs hS => usend_spec Fr w (hS.blk 2 rfl) ok.lnk (32 + k) (SdIn.at_ 1 hS rfl hX fw)) rfl (ψ := fun v H => v = .tuple #[] ∧ H = lnkH y.lp (postL (32 + k) C.lnk (X.map Prod.fst))) yy ?_)
 rintro _ _ ⟨rfl, rfl⟩
 refine xdp ?_
 rw [hX]
 exact CR (Ret.tmp 4 rfl rfl ((Imp.tail (H := pt sb _ doT)).trans (cli_shut (p := p) (R := []) (s' := x') (hi := C.his.call k x'.seq op) (l := postL (32 + k) C.lnk S') (a := a) (c := c) (X := X) fit hx2)).ent ⟨by rw [hr], by rw [hr]⟩)
end
end Cl
namespace Cl
open Go Vg T Api Ch Rep Conf Lg Rd
attribute [local irreducible] VO VC VA
section
variable {p : Nat} {C : CluM} {b e : Nat}
theorem fold_succ {α : Type} (f : α → Nat → α) (x : α) (k : Nat) : (List.range (k + 1)).foldl f x = f ((List.range k).foldl f x) k := by
 rw [List.range_succ, List.foldl_append]; rfl
theorem tickN_len (C : CluM) (n : Nat) : (C.tickN n).nodes.length = C.nodes.length ∧ (C.tickN n).clis = C.clis ∧ (C.tickN n).now = C.now ∧ (C.tickN n).conf = C.conf ∧ (C.tickN n).done = C.done := by
 unfold CluM.tickN
 split
 ·exact xjk
 ·exact ⟨List.length_set, rfl, rfl, rfl, rfl⟩
theorem utick_spec (ok : C.Ok b e) : Tri Tryz.prog 81 [.pointer (some ⟨p, 0, none⟩)] Fr w [cluH p C]
  (fun v L => v = .tuple #[] ∧ L = [cluH p C.tick]) := by
 have hcl := ok.clis
 have hnd := ok.nods
 have hn0 := ok.n0
 have hn1 := ok.n1
 refine TF 58 Tryz.func81 rfl ym tabOk rfl rfl ?_
 refine xnj ?_
 rintro y fit
 refine xnk ?_
 have hln := cli_len fit
 have hnn := node_len fit
 have hmin : min (C.now + 1) 1099511627776 = if 1099511627776 < C.now + 1 then 1099511627776 else C.now + 1 := by split <;> omega
 generalize hC1 : ({ C with now := min (C.now + 1) 1099511627776 } : CluM) = C1
 have ok1 : C1.Ok b e := hC1 ▸ ok.at_
 have fit1 : CluFit C1 y := hC1 ▸ ⟨fit.nr, fit.cr, fit.qc⟩
 have hnn1 : C1.nodes.length = C.nodes.length := by rw [← hC1]
 have hcc1 : C1.clis.length = C.clis.length := by rw [← hC1]
 refine zon ?_
 refine VG (VO.st 0 (cs' := cluC C1 y) rfl rfl rfl rfl (by show 12 < 19; omega) (by rw [← hC1, hmin]; rfl) rfl ?_)
 refine VO.ent (L' := cluL p C1 y) (Imp.of_eq (by rw [← hC1]; rfl)).ent ?_
 refine xdc ?_
 have hT : C.tick = (List.range C1.clis.length).foldl CluM.tickC ((List.range C1.nodes.length).foldl CluM.tickN C1) := by
  unfold CluM.tick
  dsimp only
  rw [hC1, ← hnn1]
  have : ∀ (k : Nat), ((List.range k).foldl CluM.tickN C1).clis.length = C1.clis.length := by
   intro k
   induction k with
   | zero => rfl
   | succ k ih => rw [fold_succ, (tickN_len _ _).2.1, ih]
  rw [this]
 refine VC.loop (σ := Nat × List NdG) (fun s => [(0, pV p), (18, .slice (some ⟨y.nb, 0, none⟩) y.nr.length y.nc), (19, .int .i64 y.nr.length), (20, .int .i64 (s.1 : Int))])
  (fun s => cluL p ((List.range s.1).foldl CluM.tickN C1) { y with nr := s.2 })
  (fun s => s.1 ≤ y.nr.length ∧ s.2.length = y.nr.length ∧ CluFit ((List.range s.1).foldl CluM.tickN C1) { y with nr := s.2 }) (fun s => y.nr.length - s.1) (0, y.nr)
  ⟨Nat.zero_le _, rfl, fit1⟩ sbZ ER ?_
 rintro ⟨k, nr⟩ ⟨hk0, hnl, fk⟩
 dsimp only at hk0 hnl fk
 have okk := ok1.tickNs (List.range k)
 have hsu := fold_succ CluM.tickN C1 k
 generalize hD : (List.range k).foldl CluM.tickN C1 = D at okk hsu fk
 refine xjr ?_
 refine CP (p := (k : Int) < y.nr.length) rfl (fun h1 => CK ?_) (fun h1 => CX ?_)
 ·have hkl : k < nr.length := by omega
  have hx2 : nr[k]? = some nr[k] := GE hkl
  generalize nr[k] = z at hx2
  obtain ⟨hnx, hns⟩ := node_at fk (k := k) (x := z) hx2
  refine zov ?_
  refine VG (VO.load rfl rfl (RdL.one 3 rfl (nod_cell hx2)) ?_)
  cases z with
  | none =>
   have e1 : D.tickN k = D := by unfold CluM.tickN; rw [hns]; rfl
   refine zot ?_
   refine zoj ?_
   exact ⟨(k + 1, nr), ⟨by dsimp only; omega, hnl, by rw [hsu, e1]; exact fk⟩, by dsimp only; omega, SC rfl (SC rfl (SC rfl (Sub.int rfl yd (SN _)))), by dsimp only; rw [hsu, e1]; exact ER⟩
  | some z =>
   obtain ⟨q, r⟩ := z
   have hm : some r ∈ D.nodes := ME hns
   have e1 : D.tickN k = ({ D.setNode k (some (tickR r).1) with lnk := postL k D.lnk (ofS (tickR r).2) } : CluM) := by unfold CluM.tickN; rw [hns]; rfl
   have fw : FewS (ofS (tickR r).2) := FewS.of (by have := tick_few r; omega)
   show VO _ _ _ _ (putE (some 24) (.pointer (some ⟨q, 0, none⟩)) _) _ _
   refine zos ?_
   refine CN (L' := repH q r :: cnL p D { y with nr := nr } k D.lnk) (node_out hx2).ent ?_
   refine xdo ?_
   refine VG (VQ 0 rfl (fun Fr w hF hs hS => vtick_spec Fr w (okk.fit r hm).ok D.now) rfl ycg ?_)
   rintro _ _ ⟨X, a, c, hX, rfl, rfl⟩
   refine xdo ?_
   refine VG (VQ 6 rfl (fun Fr w hF hs hS => usend_spec Fr w (hS.blk 1 rfl) okk.lnk k (SdIn.at_ 0 hS rfl hX fw)) rfl (ψ := fun v H => v = .tuple #[] ∧ H = lnkH y.lp (postL k D.lnk (X.map Prod.fst))) yy ?_)
   rintro _ _ ⟨rfl, rfl⟩
   rw [hX]
   refine zoq ?_
   refine ⟨(k + 1, nr.set k (some (q, (tickR r).1))), ⟨by dsimp only; omega, by dsimp only; rw [List.length_set]; exact hnl, by dsimp only; rw [hsu, e1]; exact node_fit fk k (some (q, (tickR r).1)) _⟩, by dsimp only; omega, SC rfl (SC rfl (SC rfl (Sub.int rfl yd (SN _)))), ?_⟩
   dsimp only
   rw [hsu, e1]
   exact (Imp.trans sentH_open (node_in (y := { y with nr := nr }) (r' := (tickR r).1) (l := postL k D.lnk (ofS (tickR r).2)) hx2)).ent
 have hkn : k = C1.nodes.length := by omega
 rw [hkn] at hD
 rw [hD] at hT
 clear hsu
 subst hkn
 have hDc : D.clis.length = C1.clis.length := by have h := cli_len fk; dsimp only at h; omega
 refine xdc ?_
 refine VC.loop (σ := Nat × List CiG) (fun s => [(0, pV p), (40, .slice (some ⟨y.cb, 0, none⟩) y.cr.length y.cc), (41, .int .i64 y.cr.length), (42, .int .i64 (s.1 : Int))])
  (fun s => cluL p ((List.range s.1).foldl CluM.tickC D) { y with nr := nr, cr := s.2 })
  (fun s => s.1 ≤ y.cr.length ∧ s.2.length = y.cr.length ∧ CluFit ((List.range s.1).foldl CluM.tickC D) { y with nr := nr, cr := s.2 }) (fun s => y.cr.length - s.1) (0, y.cr)
  ⟨Nat.zero_le _, rfl, fk⟩ sbZ ER ?_
 rintro ⟨k, cr⟩ ⟨hk0, hcr, fk⟩
 dsimp only at hk0 hcr fk
 have okk := okk.tickCs (List.range k)
 have hsu := fold_succ CluM.tickC D k
 generalize hE : (List.range k).foldl CluM.tickC D = E at okk hsu fk
 refine xjr ?_
 refine CP (p := (k : Int) < y.cr.length) rfl (fun h1 => CK ?_) (fun h1 => CX ?_)
 rotate_left
 ·have hkn : k = C1.clis.length := by omega
  have : C.tick = E := by rw [hT, ← hE, hkn]
  exact Ret.void rfl (clu_shut (R := []) fk).ent ⟨rfl, by rw [this]⟩
 have hkl : k < cr.length := by omega
 have hx2 : cr[k]? = some cr[k] := GE hkl
 generalize cr[k] = z at hx2
 obtain ⟨q, s⟩ := z
 obtain ⟨hnx, hns⟩ := cli_at fk (k := k) (x := (q, s)) hx2
 have hm : s ∈ E.clis := ME hns
 have e1 : E.tickC k = ({ E.setCli k (s.tick E.now).1 with lnk := postL (32 + k) E.lnk (s.tick E.now).2, his := E.his } : CluM) := by unfold CluM.tickC; rw [hns]; rfl
 have fw : FewS (s.tick E.now).2 := CliM.tick_few s E.now
 refine zov ?_
 refine VG (VO.load rfl rfl (RdL.one 4 rfl (cli_cell hx2)) ?_)
 refine xjr ?_
 refine xdi ?_
 refine VO.ent (L' := cliH q s :: ccL p E { y with nr := nr, cr := cr } k E.lnk E.his) (cli_out hx2).ent ?_
 refine xdo ?_
 refine VG (VQ 0 rfl (fun Fr w hF hs hS => vctick_spec Fr w (okk.cok s hm) E.now) rfl ycg ?_)
 rintro _ _ ⟨X, a, c, hX, rfl, rfl⟩
 refine xdo ?_
 refine VG (VQ 6 rfl (fun Fr w hF hs hS => usend_spec Fr w (hS.blk 1 rfl) okk.lnk (32 + k) (SdIn.at_ 0 hS rfl hX fw)) rfl (ψ := fun v H => v = .tuple #[] ∧ H = lnkH y.lp (postL (32 + k) E.lnk (X.map Prod.fst))) yy ?_)
 rintro _ _ ⟨rfl, rfl⟩
 rw [hX]
 refine zoq ?_
 refine ⟨(k + 1, cr.set k (q, (s.tick E.now).1)), ⟨by dsimp only; omega, by dsimp only; rw [List.length_set]; exact hcr, by dsimp only; rw [hsu, e1]; exact cli_fit fk k (q, (s.tick E.now).1) _ _⟩, by dsimp only; omega, SC rfl (SC rfl (SC rfl (Sub.int rfl yd (SN _)))), ?_⟩
 dsimp only
 rw [hsu, e1]
 exact (Imp.trans sentH_open (cli_in (y := { y with nr := nr, cr := cr }) (s' := (s.tick E.now).1) (l := postL (32 + k) E.lnk (s.tick E.now).2) (hi := E.his) hx2)).ent
end
end Cl
namespace Cl
open Go Vg T Api Ch Rep Conf Lg Rd
attribute [local irreducible] VO VC VA
theorem setF_ent (f : FrameM) (o : Nat) (n : Int) : (setF f o n).entry = f.entry := by unfold setF; split <;> rfl
theorem setFs_ent : ∀ (os : List Nat) (ns : List Int) (f : FrameM), (setFs f os ns).entry = f.entry
 | o :: os, n :: ns, f => by
  show (setFs (setF f o n) os ns).entry = _
  rw [setFs_ent os ns, setF_ent]
 | [], _, _ => rfl
 | _ :: _, [], _ => rfl
theorem readF_ent {f : FrameM} {s : Bs} {y : FrameM × List MemM} (h : readF f s = some y) : y.1.kind = f.kind ∧ (f.kind ≠ 4 → y.1.entry = f.entry) := by
 unfold readF at h
 repeat' split at h
 all_goals first | (cases h; done) | (cases h; exact ⟨rfl, fun _ => rfl⟩) | (cases h; exact ⟨rfl, fun k => absurd (by assumption) k⟩)
theorem getM_r {s : Bs} {f : FrameM} {ms : List MemM} (h : getM s = some (f, ms)) : ms.length ≤ 6 ∧ 0 ≤ f.entry.index ∧ f.entry.index ≤ 1099511627776 := by
 unfold getM at h
 split at h
 ·cases h
 split at h
 ·cases h
 split at h
 ·cases h
 split at h
 ·cases h
 ·rename_i k r hk _ l r2 hl _ f' ms' hr
  split at h
  ·rename_i hm
   cases h
   refine ⟨readF_ms hr, ?_⟩
   have he := readF_ent hr
   by_cases h4 : f.kind = 4
   ·unfold mayM mayB at hm
    simp only [h4, Bool.and_eq_true] at hm
    have hm := hm.2.2
    simp [inN] at hm
    exact hm.1.1
   ·have := he.2 (by rw [← he.1]; exact h4)
    rw [this, setFs_ent]
    exact ⟨by show (0 : Int) ≤ 0; decide, by show (0 : Int) ≤ 1099511627776; decide⟩
  ·cases h
section
variable {p : Nat} {C : CluM} {y : CluS} {b e : Nat}
def tkV (y : CluS) (to : Int) : Value :=
 if to = 16 then fnV 184 [.pointer (some ⟨y.mp, 0, none⟩)] []
 else match (if to < 0 then none else (y.nr[to.toNat]?).getD none) with
  | some z => fnV 133 [.pointer (some ⟨z.1, 0, none⟩)] []
  | none => match (if to < 32 then none else y.cr[(to - 32).toNat]?) with
   | some z => fnV 185 [.agg #[.pointer (some ⟨z.1, 0, none⟩)]] []
   | none => .nilFunc
theorem utaker_spec (fit : CluFit C y) (h : Blk Fr w p (cluC C y)) (hr : Blk Fr w y.nb (flat nodC y.nr ++ y.nx)) (hc : Blk Fr w y.cb (flat cliV y.cr ++ y.cx)) {to : Int} (h0 : 0 ≤ to) (h1 : to < 38) : Tri Tryz.prog 129 [.pointer (some ⟨p, 0, none⟩), .int .i64 to] Fr w [] (fun v L => v = tkV y to ∧ L = []) := by
 have hln := cli_len fit
 have hnn := node_len fit
 obtain ⟨k, rfl⟩ : ∃ k : Nat, to = k := ⟨to.toNat, by omega⟩
 refine TF 50 Tryz.func129 rfl ym tabOk rfl rfl ?_
 refine xjs ?_
 refine xdz ?_
 refine xjs ?_
 refine CP (p := (k : Int) = 16) rfl (fun e1 => ?_) (fun e1 => ?_)
 ·refine xjt ?_
  refine zqe ?_
  exact CR (Ret.tmp 4 rfl rfl ER ⟨by rw [tkV, if_pos e1], rfl⟩)
 refine xjs ?_
 refine VG (VV (fun Fr w hF hw hS => up_spec Fr w fit (h.of hF hw) (hr.of hF hw) k) rfl ?_)
 have hu : ∀ z : NdG, (y.nr[k]?).getD none = z → C.upE (k : Int) = if y.nr.length ≤ k then 4 else if z.isNone then 61 else 0 := fun z hz => by
  unfold CluM.upE
  by_cases hk : k < y.nr.length
  ·have hx := GE hk
   rw [hx] at hz
   rw [if_neg (show ¬ ((k : Int) < 0 ∨ (C.nodes.length : Int) ≤ k) by omega), if_neg (show ¬ y.nr.length ≤ k by omega), (node_at fit hx).1, ← hz]
   cases y.nr[k] <;> rfl
  ·rw [if_pos (.inr yd), if_pos yd]
 by_cases hx : ∃ q r, y.nr[k]? = some (some (q, r))
 ·obtain ⟨q, r, hx⟩ := hx
  have hk := (List.getElem?_eq_some_iff.1 hx).1
  have hu2 := hu (some (q, r)) (by rw [hx]; rfl)
  rw [if_neg yd] at hu2
  rw [hu2]
  refine zoi ?_
  refine xjt ?_
  refine xdw ?_
  refine VG (VO.load rfl rfl (RdL.blk hr (nod_cell hx)) ?_)
  refine xjs ?_
  refine zqe ?_
  exact CR (Ret.tmp 4 rfl rfl ER ⟨by rw [tkV, if_neg e1, if_neg yd, Int.toNat_natCast, hx]; rfl, rfl⟩)
 have hno : (y.nr[k]?).getD none = none := by
  cases hz : y.nr[k]? with
  | none => rfl
  | some z =>
   cases z with
   | none => rfl
   | some z => exact absurd ⟨z.1, z.2, hz⟩ hx
 have hu3 : C.upE (k : Int) ≠ 0 := by rw [hu none hno]; split <;> decide
 have et : tkV y k = match (if (k : Int) < 32 then none else y.cr[((k : Int) - 32).toNat]?) with
   | some z => fnV 185 [.agg #[.pointer (some ⟨z.1, 0, none⟩)]] []
   | none => .nilFunc := by rw [tkV, if_neg e1, if_neg yd, Int.toNat_natCast, hno]
 rw [et]
 refine xjs ?_
 refine CE rfl (fun k0 => absurd k0 hu3) (fun _ => ?_)
 refine xjs ?_
 by_cases h32 : (k : Int) < 32
 ·refine VG (VY 32 false rfl (DF yd) ?_)
  refine xjt ?_
  refine xdu ?_
  refine xjs ?_
  exact CR (Ret.tmp 4 rfl rfl ER ⟨by rw [if_pos h32], rfl⟩)
 obtain ⟨j, rfl⟩ : ∃ j : Nat, k = 32 + j := ⟨k - 32, by omega⟩
 refine VG (VY 32 true rfl (DT yd) ?_)
 refine xjt ?_
 refine CP (p := (((32 + j : Nat) : Int) - 32) < (y.cr.length : Int)) rfl (fun h2 => ?_) (fun h2 => CK ?_)
 ·have hj : j < y.cr.length := by omega
  have hx2 : y.cr[j]? = some y.cr[j] := GE hj
  generalize y.cr[j] = z at hx2
  have ej : ((32 + j : Nat) : Int) - 32 = (j : Int) := by omega
  rw [ej]
  refine xjt ?_
  refine VG (VI (light_idx j rfl rfl rfl rfl rfl rfl hj) ?_)
  refine VG (VO.load rfl rfl (RdL.blk hc (cli_cell hx2)) ?_)
  refine xjs ?_
  refine VG (VI (LB (pv := [(0, .pointer (some ⟨z.1, 0, none⟩))]) [.pointer (some ⟨z.1, 0, none⟩)] rfl rfl rfl ym rfl) ?_)
  refine zqe ?_
  exact CR (Ret.tmp 4 rfl rfl ER ⟨by rw [if_neg h32, Int.toNat_natCast, hx2], rfl⟩)
 ·refine xjs ?_
  exact CR (Ret.tmp 4 rfl rfl ER ⟨by rw [if_neg h32, List.getElem?_eq_none yd], rfl⟩)
theorem useat_spec {q : Nat} {S : CliM} (ok : S.Ok) (from_ : Int) (f : FrameM) {ma : Option Addr} {mc : Nat} {ms : List MemM} (hm : RwIn memC 2 Fr w ma ms) (hml : ms.length ≤ 1000000) (now : Int) : Tri Tryz.prog 185 [.agg #[.pointer (some ⟨q, 0, none⟩)], .int .i64 from_, .agg (f.cells (ma, ms.length, mc)).toArray, .int .i64 now] Fr w [cliH q S] (fun v L => SentV (S.take f ms now).2 (cliH q (S.take f ms now).1) v L) := by
 refine TF 14 Tryz.func185 rfl ym tabOk rfl rfl ?_
 refine CS (CG (VG (VB (vs := [.pointer (some ⟨q, 0, none⟩)]) rfl fun s1 => VG (VB (vs := f.cells (ma, ms.length, mc)) rfl fun fb => ?_))))
 refine xdo ?_
 refine xmr ?_
 refine xdo ?_
 refine VG (VQ 2 rfl (fun Fr w hF hw hS => vctake_spec Fr w ok f (hm.of hF hw) hml now) rfl ycg ?_)
 rintro _ _ ⟨X, a, c, hX, rfl, rfl⟩
 refine xdo ?_
 exact CR (Ret.tmp 8 rfl rfl (Imp.tail.trans Imp.tail).ent ⟨_, rfl, X, a, c, hX, rfl, rfl⟩)
end
end Cl
namespace Cl
open Go Vg T Api Ch Rep Conf Lg Rd
attribute [local irreducible] VO VC VA
theorem run_eq_fn {P : Program} {ty : Nat} {ps rs : Array TypeId} {vd : Bool} (hund : P.underlying ty = some (.func ps rs vd)) {v : Value} {r : Bool} (hv : (v = .nilFunc ∧ r = true) ∨ ∃ f a c, v = .func f a c ∧ r = false) (w : World) : (Op.equal ty v .nilFunc).run P w = .ok r w := by
 unfold Op.equal
 show (Op.equalIn (9999 + 1) ty v .nilFunc).run P w = _
 rw [Op.equalIn, Sem.run_bind, run_underlying hund]
 rcases hv with ⟨rfl, rfl⟩ | ⟨f, a, c, rfl, rfl⟩ <;> rfl
theorem light_neFn {X : Cx} {e : Env} {T yt : TypeId} {x : Operand} {v : Value} {ps rs : Array TypeId} {vd : Bool} (r : Bool) (hT : X.P.underlying T = some (.func ps rs vd)) (hx : ev e x = some v) (hv : (v = .nilFunc ∧ r = false) ∨ ∃ f a c, v = .func f a c ∧ r = true) :
  Light X (.binOp .neq T x (.const .nilFunc) yt) e (.bool r) := by
 intro a' ha dst ty pos after guard w
 have hq := run_eq_fn hT (v := v) (r := !r) (by rcases hv with ⟨h1, h2⟩ | ⟨f, a, c, h1, h2⟩ <;> simp [h1, h2]) w
 simp only [execOp, ha.ev hx]
 have h : (do eqGuard .neq T x (.const .nilFunc) v .nilFunc; binOp .neq T v .nilFunc : Sem Value).run X.P w = .ok (.bool r) w := by
  have hg : (eqGuard .neq T x (.const .nilFunc) v .nilFunc).run X.P w = .ok () w := by
   rcases hv with ⟨rfl, _⟩ | ⟨f, a, c, rfl, _⟩ <;> rfl
  rw [Sem.run_bind, hg, Result.andThen_ok]
  have hb : binOp .neq T v .nilFunc = (do pure (.bool (!(← Op.equal T v .nilFunc))) : Sem Value) := by
   rcases hv with ⟨rfl, _⟩ | ⟨f, a, c, rfl, _⟩ <;> rfl
  rw [hb, Sem.run_bind, hq]
  cases r <;> rfl
 rw [Sem.run_bind]
 show ((do eqGuard .neq T x (.const .nilFunc) v .nilFunc; binOp .neq T v .nilFunc : Sem Value).run X.P w).andThen _ = _
 rw [h]; rfl
section
variable {p : Nat} {C : CluM} {b e : Nat}
theorem tk_mas {y : CluS} : tkV y 16 = fnV 184 [.pointer (some ⟨y.mp, 0, none⟩)] [] := rfl
theorem tk_node {y : CluS} {k q : Nat} {r : RepM} (h1 : (k : Int) ≠ 16) (h : y.nr[k]? = some (some (q, r))) : tkV y k = fnV 133 [.pointer (some ⟨q, 0, none⟩)] [] := by
 rw [tkV, if_neg h1, if_neg yd, Int.toNat_natCast, h]; rfl
theorem tk_rest {y : CluS} {k : Nat} (h1 : (k : Int) ≠ 16) (h : ∀ q r, y.nr[k]? ≠ some (some (q, r))) : tkV y k = match (if (k : Int) < 32 then none else y.cr[((k : Int) - 32).toNat]?) with
   | some z => fnV 185 [.agg #[.pointer (some ⟨z.1, 0, none⟩)]] []
   | none => .nilFunc := by
 have hno : (y.nr[k]?).getD none = none := by
  cases hz : y.nr[k]? with
  | none => rfl
  | some z =>
   cases z with
   | none => rfl
   | some z => exact absurd hz (h z.1 z.2)
 rw [tkV, if_neg h1, if_neg yd, Int.toNat_natCast, hno] <;> rfl
theorem node_none {y : CluS} (fit : CluFit C y) {k : Nat} (h : ∀ q r, y.nr[k]? ≠ some (some (q, r))) : C.node (k : Int) = none := by
 unfold CluM.node
 rw [if_neg yd, Int.toNat_natCast, ← fit.nr, List.getElem?_map]
 cases hz : y.nr[k]? with
 | none => rfl
 | some z =>
  cases z with
  | none => rfl
  | some z => exact absurd hz (h z.1 z.2)
theorem udeliver_spec (ok : C.Ok b e) (hb : b < 100000000) (x to i : Int) : Tri Tryz.prog 83 [.pointer (some ⟨p, 0, none⟩), .int .i64 x, .int .i64 to, .int .i64 i] Fr w [cluH p C]
  (fun v L => v = .int .i64 (C.deliver (x, to) i).2 ∧ L = [cluH p (C.deliver (x, to) i).1]) := by
 have hcl := ok.clis
 have hnd := ok.nods
 refine TF 57 Tryz.func83 rfl ym tabOk rfl rfl ?_
 refine xnj ?_
 rintro y fit
 refine xnk ?_
 have hln := cli_len fit
 have hnn := node_len fit
 refine xdc ?_
 refine VG (VQ 5 rfl (fun Fr w hF hw hS => ldeliver_spec Fr w ok.lnk x to i) rfl (ψ := fun v H => v = fdV C.lnk (x, to) i ∧ H = lnkH y.lp (C.lnk.drop (x, to) i).1) yy ?_)
 rintro _ _ ⟨rfl, rfl⟩
 cases hf : C.lnk.find (x, to) i with
 | none =>
  have hr : C.deliver (x, to) i = (C, 4) := by unfold CluM.deliver; rw [hf]
  rw [fdV_none hf, drop_none hf]
  refine xjr ?_
  refine VG (VO.alloc rfl fun mb => ?_)
  refine xmz ?_
  refine zow ?_
  exact CR (Ret.tmp 8 rfl rfl (Imp.trans (Imp.tail (H := pt mb _ mailT)) (clu_shut (C := C) (p := p) (R := []) fit)).ent ⟨by rw [hr], by rw [hr]⟩)
 | some t =>
 obtain ⟨ha1, ha2⟩ := ok.adr.found hf
 obtain ⟨hx0, hx1⟩ := adr_r ha1
 obtain ⟨ht0, ht1⟩ := adr_r ha2
 obtain ⟨k, rfl⟩ : ∃ k : Nat, to = k := ⟨to.toNat, by dsimp only at ht0; omega⟩
 dsimp only at ht0 ht1 hx0 hx1
 rw [fdV_some hf, drop_some hf]
 generalize hD : ({ C with lnk := C.lnk.without (x, k) i } : CluM) = D
 have okd : D.Ok b e := hD ▸ ok.links (by rw [CluM.Ok.find_without hf]; exact ok.lnk.drop _ _) (ok.adr.without hf)
 have fitd : CluFit D y := hD ▸ ⟨fit.nr, fit.cr, fit.qc⟩
 obtain ⟨s, rfl⟩ : ∃ s, t = bT s := ⟨sB t, (bT_of t).symm⟩
 have hr : C.deliver (x, k) i = (D.got x k (bT s), 0) := by unfold CluM.deliver; rw [hf]; dsimp only; rw [hD]
 have hgot : D.got x k (bT s) = match getM s with
   | some (f, ms) => D.takes x k f ms
   | none => D := by unfold CluM.got; rw [sB_of] <;> rfl
 refine VO.ent (L' := cluL p D y) (Imp.of_eq (by rw [← hD]; rfl)).ent ?_
 refine xjr ?_
 refine VG (VO.alloc rfl fun mb => ?_)
 refine VG (VT (vs := mailC x k (bT s)) (cs' := mailC x k (bT s)) 0 rfl rfl rfl rfl (NR _) rfl rfl rfl ?_)
 refine zqb ?_
 refine xdc ?_
 refine VG (VK (Lc := []) (fun Fr w hF hw hS => fget_spec Fr w (s := s)) rfl rfl ?_)
 intro v L1 hv
 cases hg : getM s with
 | none =>
  rw [hg] at hv hgot
  obtain ⟨rfl, rfl⟩ := hv
  dsimp only at hgot
  refine xjr ?_
  refine VG (VO.alloc rfl fun fb => ?_)
  refine xmo ?_
  refine xjr ?_
  refine xdo ?_
  refine xnl ?_
  refine xjr ?_
  refine xds ?_
  refine zqc ?_
  exact CR (Ret.tmp 8 rfl rfl (Imp.trans (Imp.tail (H := pt fb _ frT)) (Imp.trans (Imp.tail (H := pt mb _ mailT)) (clu_shut (C := D) (p := p) (R := []) fitd))).ent ⟨by rw [hr], by rw [hr, hgot]⟩)
 | some fm =>
 obtain ⟨f, ms⟩ := fm
 rw [hg] at hv hgot
 obtain ⟨ma, mc, rfl, rfl⟩ := hv
 dsimp only at hgot
 rw [hgot] at hr
 obtain ⟨hm6, hi0, hi1⟩ := getM_r hg
 refine xjr ?_
 refine VG (VO.alloc rfl fun fb => ?_)
 refine VG (VT (vs := f.cells (ma, ms.length, mc)) (cs' := f.cells (ma, ms.length, mc)) 0 rfl rfl rfl rfl (NR _) rfl rfl rfl ?_)
 refine VO.ent (L' := pt fb (f.cells (ma, ms.length, mc)) frT :: pt mb (mailC x k (bT s)) mailT :: (cluL p D y ++ [slH memT 2 ma ms.length mc (flat memC ms)])) (by refine Imp.ent ?_; refine IP 0 rfl ?_; refine IP 1 rfl ?_; exact Imp.last (L := cluL p D y)) ?_
 refine xjr ?_
 refine xdo ?_
 refine xnl ?_
 by_cases h16 : (k : Int) = 16
 ·have hk16 : k = 16 := by omega
  subst hk16
  have ht : D.takes x (16 : Nat) f ms = ({ D with mas := (D.mas.take x f D.now).1, lnk := postL (16 : Nat) D.lnk (D.mas.take x f D.now).2 } : CluM) := by
   unfold CluM.takes
   rw [if_pos yo]; rfl
  rw [ht] at hr
  have fw := okd.mas.take_few x f D.now
  rw [show tkV y (16 : Nat) = _ from tk_mas]
  refine xjr ?_
  refine xdq ?_
  refine xjr ?_
  refine xnm ?_
  refine zos ?_
  refine CN (L' := pt fb (f.cells (ma, ms.length, mc)) frT :: pt mb (mailC x (16 : Nat) (bT s)) mailT :: masH y.mp D.mas :: (cmL p D y D.lnk ++ [slH memT 2 ma ms.length mc (flat memC ms)])) (Imp.cons (Imp.cons (Imp.app (M := masH y.mp D.mas :: cmL p D y D.lnk) mas_out Imp.refl))).ent ?_
  refine xnn ?_
  refine xfb ?_
  refine xno ?_
  refine xfb ?_
  refine AG (VA.callFAt 2 rfl rfl (fun Fr w hF hs hS => vmtake_spec Fr w okd.mas x f (ma, ms.length, mc) D.now) rfl rfl ycg ?_ ?_)
  ·rintro _ _ ⟨X, a, c, hX, rfl, rfl⟩
   exact yci
  rintro _ _ ⟨X, a, c, hX, rfl, rfl⟩
  refine AG (AQ 7 rfl (fun Fr w hF hs hS => usend_spec Fr w (hS.blk 3 rfl) okd.lnk (16 : Nat) (SdIn.at_ 2 hS rfl hX fw)) rfl rfl (ψ := fun v H => v = .tuple #[] ∧ H = lnkH y.lp (postL (16 : Nat) D.lnk (X.map Prod.fst))) yy ?_ ?_)
  ·rintro _ _ ⟨rfl, rfl⟩
   exact yci
  rintro _ _ ⟨rfl, rfl⟩
  refine zou ?_
  rw [hX]
  exact CR (Ret.tmp 8 rfl rfl (Imp.trans (Imp.tail (H := pt fb _ frT)) (Imp.trans (Imp.tail (H := pt mb _ mailT)) (mas_shut (p := p) (m := (D.mas.take x f D.now).1) (l := postL (16 : Nat) D.lnk (D.mas.take x f D.now).2) (a := a) (c := c) (X := X) (R := [slH memT 2 ma ms.length mc (flat memC ms)]) fitd))).ent ⟨by rw [hr], by rw [hr]⟩)
 by_cases hx : ∃ q r, y.nr[k]? = some (some (q, r))
 ·obtain ⟨q, r, hx⟩ := hx
  obtain ⟨hn1, hn2⟩ := node_at fitd hx
  have hmr : some r ∈ D.nodes := ME hn2
  have hfit := okd.fit r hmr
  have hlr := okd.last r hmr
  have ht : D.takes x k f ms = ({ D.setNode k (some (takeR r x f ms D.now).1) with lnk := postL k D.lnk (ofS (takeR r x f ms D.now).2) } : CluM) := by
   unfold CluM.takes
   rw [if_neg h16, hn1]; rfl
  rw [ht] at hr
  have fw : FewS (ofS (takeR r x f ms D.now).2) := FewS.of (by have := take_few hfit x f ms D.now; omega)
  rw [tk_node h16 hx]
  refine xjr ?_
  refine xdq ?_
  refine xjr ?_
  refine xnm ?_
  refine zos ?_
  refine CN (L' := pt fb (f.cells (ma, ms.length, mc)) frT :: pt mb (mailC x k (bT s)) mailT :: repH q r :: (cnL p D y k D.lnk ++ [slH memT 2 ma ms.length mc (flat memC ms)])) (Imp.cons (Imp.cons (Imp.app (M := repH q r :: cnL p D y k D.lnk) (node_out hx) Imp.refl))).ent ?_
  refine xnn ?_
  refine xfb ?_
  refine xno ?_
  refine xfb ?_
  refine AG (VA.callFAt 2 rfl rfl (fun Fr w hF hs hS => vtake_spec Fr w hfit yd x f (RwIn.slH memC_len (hS.at_ 12 rfl)) yd D.now yd yd) rfl rfl ycg ?_ ?_)
  ·rintro _ _ ⟨X, a, c, hX, rfl, rfl⟩
   exact yci
  rintro _ _ ⟨X, a, c, hX, rfl, rfl⟩
  refine AG (AQ 8 rfl (fun Fr w hF hs hS => usend_spec Fr w (hS.blk 3 rfl) okd.lnk k (SdIn.at_ 2 hS rfl hX fw)) rfl rfl (ψ := fun v H => v = .tuple #[] ∧ H = lnkH y.lp (postL k D.lnk (X.map Prod.fst))) yy ?_ ?_)
  ·rintro _ _ ⟨rfl, rfl⟩
   exact yci
  rintro _ _ ⟨rfl, rfl⟩
  refine zou ?_
  rw [hX]
  exact CR (Ret.tmp 8 rfl rfl (Imp.trans (Imp.tail (H := pt fb _ frT)) (Imp.trans (Imp.tail (H := pt mb _ mailT)) (node_shut (p := p) (r' := (takeR r x f ms D.now).1) (l := postL k D.lnk (ofS (takeR r x f ms D.now).2)) (a := a) (c := c) (X := X) (R := [slH memT 2 ma ms.length mc (flat memC ms)]) fitd hx))).ent ⟨by rw [hr], by rw [hr]⟩)
 have hx : ∀ q r, y.nr[k]? ≠ some (some (q, r)) := fun q r h => hx ⟨q, r, h⟩
 have hnone := node_none fitd hx
 rw [tk_rest h16 hx]
 by_cases hc : ∃ j q z, k = 32 + j ∧ y.cr[j]? = some (q, z)
 ·obtain ⟨j, q, z, rfl, hz⟩ := hc
  obtain ⟨hn1, hn2⟩ := cli_at fitd hz
  have ej : ((32 + j : Nat) : Int) - 32 = (j : Int) := by omega
  have hmz : z ∈ D.clis := ME hn2
  have okz := okd.cok z hmz
  have ht : D.takes x (32 + j : Nat) f ms = ({ D.setCli j (z.take f ms D.now).1 with lnk := postL (32 + j : Nat) D.lnk (z.take f ms D.now).2, his := D.his } : CluM) := by
   unfold CluM.takes
   rw [if_neg h16, hnone, ej, hn1]; rfl
  rw [ht] at hr
  have fw : FewS (z.take f ms D.now).2 := CliM.take_few z f ms D.now
  rw [if_neg yd, ej, Int.toNat_natCast, hz]
  refine xjr ?_
  refine xdq ?_
  refine xjr ?_
  refine xnm ?_
  refine zos ?_
  refine CN (L' := pt fb (f.cells (ma, ms.length, mc)) frT :: pt mb (mailC x (32 + j : Nat) (bT s)) mailT :: cliH q z :: (ccL p D y j D.lnk D.his ++ [slH memT 2 ma ms.length mc (flat memC ms)])) (Imp.cons (Imp.cons (Imp.app (M := cliH q z :: ccL p D y j D.lnk D.his) (cli_out hz) Imp.refl))).ent ?_
  refine xnn ?_
  refine xfb ?_
  refine xno ?_
  refine xfb ?_
  refine AG (VA.callFAt 2 rfl rfl (fun Fr w hF hs hS => useat_spec Fr w okz x f (RwIn.slH memC_len (hS.at_ 12 rfl)) yd D.now) rfl rfl ycg ?_ ?_)
  ·rintro _ _ ⟨X, a, c, hX, rfl, rfl⟩
   exact yci
  rintro _ _ ⟨X, a, c, hX, rfl, rfl⟩
  refine AG (AQ 8 rfl (fun Fr w hF hs hS => usend_spec Fr w (hS.blk 3 rfl) okd.lnk (32 + j : Nat) (SdIn.at_ 2 hS rfl hX fw)) rfl rfl (ψ := fun v H => v = .tuple #[] ∧ H = lnkH y.lp (postL (32 + j : Nat) D.lnk (X.map Prod.fst))) yy ?_ ?_)
  ·rintro _ _ ⟨rfl, rfl⟩
   exact yci
  rintro _ _ ⟨rfl, rfl⟩
  refine zou ?_
  rw [hX]
  exact CR (Ret.tmp 8 rfl rfl (Imp.trans (Imp.tail (H := pt fb _ frT)) (Imp.trans (Imp.tail (H := pt mb _ mailT)) (cli_shut (p := p) (s' := (z.take f ms D.now).1) (hi := D.his) (l := postL (32 + j : Nat) D.lnk (z.take f ms D.now).2) (a := a) (c := c) (X := X) (R := [slH memT 2 ma ms.length mc (flat memC ms)]) fitd hz))).ent ⟨by rw [hr], by rw [hr]⟩)
 have hcn : D.cli ((k : Int) - 32) = none ∧ (if (k : Int) < 32 then none else y.cr[((k : Int) - 32).toNat]?) = none := by
  by_cases h32 : (k : Int) < 32
  ·exact ⟨by unfold CluM.cli; rw [if_pos yd], if_pos h32⟩
  obtain ⟨j, rfl⟩ : ∃ j : Nat, k = 32 + j := ⟨k - 32, by omega⟩
  have ej : ((32 + j : Nat) : Int) - 32 = (j : Int) := by omega
  have hz : y.cr[j]? = none := by
   cases hz : y.cr[j]? with
   | none => rfl
   | some z => exact absurd ⟨j, z.1, z.2, rfl, hz⟩ hc
  rw [ej, if_neg h32, Int.toNat_natCast, hz]
  refine ⟨?_, rfl⟩
  unfold CluM.cli
  rw [if_neg yd, Int.toNat_natCast, ← fitd.cr, List.getElem?_map, hz]; rfl
 have ht : D.takes x k f ms = D := by
  unfold CluM.takes
  rw [if_neg h16, hnone, hcn.1]
 rw [ht] at hr
 rw [hcn.2]
 refine xjr ?_
 refine xdq ?_
 refine xjr ?_
 refine VG (VI (light_neFn false Tryz.underlying221 rfl (.inl ⟨rfl, rfl⟩)) ?_)
 refine zot ?_
 exact CR (Ret.tmp 8 rfl rfl (Imp.trans (Imp.tail (H := pt fb _ frT)) (Imp.trans (Imp.tail (H := pt mb _ mailT)) (clu_shut (C := D) (p := p) (R := [slH memT 2 ma ms.length mc (flat memC ms)]) fitd))).ent ⟨by rw [hr], by rw [hr]⟩)
end
end Cl
namespace Cl
open Go Vg T Api Ch Rep Conf Lg Rd
attribute [local irreducible] VO VC VA
theorem mas_in_ {Fr : Nat → Prop} {w : World} {q : Nat} {M : MasM} (h : SatIn Fr [masH q M] w) : ∃ a c, Blk Fr w q (masCs M a c) ∧ RwIn memC 2 Fr w a M.ch.ms := by
 obtain ⟨y, hy⟩ := h.ex
 have hs := hy.sep
 exact ⟨y.1, y.2, hs.blk 0 rfl, RwIn.slH memC_len (hs.at_ 1 rfl)⟩
theorem vchain_spec {q : Nat} {M : MasM} (ok : M.Ok) (h : SatIn Fr [masH q M] w) : Tri Tryz.prog 27 [.pointer (some ⟨q, 0, none⟩)] Fr w []
  (fun v L => ∃ a' c', v = .agg (M.ch.cells a' c').toArray ∧ L = [slH memT 2 a' M.ch.ms.length c' (flat memC M.ch.ms)]) := by
 obtain ⟨a, c, h1, h2⟩ := mas_in_ h
 exact mchain_spec Fr w ok h1 h2
theorem join_bad {M : MasM} {n now : Int} (h : (M.join n now).2.2 ≠ 0) : (M.join n now).1 = M := by
 unfold MasM.join at h ⊢
 split
 ·rfl
 ·rename_i h1
  rw [if_neg h1] at h
  split
  ·rfl
  ·rename_i h2; rw [if_neg h2] at h; exact absurd rfl h
section
variable {p : Nat} {C : CluM} {y : CluS} {b e : Nat}
theorem nod_put {l : List NdG} {k q : Nat} {r r' : RepM} (hk : k < l.length) : flat nodC (l.set k (some (q, r))) = flat nodC (l.set k (some (q, r'))) := by
 have h : (l.set k (some (q, r)))[k]? = some (some (q, r)) := List.getElem?_set_self hk
 have := nod_same (r' := r') h
 rw [List.set_set] at this
 exact this.symm
theorem nod_store {l : List NdG} {k : Nat} (x : NdG) (hk : k < l.length) (rest : List Value) : (flat nodC l ++ rest).set (0 + k * 1) (nodV x) = flat nodC (l.set k x) ++ rest := by
 rw [Nat.zero_add]
 have hz : l[k]? = some l[k] := GE hk
 exact flat_setCell (j := 0) nodC_len hz (Nat.zero_lt_one) (by cases l[k] <;> rfl) rest
theorem join_shut (fit : CluFit C y) {k q : Nat} (hk : k < y.nr.length) {r r' : RepM} {m : MasM} {l : LnkM} {a a' : Option Addr} {c c' : Nat} {X X' : List SdG} : Imp (sentH (repH q r') a c X :: sentH (masH y.mp m) a' c' X' :: [pt p (cluC C y) cluT, intH y.qa y.qc C.conf.qs, pt y.nb (flat nodC (y.nr.set k (some (q, r))) ++ y.nx) rpT, pt y.cb (flat cliV y.cr ++ y.cx) cpT, lnkH y.lp l, hisH y.hp C.his, slH entT 7 y.da C.done.length y.dc (flat entC C.done), hsep (y.nr.map nodP), hsep (y.cr.map cliP)])
  [cluH p ({ ({ C with mas := m } : CluM).setNode k (some r') with lnk := l } : CluM)] := by
 rw [nod_put (r' := r') hk]
 have e1 := node_cells (C := C) (y := y) (k := k) (x := some (q, r')) ({ ({ C with mas := m } : CluM).setNode k (some r') with lnk := l } : CluM) rfl rfl rfl
 have hz : y.nr[k]? = some y.nr[k] := GE hk
 refine Imp.trans sentH_open ?_
 refine Imp.trans (Imp.cons sentH_open) ?_
 refine Imp.trans (IP 9 rfl Imp.refl) ?_
 refine Imp.trans (many_take (f := nodP) hz) ?_
 refine Imp.trans Imp.tail ?_
 refine Imp.trans (M := repH q r' :: hsep ((y.nr.eraseIdx k).map nodP) :: _) (IP 1 rfl (IP 0 rfl Imp.refl)) ?_
 refine Imp.trans (many_put (f := nodP) hk (some (q, r'))) ?_
 have fit' : CluFit ({ ({ C with mas := m } : CluM).setNode k (some r') with lnk := l } : CluM) (y.node k (some (q, r'))) := node_fit (C := { C with mas := m }) ⟨fit.nr, fit.cr, fit.qc⟩ k (some (q, r')) l
 refine Imp.clu (K := []) _ fit' ?_
 unfold cluL
 rw [e1]
 exact (pkZ [2, 2, 1, 1, 1, 1, 1, 1, 0, 0])
theorem ujoin_spec (ok : C.Ok b e) (hb : b < 100000000) (n : Int) : Tri Tryz.prog 87 [.pointer (some ⟨p, 0, none⟩), .int .i64 n] Fr w [cluH p C]
  (fun v L => v = .int .i64 (C.join n).2 ∧ L = [cluH p (C.join n).1]) := by
 refine TF 65 Tryz.func87 rfl ym tabOk rfl rfl ?_
 refine xnj ?_
 rintro y fit
 refine CN (L' := masH y.mp C.mas :: cmL p C y C.lnk) ((Imp.of_eq (List.append_nil _)).trans mas_out).ent ?_
 have hnn := node_len fit
 have hjb := join_bad (M := C.mas) (n := n) (now := C.now)
 have hjf := ok.mas.join_few n C.now
 have hr0 : (C.mas.join n C.now).2.2 ≠ 0 → C.join n = (C, (C.mas.join n C.now).2.2) := fun h => by unfold CluM.join; dsimp only; rw [if_pos h]
 have hr1 : (C.mas.join n C.now).2.2 = 0 → C.join n = ((({ C with mas := (C.mas.join n C.now).1 } : CluM).back n).post 16 (C.mas.join n C.now).2.1, 0) := fun h => by unfold CluM.join; dsimp only; rw [if_neg ybw]
 refine xjr ?_
 refine CD (ts 0 9 (.only 9 (ts 10 5 .nil))) ym yq ?_
 refine xga ?_
 refine AG (AQ 0 rfl (fun Fr w hF hs hS => vjoin_spec Fr w ok.mas n C.now) rfl rfl ycg ?_ ?_)
 ·rintro _ _ ⟨X, a, c, hX, rfl, rfl⟩
  exact yr
 rintro _ _ ⟨X, a, c, hX, rfl, rfl⟩
 generalize C.mas.join n C.now = J at hjb hjf hr0 hr1 hX
 obtain ⟨m, S, er⟩ := J
 dsimp only at hjb hjf hr0 hr1 hX ⊢
 obtain ⟨fw, okm⟩ := hjf
 refine xga ?_
 refine xjr ?_
 refine VC.condNE rfl (fun k1 => ?_) (fun k1 => CK ?_)
 ·refine xjr ?_
  exact CR (Ret.tmp 4 rfl rfl (mas_shut (p := p) (C := C) (m := m) (l := C.lnk) (a := a) (c := c) (X := X) (R := []) fit).ent ⟨by rw [hr0 k1], by rw [hr0 k1, hjb k1]⟩)
 have hr := hr1 ycf
 refine CS (CS (CG ?_))
 refine xjr ?_
 refine VG (VV (fun Fr w hF hw hS => up_spec Fr w fit (hS.blk 1 rfl) (hS.blk 3 rfl) n) rfl ?_)
 refine xjr ?_
 have hbk : ({ C with mas := m } : CluM).back n = if C.upE n = 61 then (({ C with mas := m } : CluM).setNode n (some (takeR (newR C.conf n true) 16 (cfgF m.ch) m.ch.ms C.now).1)).post n (ofS (takeR (newR C.conf n true) 16 (cfgF m.ch) m.ch.ms C.now).2) else ({ C with mas := m } : CluM) := rfl
 refine CE rfl (fun h61 => ?_) (fun h61 => CK ?_)
 rotate_left
 ·rw [hbk, if_neg h61] at hr
  refine xgk ?_
  refine xjr ?_
  refine VG (VQ 5 rfl (fun Fr w hF hs hS => usend_spec Fr w (hS.blk 1 rfl) ok.lnk 16 (SdIn.at_ 0 hS rfl hX fw)) rfl (ψ := fun v H => v = .tuple #[] ∧ H = lnkH y.lp (postL 16 C.lnk (X.map Prod.fst))) yy ?_)
  rintro _ _ ⟨rfl, rfl⟩
  rw [hX]
  refine xjr ?_
  exact CR (Ret.tmp 4 rfl rfl (mas_shut (p := p) (C := C) (m := m) (l := postL 16 C.lnk S) (a := a) (c := c) (X := X) (R := []) fit).ent ⟨by rw [hr], by rw [hr]; rfl⟩)
 rw [hbk, if_pos h61] at hr
 obtain ⟨k, rfl, hk, hkn⟩ : ∃ k : Nat, n = k ∧ k < y.nr.length ∧ y.nr[k]? = some none := by
  have hu := h61
  unfold CluM.upE at hu
  split at hu
  ·cases hu
  ·rename_i h1
   split at hu
   ·rename_i h2
    have hk : n.toNat < y.nr.length := by omega
    have en : n = (n.toNat : Int) := by omega
    have hz : y.nr[n.toNat]? = some y.nr[n.toNat] := GE hk
    refine ⟨n.toNat, en, hk, ?_⟩
    have := (node_at fit hz).1
    rw [← en] at this
    rw [this] at h2
    rw [hz]
    cases hq : y.nr[n.toNat] with
    | none => rfl
    | some v => rw [hq] at h2; cases h2
   ·cases hu
 have hnl := ok.nl
 have hnb := conf_bounds ok.cf
 have hok : newOkB C.conf (k : Int) := ⟨ok.cf, by omega, by omega⟩
 have hfit := newR_fit ok.cf (k : Int) true
 have hlast : (newR C.conf (k : Int) true).rds.last = 0 := by
  unfold newR; split
  ·rfl
  split <;> rfl
 have hml := okm.ml
 have hei : (cfgF m.ch).entry.index = 0 := rfl
 refine xdo ?_
 refine VG (VL 1 (C.conf.cells y.qa y.qc) rfl rfl rfl rfl ?_)
 refine xdo ?_
 refine VG (VK (Lc := []) (fun Fr w hF hw hS => Rep.new_spec Fr w C.conf y.qa y.qc (ints_sl (hS.at_ 2 rfl)) trivial fit.qc k true) rfl rfl ?_)
 intro v L hv
 rw [if_pos hok] at hv
 obtain ⟨q, rfl, rfl⟩ := hv
 generalize newR C.conf (k : Int) true = r0 at hfit hlast hr
 have fw2 : FewS (ofS (takeR r0 16 (cfgF m.ch) m.ch.ms C.now).2) := FewS.of (by have := take_few hfit 16 (cfgF m.ch) m.ch.ms C.now; omega)
 have okl2 := LnkM.Ok.postL (k : Int) (ofS (takeR r0 16 (cfgF m.ch) m.ch.ms C.now).2) ok.lnk
 refine xjr ?_
 refine xdp ?_
 refine xdw ?_
 refine VG (VO.st 4 (cs' := flat nodC (y.nr.set k (some (q, r0))) ++ y.nx) rfl rfl rfl rfl ycj (nod_store (some (q, r0)) hk y.nx) rfl ?_)
 refine xjr ?_
 refine xdp ?_
 refine VG (VK (Lc := []) (fun Fr w hF hw hS => vchain_spec Fr w okm (((hS.at_ 1 rfl).sep).at_ 0 rfl)) rfl rfl ?_)
 rintro _ _ ⟨ma, mc, rfl, rfl⟩
 refine xjr ?_
 refine VG (VI (LB (pv := [(0, .int .i64 8), (11, .agg (m.ch.cells ma mc).toArray)]) ((cfgF m.ch).cells (ma, m.ch.ms.length, mc)) rfl rfl rfl ym rfl) ?_)
 refine VG (VO.alloc rfl fun fb => ?_)
 refine VG (VT (vs := (cfgF m.ch).cells (ma, m.ch.ms.length, mc)) (cs' := (cfgF m.ch).cells (ma, m.ch.ms.length, mc)) 0 rfl rfl rfl rfl (NR _) rfl rfl rfl ?_)
 refine xjr ?_
 refine CD (ts 0 8 (.only 8 (.only 9 .nil))) ym yq ?_
 refine xfd ?_
 refine AG (VA.ldA 0 ((cfgF m.ch).cells (ma, m.ch.ms.length, mc)) rfl rfl rfl rfl rfl ?_)
 refine xfd ?_
 refine AG (AQ 2 rfl (fun Fr w hF hs hS => vtake_spec Fr w hfit yd 16 (cfgF m.ch) (RwIn.slH memC_len (hS.at_ 1 rfl)) yd C.now yd yd) rfl rfl ycg ?_ ?_)
 ·rintro _ _ ⟨X2, a2, c2, hX2, rfl, rfl⟩
  exact yck
 rintro _ _ ⟨X2, a2, c2, hX2, rfl, rfl⟩
 generalize takeR r0 16 (cfgF m.ch) m.ch.ms C.now = T at hr fw2 okl2 hX2
 refine AG (AQ 8 rfl (fun Fr w hF hs hS => usend_spec Fr w (hS.blk 4 rfl) ok.lnk k (SdIn.at_ 2 hS rfl hX2 fw2)) rfl rfl (ψ := fun v H => v = .tuple #[] ∧ H = lnkH y.lp (postL k C.lnk (X2.map Prod.fst))) yy ?_ ?_)
 ·rintro _ _ ⟨rfl, rfl⟩
  exact yck
 rintro _ _ ⟨rfl, rfl⟩
 rw [hX2]
 refine zou ?_
 refine VG (VQ 8 rfl (fun Fr w hF hs hS => usend_spec Fr w (hS.blk 4 rfl) okl2 16 (SdIn.at_ 3 hS rfl hX fw)) rfl (ψ := fun v H => v = .tuple #[] ∧ H = lnkH y.lp (postL 16 (postL k C.lnk (ofS T.2)) (X.map Prod.fst))) yy ?_)
 rintro _ _ ⟨rfl, rfl⟩
 rw [hX]
 refine xjr ?_
 exact CR (Ret.tmp 4 rfl rfl (Imp.trans (Imp.tail (H := pt fb _ frT)) (Imp.trans (Imp.tail (H := slH memT 2 ma _ mc _)) (join_shut (p := p) (C := C) (r := r0) (r' := T.1) (m := m) (l := postL 16 (postL k C.lnk (ofS T.2)) S) (a := a2) (c := c2) (X := X2) (a' := a) (c' := c) (X' := X) fit hk))).ent ⟨by rw [hr], by rw [hr]; rfl⟩)
end
end Cl
namespace Cl
open Go Vg T Api Ch Rep Conf Lg Rd
attribute [local irreducible] VO VC VA
theorem zip_succ {α β : Type} (f : β → α × Nat → β) (x : β) {l : List α} {k : Nat} {a : α} (h : l[k]? = some a) : (l.zipIdx.take (k + 1)).foldl f x = f ((l.zipIdx.take k).foldl f x) (a, k) := by
 have : l.zipIdx[k]? = some (a, k) := by rw [List.getElem?_zipIdx, h]; simp
 rw [List.take_add_one, this, List.foldl_append]
 rfl
theorem zip_all {α β : Type} (f : β → α × Nat → β) (x : β) (l : List α) : (l.zipIdx.take l.length).foldl f x = l.zipIdx.foldl f x := by
 rw [List.take_of_length_le (by rw [List.length_zipIdx]; exact NR _)]
section
variable {p : Nat} {C : CluM} {b e : Nat}
theorem ubehind_spec (ok : C.Ok b e) (he : e < 1000000) : Tri Tryz.prog 50 [.pointer (some ⟨p, 0, none⟩)] Fr w [cluH p C]
  (fun v L => v = .tuple #[] ∧ L = [cluH p C.behind]) := by
 have hcl := ok.clis
 have hnd := ok.nods
 have hev := ok.ev
 have hdn := ok.dn
 refine TF 115 Tryz.func50 rfl ym tabOk rfl rfl ?_
 refine xnj ?_
 rintro y fit
 refine xnk ?_
 have hln := cli_len fit
 have hnn := node_len fit
 refine xdc ?_
 refine VC.loop (σ := Nat) (fun k => [(0, pV p), (17, .slice (some ⟨y.cb, 0, none⟩) y.cr.length y.cc), (18, .int .i64 y.cr.length), (19, .int .i64 (k : Int))])
  (fun k => cluL p ({ C with his := (C.clis.zipIdx.take k).foldl endH C.his } : CluM) y) (fun k => k ≤ y.cr.length) (fun k => y.cr.length - k) 0
  (Nat.zero_le _) sbZ ER ?_
 rintro k hk0
 have hH := CluM.Ok.endHs ok.his (C.clis.zipIdx.take k) (by rw [List.length_take, List.length_zipIdx]; omega)
 rw [List.length_take, List.length_zipIdx] at hH
 obtain ⟨okh, -, hhe⟩ := hH
 refine xjr ?_
 refine CP (p := (k : Int) < y.cr.length) rfl (fun h1 => CK ?_) (fun h1 => CX ?_)
 ·have hkl : k < y.cr.length := by omega
  have hx2 : y.cr[k]? = some y.cr[k] := GE hkl
  generalize y.cr[k] = z at hx2
  obtain ⟨q, s⟩ := z
  obtain ⟨hnx, hns⟩ := cli_at fit (k := k) (x := (q, s)) hx2
  have hm : s ∈ C.clis := ME hns
  have hsu := zip_succ endH C.his hns
  generalize (C.clis.zipIdx.take k).foldl endH C.his = H at okh hhe hsu
  have hcp : (y.cr.map cliP)[k]? = some (cliH q s) := by rw [List.getElem?_map, hx2]; rfl
  refine zov ?_
  refine VG (VO.load rfl rfl (RdL.one 4 rfl (cli_cell hx2)) ?_)
  refine xjr ?_
  refine VG (VV (fun Fr w hF hw hS => voutcome_spec Fr w (ok.cok s hm) (((hS.at_ 9 rfl).sep).at_ k hcp)) rfl ?_)
  unfold outV
  generalize ho : s.outcome = o
  refine xjr ?_
  refine VG (VO.alloc rfl fun ob => ?_)
  refine VG (VT (vs := outC (o.getD outZ')) (cs' := outC (o.getD outZ')) 0 rfl rfl rfl rfl (NR _) rfl rfl rfl ?_)
  refine xjr ?_
  cases o with
  | none =>
   have e1 : endH H (s, k) = H := by unfold endH; dsimp only; rw [ho]
   refine zok ?_
   refine zoj ?_
   exact xnp
  | some o =>
   have e1 : endH H (s, k) = H.end_ k s.seq o := by unfold endH; dsimp only; rw [ho]
   refine xdv ?_
   refine CD (ts 0 6 (ts 7 1 (.only 6 (.only 8 .nil)))) ym yq ?_
   refine xga ?_
   refine AG (VA.ldA 0 (outC o) rfl rfl rfl rfl rfl ?_)
   refine AG (AR (fun Fr w hF hw hS => vseq_spec Fr w (ok.cok s hm) (((hS.at_ 10 rfl).sep).at_ k hcp)) rfl rfl ycl ?_)
   refine AG (AQ 7 rfl (fun Fr w hF hs hS => hend_spec Fr w okh yd k s.seq o) rfl rfl (ψ := fun v K => v = .int .i64 (H.endE k s.seq o) ∧ K = hisH y.hp (H.end_ k s.seq o)) yy ?_ ?_)
   ·rintro _ _ ⟨rfl, rfl⟩
    exact ycl
   rintro _ _ ⟨rfl, rfl⟩
   refine xju ?_
   refine zoq ?_
   exact xnp
 have hkn : k = C.clis.length := by omega
 subst hkn
 rw [zip_all]
 generalize hH2 : C.clis.zipIdx.foldl endH C.his = H
 clear okh hhe
 refine xdc ?_
 refine VC.loop (σ := Nat × Option Addr × Nat) (fun s => [(0, pV p), (43, .slice (some ⟨y.nb, 0, none⟩) y.nr.length y.nc), (44, .int .i64 y.nr.length), (45, .int .i64 (s.1 : Int))])
  (fun s => cluL p ({ C with his := H, done := (C.nodes.zipIdx.take s.1).foldl doneN C.done } : CluM) { y with da := s.2.1, dc := s.2.2 }) (fun s => s.1 ≤ y.nr.length) (fun s => y.nr.length - s.1) (0, y.da, y.dc)
  (Nat.zero_le _) sbZ ER ?_
 rintro ⟨k, da, dc⟩ hk0
 dsimp only at hk0
 have hdk : ((C.nodes.zipIdx.take k).foldl doneN C.done).length ≤ 4096 := CluM.Ok.doneNs hdn fun x hx r hr => ok.fit r (by
  have := List.mem_zipIdx' (x := x.1) (i := x.2) (List.mem_of_mem_take hx)
  rw [← hr]
  exact ME (by rw [GE this.1, ← this.2]))
 refine xjr ?_
 refine CP (p := (k : Int) < y.nr.length) rfl (fun h1 => CK ?_) (fun h1 => CX ?_)
 rotate_left
 ·have hkn : k = C.nodes.length := by omega
  subst hkn
  have hfin : C.behind = ({ C with his := H, done := (C.nodes.zipIdx.take C.nodes.length).foldl doneN C.done } : CluM) := by rw [zip_all, ← hH2]; rfl
  exact Ret.void rfl (clu_shut (p := p) (C := ({ C with his := H, done := (C.nodes.zipIdx.take C.nodes.length).foldl doneN C.done } : CluM)) (y := { y with da := da, dc := dc }) (R := []) ⟨fit.nr, fit.cr, fit.qc⟩).ent ⟨rfl, by rw [hfin]⟩
 have hkl : k < y.nr.length := by omega
 have hx2 : y.nr[k]? = some y.nr[k] := GE hkl
 generalize y.nr[k] = z at hx2
 obtain ⟨hnx, hns⟩ := node_at fit (k := k) (x := z) hx2
 have hsu := zip_succ doneN C.done hns
 generalize (C.nodes.zipIdx.take k).foldl doneN C.done = d at hdk hsu
 refine CS (VC.meetS (σ := Option Addr × Nat) (fun _ => [(0, pV p), (43, .slice (some ⟨y.nb, 0, none⟩) y.nr.length y.nc), (44, .int .i64 y.nr.length), (45, .int .i64 (k : Int))])
  (fun s => cluL p ({ C with his := H, done := (C.nodes.zipIdx.take (k + 1)).foldl doneN C.done } : CluM) { y with da := s.1, dc := s.2 }) (fun _ => True) ?_ ?_)
 rotate_left
 ·rintro ⟨da', dc'⟩ -
  refine zoq ?_
  exact ⟨(k + 1, da', dc'), by dsimp only; omega, by dsimp only; omega, SC rfl (SC rfl (SC rfl (Sub.int rfl yd (SN _)))), ER⟩
 have stay : doneN d (z.map Prod.snd, k) = d → cluL p ({ C with his := H, done := (C.nodes.zipIdx.take (k + 1)).foldl doneN C.done } : CluM) { y with da := da, dc := dc } = cluL p ({ C with his := H, done := d } : CluM) { y with da := da, dc := dc } := fun h => by rw [hsu, h]
 refine zov ?_
 refine VG (VO.load rfl rfl (RdL.one 3 rfl (nod_cell hx2)) ?_)
 cases z with
 | none =>
  refine xjr ?_
  refine VG (VY 52 true rfl rfl ?_)
  refine zoi ?_
  refine CX ?_
  exact ⟨(da, dc), trivial, sbZ, by dsimp only; rw [stay rfl]; exact ER⟩
 | some z =>
 obtain ⟨q, r⟩ := z
 have hm : some r ∈ C.nodes := ME hns
 have okr := (ok.fit r hm).ok
 have hcp : (y.nr.map nodP)[k]? = some (repH q r) := by rw [List.getElem?_map, hx2]; rfl
 have hdN : doneN d (some r, k) = if r.since = 0 ∨ r.ch.ms.length = 0 ∨ lastMem r.ch.ms ≠ k ∨ r.win.done ≤ d.length then d else d ++ (r.log.take r.win.done.toNat).drop d.length := rfl
 show VO _ _ _ _ (putE (some 49) (.pointer (some ⟨q, 0, none⟩)) _) _ _
 refine xjr ?_
 refine VG (VY 52 false rfl rfl ?_)
 refine xjs ?_
 refine VG (VV (fun Fr w hF hw hS => rsince_spec Fr w (((hS.at_ 8 rfl).sep).at_ k hcp)) rfl ?_)
 refine xjr ?_
 refine CP (p := r.since = 0) rfl (fun k1 => ?_) (fun k1 => CK ?_)
 ·refine CX ?_
  exact ⟨(da, dc), trivial, sbZ, by dsimp only; rw [stay (by show doneN d (some r, k) = d; rw [hdN, if_pos (.inl k1)])]; exact ER⟩
 refine xjr ?_
 refine VG (VK (Lc := []) (fun Fr w hF hw hS => Rep.chain_spec Fr w okr (((hS.at_ 8 rfl).sep).at_ k hcp)) rfl rfl ?_)
 rintro _ _ ⟨ma, mc, rfl, rfl⟩
 refine VO.opn 0 rfl (HOpn.rl memT ma mc r.ch.ms memC_len) ?_
 rintro ⟨ra, rc, rb, rcs, rxs⟩ ⟨rok, rv, rx⟩
 dsimp only at rx
 subst rx
 injection rv with e1 _ e3
 subst e1 e3
 refine xjr ?_
 refine VG (VI (light_fld (v := .slice ra r.ch.ms.length rc) Tryz.underlying74 rfl rfl (fun w => part1 (TabOk.look tabOk (t := 72) (ti := T.t72) rfl) rfl rfl w)) ?_)
 refine xjr ?_
 by_cases k2 : r.ch.ms.length = 0
 ·refine VG (VY 63 true rfl (DT yd) ?_)
  refine zoi ?_
  refine CX ?_
  exact ⟨(da, dc), trivial, sbZ, by dsimp only; rw [stay (by show doneN d (some r, k) = d; rw [hdN, if_pos (.inr (.inl k2))])]; exact Imp.tail.ent⟩
 have hml := okr.ch.len
 have hlm : r.ch.ms[r.ch.ms.length - 1]? = some r.ch.ms[r.ch.ms.length - 1] := GE yd
 generalize r.ch.ms[r.ch.ms.length - 1] = lm at hlm
 have hlq : lastMem r.ch.ms = lm.1 := by unfold lastMem; rw [List.getLast?_eq_getElem?, hlm]
 obtain ⟨tb, tof, htb, hta, hrd⟩ := RL.Ok.ld (t := memT) (k := r.ch.ms.length - 1) (x := lm) rok hlm (memC_len lm)
 dsimp only at hta
 subst hta
 refine VG (VY 63 false rfl (DF yd) ?_)
 refine xjs ?_
 refine xdz ?_
 rw [show ((r.ch.ms.length : Int) - 1) = ((r.ch.ms.length - 1 : Nat) : Int) by omega]
 refine VG (VI (light_idx (r.ch.ms.length - 1) rfl rfl rfl rfl rfl rfl yd) ?_)
 refine xjr ?_
 refine VG (VO.load rfl rfl ((hrd 0 rfl).2 _ 0 (.int .i64 lm.1) rfl rfl) ?_)
 refine xjr ?_
 refine VC.condNE rfl (fun k3 => ?_) (fun k3 => CK ?_)
 ·refine CX ?_
  exact ⟨(da, dc), trivial, sbZ, by dsimp only; rw [stay (by show doneN d (some r, k) = d; rw [hdN, if_pos (.inr (.inr (.inl (by rw [hlq]; exact k3))))])]; exact Imp.tail.ent⟩
 refine xjr ?_
 refine VG (VK (Lc := []) (fun Fr w hF hw hS => window_spec Fr w okr (((hS.at_ 9 rfl).sep).at_ k hcp)) rfl rfl ?_)
 rintro _ _ ⟨wq, rfl, rfl⟩
 refine xnq ?_
 refine xjr ?_
 refine xdp ?_
 refine CP (p := r.win.done ≤ (d.length : Int)) rfl (fun k4 => ?_) (fun k4 => CK ?_)
 ·refine CX ?_
  exact ⟨(da, dc), trivial, sbZ, by dsimp only; rw [stay (by show doneN d (some r, k) = d; rw [hdN, if_pos (.inr (.inr (.inr k4)))])]; exact (Imp.trans Imp.tail Imp.tail).ent⟩
 have hd1 := okr.win.done1
 have hd2 := okr.last
 have hd3 := okr.win.last1
 have hdE : doneN d (some r, k) = d ++ (r.log.drop d.length).take (r.win.done.toNat - d.length) := by
  rw [hdN, if_neg (by rw [hlq]; omega), List.drop_take]
 refine xjr ?_
 refine VG (VK (Lc := []) (fun Fr w hF hw hS => log_spec Fr w okr (((hS.at_ 10 rfl).sep).at_ k hcp)) rfl rfl ?_)
 rintro _ _ ⟨lq, rfl, rfl⟩
 refine xjr ?_
 refine xmh ?_
 refine VG (VP rfl rfl ybb ybb ?_)
 refine xjr ?_
 refine VC.loop (σ := Nat × Option Addr × Nat) (fun s => [(0, pV p), (9, .int .i64 r.win.done), (10, pV lq), (11, .int .i64 ((d.length : Int) + 1 + (s.1 : Int))), (43, .slice (some ⟨y.nb, 0, none⟩) y.nr.length y.nc), (44, .int .i64 y.nr.length), (45, .int .i64 (k : Int))])
  (fun s => logH lq r.log :: cluL p ({ C with his := H, done := d ++ (r.log.drop d.length).take s.1 } : CluM) { y with da := s.2.1, dc := s.2.2 }) (fun s => (d.length : Int) + s.1 ≤ r.win.done) (fun s => (r.win.done - d.length).toNat - s.1) (0, da, dc)
  ybb (SC rfl (SC rfl (SC rfl (Sub.int rfl ybb sbZ)))) (by dsimp only; rw [List.take_zero, List.append_nil]; exact (Imp.cons (Imp.trans Imp.tail Imp.tail)).ent) ?_
 rintro ⟨j, da', dc'⟩ hj
 dsimp only at hj ⊢
 refine xjr ?_
 refine CP (p := (d.length : Int) + 1 + j ≤ r.win.done) rfl (fun k5 => CK ?_) (fun k5 => CX ?_)
 rotate_left
 ·have hjj : j = r.win.done.toNat - d.length := by omega
  subst hjj
  exact ⟨(da', dc'), trivial, sbZ, by dsimp only; rw [hsu]; show Ent _ _ (cluL p ({ C with his := H, done := doneN d (some r, k) } : CluM) _); rw [hdE]; exact Imp.tail.ent⟩
 have hle : r.log[d.length + j]? = some r.log[d.length + j] := GE yd
 generalize r.log[d.length + j] = e0 at hle
 have hat : atI r.log ((d.length : Int) + 1 + j) = some e0 := by
  unfold atI
  rw [if_pos yd, ← hle]
  congr 1
  omega
 have htk : d ++ (r.log.drop d.length).take (j + 1) = (d ++ (r.log.drop d.length).take j) ++ [e0] := by
  rw [List.take_add_one, List.getElem?_drop, hle, List.append_assoc]
  rfl
 have hDl : (d ++ (r.log.drop d.length).take j).length ≤ 10000 := by
  rw [List.length_append, List.length_take, List.length_drop]; omega
 generalize hDD : d ++ (r.log.drop d.length).take j = D at htk hDl
 refine xjr ?_
 refine VG (VV (fun Fr w hF hw hS => Lg.at_spec Fr w (hS.at_ 0 rfl) ((d.length : Int) + 1 + j) yd yd) rfl ?_)
 rw [hat]
 refine xjr ?_
 refine VG (VO.alloc rfl fun eb => ?_)
 refine VG (VT (vs := entC e0) (cs' := entC e0) 0 rfl rfl rfl rfl (NR _) rfl rfl rfl ?_)
 refine zos ?_
 refine CD (ts 0 6 (.only 6 (.only 7 (ts 8 2 (.only 10 .nil))))) ym yq ?_
 refine xgb ?_
 refine AG (VA.ldA 0 (entC e0) rfl rfl rfl rfl rfl ?_)
 refine AG (AO (OpT.buildSlice (n := 1) (pv := [(0, .agg (entC e0).toArray)]) (cells := entC e0) rfl rfl rfl rfl yo (fill_one rfl rfl rfl)) rfl (fun v L' g => by obtain ⟨nb, rfl, rfl⟩ := g; exact (by (try refine Pd.st ?_);(repeat (first|exact Pd.nil|exact Pd.fnil|refine Pd.inner ?_|refine Pd.skip yq ?_|refine zf (zo 0 rfl rfl) ?_|refine zf (zo 1 rfl rfl) ?_|refine zf (zo 2 rfl rfl) ?_|refine zf (zo 3 rfl rfl) ?_|refine zf (zm 0 rfl rfl) ?_|refine zf (zm 1 rfl rfl) ?_|refine zf (zm 2 rfl rfl) ?_|refine zf (zm 3 rfl rfl) ?_|refine zf (RdL.blk (RdL.many 1 rfl rfl) rfl) ?_|refine zf ((RdL.many 1 rfl rfl)) ?_|refine zc (zo 0 rfl rfl) ?_|refine zc (zo 1 rfl rfl) ?_|refine zc (zo 2 rfl rfl) ?_|refine zc (zo 3 rfl rfl) ?_|refine zc (zm 0 rfl rfl) ?_|refine zc (zm 1 rfl rfl) ?_|refine zc (zm 2 rfl rfl) ?_|refine zc (zm 3 rfl rfl) ?_|refine zc (RdL.blk (RdL.many 1 rfl rfl) rfl) ?_|refine zc ((RdL.many 1 rfl rfl)) ?_)))) ?_)
 rintro _ _ ⟨nb, rfl, rfl⟩
 refine AG (AO (OpT.append (m := 1) (news := entC e0) 10 rfl rfl rfl rfl rfl rfl rfl (RdRow.pt 0 rfl rfl rfl) rfl (few_bytes (k := 20000) ybb yo) ybb) rfl (fun v L' g => by obtain ⟨a2, c2, rfl, hc2, rfl⟩ := g; exact ycm) ?_)
 rintro _ _ ⟨a2, c2, rfl, hc2, rfl⟩
 refine xfd ?_
 refine AG (VA.st 4 (cs' := cluC ({ C with his := H, done := D ++ [e0] } : CluM) { y with da := a2, dc := c2 }) rfl rfl rfl rfl rfl (by show 18 < 19; omega) (by unfold cluC; dsimp only; rw [List.length_append]; rfl) rfl ycm ?_)
 refine xju ?_
 refine zoq ?_
 refine ⟨(j + 1, a2, c2), by dsimp only; omega, by dsimp only; omega, SC rfl (SC rfl (SC rfl (Sub.int rfl yd sbZ))), ?_⟩
 dsimp only
 rw [htk]
 refine Imp.ent ?_
 refine IP 3 rfl (IP 3 rfl (IP 3 rfl (IP 3 rfl (IP 3 rfl (IP 3 rfl (IP 3 rfl (IP 3 rfl ?_)))))))
 rw [flat_append, List.length_append]
 exact (pkZ [0, 2, 2])
end
end Cl
namespace Cl
open Go Vg T Api Ch Rep Conf Lg Rd
attribute [local irreducible] VO VC VA
theorem st_1 (C : CluM) {s : StpM} (h : s.kind = 1) : C.step s = C.call s := by
 unfold CluM.step
 rw [if_pos h]
theorem st_2 (C : CluM) {s : StpM} (h : s.kind = 2) : C.step s = match C.node s.a with
  | none => (C, C.upE s.a)
  | some r => ((C.setNode s.a (some (stepR r C.now).1)).post s.a (ofS (stepR r C.now).2), 0) := by
 unfold CluM.step
 rw [if_neg ybw, if_pos h] <;> rfl
theorem st_3 (C : CluM) {s : StpM} (h : s.kind = 3) : C.step s = (C.tick, 0) := by
 unfold CluM.step
 rw [if_neg ybw, if_neg ybw, if_pos h]
theorem st_4 (C : CluM) {s : StpM} (h : s.kind = 4) : C.step s = C.deliver (s.a, s.b) s.c := by
 unfold CluM.step
 rw [if_neg ybw, if_neg ybw, if_neg ybw, if_pos h]
theorem st_5 (C : CluM) {s : StpM} (h : s.kind = 5) : C.step s = ({ C with lnk := (C.lnk.drop (s.a, s.b) s.c).1 }, (C.lnk.drop (s.a, s.b) s.c).2) := by
 unfold CluM.step
 rw [if_neg ybw, if_neg ybw, if_neg ybw, if_neg ybw, if_pos h]
theorem st_6 (C : CluM) {s : StpM} (h : s.kind = 6) : C.step s = ({ C with lnk := (C.lnk.double (s.a, s.b) s.c).1 }, (C.lnk.double (s.a, s.b) s.c).2) := by
 unfold CluM.step
 rw [if_neg ybw, if_neg ybw, if_neg ybw, if_neg ybw, if_neg ybw, if_pos h]
theorem st_7 (C : CluM) {s : StpM} (h : s.kind = 7) : C.step s = if C.upE s.a ≠ 0 then (C, C.upE s.a) else (C.setNode s.a none, 0) := by
 unfold CluM.step
 rw [if_neg ybw, if_neg ybw, if_neg ybw, if_neg ybw, if_neg ybw, if_neg ybw, if_pos h]
theorem st_8 (C : CluM) {s : StpM} (h : s.kind = 8) : C.step s = (({ C with mas := (C.mas.suspect s.a).1 } : CluM).post 16 (C.mas.suspect s.a).2.1, (C.mas.suspect s.a).2.2) := by
 unfold CluM.step
 rw [if_neg ybw, if_neg ybw, if_neg ybw, if_neg ybw, if_neg ybw, if_neg ybw, if_neg ybw, if_pos h]
theorem st_9 (C : CluM) {s : StpM} (h : s.kind = 9) : C.step s = C.join s.a := by
 unfold CluM.step
 rw [if_neg ybw, if_neg ybw, if_neg ybw, if_neg ybw, if_neg ybw, if_neg ybw, if_neg ybw, if_neg ybw, if_pos h]
theorem st_10 (C : CluM) {s : StpM} (h : s.kind = 10) : C.step s = (({ C with mas := (C.mas.drain s.a).1 } : CluM).post 16 (C.mas.drain s.a).2.1, (C.mas.drain s.a).2.2) := by
 unfold CluM.step
 rw [if_neg ybw, if_neg ybw, if_neg ybw, if_neg ybw, if_neg ybw, if_neg ybw, if_neg ybw, if_neg ybw, if_neg ybw, if_pos h]
theorem st_11 (C : CluM) {s : StpM} (h : s.kind = 11) : C.step s = (({ C with mas := (C.mas.tick C.now).1 } : CluM).post 16 (C.mas.tick C.now).2, 0) := by
 unfold CluM.step
 rw [if_neg ybw, if_neg ybw, if_neg ybw, if_neg ybw, if_neg ybw, if_neg ybw, if_neg ybw, if_neg ybw, if_neg ybw, if_neg ybw, if_pos h]
theorem st_no (C : CluM) {s : StpM} (h : ∀ k : Nat, 1 ≤ k → k ≤ 11 → s.kind ≠ k) : C.step s = (C, 2) := by
 unfold CluM.step
 rw [if_neg (show ¬ s.kind = 1 from h 1 yo yo), if_neg (show ¬ s.kind = 2 from h 2 yo yo), if_neg (show ¬ s.kind = 3 from h 3 yo yo), if_neg (show ¬ s.kind = 4 from h 4 yo yo), if_neg (show ¬ s.kind = 5 from h 5 yo yo), if_neg (show ¬ s.kind = 6 from h 6 yo yo), if_neg (show ¬ s.kind = 7 from h 7 yo yo), if_neg (show ¬ s.kind = 8 from h 8 yo yo), if_neg (show ¬ s.kind = 9 from h 9 yo yo), if_neg (show ¬ s.kind = 10 from h 10 yo yo), if_neg (show ¬ s.kind = 11 from h 11 yo yo)]
theorem up_0 {C : CluM} {n : Int} (h : C.upE n = 0) : ∃ (k : Nat) (r : RepM), n = k ∧ C.nodes[k]? = some (some r) ∧ C.node n = some r := by
 unfold CluM.upE at h
 split at h
 ·cases h
 ·rename_i h1
  split at h
  ·cases h
  ·rename_i h2
   cases hn : C.node n with
   | none => rw [hn] at h2; exact absurd rfl h2
   | some r =>
    refine ⟨n.toNat, r, by omega, ?_, rfl⟩
    unfold CluM.node at hn
    rw [if_neg yd] at hn
    cases hx : C.nodes[n.toNat]? with
    | none => rw [hx] at hn; cases hn
    | some x => rw [hx] at hn; obtain rfl : x = some r := hn; rfl
theorem up_ne {C : CluM} {n : Int} (h : C.upE n ≠ 0) : C.node n = none := by
 unfold CluM.upE at h
 split at h
 ·rename_i h1
  unfold CluM.node
  split
  ·rfl
  ·rw [List.getElem?_eq_none yd]; rfl
 ·split at h
  ·rename_i h2
   cases hn : C.node n with
   | none => rfl
   | some r => rw [hn] at h2; cases h2
  ·exact absurd rfl h
section
variable {p : Nat} {C : CluM} {y : CluS} {b e : Nat}
theorem node_of (fit : CluFit C y) {k : Nat} {r : RepM} (h : C.nodes[k]? = some (some r)) : ∃ q, y.nr[k]? = some (some (q, r)) := by
 rw [← fit.nr, List.getElem?_map] at h
 cases hz : y.nr[k]? with
 | none => rw [hz] at h; cases h
 | some z =>
  rw [hz] at h
  cases z with
  | none => cases h
  | some z => cases h; exact ⟨z.1, rfl⟩
theorem crash_shut (fit : CluFit C y) {k : Nat} (hk : k < y.nr.length) {R : List HP} : Imp ([pt p (cluC C y) cluT, intH y.qa y.qc C.conf.qs, masH y.mp C.mas, pt y.nb (flat nodC (y.nr.set k none) ++ y.nx) rpT, pt y.cb (flat cliV y.cr ++ y.cx) cpT, lnkH y.lp C.lnk, hisH y.hp C.his, slH entT 7 y.da C.done.length y.dc (flat entC C.done), hsep (y.nr.map nodP), hsep (y.cr.map cliP)] ++ R) [cluH p (C.setNode k none)] := by
 have hz : y.nr[k]? = some y.nr[k] := GE hk
 have e1 := node_cells (C := C) (y := y) (k := k) (x := none) (C.setNode k none) rfl rfl rfl
 refine Imp.trans (Imp.app (M := _) (M' := []) (IP 8 rfl Imp.refl) Imp.nil) ?_
 refine Imp.trans (Imp.of_eq (List.append_nil _)) ?_
 refine Imp.trans (many_take (f := nodP) hz) ?_
 refine Imp.trans Imp.tail ?_
 refine Imp.trans (M := nodP none :: hsep ((y.nr.eraseIdx k).map nodP) :: _) (Imp.pure trivial Imp.refl) ?_
 refine Imp.trans (many_put (f := nodP) hk none) ?_
 refine Imp.clu (K := []) (y.node k none) ⟨by show (y.nr.set k none).map _ = C.nodes.set k none; rw [List.map_set, fit.nr]; rfl, fit.cr, fit.qc⟩ ?_
 unfold cluL
 rw [e1]
 exact (pkZ [1, 1, 1, 1, 1, 1, 1, 1, 0, 0])
theorem ustep_spec (ok : C.Ok b e) (hb : b < 100000) (he : e < 1000000) (s : StpM) : Tri Tryz.prog 49 [.pointer (some ⟨p, 0, none⟩), .agg s.cells.toArray] Fr w [cluH p C]
  (fun v L => v = .int .i64 (C.step s).2 ∧ L = [cluH p (C.step s).1]) := by
 refine TF 151 Tryz.func49 rfl ym tabOk rfl rfl ?_
 refine CS (CG (VG (VB (vs := s.cells) rfl fun sb => ?_)))
 have opn : ∀ {c : Code} {e : Env} {Q : Exit → Env → List HP → Prop}, (∀ y, CluFit C y → VC ⟨Tryz.prog, tab, tabOk, 151, Fr, w⟩ c e (pt sb s.cells doT :: cluL p C y) Q) → VC ⟨Tryz.prog, tab, tabOk, 151, Fr, w⟩ c e [pt sb s.cells doT, cluH p C] Q := fun h => by
  refine VC.opn 1 rfl (HOpn.clu p C) ?_
  rintro y fit
  exact CN (IP 10 rfl Imp.refl).ent (h y fit)
 refine xdc ?_
 refine CP (p := s.kind = 1) rfl (fun h => ?_) (fun h1 => ?_)
 ·have hr := st_1 C h
  refine xjr ?_
  refine VG (VL 0 s.cells rfl rfl rfl rfl ?_)
  refine VG (VQ 1 rfl (fun Fr w hF hs hS => ucall_spec Fr w ok hb he s) rfl (ψ := fun v H => v = .int .i64 (C.call s).2 ∧ H = cluH p (C.call s).1) yy ?_)
  rintro _ _ ⟨rfl, rfl⟩
  refine xjr ?_
  exact CR (Ret.tmp 4 rfl rfl (Imp.tail (H := pt sb _ doT) (L := [cluH p (C.call s).1])).ent ⟨by rw [hr], by rw [hr]⟩)
 refine xjr ?_
 refine CP (p := s.kind = 2) rfl (fun h => ?_) (fun h2 => ?_)
 ·have hr := st_2 C h
  refine opn fun y fit => ?_
  refine xdc ?_
  refine xnr ?_
  refine xjr ?_
  refine VC.condNE rfl (fun k1 => ?_) (fun k1 => CK ?_)
  ·rw [up_ne k1] at hr
   refine xjr ?_
   exact xns
  obtain ⟨k, r, hk, hkr, hnr⟩ := up_0 (C := C) (n := s.a) ycf
  obtain ⟨q, hx⟩ := node_of fit hkr
  have hkl := (List.getElem?_eq_some_iff.1 hx).1
  have hm : some r ∈ C.nodes := ME hkr
  have okr := (ok.fit r hm).ok
  have fw : FewS (ofS (stepR r C.now).2) := FewS.of (step_few okr C.now)
  rw [hnr] at hr
  dsimp only at hr
  obtain ⟨kd, sa, sx, sc, op⟩ := s
  dsimp only at hk hr k1
  subst hk
  refine CN (L' := pt sb (⟨kd, k, sx, sc, op⟩ : StpM).cells doT :: repH q r :: cnL p C y k C.lnk) (Imp.cons (node_out hx)).ent ?_
  refine CD (ts 0 15 (.only 15 (.only 16 .nil))) ym yq ?_
  refine xgb ?_
  refine AG (AI rfl (light_idx k rfl rfl rfl rfl rfl rfl hkl) ?_)
  refine AG (yE rfl rfl rfl (RdL.one 5 rfl (nod_cell hx)) ?_)
  refine xgb ?_
  refine AG (AQ 1 rfl (fun Fr w hF hs hS => vstep_spec Fr w okr C.now) rfl rfl ycg ?_ ?_)
  ·rintro _ _ ⟨X, a, c, hX, rfl, rfl⟩
   exact ycn
  rintro _ _ ⟨X, a, c, hX, rfl, rfl⟩
  refine AG (AQ 7 rfl (fun Fr w hF hs hS => usend_spec Fr w (hS.blk 2 rfl) ok.lnk k (SdIn.at_ 1 hS rfl hX fw)) rfl rfl (ψ := fun v H => v = .tuple #[] ∧ H = lnkH y.lp (postL k C.lnk (X.map Prod.fst))) yy ?_ ?_)
  ·rintro _ _ ⟨rfl, rfl⟩
   exact ycn
  rintro _ _ ⟨rfl, rfl⟩
  rw [hX]
  refine zou ?_
  exact CR (Ret.tmp 4 rfl rfl (Imp.trans (Imp.tail (H := pt sb _ doT)) (node_shut (p := p) (r' := (stepR r C.now).1) (l := postL k C.lnk (ofS (stepR r C.now).2)) (a := a) (c := c) (X := X) (R := []) fit hx)).ent ⟨by rw [hr], by rw [hr]; rfl⟩)
 refine xjr ?_
 refine CP (p := s.kind = 3) rfl (fun h => ?_) (fun h3 => ?_)
 ·have hr := st_3 C h
  refine xjr ?_
  refine VG (VQ 1 rfl (fun Fr w hF hs hS => utick_spec Fr w ok) rfl (ψ := fun v H => v = .tuple #[] ∧ H = cluH p C.tick) yy ?_)
  rintro _ _ ⟨rfl, rfl⟩
  refine xjr ?_
  exact CR (Ret.tmp 4 rfl rfl (Imp.tail (H := pt sb _ doT) (L := [cluH p C.tick])).ent ⟨by rw [hr], by rw [hr]⟩)
 refine xjr ?_
 refine CP (p := s.kind = 11) rfl (fun h => ?_) (fun h11 => ?_)
 ·have hr := st_11 C h
  refine opn fun y fit => ?_
  refine xnt ?_
  have fw := ok.mas.tick_few C.now
  refine CD (ts 0 9 (.only 9 (.only 10 .nil))) ym yq ?_
  refine xgb ?_
  refine AG (AQ 1 rfl (fun Fr w hF hs hS => vmtick_spec Fr w ok.mas C.now) rfl rfl ycg ?_ ?_)
  ·rintro _ _ ⟨X, a, c, hX, rfl, rfl⟩
   exact yr
  rintro _ _ ⟨X, a, c, hX, rfl, rfl⟩
  refine AG (AQ 6 rfl (fun Fr w hF hs hS => usend_spec Fr w (hS.blk 2 rfl) ok.lnk 16 (SdIn.at_ 1 hS rfl hX fw)) rfl rfl (ψ := fun v H => v = .tuple #[] ∧ H = lnkH y.lp (postL 16 C.lnk (X.map Prod.fst))) yy ?_ ?_)
  ·rintro _ _ ⟨rfl, rfl⟩
   exact yr
  rintro _ _ ⟨rfl, rfl⟩
  rw [hX]
  refine zou ?_
  exact CR (Ret.tmp 4 rfl rfl (Imp.trans (Imp.tail (H := pt sb _ doT)) (mas_shut (p := p) (C := C) (m := (C.mas.tick C.now).1) (l := postL 16 C.lnk (C.mas.tick C.now).2) (a := a) (c := c) (X := X) (R := []) fit)).ent ⟨by rw [hr], by rw [hr]; rfl⟩)
 refine xjr ?_
 refine CP (p := s.kind = 4) rfl (fun h => ?_) (fun h4 => ?_)
 ·have hr := st_4 C h
  refine xdc ?_
  refine VG (VQ 1 rfl (fun Fr w hF hs hS => udeliver_spec Fr w ok yd s.a s.b s.c) rfl (ψ := fun v H => v = .int .i64 (C.deliver (s.a, s.b) s.c).2 ∧ H = cluH p (C.deliver (s.a, s.b) s.c).1) yy ?_)
  rintro _ _ ⟨rfl, rfl⟩
  refine xjr ?_
  exact CR (Ret.tmp 4 rfl rfl (Imp.tail (H := pt sb _ doT) (L := [cluH p (C.deliver (s.a, s.b) s.c).1])).ent ⟨by rw [hr], by rw [hr]⟩)
 refine xjr ?_
 refine CP (p := s.kind = 5) rfl (fun h => ?_) (fun h5 => ?_)
 ·have hr := st_5 C h
  refine opn fun y fit => ?_
  refine xjr ?_
  refine xnu ?_
  refine xga ?_
  refine AG (AQ 6 rfl (fun Fr w hF hs hS => ldrop_spec Fr w ok.lnk s.a s.b s.c) rfl rfl (ψ := fun v H => v = .int .i64 (C.lnk.drop (s.a, s.b) s.c).2 ∧ H = lnkH y.lp (C.lnk.drop (s.a, s.b) s.c).1) yy ?_ ?_)
  ·rintro _ _ ⟨rfl, rfl⟩
   exact yr
  rintro _ _ ⟨rfl, rfl⟩
  refine xga ?_
  refine xjr ?_
  exact CR (Ret.tmp 4 rfl rfl (Imp.trans (Imp.tail (H := pt sb _ doT)) (clu_shut (p := p) (C := ({ C with lnk := (C.lnk.drop (s.a, s.b) s.c).1 } : CluM)) (y := y) (R := []) ⟨fit.nr, fit.cr, fit.qc⟩)).ent ⟨by rw [hr], by rw [hr]⟩)
 refine xjr ?_
 refine CP (p := s.kind = 6) rfl (fun h => ?_) (fun h6 => ?_)
 ·have hr := st_6 C h
  refine opn fun y fit => ?_
  refine xjr ?_
  refine xnu ?_
  refine xga ?_
  refine AG (AQ 6 rfl (fun Fr w hF hs hS => ldouble_spec Fr w ok.lnk s.a s.b s.c) rfl rfl (ψ := fun v H => v = .int .i64 (C.lnk.double (s.a, s.b) s.c).2 ∧ H = lnkH y.lp (C.lnk.double (s.a, s.b) s.c).1) yy ?_ ?_)
  ·rintro _ _ ⟨rfl, rfl⟩
   exact yr
  rintro _ _ ⟨rfl, rfl⟩
  refine xga ?_
  refine xjr ?_
  exact CR (Ret.tmp 4 rfl rfl (Imp.trans (Imp.tail (H := pt sb _ doT)) (clu_shut (p := p) (C := ({ C with lnk := (C.lnk.double (s.a, s.b) s.c).1 } : CluM)) (y := y) (R := []) ⟨fit.nr, fit.cr, fit.qc⟩)).ent ⟨by rw [hr], by rw [hr]⟩)
 refine xjr ?_
 refine CP (p := s.kind = 7) rfl (fun h => ?_) (fun h7 => ?_)
 ·have hr := st_7 C h
  refine opn fun y fit => ?_
  refine xdc ?_
  refine xnr ?_
  refine xjr ?_
  refine VC.condNE rfl (fun k1 => ?_) (fun k1 => CK ?_)
  ·rw [if_pos k1] at hr
   refine xjr ?_
   exact xns
  rw [if_neg (fun g => g ycf)] at hr
  obtain ⟨k, r, hk, hkr, hnr⟩ := up_0 (C := C) (n := s.a) ycf
  obtain ⟨q, hx⟩ := node_of fit hkr
  have hkl := (List.getElem?_eq_some_iff.1 hx).1
  obtain ⟨kd, sa, sx, sc, op⟩ := s
  dsimp only at hk hr k1
  subst hk
  refine CD (ts 0 7 (.only 7 .nil)) ym yq ?_
  refine xga ?_
  refine AG (AI rfl (light_idx k rfl rfl rfl rfl rfl rfl hkl) ?_)
  refine AG (VA.st 4 (cs' := flat nodC (y.nr.set k none) ++ y.nx) rfl rfl rfl rfl rfl ycj (nod_store none hkl y.nx) rfl yr ?_)
  refine zou ?_
  exact CR (Ret.tmp 4 rfl rfl (Imp.trans (Imp.tail (H := pt sb _ doT)) (crash_shut (p := p) (C := C) (R := []) fit hkl)).ent ⟨by rw [hr], by rw [hr]⟩)
 refine xjr ?_
 refine CP (p := s.kind = 8) rfl (fun h => ?_) (fun h8 => ?_)
 ·have hr := st_8 C h
  refine opn fun y fit => ?_
  refine xnt ?_
  have fw := (ok.mas.suspect_few s.a).1
  refine xjr ?_
  refine CD (ts 0 6 (.only 6 (ts 7 5 .nil))) ym yq ?_
  refine xgb ?_
  refine AG (AQ 1 rfl (fun Fr w hF hs hS => vsuspect_spec Fr w ok.mas s.a) rfl rfl ycg ?_ ?_)
  ·rintro _ _ ⟨X, a, c, hX, rfl, rfl⟩
   exact yr
  rintro _ _ ⟨X, a, c, hX, rfl, rfl⟩
  refine xgb ?_
  refine xjr ?_
  refine xnv ?_
  rintro _ _ ⟨rfl, rfl⟩
  rw [hX]
  refine xjr ?_
  exact CR (Ret.tmp 4 rfl rfl (Imp.trans (Imp.tail (H := pt sb _ doT)) (mas_shut (p := p) (C := C) (m := (C.mas.suspect s.a).1) (l := postL 16 C.lnk (C.mas.suspect s.a).2.1) (a := a) (c := c) (X := X) (R := []) fit)).ent ⟨by rw [hr], by rw [hr]; rfl⟩)
 refine xjr ?_
 refine CP (p := s.kind = 9) rfl (fun h => ?_) (fun h9 => ?_)
 ·have hr := st_9 C h
  refine xdc ?_
  refine VG (VQ 1 rfl (fun Fr w hF hs hS => ujoin_spec Fr w ok yd s.a) rfl (ψ := fun v H => v = .int .i64 (C.join s.a).2 ∧ H = cluH p (C.join s.a).1) yy ?_)
  rintro _ _ ⟨rfl, rfl⟩
  refine xjr ?_
  exact CR (Ret.tmp 4 rfl rfl (Imp.tail (H := pt sb _ doT) (L := [cluH p (C.join s.a).1])).ent ⟨by rw [hr], by rw [hr]⟩)
 refine xjr ?_
 refine CP (p := s.kind = 10) rfl (fun h => ?_) (fun h10 => ?_)
 ·have hr := st_10 C h
  refine opn fun y fit => ?_
  refine xnt ?_
  have fw := (ok.mas.drain_few s.a).1
  refine xjr ?_
  refine CD (ts 0 6 (.only 6 (ts 7 5 .nil))) ym yq ?_
  refine xgb ?_
  refine AG (AQ 1 rfl (fun Fr w hF hs hS => vdrain_spec Fr w ok.mas s.a) rfl rfl ycg ?_ ?_)
  ·rintro _ _ ⟨X, a, c, hX, rfl, rfl⟩
   exact yr
  rintro _ _ ⟨X, a, c, hX, rfl, rfl⟩
  refine xgb ?_
  refine xjr ?_
  refine xnv ?_
  rintro _ _ ⟨rfl, rfl⟩
  rw [hX]
  refine xjr ?_
  exact CR (Ret.tmp 4 rfl rfl (Imp.trans (Imp.tail (H := pt sb _ doT)) (mas_shut (p := p) (C := C) (m := (C.mas.drain s.a).1) (l := postL 16 C.lnk (C.mas.drain s.a).2.1) (a := a) (c := c) (X := X) (R := []) fit)).ent ⟨by rw [hr], by rw [hr]; rfl⟩)
 refine xjr ?_
 have hr := st_no C (s := s) (fun k k1 k2 => by
  rcases (by omega : k = 1 ∨ k = 2 ∨ k = 3 ∨ k = 4 ∨ k = 5 ∨ k = 6 ∨ k = 7 ∨ k = 8 ∨ k = 9 ∨ k = 10 ∨ k = 11) with rfl | rfl | rfl | rfl | rfl | rfl | rfl | rfl | rfl | rfl | rfl <;> assumption)
 exact CR (Ret.tmp 4 rfl rfl Imp.tail.ent ⟨by rw [hr], by rw [hr]⟩)
end
end Cl
namespace Cl
open Go Vg T Api Ch Rep Conf Lg Rd
attribute [local irreducible] VO VC VA
section
variable {p : Nat} {C : CluM} {y : CluS} {b e : Nat}
theorem made_in (h : SatIn Fr [cluH p C] w) : Tri Tryz.prog 41 [.pointer (some ⟨p, 0, none⟩)] Fr w [] (fun v L => v = .bool true ∧ L = []) := by
 obtain ⟨y, fit, hy⟩ := clu_in h
 exact umade_spec Fr w (hy.blk 0 rfl)
theorem udo_spec (ok : C.Ok b e) (hb : b < 100000) (he : e < 900000) (s : StpM) : Tri Tryz.prog 25 [.pointer (some ⟨p, 0, none⟩), .agg s.cells.toArray] Fr w [cluH p C]
  (fun v L => v = .int .i64 (C.do_ s).2 ∧ L = [cluH p (C.do_ s).1]) := by
 have ok2 := ok.step hb yd s
 refine TF 15 Tryz.func25 rfl ym tabOk rfl rfl ?_
 refine CS (CG (VG (VB (vs := s.cells) rfl fun sb => ?_)))
 refine xjr ?_
 refine VG (VV (fun Fr w hF hw hS => made_in Fr w (hS.at_ 1 rfl)) rfl ?_)
 refine zot ?_
 refine VG (VL 0 s.cells rfl rfl rfl rfl ?_)
 refine VG (VQ 1 rfl (fun Fr w hF hs hS => ustep_spec Fr w ok hb yd s) rfl (ψ := fun v H => v = .int .i64 (C.step s).2 ∧ H = cluH p (C.step s).1) yy ?_)
 rintro _ _ ⟨rfl, rfl⟩
 refine xjr ?_
 refine VG (VQ 1 rfl (fun Fr w hF hs hS => ubehind_spec Fr w ok2 yd) rfl (ψ := fun v H => v = .tuple #[] ∧ H = cluH p (C.step s).1.behind) yy ?_)
 rintro _ _ ⟨rfl, rfl⟩
 refine xjr ?_
 exact CR (Ret.tmp 4 rfl rfl (Imp.tail (H := pt sb _ doT) (L := [cluH p (C.do_ s).1])).ent ⟨rfl, rfl⟩)
theorem unow_spec (h : SatIn Fr [cluH p C] w) : Tri Tryz.prog 17 [.pointer (some ⟨p, 0, none⟩)] Fr w [] (fun v L => v = .int .i64 C.now ∧ L = []) := by
 obtain ⟨y, fit, hy⟩ := clu_in h
 have hb := hy.blk 0 rfl
 refine TF 10 Tryz.func17 rfl ym tabOk rfl rfl ?_
 refine xjs ?_
 refine xnw ?_
 refine zor ?_
 refine xib ?_
 exact xex
theorem umaster_spec (hb : Blk Fr w p (cluC C y)) : Tri Tryz.prog 26 [.pointer (some ⟨p, 0, none⟩)] Fr w [] (fun v L => v = .pointer (some ⟨y.mp, 0, none⟩) ∧ L = []) := by
 refine TF 10 Tryz.func26 rfl ym tabOk rfl rfl ?_
 refine xjs ?_
 refine xnw ?_
 refine zor ?_
 refine xib ?_
 exact xex
theorem lnkH_in {Fr : Nat → Prop} {w : World} {q : Nat} {S : LnkM} (h : SatIn Fr [lnkH q S] w) : ∃ b X, erX X = S.mail ∧ SatIn Fr (lnkL q S b X) w := by
 obtain ⟨⟨b, X⟩, hx⟩ := h.ex
 have hs := hx.sep
 exact ⟨b, X, hs.pure 0 rfl, hs.tail⟩
theorem ulinks_spec (ok : C.lnk.Ok) (hb : Blk Fr w p (cluC C y)) (hl : SatIn Fr [lnkH y.lp C.lnk] w) : Tri Tryz.prog 75 [.pointer (some ⟨p, 0, none⟩)] Fr w [] (fun v L => ∃ q m, m.Perm C.lnk.mail ∧ v = .pointer (some ⟨q, 0, none⟩) ∧ L = [lnkH q ⟨C.lnk.cap, m⟩]) := by
 obtain ⟨lb, X, hX, hs⟩ := lnkH_in hl
 have h1 := hs.blk 0 rfl
 have h2 := hs.mapBlk 1 rfl
 have h3 := lk_rows (A := [_, _]) hs
 refine TF 11 Tryz.func75 rfl ym tabOk rfl rfl ?_
 refine xjs ?_
 refine xnw ?_
 refine zor ?_
 refine xib ?_
 refine VG (VK (Lc := []) (fun Fr w hF hw _ => lcopy_spec Fr w ok (h1.of hF hw) ⟨hF _ h2.fr, h2.at_.loc (hw.keep.block _ h2.fr)⟩ (fun z hz => (h3 z hz).of hF hw) hX) rfl rfl ?_)
 rintro _ _ ⟨q, m, hm, rfl, rfl⟩
 refine xjs ?_
 exact CR (Ret.tmp 2 rfl rfl ER ⟨q, m, hm, rfl, rfl⟩)
theorem unode_spec (fit : CluFit C y) (hb : Blk Fr w p (cluC C y)) (hr : Blk Fr w y.nb (flat nodC y.nr ++ y.nx)) {n : Int} : Tri Tryz.prog 30 [.pointer (some ⟨p, 0, none⟩), .int .i64 n] Fr w []
  (fun v L => (match C.node n with
   | none => v = .pointer none
   | some r => ∃ k q, n = (k : Nat) ∧ y.nr[k]? = some (some (q, r)) ∧ v = .pointer (some ⟨q, 0, none⟩)) ∧ L = []) := by
 refine TF 21 Tryz.func30 rfl ym tabOk rfl rfl ?_
 refine xjs ?_
 refine xnw ?_
 refine xjs ?_
 refine xfh ?_
 refine xjs ?_
 refine VG (VV (fun Fr w hF hs _ => up_spec Fr w fit (hb.of hF hs) (hr.of hF hs) n) rfl ?_)
 refine xjs ?_
 refine VC.condNE rfl (fun k1 => ?_) (fun k1 => CK ?_)
 ·refine xjs ?_
  exact CR (Ret.tmp 4 rfl rfl ER ⟨by rw [up_ne k1], rfl⟩)
 obtain ⟨k, r, rfl, hkr, hnr⟩ := up_0 (C := C) (n := n) ycf
 obtain ⟨q, hx⟩ := node_of fit hkr
 have hkl := (List.getElem?_eq_some_iff.1 hx).1
 refine xib ?_
 refine VG (VI (light_idx k rfl rfl rfl rfl rfl rfl hkl) ?_)
 refine VG (VO.load rfl rfl (RdL.blk hr (nod_cell hx)) ?_)
 refine xjs ?_
 exact CR (Ret.tmp 4 rfl rfl ER ⟨by rw [hnr]; exact ⟨k, q, rfl, hx, rfl⟩, rfl⟩)
end
def cluZ : List Value := [.int .i64 0, .int .i64 0, .int .i64 0, .slice none 0 0, .int .i64 0, .int .i64 0, .int .i64 0, .int .i64 0, .int .i64 0, .int .i64 0, .int .i64 0, .int .i64 0, .int .i64 0, .pointer none, .slice none 0 0, .slice none 0 0, .pointer none, .pointer none, .slice none 0 0]
def NoClu (Fr : Nat → Prop) (w : World) (v : Value) : Prop := v = .pointer none ∨ ∃ p, v = .pointer (some ⟨p, 0, none⟩) ∧ Blk Fr w p cluZ
section
variable {u : Value}
theorem NoClu.of {X : Cx} {u : Value} (h : NoClu X.Fr X.w0 u) {Fr' : Nat → Prop} (hF : ∀ b, X.Fr b → Fr' b) {w : World} {L : List HP} (hw : St X L w) : NoClu Fr' w u := by
 rcases h with h | ⟨p, h1, h2⟩
 ·exact .inl h
 ·exact .inr ⟨p, h1, h2.of hF hw⟩
theorem no_made (h : NoClu Fr w u) : Tri Tryz.prog 41 [u] Fr w [] (fun v L => v = .bool false ∧ L = []) := by
 rcases h with rfl | ⟨p, rfl, h⟩
 ·refine xnf ?_
  refine zpz ?_
  refine xjs ?_
  exact xex
 ·refine xnf ?_
  refine xjs ?_
  refine xjq ?_
  refine xjt ?_
  exact xex
theorem no_master (h : NoClu Fr w u) : Tri Tryz.prog 26 [u] Fr w [] (fun v L => v = .pointer none ∧ L = []) := by
 refine TF 10 Tryz.func26 rfl ym tabOk rfl rfl ?_
 refine xjs ?_
 refine VG (VV (fun Fr w hF hs _ => no_made Fr w (h.of hF hs)) rfl ?_)
 refine zop ?_
 exact xex
end
end Cl
namespace Cl
open Go Vg T Api Ch Rep Conf Lg Rd Sched
attribute [local irreducible] VO VC VA
theorem ints_row {X : Cx} {L : List HP} {a : Option Addr} {cap : Nat} {qs : List Int} (hq : IntsIn X.Fr X.w0 a qs) (hne : qs ≠ []) : RdRow X L (.slice a qs.length cap) 1 qs.length (intCs qs) := by
 obtain ⟨b, off, rfl, h2, h3⟩ := hq.at_ hne
 refine ⟨by simp [intCs], .inr ⟨b, off, cap, rfl, fun w' hw' j v hv => ?_⟩⟩
 rw [intCs, List.getElem?_map] at hv
 cases hj : qs[j]? with
 | none => rw [hj] at hv; cases hv
 | some x =>
  rw [hj] at hv
  obtain rfl := Option.some.inj hv
  exact cell_of_keep (hw'.keep.block b h2) (h3 j x hj)
theorem many_snoc {α : Type} {f : α → HP} {l : List α} {x : α} {A : List HP} : Imp (f x :: hsep (l.map f) :: A) (hsep ((l ++ [x]).map f) :: A) := by
 refine Imp.sep (Imp.trans (M := hsep (l.map f) :: f x :: A) (Imp.perm (.swap _ _ _)) (Imp.unsep (Imp.of_eq ?_)))
 simp
abbrev conT : TypeId := 24
def cluK (c : ConfM) (qa : Option Addr) (qc m : Nat) (nv cv lv : Value) (h : Nat) : List Value := c.cells qa qc ++ [.int .i64 0, .pointer (some ⟨m, 0, none⟩), nv, cv, lv, .pointer (some ⟨h, 0, none⟩), .slice none 0 0]
theorem unew_spec (c : ConfM) {qa : Option Addr} {qc : Nat} (hq : IntsIn Fr w qa c.qs) (hqc : c.qs.length ≤ qc) :
  Tri Tryz.prog 15 [.agg (c.cells qa qc).toArray] Fr w [] (fun v L => if c = fitM c then ∃ p, v = .tuple #[.pointer (some ⟨p, 0, none⟩), .int .i64 0] ∧ L = [cluH p (newC c)] else v = .tuple #[.pointer none, .int .i64 2] ∧ L = []) := by
 refine TF 83 Tryz.func15 rfl ym tabOk rfl rfl ?_
 refine CS (CG (VG (VB (vs := c.cells qa qc) rfl fun b1 => VG (VN ?_))))
 refine xjr ?_
 refine xli ?_
 refine VG (VK (Lc := []) (fun Fr w hF hs _ => mnew_spec Fr w c (ints_of hq hF hs) trivial hqc) rfl rfl ?_)
 intro v L1 hv
 by_cases hf : c = fitM c
 rotate_left
 ·rw [if_neg hf] at hv
  obtain ⟨rfl, rfl⟩ := hv
  refine zow ?_
  exact CR (Ret.tmp2 2 3 rfl rfl rfl Imp.nil.ent ybt)
 rw [if_pos hf] at hv
 obtain ⟨m, rfl, rfl⟩ := hv
 have hb := conf_bounds hf
 have hb2 := conf_bounds2 hf
 refine zqb ?_
 refine xdo ?_
 refine VO.ent (L' := slH 3 1 none 0 0 [] :: [masH m (newM c), pt b1 (c.cells qa qc) conT]) (Imp.slNil Imp.refl).ent ?_
 refine VG (VO.append (m := c.qs.length) (news := intCs c.qs) 0 rfl rfl rfl rfl rfl rfl rfl (ints_row hq (by intro h0; rw [h0] at hb2; exact absurd hb2.2.2.2.2.2.1 yo)) (by unfold intCs; rw [List.all_map]; exact List.all_eq_true.2 fun _ _ => rfl) (few_bytes (k := 100) yd yo) yd fun qa2 qc2 hqc2 => ?_)
 rw [Nat.zero_add, List.nil_append] at *
 refine xjr ?_
 refine VG (VO.st 2 (cs' := c.cells qa2 qc2) rfl rfl rfl rfl yal rfl rfl ?_)
 refine xec ?_
 show VC _ _ _ [intH qa2 qc2 c.qs, masH m (newM c), pt b1 (c.cells qa2 qc2) conT] _
 refine CS ?_
 refine CD (ts 0 2 (.only 2 (.take 3 (.only 4 (.take 5 .nil))))) ym yq ?_
 refine AG (VA.ldA 2 (c.cells qa2 qc2) rfl rfl rfl rfl rfl ?_)
 refine xlf ?_
 refine AG (AO (OC (Lc := []) rfl (.refl _) (fun Fr w _ _ _ => hnew_spec Fr w)) rfl (fun v L' g => by obtain ⟨_, ⟨h, rfl, rfl⟩, rfl⟩ := g; exact (by (try refine Pd.st ?_);(repeat (first|exact Pd.nil|exact Pd.fnil|refine Pd.inner ?_|refine Pd.skip yq ?_|refine zf (zo 0 rfl rfl) ?_|refine zf (zo 1 rfl rfl) ?_|refine zf (zo 2 rfl rfl) ?_|refine zf (zo 3 rfl rfl) ?_|refine zf (zm 0 rfl rfl) ?_|refine zf (zm 1 rfl rfl) ?_|refine zf (zm 2 rfl rfl) ?_|refine zf (zm 3 rfl rfl) ?_|refine zf (RdL.blk (RdL.many 3 rfl rfl) rfl) ?_|refine zf ((RdL.many 3 rfl rfl)) ?_|refine zc (zo 0 rfl rfl) ?_|refine zc (zo 1 rfl rfl) ?_|refine zc (zo 2 rfl rfl) ?_|refine zc (zo 3 rfl rfl) ?_|refine zc (zm 0 rfl rfl) ?_|refine zc (zm 1 rfl rfl) ?_|refine zc (zm 2 rfl rfl) ?_|refine zc (zm 3 rfl rfl) ?_|refine zc (RdL.blk (RdL.many 3 rfl rfl) rfl) ?_|refine zc ((RdL.many 3 rfl rfl)) ?_)))) ?_)
 rintro v L' ⟨_, ⟨h, rfl, rfl⟩, rfl⟩
 refine AG (AI rfl (LB (pv := [(0, .agg (c.cells qa2 qc2).toArray), (2, pV m), (6, pV h)]) (cluK c qa2 qc2 m (.slice none 0 0) (.slice none 0 0) (.pointer none) h) rfl rfl rfl ym rfl) ?_)
 refine AG (AO (OpT.box (vs := cluK c qa2 qc2 m (.slice none 0 0) (.slice none 0 0) (.pointer none) h) rfl rfl) rfl (fun v L' g => by obtain ⟨p, rfl, rfl⟩ := g; exact (by (try refine Pd.st ?_);(repeat (first|exact Pd.nil|exact Pd.fnil|refine Pd.inner ?_|refine Pd.skip yq ?_|refine zf (zo 0 rfl rfl) ?_|refine zf (zo 1 rfl rfl) ?_|refine zf (zo 2 rfl rfl) ?_|refine zf (zo 3 rfl rfl) ?_|refine zf (zo 4 rfl rfl) ?_|refine zf (zm 0 rfl rfl) ?_|refine zf (zm 1 rfl rfl) ?_|refine zf (zm 2 rfl rfl) ?_|refine zf (zm 3 rfl rfl) ?_|refine zf (zm 4 rfl rfl) ?_|refine zf (RdL.blk (RdL.many 4 rfl rfl) rfl) ?_|refine zf ((RdL.many 4 rfl rfl)) ?_|refine zc (zo 0 rfl rfl) ?_|refine zc (zo 1 rfl rfl) ?_|refine zc (zo 2 rfl rfl) ?_|refine zc (zo 3 rfl rfl) ?_|refine zc (zo 4 rfl rfl) ?_|refine zc (zm 0 rfl rfl) ?_|refine zc (zm 1 rfl rfl) ?_|refine zc (zm 2 rfl rfl) ?_|refine zc (zm 3 rfl rfl) ?_|refine zc (zm 4 rfl rfl) ?_|refine zc (RdL.blk (RdL.many 4 rfl rfl) rfl) ?_|refine zc ((RdL.many 4 rfl rfl)) ?_)))) ?_)
 rintro v L' ⟨p, rfl, rfl⟩
 refine xlf ?_
 refine xfe ?_
 refine VG (VK (Lc := []) (fun Fr w _ _ _ => lnew_spec Fr w (n := c.link) yd yd) rfl rfl ?_)
 rintro _ _ ⟨l, rfl, rfl⟩
 refine xjr ?_
 refine VG (VO.st 1 (cs' := cluK c qa2 qc2 m (.slice none 0 0) (.slice none 0 0) (.pointer (some ⟨l, 0, none⟩)) h) rfl rfl rfl rfl (by show 16 < 19; omega) rfl rfl ?_)
 refine xec ?_
 refine CN (L' := [pt p (cluK c qa2 qc2 m (.slice none 0 0) (.slice none 0 0) (.pointer (some ⟨l, 0, none⟩)) h) cluT, pt b1 (c.cells qa2 qc2) conT, intH qa2 qc2 c.qs, lnkH l ⟨c.link, []⟩, hisH h newH, masH m (newM c)]) (pkZ [1, 4, 2, 0, 0, 0]).ent ?_
 refine xjr ?_
 refine VC.loop (σ := List NdG × Option Addr × Nat) (fun s => [(1, pV b1), (6, pV p), (7, .int .i64 s.1.length)])
  (fun s => [pt p (cluK c qa2 qc2 m (.slice s.2.1 s.1.length s.2.2) (.slice none 0 0) (.pointer (some ⟨l, 0, none⟩)) h) cluT, pt b1 (c.cells qa2 qc2) conT, intH qa2 qc2 c.qs, lnkH l ⟨c.link, []⟩, hisH h newH, masH m (newM c), slH rpT 1 s.2.1 s.1.length s.2.2 (flat nodC s.1), hsep (s.1.map nodP)])
  (fun s => s.1.length ≤ c.nodes.toNat ∧ s.1.map (Option.map Prod.snd) = (List.range s.1.length).map fun (n : Nat) => some (newR c n false)) (fun s => c.nodes.toNat - s.1.length) ([], none, 0)
  ⟨Nat.zero_le _, rfl⟩ sbZ (IP 0 rfl (IP 0 rfl (IP 0 rfl (IP 0 rfl (IP 0 rfl (IP 0 rfl (Imp.slNil (Imp.sep Imp.nil)))))))).ent ?_
 rintro ⟨nr, na, nc⟩ ⟨hn1, hn2⟩
 dsimp only at hn1 hn2 ⊢
 refine xdo ?_
 refine CP (p := (nr.length : Int) < c.nodes) rfl (fun h1 => CK ?_) (fun h1 => CX ?_)
 ·refine CS (VC.block (CS (CG ?_)))
  refine VG (VL 1 (c.cells qa2 qc2) rfl rfl rfl rfl ?_)
  refine xjr ?_
  refine VG (VK (Lc := []) (fun Fr w hF hs hS => Rep.new_spec Fr w c qa2 qc2 (ints_sl (hS.at_ 2 rfl)) trivial hqc2 nr.length false) rfl rfl ?_)
  rintro v L1 g
  rw [if_pos (show newOkB c (nr.length : Int) from ⟨hf, by omega, h1⟩)] at g
  obtain ⟨r, rfl, rfl⟩ := g
  refine xjr ?_
  refine xdp ?_
  refine VG (VO.buildSlice (n := 1) (pv := [(0, pV r)]) [.pointer (some ⟨r, 0, none⟩)] rfl rfl rfl rfl yo (fill_one rfl rfl rfl) fun nb => ?_)
  refine VG (VO.append (m := 1) (news := [.pointer (some ⟨r, 0, none⟩)]) 8 rfl rfl rfl rfl rfl rfl rfl (RdRow.pt 0 rfl rfl rfl) rfl (few_bytes (k := 100) yd yo) yd fun na2 nc2 hnc => ?_)
  refine xjr ?_
  refine VG (VO.st 3 (cs' := cluK c qa2 qc2 m (.slice na2 (nr.length + 1) nc2) (.slice none 0 0) (.pointer (some ⟨l, 0, none⟩)) h) rfl rfl rfl rfl (by show 14 < 19; omega) rfl rfl ?_)
  refine zoq ?_
  have hlen : (nr ++ [some (r, newR c nr.length false)]).length = nr.length + 1 := by simp
  refine ⟨(nr ++ [some (r, newR c nr.length false)], na2, nc2), ⟨by dsimp only; omega, ?_⟩, by dsimp only; omega, SC rfl (SC rfl (Sub.int rfl ybb (SN _))), ?_⟩
  ·dsimp only
   rw [hlen, List.range_succ, List.map_append, List.map_append, hn2]; rfl
  ·dsimp only
   rw [hlen, flat_append]
   refine Imp.ent ?_
   refine IP 3 rfl (IP 3 rfl (IP 3 rfl (IP 3 rfl (IP 3 rfl (IP 3 rfl (IP 0 rfl ?_))))))
   exact Imp.trans Imp.tail (many_snoc (f := nodP) (x := some (r, newR c nr.length false)))
 have hnl : nr.length = c.nodes.toNat := by omega
 refine xjr ?_
 refine VC.loop (σ := List CiG × Option Addr × Nat) (fun s => [(1, pV b1), (6, pV p), (10, .int .i64 s.1.length)])
  (fun s => [pt p (cluK c qa2 qc2 m (.slice na nr.length nc) (.slice s.2.1 s.1.length s.2.2) (.pointer (some ⟨l, 0, none⟩)) h) cluT, pt b1 (c.cells qa2 qc2) conT, intH qa2 qc2 c.qs, lnkH l ⟨c.link, []⟩, hisH h newH, masH m (newM c), slH rpT 1 na nr.length nc (flat nodC nr), hsep (nr.map nodP), slH cpT 1 s.2.1 s.1.length s.2.2 (flat cliV s.1), hsep (s.1.map cliP)])
  (fun s => s.1.length ≤ c.clients.toNat ∧ s.1.map Prod.snd = (List.range s.1.length).map fun (n : Nat) => newCl c n) (fun s => c.clients.toNat - s.1.length) ([], none, 0)
  ⟨Nat.zero_le _, rfl⟩ sbZ (IP 0 rfl (IP 0 rfl (IP 0 rfl (IP 0 rfl (IP 0 rfl (IP 0 rfl (IP 0 rfl (IP 0 rfl (Imp.slNil (Imp.sep Imp.nil)))))))))).ent ?_
 rintro ⟨cr, ca, cc⟩ ⟨hm1, hm2⟩
 dsimp only at hm1 hm2 ⊢
 refine xdo ?_
 refine CP (p := (cr.length : Int) < c.clients) rfl (fun h1 => CK ?_) (fun h1 => CX ?_)
 ·refine CS (VC.block (CS (CG ?_)))
  refine VG (VL 1 (c.cells qa2 qc2) rfl rfl rfl rfl ?_)
  refine xjr ?_
  refine VG (VK (Lc := []) (fun Fr w hF hs hS => cnew_spec Fr w c (ints_sl (hS.at_ 2 rfl)) trivial hqc2 cr.length) rfl rfl ?_)
  rintro v L1 g
  rw [if_pos (show newClE c (cr.length : Int) = 0 from by unfold newClE; rw [if_pos ⟨hf, by omega, h1⟩])] at g
  obtain ⟨r, rfl, rfl⟩ := g
  refine xjr ?_
  refine xdp ?_
  refine VG (VO.buildSlice (n := 1) (pv := [(0, pV r)]) [.pointer (some ⟨r, 0, none⟩)] rfl rfl rfl rfl yo (fill_one rfl rfl rfl) fun nb => ?_)
  refine VG (VO.append (m := 1) (news := [.pointer (some ⟨r, 0, none⟩)]) 10 rfl rfl rfl rfl rfl rfl rfl (RdRow.pt 0 rfl rfl rfl) rfl (few_bytes (k := 100) yd yo) yd fun ca2 cc2 hcc => ?_)
  refine xjr ?_
  refine VG (VO.st 3 (cs' := cluK c qa2 qc2 m (.slice na nr.length nc) (.slice ca2 (cr.length + 1) cc2) (.pointer (some ⟨l, 0, none⟩)) h) rfl rfl rfl rfl (by show 15 < 19; omega) rfl rfl ?_)
  refine zoq ?_
  have hlen : (cr ++ [(r, newCl c cr.length)]).length = cr.length + 1 := by simp
  refine ⟨(cr ++ [(r, newCl c cr.length)], ca2, cc2), ⟨by dsimp only; omega, ?_⟩, by dsimp only; omega, SC rfl (SC rfl (Sub.int rfl ybb (SN _))), ?_⟩
  ·dsimp only
   rw [hlen, List.range_succ, List.map_append, List.map_append, hm2]; rfl
  ·dsimp only
   rw [hlen, flat_append]
   refine Imp.ent ?_
   refine IP 3 rfl (IP 3 rfl (IP 3 rfl (IP 3 rfl (IP 3 rfl (IP 3 rfl (IP 3 rfl (IP 3 rfl (IP 0 rfl ?_))))))))
   exact Imp.trans Imp.tail (many_snoc (f := cliP) (x := (r, newCl c cr.length)))
 have hml : cr.length = c.clients.toNat := by omega
 refine VC.opn 6 rfl (HOpn.sl rpT 1 na nr.length nc (flat nodC nr)) ?_
 rintro (_ | ⟨nb, nx⟩) ⟨-, -, hn⟩
 ·exact absurd hn.2.1 yd
 obtain ⟨rfl, hnx⟩ := hn
 refine VC.opn 8 rfl (HOpn.sl cpT 1 ca cr.length cc (flat cliV cr)) ?_
 rintro (_ | ⟨cb, cx⟩) ⟨-, -, hc⟩
 ·exact absurd hc.2.1 yd
 obtain ⟨rfl, hcx⟩ := hc
 refine xjr ?_
 refine CR (Ret.tmp2 2 3 rfl rfl rfl (L' := [cluH p (newC c)]) (Imp.clu (K := []) ⟨qa2, qc2, m, nb, nc, nx, nr, cb, cc, cx, cr, l, h, none, 0⟩ ⟨by rw [hn2, hnl]; rfl, by rw [hm2, hml]; rfl, hqc2⟩ ?_).ent (by rw [if_pos hf]; exact ⟨p, rfl, rfl⟩))
 exact IP 2 rfl (IP 3 rfl (IP 5 rfl (IP 1 rfl (IP 0 rfl (IP 1 rfl (IP 1 rfl (Imp.slNil (pkZ [1, 1]))))))))
end Cl
namespace Cl
open Go Vg T Api Ch Rep Conf Lg Rd Sched
def zC : ConfM := ⟨0, 0, 0, [], 0, 0, 0, 0, 0, 0, 0, 0⟩
theorem done_fit : fitM zC = fitM (fitM zC) := by decide +kernel
attribute [local irreducible] VO VC VA
end Cl
namespace Cl
open Go Vg T Api Ch Rep Conf Lg Rd
attribute [local irreducible] VO VC VA
instance chDec : DecidableEq ChM := fun a b => decidable_of_iff (a.epoch = b.epoch ∧ a.ms = b.ms ∧ a.drain = b.drain) ⟨fun ⟨h1, h2, h3⟩ => by cases a; cases b; simp_all, fun h => by subst h; exact ⟨rfl, rfl, rfl⟩⟩
def memEqB (m k : MemM) : Bool := decide (m.1 = k.1) && (decide (m.2 = k.2) && true)
theorem memEqB_iff (m k : MemM) : memEqB m k = true ↔ m = k := by
 obtain ⟨m1, m2⟩ := m; obtain ⟨k1, k2⟩ := k
 simp [memEqB]
theorem stoodMem : Tryz.prog.stoodInHeld 78 = false := by kernel_rfl
theorem guardMem : Tryz.prog.eqGuardType Tryz.prog.depth 78 = false := by kernel_rfl
theorem mem_eq (o p : MemM) (w : World) : (Op.equal 78 (.agg (memC o).toArray) (.agg (memC p).toArray)).run Tryz.prog w = .ok (memEqB o p) w := by
 have hi : ∀ (cs : List Value) (j : Nat) (n : Int), cs[j]? = some (.int .i64 n) → ∀ w : World, (part 3 cs.toArray j).run Tryz.prog w = .ok (.int .i64 n) w := fun cs j n h w => part1 (TabOk.look tabOk (t := 3) (ti := T.t3) rfl) rfl h w
 refine EqT.run (EqT.st Tryz.underlying78 stoodMem (EqFs.cons yo (hi _ _ _ rfl) (hi _ _ _ rfl) (EqT.int Tryz.underlying3 o.1 p.1) (EqFs.cons yo (hi _ _ _ rfl) (hi _ _ _ rfl) (EqT.int Tryz.underlying3 o.2 p.2) EqFs.nil))) yo w
theorem equalM_spec {a b : Option Addr} {ca cb : Nat} {xs ys : List MemM} (hx : RwIn memC 2 Fr w a xs) (hy : RwIn memC 2 Fr w b ys) (hlx : xs.length ≤ 1000000) (hly : ys.length ≤ 1000000) :
  Tri Tryz.prog 55 [.slice a xs.length ca, .slice b ys.length cb] Fr w [] (fun v L => v = .bool (decide (xs = ys)) ∧ L = []) := by
 refine TF 26 Tryz.func55 rfl ym tabOk rfl rfl ?_
 refine xdc ?_
 refine VC.condNE (i := (xs.length : Int)) (j := (ys.length : Int)) rfl (fun h => ?_) (fun h => CK ?_)
 ·refine xdc ?_
  exact CR (Ret.bool 4 rfl rfl (by rw [DF (fun e => h yaj)]) ER ⟨rfl, rfl⟩)
 have hll : xs.length = ys.length := by omega
 refine xdc ?_
 refine VC.loop (σ := Nat) (fun n => [(0, .slice a xs.length ca), (1, .slice b ys.length cb), (12, .int .i64 xs.length), (13, .int .i64 n)]) (fun _ => []) (fun n => n ≤ xs.length ∧ ∀ k, k < n → xs[k]? = ys[k]?) (fun n => xs.length - n) 0
  ⟨Nat.zero_le _, fun k hk => absurd hk (Nat.not_lt_zero k)⟩ sbZ ER ?_
 rintro n ⟨hn, hall⟩
 refine xdc ?_
 refine CP (p := (n : Int) < (xs.length : Int)) rfl (fun h2 => CK ?_) (fun h2 => CX ?_)
 rotate_left
 ·refine xdc ?_
  refine CR (Ret.bool 4 rfl rfl ?_ ER ⟨rfl, rfl⟩)
  rw [DT]
  apply List.ext_getElem?
  intro k
  by_cases hk : k < n
  ·exact hall k hk
  ·rw [List.getElem?_eq_none yd, List.getElem?_eq_none yd]
 obtain ⟨x, hxk⟩ : ∃ x, xs[n]? = some x := ⟨_, GE yd⟩
 obtain ⟨y, hyk⟩ : ∃ y, ys[n]? = some y := ⟨_, GE yd⟩
 obtain ⟨mb, mo, hma, ra, rc⟩ := RwIn.rd (X := ⟨Tryz.prog, tab, tabOk, 26, Fr, w⟩) hx hxk
 subst hma
 obtain ⟨nb, no, hna, sa, sc⟩ := RwIn.rd (X := ⟨Tryz.prog, tab, tabOk, 26, Fr, w⟩) hy hyk
 subst hna
 refine CS (VC.block ?_)
 refine xgk ?_
 refine xdc ?_
 refine CD (ts 0 9 .nil) ym yq ?_
 refine xed ?_
 refine AG (AI rfl (light_idx n rfl rfl rfl rfl rfl yd yd) ?_)
 refine AG (VA.load rfl rfl rfl (ra _ _ rfl rfl) ?_)
 refine xed ?_
 refine AG (AI rfl (light_idx n rfl rfl rfl rfl rfl yd yd) ?_)
 refine AG (VA.load rfl rfl rfl (sa _ _ rfl rfl) ?_)
 refine AG (AI rfl (light_neS guardMem rfl rfl (mem_eq x y)) ?_)
 refine xed ?_
 refine CC (t := !memEqB x y) rfl (fun hd => ?_) (fun hd => CK ?_)
 ·refine xdc ?_
  refine CR (Ret.bool 4 rfl rfl ?_ ER ⟨rfl, rfl⟩)
  have hd : memEqB x y = false := by simpa using hd
  rw [DF]
  intro e
  rw [e, hyk] at hxk
  cases hxk
  rw [(memEqB_iff x x).2 rfl] at hd
  cases hd
 ·have hd : memEqB x y = true := by simpa using hd
  refine zon ?_
  exact ⟨n + 1, ⟨by omega, fun k hk => by
   by_cases hkn : k = n
   ·subst hkn; rw [hxk, hyk, (memEqB_iff x y).1 hd]
   ·exact hall k yd⟩, by dsimp only; omega, sbZ, ER⟩
theorem same_spec {c d : ChM} {a b : Option Addr} {ac bc : Nat} (h : RwIn memC 2 Fr w a c.ms) (k : RwIn memC 2 Fr w b d.ms) (hl : c.ms.length ≤ 1000000) (hk : d.ms.length ≤ 1000000) :
  Tri Tryz.prog 29 [.agg (c.cells a ac).toArray, .agg (d.cells b bc).toArray] Fr w [] (fun v L => v = .bool (decide (c = d)) ∧ L = []) := by
 refine TF 24 Tryz.func29 rfl ym tabOk rfl rfl ?_
 refine CS (CG (VG (VB (vs := c.cells a ac) rfl fun x => VG (VB (vs := d.cells b bc) rfl fun y => ?_))))
 refine xdo ?_
 by_cases h1 : c.epoch = d.epoch
 rotate_left
 ·refine VG (VY 10 false rfl (by rw [beq_eq_false_iff_ne]; exact h1) ?_)
  refine xdt ?_
  refine VG (VY 17 false rfl rfl ?_)
  refine xdt ?_
  exact CR (Ret.tmp 4 rfl rfl Imp.nil.ent ⟨by rw [DF (fun e => h1 yaj)], rfl⟩)
 refine VG (VY 10 true rfl (by rw [beq_iff_eq]; exact h1) ?_)
 refine xdt ?_
 by_cases h2 : c.drain = d.drain
 rotate_left
 ·refine VG (VY 17 false rfl (by rw [beq_eq_false_iff_ne]; exact h2) ?_)
  refine xdt ?_
  exact CR (Ret.tmp 4 rfl rfl Imp.nil.ent ⟨by rw [DF (fun e => h2 yaj)], rfl⟩)
 refine VG (VY 17 true rfl (by rw [beq_iff_eq]; exact h2) ?_)
 refine xdt ?_
 refine VG (VV (fun Fr w hF hs hS => equalM_spec Fr w (h.of hF hs) (k.of hF hs) hl hk) rfl ?_)
 refine xdt ?_
 refine CR (Ret.bool 4 rfl rfl ?_ Imp.nil.ent ⟨rfl, rfl⟩)
 refine decide_eq_decide.2 ⟨fun e => ?_, fun e => by rw [e]⟩
 cases c; cases d; dsimp only at h1 h2 e; subst h1; subst h2; subst e; rfl
end Cl
namespace Cl
open Go Vg T Api Ch Rep Conf Lg Rd
def stD (p : PrM) : StpM := stS 4 p.1 p.2
def oneIf (e : Int) : Int := if e = 0 then 1 else 0
inductive Pth (C0 : CluM) (m0 : Int) : Nat → CluM → Int → Prop
 | nil : Pth C0 m0 0 C0 m0
 | snoc {k : Nat} {C : CluM} {m : Int} {p : PrM} (h : Pth C0 m0 k C m) (hp : p ∈ C.lnk.mail.map Prod.fst) : Pth C0 m0 (k + 1) (C.do_ (stD p)).1 (m + oneIf (C.do_ (stD p)).2)
def Dlv (C0 : CluM) (m0 : Int) (C : CluM) (m : Int) : Prop := ∃ k ≤ 4096, Pth C0 m0 k C m ∧ (k = 4096 ∨ C.lnk.mail = [])
def stepsC : Nat → CluM → CluM
 | 0, C => C
 | n + 1, C => ((stepsC n C).do_ (stS 2 n 0)).1
def midC (C : CluM) : CluM := stepsC 6 (C.do_ (stS 3 0 0)).1
def Rnd (C0 C : CluM) (m : Int) : Prop := ∃ C1 m1 C2, Dlv C0 0 C1 m1 ∧ Dlv (midC C1) m1 C2 m ∧ C = (C2.do_ (stS 11 0 0)).1
theorem Pth.stop {C0 : CluM} {m0 : Int} (h : C0.lnk.mail = []) : ∀ {k : Nat} {C : CluM} {m : Int}, Pth C0 m0 k C m → k = 0 ∧ C = C0 ∧ m = m0
 | _, _, _, .nil => ⟨rfl, rfl, rfl⟩
 | _, _, _, .snoc p hp => by
  obtain ⟨rfl, rfl, rfl⟩ := Pth.stop h p
  rw [h] at hp; cases hp
theorem Pth.one {C0 : CluM} {m0 : Int} {q : PrM} (h : C0.lnk.mail.map Prod.fst = [q]) (h2 : (C0.do_ (stD q)).1.lnk.mail = []) : ∀ {k : Nat} {C : CluM} {m : Int}, Pth C0 m0 k C m → (k = 0 ∧ C = C0 ∧ m = m0) ∨ (k = 1 ∧ C = (C0.do_ (stD q)).1 ∧ m = m0 + oneIf (C0.do_ (stD q)).2)
 | _, _, _, .nil => .inl ⟨rfl, rfl, rfl⟩
 | _, _, _, .snoc p hp => by
  rcases Pth.one h h2 p with ⟨rfl, rfl, rfl⟩ | ⟨rfl, rfl, rfl⟩
  ·rw [h] at hp
   obtain rfl := List.mem_singleton.1 hp
   exact .inr ⟨rfl, rfl, rfl⟩
  ·rw [h2] at hp; cases hp
theorem Dlv.stop {C0 C : CluM} {m0 m : Int} (h : C0.lnk.mail = []) (d : Dlv C0 m0 C m) : C = C0 ∧ m = m0 := by
 obtain ⟨k, _, p, _⟩ := d
 exact (p.stop h).2
theorem Dlv.one {C0 C : CluM} {m0 m : Int} {q : PrM} (h : C0.lnk.mail.map Prod.fst = [q]) (h2 : (C0.do_ (stD q)).1.lnk.mail = []) (d : Dlv C0 m0 C m) : C = (C0.do_ (stD q)).1 ∧ m = m0 + oneIf (C0.do_ (stD q)).2 := by
 obtain ⟨k, _, p, he⟩ := d
 rcases p.one h h2 with ⟨rfl, rfl, rfl⟩ | ⟨rfl, rfl, rfl⟩
 ·rcases he with he | he
  ·cases he
  ·rw [he] at h; cases h
 ·exact ⟨rfl, rfl⟩
theorem Pth.ok {C0 : CluM} {m0 : Int} {b e : Nat} (h : C0.Ok b e) (hb : b < 90000) (he : e < 800000) : ∀ {k : Nat} {C : CluM} {m : Int}, Pth C0 m0 k C m → k ≤ 4096 → C.Ok (b + k) (e + 7 * k)
 | _, _, _, .nil, _ => h
 | _, _, _, .snoc (k := k) p hp, hk => ((Pth.ok h hb he p yd).do_ yd yd _).mono yd yd
def hasM (C : CluM) (x : MemM) : Bool := match C.node x.1 with
 | none => false
 | some r => decide (r.since = x.2) && r.whole
def aliveM (C : CluM) : Bool := C.mas.ch.ms.any fun x => !decide (x.1 = C.mas.ch.drain) && hasM C x
def idleM (r : RepM) : Bool := (List.range 4).all (fun k => decide (r.adm.sch.lenM (k : Nat) ≤ 0)) && (decide (r.win.done = r.win.last) && decide (r.rds.l.length = 0))
def memRest (C : CluM) (x : MemM) : Bool := hasM C x && (match C.node x.1 with
 | none => false
 | some r => decide (r.ch = C.mas.ch) && idleM r)
def busyM (C : CluM) (n : Nat) : Bool := match C.cli n with
 | none => false
 | some s => decide (s.doing ≠ 0)
def restM (C : CluM) : Bool := decide (C.mas.ch.drain = -1) && (C.mas.ch.ms.all (memRest C) && (List.range 6).all fun n => !busyM C n)
def rC0 : CluM := newC (fitM zC)
def rC1 : CluM := midC rC0
def rC2 : CluM := (rC1.do_ (stD (0, 16))).1
def rC3 : CluM := (rC2.do_ (stS 11 0 0)).1
theorem r_0 : rC0.lnk.mail = [] := rfl
theorem r_1 : rC1.lnk.mail.map Prod.fst = [(0, 16)] := by decide +kernel
theorem r_2 : rC2.lnk.mail.length = 0 ∧ (rC1.do_ (stD (0, 16))).2 = 0 := by decide +kernel
theorem r_3 : restM rC3 = true ∧ aliveM rC3 = true ∧ rC3.now = 1 := by decide +kernel
theorem r_rnd {C : CluM} {m : Int} (h : Rnd rC0 C m) : C = rC3 ∧ m = 1 := by
 obtain ⟨C1, m1, C2, h1, h2, h3⟩ := h
 obtain ⟨rfl, rfl⟩ := h1.stop r_0
 have e : midC rC0 = rC1 := rfl
 rw [e] at h2
 obtain ⟨rfl, rfl⟩ := h2.one r_1 (List.eq_nil_of_length_eq_zero r_2.1)
 rw [r_2.2]
 exact ⟨h3, rfl⟩
end Cl
namespace Cl
open Go Vg T Api
attribute [local irreducible] VO VC VA
def cmpI (x y : Int) : Int := if x < y then -1 else if y < x then 1 else 0
def prCmp (p q : PrM) : Int := if cmpI p.1 q.1 ≠ 0 then cmpI p.1 q.1 else cmpI p.2 q.2
def prC (p : PrM) : List Value := [.int .i64 p.1, .int .i64 p.2]
theorem prC_len (p : PrM) : (prC p).length = 2 := rfl
theorem prC_one (p : PrM) : (prC p).all Value.oneCell' = true := rfl
theorem nan_spec (x : Int) : Tri Tryz.prog 148 [.int .i64 x] Fr w [] (fun v L => v = .bool false ∧ L = []) := by
 refine TF 6 Tryz.func148 rfl ym tabOk rfl rfl ?_
 refine xjs ?_
 exact CR (Ret.bool 2 rfl rfl yf ER ⟨rfl, rfl⟩)
theorem compare_spec (x y : Int) : Tri Tryz.prog 107 [.int .i64 x, .int .i64 y] Fr w [] (fun v L => v = .int .i64 (cmpI x y) ∧ L = []) := by
 refine TF 20 Tryz.func107 rfl ym tabOk rfl rfl ?_
 refine xjs ?_
 refine VG (VV (fun Fr w _ _ _ => nan_spec Fr w x) rfl ?_)
 refine xjs ?_
 refine VG (VV (fun Fr w _ _ _ => nan_spec Fr w y) rfl ?_)
 refine zor ?_
 refine zor ?_
 refine xjs ?_
 refine CP (p := x < y) rfl (fun h => ?_) (fun h => CK ?_)
 ·refine xjs ?_
  exact CR (Ret.tmp 4 rfl rfl ER ⟨by rw [cmpI, if_pos h], rfl⟩)
 refine xjs ?_
 refine CP (p := y < x) rfl (fun h2 => ?_) (fun h2 => CK ?_)
 ·refine xjs ?_
  exact CR (Ret.tmp 4 rfl rfl ER ⟨by rw [cmpI, if_neg h, if_pos h2], rfl⟩)
 refine xjs ?_
 exact CR (Ret.tmp 4 rfl rfl ER ⟨by rw [cmpI, if_neg h, if_neg h2], rfl⟩)
theorem or_spec {sb : Nat} (a b : Int) (h : Blk Fr w sb [.int .i64 a, .int .i64 b]) : Tri Tryz.prog 106 [.slice (some ⟨sb, 0, none⟩) 2 2] Fr w [] (fun v L => v = .int .i64 (if a ≠ 0 then a else b) ∧ L = []) := by
 refine TF 18 Tryz.func106 rfl ym tabOk rfl rfl ?_
 refine xjs ?_
 refine VC.loop (σ := Nat) (fun k => [(3, .int .i64 0), (6, .slice (some ⟨sb, 0, none⟩) 2 2), (7, .int .i64 2), (8, .int .i64 (k : Int))]) (fun _ => []) (fun k => k ≤ 2 ∧ (0 < k → a = 0) ∧ (1 < k → b = 0)) (fun k => 2 - k) 0
  ⟨by omega, by omega, by omega⟩ sbZ ER ?_
 rintro k ⟨hk, ha, hb⟩
 refine xjs ?_
 refine CP (p := (k : Int) < 2) rfl (fun h1 => CK ?_) (fun h1 => CX ?_)
 rotate_left
 ·have h2 : k = 2 := by omega
  have ha := ha yd
  have hb := hb yd
  refine xjs ?_
  exact CR (Ret.tmp 2 rfl rfl ER ⟨by rw [if_neg yd, hb], rfl⟩)
 have hv : ∃ z : Int, ([.int .i64 a, .int .i64 b] : List Value)[0 + k * 1]? = some (.int .i64 z) ∧ (k = 0 → z = a) ∧ (k = 1 → z = b) := by
  rcases (by omega : k = 0 ∨ k = 1) with rfl | rfl
  ·exact ⟨a, rfl, fun _ => rfl, fun h => by omega⟩
  ·exact ⟨b, rfl, fun h => by omega, fun _ => rfl⟩
 obtain ⟨z, hz, z0, z1⟩ := hv
 refine xjs ?_
 refine xgd ?_
 refine VG (VO.load rfl rfl (RdL.blk h hz) ?_)
 refine xjs ?_
 refine VC.condNE rfl (fun k1 => ?_) (fun k1 => CK ?_)
 ·refine xjs ?_
  refine CR (Ret.tmp 2 rfl rfl ER ⟨?_, rfl⟩)
  rcases (by omega : k = 0 ∨ k = 1) with h0 | h0
  ·rw [← z0 h0, if_pos k1]
  ·rw [if_neg (by have := ha yd; omega), z1 h0]
 refine xjs ?_
 refine xdi ?_
 refine xjs ?_
 have k2 : z = 0 := by simpa using k1
 exact ⟨k + 1, ⟨by omega, fun _ => by
  by_cases h0 : k = 0
  ·rw [← z0 h0]; exact k2
  ·exact ha yd, fun _ => by rw [← z1 yd]; exact k2⟩, by dsimp only; omega, SC rfl (SC rfl (SC rfl (Sub.int rfl yd (SN _)))), ER⟩
theorem pair1_spec (p q : PrM) : Tri Tryz.prog 105 [.agg (prC p).toArray, .agg (prC q).toArray] Fr w [] (fun v L => v = .int .i64 (prCmp p q) ∧ L = []) := by
 refine TF 17 Tryz.func105 rfl ym tabOk rfl rfl ?_
 refine CS (CG (VG (VB (vs := prC p) rfl fun b2 => VG (VB (vs := prC q) rfl fun b3 => ?_))))
 refine xjr ?_
 refine CD (ts 0 4 (ts 5 4 (.only 4 (.only 9 (.only 10 (.only 11 (ts 12 1 .nil))))))) ym yq ?_
 refine xnx ?_
 refine xga ?_
 refine xnx ?_
 refine xga ?_
 refine xny ?_
 refine xga ?_
 refine xny ?_
 refine xga ?_
 refine AG (AR (fun Fr w hF hw hS => compare_spec Fr w p.1 q.1) rfl rfl yr ?_)
 refine AG (AR (fun Fr w hF hw hS => compare_spec Fr w p.2 q.2) rfl rfl yr ?_)
 refine AG (AO (OpT.buildSlice (n := 2) (pv := [(0, .int .i64 (cmpI p.1 q.1)), (1, .int .i64 (cmpI p.2 q.2))]) (cells := [.int .i64 (cmpI p.1 q.1), .int .i64 (cmpI p.2 q.2)]) rfl rfl rfl rfl yo rfl) rfl (fun v L' g => by obtain ⟨nb, rfl, rfl⟩ := g; exact yr) ?_)
 rintro _ _ ⟨nb, rfl, rfl⟩
 refine AG (AR (fun Fr w hF hw hS => or_spec Fr w (cmpI p.1 q.1) (cmpI p.2 q.2) (hS.blk 0 rfl)) rfl rfl yr ?_)
 refine zou ?_
 exact xef
theorem keep_grow {w w' : World} (h : Keep (fun b => b < w.heap.size) w w') : ∃ q os, w' = Sort.grow (w.drewN q) os := by
 refine ⟨w'.drawn - w.drawn, w'.heap.extract w.heap.size w'.heap.size, ?_⟩
 have hs := h.size
 have hh : w'.heap = w.heap ++ w'.heap.extract w.heap.size w'.heap.size := by
  apply Array.ext_getElem?
  intro i
  rw [Array.getElem?_append]
  split
  ·rename_i hi; exact h.block i hi
  ·rename_i hi
   rw [Array.getElem?_extract]
   split
   ·congr 1; omega
   ·rw [Array.getElem?_eq_none yd]
 have hd : w'.drawn = w.drawn + (w'.drawn - w.drawn) := by have := h.drawn; omega
 have e1 := h.os
 have e2 := h.tape
 have e3 := h.output
 generalize w'.drawn - w.drawn = q at hd
 generalize w'.heap.extract w.heap.size w'.heap.size = os at hh
 obtain ⟨a, b, c, d, e⟩ := w'
 dsimp only at hh hd e1 e2 e3
 subst hh hd e1 e2 e3
 rfl
theorem pair1_grow (p q : PrM) (W : World) : Calls Tryz.prog 105 #[.agg (prC p).toArray, .agg (prC q).toArray] W fun e w' => e = .returned (.int .i64 (prCmp p q)) ∧ ∃ n os, w' = Sort.grow (W.drewN n) os :=
 Calls.mono ((pair1_spec (fun b => b < W.heap.size) W p q).calls (fun _ h => h) Sat.nil) fun e w' ⟨v, L', h1, h2, _, h4⟩ => ⟨by rw [h1, h2.1], keep_grow h4⟩
end Cl
end Go.Proofs.YtmghpgpfeabghaaGreat
namespace Go.Proofs
open Go.Shelf
def Tryz.sortP_ren : Go.Shelf.Ren := ⟨fun | 6 => 104 | 15 => 147 | 14 => 146 | 28 => 217 | 29 => 218 | 20 => 209 | 21 => 210 | 22 => 211 | 23 => 212 | 24 => 213 | 25 => 214 | 26 => 215 | 27 => 216 | 46 => 262 | 47 => 263 | 48 => 264 | 49 => 265 | 50 => 266 | 57 => 287 | n => n, fun | 22 => 63 | 24 => 99 | 25 => 194 | 3 => 3 | 39 => 244 | 0 => 0 | 53 => 285 | 55 => 309 | 4 => 4 | 46 => 302 | 45 => 301 | 50 => 137 | 5 => 5 | 9 => 9 | 66 => 346 | 70 => 141 | 76 => 367 | 77 => 363 | n => n, fun | n => n⟩
theorem Tryz.sortP : Go.Proofs.SlLaysF0.n6 Tryz.prog Tryz.sortP_ren := {
  mixed := by kernel_rfl
  f6 := ⟨Tryz.f104.name, by decide, Tryz.func104.trans (congrArg some (by kernel_rfl))⟩
  f14 := ⟨Tryz.f146.name, by decide, Tryz.func146.trans (congrArg some (by kernel_rfl))⟩
  f15 := Tryz.func147.trans (congrArg some (by kernel_rfl))
  f20 := ⟨Tryz.f209.name, by decide, Tryz.func209.trans (congrArg some (by kernel_rfl))⟩
  f21 := ⟨Tryz.f210.name, by decide, Tryz.func210.trans (congrArg some (by kernel_rfl))⟩
  f22 := ⟨Tryz.f211.name, by decide, Tryz.func211.trans (congrArg some (by kernel_rfl))⟩
  f23 := ⟨Tryz.f212.name, by decide, Tryz.func212.trans (congrArg some (by kernel_rfl))⟩
  f24 := ⟨Tryz.f213.name, by decide, Tryz.func213.trans (congrArg some (by kernel_rfl))⟩
  f25 := ⟨Tryz.f214.name, by decide, Tryz.func214.trans (congrArg some (by kernel_rfl))⟩
  f26 := ⟨Tryz.f215.name, by decide, Tryz.func215.trans (congrArg some (by kernel_rfl))⟩
  f27 := ⟨Tryz.f216.name, by decide, Tryz.func216.trans (congrArg some (by kernel_rfl))⟩
  f28 := Tryz.func217.trans (congrArg some (by kernel_rfl))
  f29 := Tryz.func218.trans (congrArg some (by kernel_rfl))
  f46 := ⟨Tryz.f262.name, by decide, Tryz.func262.trans (congrArg some (by kernel_rfl))⟩
  f47 := Tryz.func263.trans (congrArg some (by kernel_rfl))
  f48 := Tryz.func264.trans (congrArg some (by kernel_rfl))
  f49 := ⟨Tryz.f265.name, by decide, Tryz.func265.trans (congrArg some (by kernel_rfl))⟩
  f50 := ⟨Tryz.f266.name, by decide, Tryz.func266.trans (congrArg some (by kernel_rfl))⟩
  f57 := ⟨Tryz.f287.name, by decide, Tryz.func287.trans (congrArg some (by kernel_rfl))⟩
  t0 := Tryz.underlying0
  a0 := Tryz.isAgg0
  z0 := Tryz.sizeOf0
  v0 := Tryz.zeroValue0
  t3 := Tryz.underlying3
  a3 := Tryz.isAgg3
  z3 := Tryz.sizeOf3
  v3 := Tryz.zeroValue3
  t4 := Tryz.underlying4
  a4 := Tryz.isAgg4
  z4 := Tryz.sizeOf4
  v4 := Tryz.zeroValue4
  t5 := Tryz.underlying5
  a5 := Tryz.isAgg5
  z5 := Tryz.sizeOf5
  v5 := Tryz.zeroValue5
  t9 := Tryz.underlying9
  a9 := Tryz.isAgg9
  z9 := Tryz.sizeOf9
  v9 := Tryz.zeroValue9
  t22 := Tryz.underlying63
  a22 := Tryz.isAgg63
  z22 := Tryz.sizeOf63
  v22 := Tryz.zeroValue63
  t25 := Tryz.underlying194
  a25 := Tryz.isAgg194
  z25 := Tryz.sizeOf194
  v25 := Tryz.zeroValue194
  t39 := Tryz.underlying244
  a39 := Tryz.isAgg244
  z39 := Tryz.sizeOf244
  v39 := Tryz.zeroValue244
  t45 := Tryz.underlying301
  a45 := Tryz.isAgg301
  z45 := Tryz.sizeOf301
  v45 := Tryz.zeroValue301
  t46 := Tryz.underlying302
  a46 := Tryz.isAgg302
  z46 := Tryz.sizeOf302
  v46 := Tryz.zeroValue302
  t50 := Tryz.underlying137
  a50 := Tryz.isAgg137
  z50 := Tryz.sizeOf137
  v50 := Tryz.zeroValue137
  t53 := Tryz.underlying285
  a53 := Tryz.isAgg285
  z53 := Tryz.sizeOf285
  v53 := Tryz.zeroValue285
  t55 := Tryz.underlying309
  a55 := Tryz.isAgg309
  z55 := Tryz.sizeOf309
  v55 := Tryz.zeroValue309
  t66 := Tryz.underlying346
  a66 := Tryz.isAgg346
  z66 := Tryz.sizeOf346
  v66 := Tryz.zeroValue346
  t70 := Tryz.underlying141
  a70 := Tryz.isAgg141
  z70 := Tryz.sizeOf141
  v70 := Tryz.zeroValue141
  t76 := Tryz.underlying367
  a76 := Tryz.isAgg367
  z76 := Tryz.sizeOf367
  v76 := Tryz.zeroValue367
  t77 := Tryz.underlying363
  a77 := Tryz.isAgg363
  z77 := Tryz.sizeOf363
  v77 := Tryz.zeroValue363 }
end Go.Proofs
namespace Go.Proofs.YtmghpgpfeabghaaGreat
variable (Fr : Nat → Prop) (w : World)
namespace Cl
open Go Vg T Api Go.Shelf Go.Sort
attribute [local irreducible] VO VC VA
theorem call_sortP : Callable Tryz.prog 104 := ⟨_, Tryz.func104, by kernel_rfl, by kernel_rfl⟩
theorem pr_lt (x y : PrM) : ltOf prCmp x y = decide (x.1 < y.1 ∨ x.1 = y.1 ∧ x.2 < y.2) := by
 unfold ltOf prCmp cmpI
 by_cases h1 : x.1 < y.1
 ·simp [h1]
 ·by_cases h2 : y.1 < x.1
  ·have : x.1 ≠ y.1 := by omega
   simp [h1, h2, this]
  ·have : x.1 = y.1 := by omega
   by_cases h3 : x.2 < y.2
   ·simp [this, h3]
   ·by_cases h4 : y.2 < x.2 <;> simp [this, h3, h4]
theorem pr_swo : SWO (ltOf prCmp) where
 irrefl x := by rw [pr_lt]; simp
 trans x y z h1 h2 := by rw [pr_lt] at *; simp at *; omega
 ntrans x y z h1 h2 := by rw [pr_lt] at *; simp at *; omega
abbrev prT2 : TypeId := 99
theorem pr_lays (blk off size : Nat) (w : World) : CmpLays Tryz.prog 105 #[] prC 2 prCmp blk off size w := fun m os dk _ x y => pair1_grow x y _
theorem pr_enter : ∀ args w, (callFunc 105 args).run Tryz.prog w = .ok (.enter 105 args) w := enters_of Tryz.func105 ym rfl
theorem heap_sort (w : World) (b n : Nat) (d : Array PrM) (os : Array Obj) (x : Nat) (hx : x < w.heap.size) (hne : x ≠ b) : (sortWorldK prC 2 w b 0 n d os).heap[x]? = w.heap[x]? := by
 show (((w.heap.modify b _) ++ os : Array Obj))[x]? = _
 rw [Array.getElem?_append, if_pos yco, Array.getElem?_modify, if_neg (fun e => hne e.symm)]
theorem heap_sort_b {w : World} {b n : Nat} {d : Array PrM} {os : Array Obj} {cs : Array Value} {el : TypeId} (hb : w.heap[b]? = some (.cells cs el (0, 0))) : (sortWorldK prC 2 w b 0 n d os).heap[b]? = some (.cells (putCells id 0 (flatK prC 2 d) cs) el (0, 0)) := by
 have hx := (Array.getElem?_eq_some_iff.1 hb).1
 show (((w.heap.modify b _) ++ os : Array Obj))[b]? = _
 rw [Array.getElem?_append, if_pos yco, Array.getElem?_modify, if_pos rfl, hb]
 rfl
theorem flat_two (l : List PrM) (rest : List Value) (j : Nat) (hj : j < l.length * 2) : (flat prC l ++ rest)[j]? = some ((prC (l.toArray)[j / 2]!)[j % 2]!) := by
 have hi : j / 2 < l.length := by omega
 have hx : l[j / 2]? = some l[j / 2] := GE hi
 have hc : (prC l[j / 2])[j % 2]? = some ((prC l[j / 2])[j % 2]!) := by
  rcases (by omega : j % 2 = 0 ∨ j % 2 = 1) with h | h <;> rw [h] <;> rfl
 have := flat_cell prC_len hx hc rest
 rw [show j / 2 * 2 + j % 2 = j by omega] at this
 rw [this]
 have e : (l.toArray)[j / 2]! = l[j / 2] := by simp [hi]
 rw [e]
theorem sortP_spec {a : Option Addr} {cap : Nat} {l : List PrM} (hl : l.length ≤ 1000000) : Tri Tryz.prog 104 [.slice a l.length cap, .func (.func 105) #[] #[]] Fr w [slH prT2 2 a l.length cap (flat prC l)]
  (fun v L => v = .tuple #[] ∧ ∃ m : List PrM, m.Perm l ∧ L = [slH prT2 2 a l.length cap (flat prC m)]) :=
 ⟨call_sortP, fun hlow hs => by
  obtain ⟨F, ⟨ids, G, rfl, ⟨hc, hh⟩, hG⟩, hn, hbd⟩ := hs
  obtain rfl : G = [] := hG
  rcases hh with ⟨rfl, h0, rfl, rfl⟩ | ⟨b, rest, rfl, rfl, hcap, hr, hb⟩
  ·have hc0 := AnyF.slices_SortFunc_none Tryz.sortP none 0 (.func (.func 105) #[] #[]) w
   obtain rfl : l = [] := List.eq_nil_of_length_eq_zero h0
   refine Calls.mono hc0 fun e w' ⟨h1, h2⟩ => ?_
   subst h2
   exact ⟨_, [slH prT2 2 none 0 0 (flat prC [])], h1, ⟨rfl, [], .nil, rfl⟩, ⟨[], ⟨[], [], rfl, ⟨rfl, .inl ⟨rfl, rfl, rfl, rfl⟩⟩, rfl⟩, .nil, fun _ h => by cases h⟩, Keep.refl _ _⟩
  ·have hbl : b < w.heap.size := (hbd b yf).2
   have hnF : ¬ Fr b := (hbd b yf).1
   have hH : HoldsK prC 2 w b 0 l.toArray := fun j hj => by
    rw [size_flatK] at hj
    have hj2 : j < l.length * 2 := by simpa using hj
    refine ⟨?_, ?_⟩
    ·rw [Nat.zero_add, get_flatK prC 2 _ j hj]
     show w.cell? ⟨b, j, none⟩ = some ((prC (l.toArray)[j / 2]!)[j % 2]!)
     rw [cell_of_row w b j (flat prC l ++ rest).toArray prT2 (0, 0) hb]
     simpa using flat_two l rest j hj2
    ·exact frozen_of_row w b (0 + j) (flat prC l ++ rest).toArray prT2 hb
   have hc0 := AnyQ.slices_SortFunc Tryz.sortP 2 Tryz.isAgg99 Tryz.sizeOf99 prC prC_len (fun x => by intro v hv; exact List.all_eq_true.1 (prC_one x) v hv) prCmp pr_swo 105 #[] b 0 cap l.toArray w pr_enter (pr_lays b 0 _ w) hH hbl ye
   refine Calls.mono hc0 fun e w' ⟨h1, d, n, os, hp, _, h2⟩ => ?_
   subst h2
   have hds : d.size = l.length := by have := hp.1; simpa using this
   have hpm : d.toList.Perm l := by
    have h3 := hp.2.2
    have e1 : l.toArray.size = d.size := by rw [hds]; simp
    rw [Array.extract_eq_self_of_le yd, Array.extract_eq_self_of_le (NR _)] at h3
    exact h3
   have hm2 : [slH prT2 2 (some ⟨b, 0, none⟩) l.length cap (flat prC d.toList)] = [slH prT2 2 (some ⟨b, 0, none⟩) l.length cap (flat prC d.toList)] := rfl
   refine ⟨_, _, h1, ⟨rfl, d.toList, hpm, rfl⟩, ⟨[b], ⟨[b], [], rfl, ⟨by rw [flat_len prC_len]; simp [hds], .inr ⟨b, (putCells id 0 (flatK prC 2 d) (flat prC l ++ rest).toArray).toList.drop (l.length * 2), rfl, rfl, hcap, ?_, ?_⟩⟩, rfl⟩, hn, fun x hx => ⟨(hbd x hx).1, ?_⟩⟩, ?_⟩
   ·rw [List.length_append, flat_len prC_len, List.length_drop]
    simp only [Array.length_toList]
    have e1 : (putCells id 0 (flatK prC 2 d) (flat prC l ++ rest).toArray).size = cap * 2 := by
     unfold putCells
     rw [Array.size_mapIdx, List.size_toArray, hr]
    rw [e1]
    have : l.length * 2 ≤ cap * 2 := Nat.mul_le_mul_right 2 hcap
    simp [hds]; omega
   ·rw [heap_sort_b hb]
    congr 2
    apply Array.ext_getElem?
    intro j
    conv => rhs; rw [List.getElem?_toArray]
    have hsz : (flatK prC 2 d).size = l.length * 2 := by rw [size_flatK, hds]
    by_cases hj : j < l.length * 2
    ·have e1 := flat_two d.toList ((putCells id 0 (flatK prC 2 d) (flat prC l ++ rest).toArray).toList.drop (l.length * 2)) j (by simpa [hds] using hj)
     rw [e1]
     have e2 := flat_two l rest j hj
     unfold putCells
     rw [Array.getElem?_mapIdx, List.getElem?_toArray, e2]
     simp only [Option.map_some]
     rw [if_pos ⟨Nat.zero_le _, by omega⟩, Nat.sub_zero, get_flatK prC 2 _ j (by rw [hds]; exact hj)]
     simp
    ·have hlf : (flat prC d.toList).length = l.length * 2 := by rw [flat_len prC_len]; simp [hds]
     rw [List.getElem?_append_right yd, hlf, List.getElem?_drop, Array.getElem?_toList]
     congr 1
     omega
   ·show x < (((w.heap.modify b _) ++ os : Array Obj)).size
    rw [Array.size_append, Array.size_modify]
    have := (hbd x hx).2
    omega
   ·refine ⟨rfl, rfl, rfl, ?_, fun x hx => heap_sort w b n d os x (hlow x hx) (fun e => hnF (e ▸ hx)), Nat.le_add_right _ _⟩
    show w.heap.size ≤ (((w.heap.modify b _) ++ os : Array Obj)).size
    rw [Array.size_append, Array.size_modify]
    omega⟩
end Cl
namespace Cl
open Go Vg T Api Ch Rep Conf Lg Rd
attribute [local irreducible] VO VC VA
section
variable {p : Nat} {S : LnkM} {b : Nat} {X : List LnG}
theorem pairs_spec (hml : S.mail.length ≤ 100000) (h : Blk Fr w p (lnkC S b)) (hm : MapBlk Fr w iiV txV b X) (hX : erX X = S.mail) : Tri Tryz.prog 76 [.pointer (some ⟨p, 0, none⟩)] Fr w [] (fun v L => ∃ (l : List PrM) (a : Option Addr) (c : Nat), l.Perm (S.mail.map Prod.fst) ∧ v = .slice a l.length c ∧ L = [slH prT2 2 a l.length c (flat prC l)]) := by
 obtain ⟨es, clock, g1, g2, g3⟩ := hm.at_
 have hz : ZAt iiV txV X es clock := ⟨g2, g3⟩
 have hXl : X.length = S.mail.length := by rw [← hX]; exact (List.length_map ..).symm
 refine TF 27 Tryz.func76 rfl ym tabOk rfl rfl ?_
 refine xjs ?_
 refine xmx ?_
 refine zor ?_
 refine xjt ?_
 refine xnb ?_
 rintro _ _ ⟨q, rfl, rfl⟩
 refine xec ?_
 refine VC.block ?_
 refine VC.loop (σ := Zed PrM LnV × List PrM × Option Addr × Nat) (fun s => [(11, pV q), (3, .slice s.2.2.1 s.2.1.length s.2.2.2)]) (fun s => [itmH q b clock s.1, slH prT2 2 s.2.2.1 s.2.1.length s.2.2.2 (flat prC s.2.1)]) (fun s => ZOk iiV txV X es s.1 ∧ s.2.1 = s.1.map fun z => z.2.1) (fun s => X.length - s.1.length) ([], [], none, 0)
  ⟨ZOk.nil, rfl⟩ sbZ (IP 0 rfl (Imp.slNil Imp.nil)).ent ?_
 rintro ⟨J, l, a, c⟩ ⟨hJ, hlJ⟩
 dsimp only at hJ hlJ ⊢
 have b2 := ZOk.len hz hJ
 have hlL : l.length = J.length := by rw [hlJ, List.length_map]
 refine xjr ?_
 refine xnc ?_
 rintro v L' (⟨rfl, rfl, hp⟩ | ⟨z, rfl, z1, z2, hok, rfl⟩)
 ·refine xjr ?_
  refine VC.condF rfl (CX ?_)
  refine xjr ?_
  refine VG (VQ 1 rfl (fun Fr w hF hs hS => sortP_spec Fr w (a := a) (cap := c) (l := l) yd) rfl (ψ := fun v H => ∃ m : List PrM, m.Perm l ∧ v = .tuple #[] ∧ H = slH prT2 2 a l.length c (flat prC m)) (fun v L h => by obtain ⟨h1, m, h2, h3⟩ := h; exact ⟨_, h3, m, h2, h1, rfl⟩) ?_)
  rintro _ _ ⟨m, hm2, rfl, rfl⟩
  refine xjr ?_
  have hk : l.Perm (S.mail.map Prod.fst) := by
   have h1 := hp.map fun x : LnG => x.1
   rw [List.map_map] at h1
   rw [hlJ, ← hX]
   unfold erX
   rw [List.map_map]
   exact h1
  exact CR (Ret.tmp 2 rfl rfl (IP 1 rfl Imp.nil).ent ⟨m, a, c, hm2.trans hk, by rw [hm2.length_eq], by rw [hm2.length_eq]⟩)
 ·refine xjr ?_
  refine VC.condT rfl (CK ?_)
  refine xjr ?_
  refine xnd ?_
  have b3 := ZOk.len hz hok
  rw [List.length_append] at b3
  simp at b3
  refine xjr ?_
  refine VG (VO.alloc rfl fun kb => ?_)
  refine xne ?_
  refine xdc ?_
  refine VG (VI (light_buildArr (pv := [(0, .int .i64 z.2.1.1), (1, .int .i64 z.2.1.2)]) (prC z.2.1) rfl rfl rfl rfl rfl) ?_)
  refine VG (VO.buildSlice (n := 1) (pv := [(0, .agg (prC z.2.1).toArray)]) (prC z.2.1) rfl rfl rfl rfl yo (fill_one rfl rfl rfl) fun nb => ?_)
  refine VG (VO.append (m := 1) (news := prC z.2.1) 3 rfl rfl rfl rfl rfl rfl rfl (RdRow.pt 0 rfl rfl rfl) rfl (few_bytes (k := 1000000) yd yo) yd fun a2 c2 _ => ?_)
  refine xjr ?_
  have hlen : (l ++ [z.2.1]).length = l.length + 1 := by simp
  refine ⟨(J ++ [z], l ++ [z.2.1], a2, c2), ⟨hok, by dsimp only; rw [List.map_append, hlJ]; rfl⟩, by show X.length - (J ++ [z]).length < X.length - J.length; rw [List.length_append]; simp; omega, SC rfl (SC (by dsimp only; rw [hlen]; rfl) (SN _)), ?_⟩
  dsimp only
  rw [hlen, flat_append]
  exact (pkZ [3, 0]).ent
end
end Cl
namespace Cl
open Go Vg T Api Ch Rep Conf Lg Rd
structure ChV (c : ChM) : Prop where
 e1 : 1 ≤ c.epoch
 e2 : c.epoch ≤ 1099511627776
 l1 : 1 ≤ c.ms.length
 l2 : c.ms.length ≤ 6
 nd : (c.ms.map Prod.fst).Nodup
 mr : ∀ m ∈ c.ms, (0 ≤ m.1 ∧ m.1 < 6) ∧ 1 ≤ m.2 ∧ m.2 ≤ c.epoch
 dr : c.drain = -1 ∨ c.drain ∈ c.ms.map Prod.fst
theorem first_v {c : ConfM} (h : c = fitM c) : ChV (firstC c) := by
 have hb := conf_bounds h
 have hm : (firstC c).ms = firstMs c.chain.toNat := rfl
 refine ⟨Int.le_refl _, by show (1 : Int) ≤ _; decide, by rw [hm, firstMs_len]; omega, by rw [hm, firstMs_len]; omega, ?_, fun m hx => ?_, .inl rfl⟩
 ·rw [hm]
  unfold firstMs List.Nodup
  rw [List.map_map, List.pairwise_map]
  refine List.nodup_range.imp fun {a b} h e => h ?_
  have e : ((a : Nat) : Int) = (b : Nat) := e
  omega
 ·rw [hm] at hx
  unfold firstMs at hx
  obtain ⟨i, hi, rfl⟩ := List.mem_map.1 hx
  have := List.mem_range.1 hi
  exact ⟨⟨by show (0 : Int) ≤ i; omega, by show (i : Int) < 6; omega⟩, Int.le_refl _, Int.le_refl _⟩
end Cl
namespace Cl
open Go Vg T Api Ch Rep Conf Lg Rd
section
variable {C : CluM} {b e : Nat} {k : Int}
structure RunOk (F : ConfM) (C : CluM) (i : Nat) : Prop where
 ok : C.Ok i (7 * i)
 cf : C.conf = F
 chv : ChV C.mas.ch
theorem RunOk.new {F : ConfM} (h : F = fitM F) : RunOk F (newC F) 0 := ⟨newC_ok h, rfl, first_v h⟩
theorem few_mail {S : LnkM} (ok : S.Ok) (ha : S.Adr) : S.mail.length ≤ 1444 := by
 have h1 : ((S.mail.map Prod.fst).map fun p : PrM => p.1.toNat * 38 + p.2.toNat).Nodup := by
  have hn := ok.nd
  unfold List.Nodup at hn ⊢
  rw [List.pairwise_map]
  refine hn.imp_of_mem fun {a b} hma hmb h e => h ?_
  obtain ⟨x, hx, rfl⟩ := List.mem_map.1 hma
  obtain ⟨z, hz, rfl⟩ := List.mem_map.1 hmb
  have x1 := adr_r (ha x hx).1
  have x2 := adr_r (ha x hx).2
  have z1 := adr_r (ha z hz).1
  have z2 := adr_r (ha z hz).2
  have : x.1.1 = z.1.1 ∧ x.1.2 = z.1.2 := by omega
  exact Prod.ext this.1 this.2
 have := nat_sub_len (m := List.range 1444) h1 fun n hn => by
  obtain ⟨q, hq, rfl⟩ := List.mem_map.1 hn
  obtain ⟨x, hx, rfl⟩ := List.mem_map.1 hq
  have x1 := adr_r (ha x hx).1
  have x2 := adr_r (ha x hx).2
  rw [List.mem_range]
  omega
 rw [List.length_map, List.length_map, List.length_range] at this
 exact this
end
end Cl
namespace Cl
open Go Vg T Api Ch Rep Conf Lg Rd
attribute [local irreducible] VO VC VA
section
variable {p : Nat} {C : CluM} {y : CluS} {b e : Nat}
theorem look_links (ok : C.lnk.Ok) (h : SatIn Fr [cluH p C] w) : Tri Tryz.prog 75 [.pointer (some ⟨p, 0, none⟩)] Fr w [] (fun v L => ∃ q m, m.Perm C.lnk.mail ∧ v = .pointer (some ⟨q, 0, none⟩) ∧ L = [lnkH q ⟨C.lnk.cap, m⟩]) := by
 obtain ⟨y, fit, hy⟩ := clu_in h
 exact ulinks_spec Fr w ok (hy.blk 0 rfl) (hy.at_ 5 rfl)
theorem look_pairs {q : Nat} {S : LnkM} (hml : S.mail.length ≤ 100000) (h : SatIn Fr [lnkH q S] w) : Tri Tryz.prog 76 [.pointer (some ⟨q, 0, none⟩)] Fr w [] (fun v L => ∃ (l : List PrM) (a : Option Addr) (c : Nat), l.Perm (S.mail.map Prod.fst) ∧ v = .slice a l.length c ∧ L = [slH prT2 2 a l.length c (flat prC l)]) := by
 obtain ⟨lb, X, hX, hs⟩ := lnkH_in h
 exact pairs_spec Fr w hml (hs.blk 0 rfl) (hs.mapBlk 1 rfl) hX
end
end Cl
namespace Vg
open Go
def yieldV (l : Nat) : Value := .func (.yield l) #[] #[]
def lpH (l : Nat) (r : Loop) : HP := ⟨fun ids w => ids = [l] ∧ w.heap[l]? = some (.loop r), fun _ _ _ h hs => ⟨hs.1, (h l yb).trans hs.2⟩⟩
def dfH (D : Nat) : HP := ⟨fun ids w => ids = [D] ∧ w.heap[D]? = some (.deferred (some [])), fun _ _ _ h hs => ⟨hs.1, (h D yb).trans hs.2⟩⟩
theorem Sat.putObj {Fr : Nat → Prop} {H H' : HP} {L : List HP} {w : World} {b : Nat} {o : Obj} (hH : ∀ ids, H.sat ids w → ids = [b]) (hH' : b < w.heap.size → H'.sat [b] (w.putObj b o)) (h : Sat Fr (H :: L) w) :
  Sat Fr (H' :: L) (w.putObj b o) ∧ Keep Fr w (w.putObj b o) := by
 obtain ⟨F, ⟨i, G, rfl, hi, hG⟩, hn, hb⟩ := h
 obtain rfl := hH i hi
 have hd := (List.nodup_append.1 hn).2.2
 have hne : ∀ x ∈ G, x ≠ b := fun x hx e => hd b yf x hx e.symm
 refine ⟨⟨[b] ++ G, ⟨[b], G, rfl, hH' (hb b yf).2, hG.loc fun x hx => World.putObj_heap_other (hne x hx)⟩, hn, fun x hx => ⟨(hb x hx).1, by rw [World.putObj_size]; exact (hb x hx).2⟩⟩, ?_⟩
 exact ⟨rfl, rfl, rfl, by rw [World.putObj_size]; exact NR _, fun x hx => World.putObj_heap_other (fun e => (hb b yf).1 (e ▸ hx)), NR _⟩
theorem Sat.lp {Fr : Nat → Prop} {L : List HP} {w : World} {l : Nat} {r : Loop} (h : Sat Fr (lpH l r :: L) w) : w.heap[l]? = some (.loop r) := by
 obtain ⟨F, ⟨i, G, rfl, hi, hG⟩, hn, hb⟩ := h
 exact hi.2
theorem Sat.lp_put {Fr : Nat → Prop} {L : List HP} {w : World} {l : Nat} {r : Loop} (q : Loop) (h : Sat Fr (lpH l r :: L) w) : Sat Fr (lpH l q :: L) (w.putObj l (.loop q)) ∧ Keep Fr w (w.putObj l (.loop q)) :=
 Sat.putObj (H := lpH l r) (H' := lpH l q) (fun _ h => h.1) (fun hl => ⟨rfl, World.putObj_heap_same hl⟩) h
def Yld (P : Program) (l : Nat) (r : Loop) (vals : List Value) (Fr : Nat → Prop) (w : World) (L : List HP) (R : Value → List HP → Prop) : Prop :=
 (∀ b, Fr b → b < w.heap.size) → Sat Fr (lpH l r :: L) w →
  RoundIn Fence.wide 0 P l r.fn ((r.params.zip vals.toArray).foldl (fun tmps (t, a) => tmps.setIfInBounds t a) r.tmps) r.assign r.body w fun en w' => ∃ v L', en = .returned v ∧ R v L' ∧ Sat Fr (lpH l r :: L') w' ∧ Keep Fr w w'
theorem Yld.of {P : Program} {tab : Tab} {ok : TabOk P tab} {n l : Nat} {r : Loop} {vals : List Value} {Fr : Nat → Prop} {w : World} {L : List HP} {R : Value → List HP → Prop} {e0 : Env} (hst : r.state = .ready) (hpe : r.pending = none)
  (ha : Agr n { tmps := (r.params.zip vals.toArray).foldl (fun tmps (t, a) => tmps.setIfInBounds t a) r.tmps, defers := [] } e0)
  (h : ∀ w, VC ⟨P, tab, ok, n, Fr, w⟩ r.assign e0 (lpH l r :: L) fun x e1 L1 => x = .normal ∧ ∃ L2, L1 = lpH l r :: L2 ∧
   ∀ w, VC ⟨P, tab, ok, n, Fr, w⟩ r.body e1 (lpH l { r with state := .busy } :: L2) fun x e2 L3 => x = .normal ∧ ∃ L4, L3 = lpH l { r with state := .busy } :: L4 ∧ R (.bool true) L4) :
  Yld P l r vals Fr w L R := fun hlow hs => by
 refine roundIn_of_wpIn (F := Fence.wide) trivial ?_
 have h1 := h w (some l) _ w ha ⟨hs, Keep.refl _ _, hlow⟩
 refine wpIn_mono (F := wR (some l)) h1 ?_
 rintro x a1 w1 ⟨e1, L1, g1, g2, rfl, L2, rfl, hb⟩
 have hl1 := g2.sat.lp
 obtain ⟨s2, k2⟩ := g2.sat.lp_put { r with state := .busy }
 refine ⟨_, run_beginRound hl1 hst, ?_⟩
 have hlow2 : ∀ b, Fr b → b < (w1.putObj l (.loop { r with state := .busy })).heap.size := fun b hb => by rw [World.putObj_size]; exact g2.lowW b hb
 refine wpIn_mono (F := wR (some l)) (hb (w1.putObj l (.loop { r with state := .busy })) (some l) a1 _ g1 ⟨s2, Keep.refl _ _, hlow2⟩) ?_
 rintro x a2 w2 ⟨e2, L3, g3, g4, rfl, L4, rfl, hR⟩
 obtain ⟨s5, k5⟩ := g4.sat.lp_put r
 have he : ({ ({ r with state := LoopState.busy } : Loop) with state := if (none : Option Code).isNone then .ready else .done, pending := none } : Loop) = r := by
  obtain ⟨_, _, _, _, _, _, _, _⟩ := r
  dsimp only at hst hpe
  subst hst hpe
  rfl
 refine ⟨_, _, run_endRound none g4.sat.lp, ?_⟩
 rw [he]
 exact ⟨_, L4, rfl, hR, s5, ((g2.keep.trans k2).trans g4.keep).trans k5⟩
def OpY (X : Cx) (op : Op) (e : Env) (L : List HP) (M : Value → List HP → Prop) : Prop :=
 (∀ c, op ≠ .defer c) ∧ ∀ a w, Agr X.n a e → St X L w → ∀ dst ty pos after guard, ∃ l f tmps assign body, (execOp a.eval ⟨dst, op, ty, pos, after, guard⟩).run X.P w = .ok (.round l f tmps assign body) w ∧
  RoundIn Fence.wide 0 X.P l f tmps assign body w fun en w' => ∃ v L', en = .returned v ∧ M v L' ∧ St X L' w'
theorem OpY.wp {X : Cx} {o : Oper} {e : Env} {L : List HP} {M : Value → List HP → Prop} (h : OpY X o.op e L M) {a : Act} {w : World} (ha : Agr X.n a e) (hw : St X L w) {ro : Option Nat}
  {next : Act → World → Prop} {Q : Exit → Act → World → Prop} (hn : ∀ v L' w', M v L' → St X L' w' → next (a.put o.dst v) w') : o.wpIn (wR ro) 0 X.P a w next Q := by
 refine ⟨fun _ _ => trivial, ?_⟩
 rw [semAt_of ro _ _ h.1]
 obtain ⟨l, f, tmps, assign, body, hr, hc⟩ := h.2 a w ha hw o.dst o.type o.pos o.after o.guard
 rw [hr]
 refine ⟨(fun h => by cases h), RoundIn.mono (F := wR ro) hc fun en w' ⟨v, L', he, hm, hs⟩ => ?_⟩
 subst he
 exact hn v L' w' hm hs
theorem VO.opY {X : Cx} {ops : Array Oper} {G : GS} {o : Oper} {l : List Oper} {e : Env} {L : List HP} {K : Env → List HP → Prop} {M : Value → List HP → Prop} (h : OpY X o.op e L M)
  (hk : ∀ v L', M v L' → VO X ops G l (putE o.dst v e) L' K) (hg : gOn ops G o.guard = some true := by rfl) (hd : dstOk X.n o.dst = true := by rfl) (hf : gFree G o.dst = true := by rfl) : VO X ops G (o :: l) e L K := by
 intro Q' hQ ro a w ha hG hw
 unfold wpListIn
 rw [if_pos (gOn_wanted hG hg)]
 exact h.wp ha hw fun v L' w' hm hs => hk v L' hm Q' hQ _ _ _ (ha.putE hd v) (hG.put hf v) hs
theorem VA.opY {X : Cx} {ops : Array Oper} {G : GS} {pl : Plan} {S : Pend} {e : Env} {L : List HP} {K : Env → List HP → Prop} {i : Nat} {o : Oper} {M : Value → List HP → Prop} (h : OpY X o.op e L M) (hi : ops.toList[i]? = some o)
  (hst : ∀ v L', M v L' → ∀ w, St X L' w → ∀ p ∈ S, waits ops i p.1 = false → p.2 w)
  (hk : ∀ v L', M v L' → VA X ops G pl (S.filter fun p => !waits ops i p.1) (putE o.dst v e) L' K)
  (hg : gOn ops G o.guard = some true := by rfl) (hd : dstOk X.n o.dst = true := by rfl) (hf : gFree G o.dst = true := by rfl) : VA X ops G (.only i pl) S e L K := by
 intro Q' hp0 hQ hsel ro listed a w hp ha hG hw hall
 simp only [planB, Bool.and_eq_true, beq_iff_eq] at hp
 have hi' : ops[i]? = some o := by simpa using hi
 have hpr := hp.1
 refine ⟨fun h0 => yh, fun j hj => ?_⟩
 rw [hpr, List.mem_singleton] at hj
 subst hj
 unfold wpOpIn
 rw [hi']
 simp only [gOn_wanted hG hg, if_true]
 refine h.wp ha hw (fun v L' w' hm hs => ⟨fun p hp1 hp2 => hst v L' hm w' hs p hp1 hp2, ?_⟩)
 exact xdb
theorem OpY.yield {X : Cx} {x : Operand} {l : Nat} {r : Loop} {args : Array Operand} {tys : Array TypeId} {e : Env} {L Lc Lr : List HP} {vals : List Value} {R : Value → List HP → Prop}
  (hx : ev e x = some (yieldV l)) (hargs : evs e args.toList = some vals) (hn : vals.length = r.params.size) (hp : L.Perm (lpH l r :: (Lc ++ Lr)))
  (ht : ∀ Fr' w, (∀ b, X.Fr b → Fr' b) → St X L w → SatIn Fr' Lr w → Yld X.P l r vals Fr' w Lc R) :
  OpY X (.call ⟨.value x, args, tys⟩) e L (fun v L' => ∃ L1, R v L1 ∧ L' = lpH l r :: (L1 ++ Lr)) := by
 refine ⟨fun c => Op.noConfusion, fun a w ha hw dst ty pos after guard => ?_⟩
 obtain ⟨F, hs, hnd, hb⟩ := hw.sat.perm hp
 obtain ⟨i, G, rfl, hi, hG⟩ := hs
 obtain ⟨rfl, hl⟩ := hi
 obtain ⟨Fc, Fl, rfl, hsc, hsl⟩ := Sats.append.1 hG
 have T := ht (fun b => X.Fr b ∨ b ∈ Fl) w (fun b h => .inl h) hw ⟨Fl, hsl, fun b h => .inr h⟩
 have hev : args.map a.eval = vals.toArray := by
  have := ha.evs hargs
  apply Array.toList_inj.1
  simpa using this
 refine ⟨l, r.fn, (r.params.zip vals.toArray).foldl (fun tmps (t, a) => tmps.setIfInBounds t a) r.tmps, r.assign, r.body, ?_, ?_⟩
 rotate_left
 ·have hnd2 := List.nodup_append.1 hnd
  have hnd3 := List.nodup_append.1 hnd2.2.1
  refine RoundIn.mono (T (fun b h => ?_) ⟨[l] ++ Fc, ⟨[l], Fc, rfl, ⟨rfl, hl⟩, hsc⟩, ?_, fun b h => ⟨fun h' => ?_, ?_⟩⟩) fun en w' ⟨v, L', h1, h2, h3, h4⟩ => ?_
  ·rcases h with h | h
   ·exact hw.lowW b h
   ·exact (hb b ya).2
  ·rw [← List.append_assoc] at hnd
   exact (List.nodup_append.1 hnd).1
  ·rcases h' with h' | h'
   ·refine (hb b ?_).1 h'
    rcases List.mem_append.1 h with h | h
    ·simp at h; simp [h]
    ·simp [h]
   ·rcases List.mem_append.1 h with h | h
    ·exact hnd2.2.2 b h b (by simp [h']) rfl
    ·exact hnd3.2.2 b h b h' rfl
  ·rcases List.mem_append.1 h with h | h
   ·exact (hb b (by simp at h; simp [h])).2
   ·exact (hb b ya).2
  ·refine ⟨v, lpH l r :: (L' ++ Lr), h1, ⟨L', h2, rfl⟩, ⟨?_, hw.keep.trans (h4.mono fun b h => .inl h), hw.low⟩⟩
   obtain ⟨K, hK, hKn, hKb⟩ := h3
   refine ⟨K ++ Fl, Sats.append (L := lpH l r :: L').2 ⟨K, Fl, rfl, hK, hsl.loc fun b h => h4.block b (.inr h)⟩, ?_, ?_⟩
   ·exact List.nodup_append.2 ⟨hKn, hnd3.2.1, fun x hx y hy he => (hKb x hx).1 (.inr (he ▸ hy))⟩
   ·intro b h
    rcases List.mem_append.1 h with h | h
    ·exact ⟨fun h' => (hKb b h).1 (.inl h'), (hKb b h).2⟩
    ·exact xcz
 ·have hy := run_yield (P := X.P) (args := vals.toArray) hl (by simpa using hn)
  simp only [execOp, resolve, ha.ev hx, yieldV, Deferred.ofValue, invoke]
  rw [hev]
  simpa [Sem.run_bind, Result.andThen] using hy
def markD (D : Nat) : Deferred := { target := .collected D, args := #[] }
structure AgrD (D n : Nat) (a : Act) (e : Env) : Prop where
 agr : Agr n { a with defers := [] } e
 mark : a.defers = [markD D]
def VD (X : Cx) (D : Nat) (c : Code) (e : Env) (L : List HP) (Q : Exit → Env → List HP → Prop) : Prop :=
 ∀ a w, AgrD D X.n a e → St X L w → c.wpIn (wR none) 0 X.P (fun x a' w' => ∃ e' L', AgrD D X.n a' e' ∧ St X L' w' ∧ Q x e' L') a w
def VM (X : Cx) (c : Code) (e : Env) (L : List HP) (Q : Exit → Env → List HP → Prop) (QD : Nat → Exit → Env → List HP → Prop) : Prop :=
 ∀ a w, Agr X.n a e → St X L w → c.wpIn (wR none) 0 X.P (fun x a' w' => (∃ e' L', Agr X.n a' e' ∧ St X L' w' ∧ Q x e' L') ∨ ∃ D e' L', AgrD D X.n a' e' ∧ St X L' w' ∧ QD D x e' L') a w
def seqD (X : Cx) (D : Nat) (c : Code) (Q : Exit → Env → List HP → Prop) : Exit → Env → List HP → Prop
 | .normal, e, L => VD X D c e L Q
 | x, e, L => Q x e L
def seqM (X : Cx) (c : Code) (Q : Exit → Env → List HP → Prop) (QD : Nat → Exit → Env → List HP → Prop) : Exit → Env → List HP → Prop
 | .normal, e, L => VM X c e L Q QD
 | x, e, L => Q x e L
section
variable {X : Cx} {D : Nat} {b c : Code} {e : Env} {L : List HP} {Q : Exit → Env → List HP → Prop} {QD : Nat → Exit → Env → List HP → Prop}
theorem VD.ret (h : Q .ret e L) : VD X D .ret e L Q := fun _ _ ha hw => wpIn_ret ⟨e, L, ha, hw, h⟩
theorem VD.seq (h : VD X D b e L (seqD X D c Q)) : VD X D (.seq b c) e L Q := by
 intro a w ha hw
 refine wpIn_seq (wpIn_mono (h a w ha hw) fun x a' w' ⟨e', L', h1, h2, h3⟩ => ?_)
 cases x with
 | normal => exact h3 a' w' h1 h2
 | exit id => exact ⟨e', L', h1, h2, h3⟩
 | goto l => exact ⟨e', L', h1, h2, h3⟩
 | ret => exact ⟨e', L', h1, h2, h3⟩
 | panic ch => exact ⟨e', L', h1, h2, h3⟩
 | outgrown => exact ⟨e', L', h1, h2, h3⟩
theorem wpListIn_defers {F : Fence} {n : Nat} {P : Program} {ops : Array Oper} {K : Exit → Act → World → Prop} (ds : List Deferred) : ∀ (l : List Oper) (a : Act) (w : World), wpListIn F n P ops K l a w →
  wpListIn F n P ops (fun x a' w' => ∃ a0, K x a0 w' ∧ a' = { a0 with defers := a0.defers ++ ds }) l { a with defers := a.defers ++ ds } w
 | [], a, w, h => ⟨a, h, rfl⟩
 | o :: l, a, w, h => by
  have hput : ∀ (a : Act) v, ({ a with defers := a.defers ++ ds } : Act).put o.dst v = { a.put o.dst v with defers := (a.put o.dst v).defers ++ ds } := fun a v => by
   cases hd : o.dst <;> rfl
  have ih := wpListIn_defers (F := F) (n := n) (P := P) (ops := ops) (K := K) ds l
  unfold wpListIn at h ⊢
  dsimp only
  split
  ·rename_i hw
   rw [if_pos hw] at h
   refine ⟨h.1, ?_⟩
   have h := h.2
   have he : ({ a with defers := a.defers ++ ds } : Act).eval = a.eval := rfl
   rw [he]
   generalize (o.semAt F.round a.eval).run P w = r at h ⊢
   cases r with
   | ok x w' =>
    cases x <;> simp only [Oper.uponIn] at h ⊢
    case value u => rw [hput]; exact ih _ _ h
    case skip => rw [hput]; exact ih _ _ h
    case defer d =>
     have := ih _ _ h
     rw [show ({ a with defers := d :: (a.defers ++ ds) } : Act) = { ({ a with defers := d :: a.defers } : Act) with defers := ({ a with defers := d :: a.defers } : Act).defers ++ ds } from rfl, hput]
     exact this
    case enter f args =>
     refine ⟨h.1, CallsIn.mono h.2 fun e w'' he => ?_⟩
     cases e with
     | returned u => dsimp only at he ⊢; rw [hput]; exact ih _ _ he
     | panicked c => exact ⟨a, he, rfl⟩
     | outgrown => obtain ⟨a0, w0, hq⟩ := he; exact ⟨_, w0, a0, hq, rfl⟩
    case row row args => exact ⟨h.1, RowsIn.mono h.2 fun u w'' he => by rw [hput]; exact ih _ _ he⟩
    case round l f tmps assign body =>
     refine ⟨h.1, RoundIn.mono h.2 fun e w'' he => ?_⟩
     cases e with
     | returned u => dsimp only at he ⊢; rw [hput]; exact ih _ _ he
     | panicked c => exact ⟨a, he, rfl⟩
     | outgrown => obtain ⟨a0, w0, hq⟩ := he; exact ⟨_, w0, a0, hq, rfl⟩
   | halt x w' =>
    cases x <;> simp only [Oper.uponIn] at h ⊢
    case panic u => exact ⟨a, h, rfl⟩
  ·rename_i hw
   rw [if_neg hw] at h
   refine ⟨h.1, ?_⟩
   rw [hput]
   exact ih _ _ h.2
theorem VD.region {id : Nat} {l : List Oper} (h : VO X l.toArray [] l e L (Q .normal)) : VD X D (.region id l.toArray false) e L Q := by
 intro a w ha hw
 have h0 := h (fun x a' w' => x = .normal ∧ ∃ e' L', Agr X.n a' e' ∧ St X L' w' ∧ Q .normal e' L') (fun e' L' _ _ h1 h2 h3 => ⟨rfl, e', L', h1, h2, h3⟩) none { a with defers := [] } w ha.agr (GOk.nil _) hw
 have h1 := wpListIn_defers [markD D] l _ _ h0
 have e1 : ({ ({ a with defers := [] } : Act) with defers := ({ a with defers := [] } : Act).defers ++ [markD D] } : Act) = a := by
  have := ha.mark
  obtain ⟨t, d⟩ := a
  dsimp only at this
  subst this; rfl
 rw [e1] at h1
 refine wpIn_mono (wpIn_region_lit h1) ?_
 rintro x a' w' ⟨a0, ⟨rfl, e', L', h2, h3, h4⟩, rfl⟩
 have hd0 := h2.defers
 refine ⟨e', L', ⟨?_, ?_⟩, h3, h4⟩
 ·obtain ⟨t, d⟩ := a0
  dsimp only at hd0
  subst hd0
  exact h2
 ·show a0.defers ++ [markD D] = _
  rw [hd0]; rfl
theorem VM.seqV (h : VC X b e L (seqM X c Q QD)) : VM X (.seq b c) e L Q QD := by
 intro a w ha hw
 refine wpIn_seq (wpIn_mono (h none a w ha hw) fun x a' w' ⟨e', L', h1, h2, h3⟩ => ?_)
 cases x with
 | normal => exact h3 a' w' h1 h2
 | exit id => exact .inl ⟨e', L', h1, h2, h3⟩
 | goto l => exact .inl ⟨e', L', h1, h2, h3⟩
 | ret => exact .inl ⟨e', L', h1, h2, h3⟩
 | panic ch => exact .inl ⟨e', L', h1, h2, h3⟩
 | outgrown => exact .inl ⟨e', L', h1, h2, h3⟩
theorem VM.seqD (h : VM X b e L (fun _ _ _ => False) (fun D => seqD X D c (QD D))) : VM X (.seq b c) e L Q QD := by
 intro a w ha hw
 refine wpIn_seq (wpIn_mono (h a w ha hw) fun x a' w' hh => ?_)
 rcases hh with ⟨_, _, _, _, h3⟩ | ⟨D, e', L', h1, h2, h3⟩
 ·exact h3.elim
 cases x with
 | normal => exact wpIn_mono (h3 a' w' h1 h2) fun x a2 w2 ⟨e2, L2, k1, k2, k3⟩ => .inr ⟨D, e2, L2, k1, k2, k3⟩
 | exit id => exact .inr ⟨D, e', L', h1, h2, h3⟩
 | goto l => exact .inr ⟨D, e', L', h1, h2, h3⟩
 | ret => exact .inr ⟨D, e', L', h1, h2, h3⟩
 | panic ch => exact .inr ⟨D, e', L', h1, h2, h3⟩
 | outgrown => exact .inr ⟨D, e', L', h1, h2, h3⟩
theorem VM.block {id : Nat} (h : VM X c e L (fun _ _ _ => False) (fun D x e L => x = .normal ∧ QD D .normal e L)) : VM X (.block id c) e L (fun _ _ _ => False) QD := by
 intro a w ha hw
 refine wpIn_block (wpIn_mono (h a w ha hw) fun x a' w' hh => ?_)
 rcases hh with ⟨_, _, _, _, h3⟩ | ⟨D, e', L', h1, h2, rfl, h3⟩
 ·exact h3.elim
 ·exact .inr ⟨D, e', L', h1, h2, h3⟩
theorem VM.rangeF {g : Operand} {ps : Array Tmp} {assign body : Code} {f : FuncId} {capt : List Value} {M : List HP → Prop} (hg : ev e g = some (fnV f [] capt)) (hc : Callable X.P f)
  (ht : ∀ (l : Nat) (r : Loop) (Fr' : Nat → Prop) (w : World), (∀ b, X.Fr b → Fr' b) → (∃ a : Act, Agr X.n a e ∧ r.tmps = a.tmps) → r.state = .ready → r.pending = none → r.params = ps → r.assign = assign → r.body = body →
   Tri X.P f (yieldV l :: capt) Fr' w (lpH l r :: L) fun _ L' => ∃ L2, L' = lpH l r :: L2 ∧ M L2)
  (hk : ∀ D L2, M L2 → QD D .normal e (dfH D :: L2)) : VM X (.rangeFunc g ps assign body) e L Q QD := by
 intro a w ha hw
 refine wpIn_rangeFunc (F := Fence.wide) fun fn _ => ?_
 obtain ⟨r, hr⟩ : ∃ r : Loop, r = { state := .ready, pending := none, fn, tmps := a.tmps, params := ps, assign, body, defers := w.heap.size } := ⟨_, rfl⟩
 obtain ⟨W, hW⟩ : ∃ W, W = (w.alloc (.deferred (some []))).alloc (.loop r) := ⟨_, rfl⟩
 have s1 : Sat X.Fr (dfH w.heap.size :: L) (w.alloc (.deferred (some []))) := hw.sat.alloc hw.lowW _ _ ⟨rfl, heap_alloc_new w _⟩
 have k1 : Keep X.Fr w (w.alloc (.deferred (some []))) := Keep.alloc hw.lowW _
 have low1 : ∀ b, X.Fr b → b < (w.alloc (.deferred (some []))).heap.size := fun b hb => Nat.lt_of_lt_of_le (hw.lowW b hb) k1.size
 have hsz : (w.alloc (.deferred (some []))).heap.size = w.heap.size + 1 := by simp
 have s2 : Sat X.Fr (lpH (w.heap.size + 1) r :: dfH w.heap.size :: L) W := by
  rw [hW, ← hsz]
  exact s1.alloc low1 _ _ ⟨rfl, heap_alloc_new _ _⟩
 have k2 : Keep X.Fr w W := by rw [hW]; exact k1.trans (Keep.alloc low1 _)
 have hev : a.eval g = .func (.func f) #[] capt.toArray := ha.ev hg
 refine ⟨w.heap.size + 1, [markD w.heap.size], W, { target := .fn (.func f) capt.toArray, args := #[yieldV (w.heap.size + 1)] }, W, f, #[yieldV (w.heap.size + 1)] ++ capt.toArray, W, ?_, ?_, fun _ _ => trivial, ?_, (fun h => by cases h), ?_⟩
 ·rw [hW, hr]; exact run_enterLoop_outer _ _ _ _ _
 ·simp only [resolve, hev]
  simp [Deferred.ofValue, yieldV, Act.eval]
 ·simp only [invoke]
  exact run_callFunc hc _ _
 obtain ⟨F, hs, hnd, hb⟩ := s2
 obtain ⟨i, G, rfl, hi, hG⟩ := hs
 obtain ⟨rfl, hl⟩ := hi
 obtain ⟨j, K, rfl, hj, hK⟩ := hG
 obtain ⟨rfl, hD⟩ := hj
 have hn2 := List.nodup_append.1 hnd
 have hn3 := List.nodup_append.1 hn2.2.1
 have T := ht (w.heap.size + 1) r (fun b => X.Fr b ∨ b = w.heap.size) W (fun b h => .inl h) ⟨a, ha, by rw [hr]⟩ (by rw [hr]) (by rw [hr]) (by rw [hr]) (by rw [hr]) (by rw [hr])
 have hc1 := T.calls (fun b h => by
  rcases h with h | rfl
  ·exact (Nat.lt_of_lt_of_le (hw.lowW b h) k2.size)
  ·exact (hb _ yf).2) ⟨[w.heap.size + 1] ++ K, ⟨[w.heap.size + 1], K, rfl, ⟨rfl, hl⟩, hK⟩, by
   refine List.nodup_append.2 ⟨by simp, hn3.2.1, fun x hx y hy he => hn2.2.2 x hx y (by simp [hy]) he⟩, fun b hbm => ⟨fun h => ?_, ?_⟩⟩
 rotate_left
 ·rcases h with h | rfl
  ·rcases List.mem_append.1 hbm with h2 | h2
   ·exact (hb b (by simp at h2; simp [h2])).1 h
   ·exact (hb b yj).1 h
  ·rcases List.mem_append.1 hbm with h2 | h2
   ·simp at h2
   ·exact hn3.2.2 _ yf _ h2 rfl
 ·rcases List.mem_append.1 hbm with h2 | h2
  ·exact (hb b (by simp at h2; simp [h2])).2
  ·exact (hb b yj).2
 have e1 : (#[yieldV (w.heap.size + 1)] ++ capt.toArray : Array Value) = (yieldV (w.heap.size + 1) :: capt).toArray := by simp
 rw [e1]
 refine (callsIn_wide (n := 0 - 1)).2 (Calls.mono hc1 ?_)
 rintro en w' ⟨v, L', rfl, ⟨L2, rfl, hM⟩, h3, h4⟩
 have hl' := h3.lp
 obtain ⟨s5, k5⟩ := h3.lp_put { r with state := .exhausted }
 refine ⟨none, w'.putObj (w.heap.size + 1) (.loop { r with state := .exhausted }), ?_, ?_⟩
 ·have := run_endLoop (P := X.P) hl' (by rw [hr]; exact fun h => by cases h)
  rw [this, show r.pending = none by rw [hr]]
 ·have hD' : (w'.putObj (w.heap.size + 1) (.loop { r with state := .exhausted })).heap[w.heap.size]? = some (.deferred (some [])) := (k5.block _ (.inr rfl)).trans ((h4.block _ (.inr rfl)).trans hD)
  refine .inr ⟨w.heap.size, e, dfH w.heap.size :: L2, ⟨?_, ?_⟩, ⟨?_, (hw.keep.trans k2).trans ((h4.trans k5).mono fun b h => .inl h), hw.low⟩, hk _ _ hM⟩
  ·have hd0 := ha.defers
   obtain ⟨t, d⟩ := a
   dsimp only at hd0
   subst hd0
   exact ha
  ·show [markD w.heap.size] ++ a.defers = _
   rw [ha.defers]; rfl
  ·obtain ⟨F5, hs5, hn5, hb5⟩ := s5.tail
   refine ⟨[w.heap.size] ++ F5, ⟨_, F5, rfl, ⟨rfl, hD'⟩, hs5⟩, List.nodup_append.2 ⟨by simp, hn5, fun x hx y hy he => ?_⟩, fun b hbm => ?_⟩
   ·simp at hx
    exact (hb5 y hy).1 (.inr (by rw [← he, hx]))
   ·rcases List.mem_append.1 hbm with h2 | h2
    ·simp at h2
     rw [h2]
     exact ⟨fun h => Nat.lt_irrefl _ (hw.lowW _ h), (Array.getElem?_eq_some_iff.1 hD').1⟩
    ·exact ⟨fun h => (hb5 b h2).1 (.inl h), (hb5 b h2).2⟩
end
def retD (X : Cx) (fn : Func) (R : Value → List HP → Prop) (D : Nat) : Exit → Env → List HP → Prop
 | .normal, e, L => ∃ L2, L = dfH D :: L2 ∧ Ret X fn R e L2
 | .ret, e, L => ∃ L2, L = dfH D :: L2 ∧ Ret X fn R e L2
 | _, _, _ => False
theorem Tri.ofM {P : Program} {f : FuncId} {fn : Func} {c : Code} {args : List Value} {Fr : Nat → Prop} {w : World} {L : List HP} {R : Value → List HP → Prop} {tab : Tab} (n : Nat)
  (hf : P.funcs[f]? = some fn) (hb : fn.body = some c) (hnm : (fn.name == "runtime.NumGoroutine") = false) (ok : TabOk P tab) (hnt : fn.ntmps = n) (hn : Nat.ble args.length n = true)
  (h : VM ⟨P, tab, ok, n, Fr, w⟩ c (enumE 0 args) L (retQ ⟨P, tab, ok, n, Fr, w⟩ fn R) (retD ⟨P, tab, ok, n, Fr, w⟩ fn R)) : Tri P f args Fr w L R := by
 subst hnt
 replace hn := Nat.le_of_ble_eq_true hn
 refine ⟨⟨fn, hf, by simp [hb], hnm⟩, fun hlow hs => ?_⟩
 refine (callsIn_wide (n := 0)).1 (callsIn_of_wp_marks (F := Fence.wide) hf hb trivial (wpIn_mono (F := wR none) (h _ w (agr_enter hn) ⟨hs, Keep.refl _ _, hlow⟩) fun x a' w' hh => ?_))
 rcases hh with ⟨e', L', h1, h2, h3⟩ | ⟨D, e', L', h1, h2, h3⟩
 ·have key : Ret ⟨P, tab, ok, fn.ntmps, Fr, w⟩ fn R e' L' → LeavesInM Fence.wide 0 P fn a'.tmps (fun e w' => ∃ v L', e = .returned v ∧ R v L' ∧ Sat Fr L' w' ∧ Keep Fr w w') a'.defers .returning w' := by
   rintro ⟨v, L1, hr, he, hR⟩
   rw [h1.defers]
   exact ⟨v, hr.run a' w' h1 h2, v, L1, rfl, hR, (he w' h2).sat, h2.keep⟩
  cases x with
  | normal => exact key h3
  | ret => exact key h3
  | exit id => exact h3.elim
  | goto l => exact h3.elim
  | panic ch => exact h3.elim
  | outgrown => exact h3.elim
 ·have key : (∃ L2, L' = dfH D :: L2 ∧ Ret ⟨P, tab, ok, fn.ntmps, Fr, w⟩ fn R e' L2) → LeavesInM Fence.wide 0 P fn a'.tmps (fun e w' => ∃ v L', e = .returned v ∧ R v L' ∧ Sat Fr L' w' ∧ Keep Fr w w') a'.defers .returning w' := by
   rintro ⟨L2, rfl, v, L1, hr, he, hR⟩
   rw [h1.mark]
   obtain ⟨s2, k2⟩ := Sat.putObj (H := dfH D) (b := D) (o := .deferred none) (H' := ⟨fun ids w => ids = [D], fun _ _ _ _ h => h⟩) (fun _ h => h.1) (fun _ => rfl) h2.sat
   have hD : w'.heap[D]? = some (.deferred (some [])) := by
    obtain ⟨F, ⟨i, G, rfl, hi, hG⟩, hn, hb⟩ := h2.sat
    exact hi.2
   have st : St ⟨P, tab, ok, fn.ntmps, Fr, w⟩ L2 (w'.putObj D (.deferred none)) := ⟨s2.tail, h2.keep.trans k2, h2.low⟩
   exact ⟨(fun h => by cases h), .inl ⟨D, _, rfl, run_takeDeferred hD, v, hr.run { a' with defers := [] } _ h1.agr st, v, L1, rfl, hR, (he _ st).sat, st.keep⟩⟩
  cases x with
  | normal => exact key h3
  | ret => exact key h3
  | exit id => exact h3.elim
  | goto l => exact h3.elim
  | panic ch => exact h3.elim
  | outgrown => exact h3.elim
end Vg
namespace Cl
open Go Vg T Api Ch Rep Conf Lg Rd
attribute [local irreducible] VO VC VA VM VD
theorem fnone_no {u : Value} (h : NoClu Fr w u) : Tri Tryz.prog 23 [u] Fr w [] (fun v L => v = .bool true ∧ L = []) := by
 refine TF 6 Tryz.func23 rfl ym tabOk rfl rfl ?_
 refine xjr ?_
 refine VG (VV (fun Fr w hF hw hS => no_master Fr w (h.of hF hw)) rfl ?_)
 refine xjr ?_
 exact xex
theorem fnone_spec {p : Nat} {C : CluM} (h : SatIn Fr [cluH p C] w) : Tri Tryz.prog 23 [.pointer (some ⟨p, 0, none⟩)] Fr w [] (fun v L => v = .bool false ∧ L = []) := by
 obtain ⟨y, fit, hy⟩ := clu_in h
 refine TF 6 Tryz.func23 rfl ym tabOk rfl rfl ?_
 refine xjr ?_
 refine xnz ?_
 refine xjr ?_
 exact xex
abbrev cpT1 : TypeId := 39
abbrev i64T : TypeId := 3
def rndL (tb mb p : Nat) (C : CluM) (m : Int) : List HP := [pt mb [.int .i64 m] i64T, pt tb [.pointer (some ⟨p, 0, none⟩)] cpT1, cluH p C]
def isD (s : StpM) (e : Int) : Int := if e = 0 ∧ s.kind = 4 then 1 else 0
def RdY (r : Loop) (l tb mb p : Nat) : Prop := ∀ {C : CluM} {b e : Nat} (ok : C.Ok b e) (hb : b < 100000) (he : e < 900000) (m : Int) (h0 : 0 ≤ m) (h1 : m ≤ 1000000) (s : StpM) (Fr : Nat → Prop) (w : World),
 Yld Tryz.prog l r [.agg s.cells.toArray] Fr w (rndL tb mb p C m) fun v L => v = .bool true ∧ L = rndL tb mb p (C.do_ s).1 (m + isD s (C.do_ s).2)
theorem Agr.par1 {n : Nat} {a : Act} {e : Env} (h : Agr n a e) {t : Nat} (ht : Nat.blt t n = true) (v : Value) : Agr n { tmps := ((#[t] : Array Tmp).zip #[v]).foldl (fun tmps (t, a) => tmps.setIfInBounds t a) a.tmps, defers := [] } ((t, v) :: e) := by
 have := h.put ht v
 have hd := h.defers
 obtain ⟨x, d⟩ := a
 dsimp only at hd
 subst hd
 have e1 : ((#[t] : Array Tmp).zip #[v]).foldl (fun tmps (t, a) => tmps.setIfInBounds t a) x = x.setIfInBounds t v := by simp
 dsimp only
 rw [e1]
 exact this
theorem isD_no {s : StpM} (e : Int) (h : s.kind ≠ 4) : isD s e = 0 := if_neg fun g => h g.2
theorem Pth.is_one {C : CluM} {p : PrM} (m : Int) : m + isD (stD p) (C.do_ (stD p)).2 = m + oneIf (C.do_ (stD p)).2 := by
 unfold isD oneIf stD stS
 by_cases h : (C.do_ ⟨4, p.1, p.2, 0, opZe⟩).2 = 0
 ·rw [if_pos ⟨h, rfl⟩, if_pos h]
 ·rw [if_neg (fun g => h g.1), if_neg h]
theorem Pth.few {C0 : CluM} {m0 : Int} : ∀ {k : Nat} {C : CluM} {m : Int}, Pth C0 m0 k C m → m0 ≤ m ∧ m ≤ m0 + k
 | _, _, _, .nil => by omega
 | _, _, _, .snoc (k := k) (C := C) (p := p) h hp => by
  have ih := Pth.few h
  have : 0 ≤ oneIf (C.do_ (stD p)).2 ∧ oneIf (C.do_ (stD p)).2 ≤ 1 := by unfold oneIf; split <;> omega
  push_cast
  omega
theorem Dlv.few {C0 C : CluM} {m0 m : Int} (h : Dlv C0 m0 C m) : m0 ≤ m ∧ m ≤ m0 + 4096 := by
 obtain ⟨k, hk, p, _⟩ := h
 have := p.few
 omega
theorem Dlv.ok {C0 C : CluM} {m0 m : Int} {b e : Nat} (h : C0.Ok b e) (hb : b < 90000) (he : e < 800000) (d : Dlv C0 m0 C m) : C.Ok (b + 4096) (e + 28672) := by
 obtain ⟨k, hk, p, _⟩ := d
 exact (p.ok h hb he hk).mono yd yd
theorem steps_ok {C : CluM} {b e : Nat} (h : C.Ok b e) (hb : b < 90000) (he : e < 800000) : ∀ n : Nat, n ≤ 6 → (stepsC n C).Ok (b + n) (e + 7 * n)
 | 0, _ => h
 | n + 1, hn => ((steps_ok h hb he n yd).do_ yd yd _).mono yd yd
theorem deliver_spec26 {r : Loop} {l tb mb p : Nat} (hy : RdY r l tb mb p) (hps : r.params.size = 1) {C0 : CluM} {b e : Nat} (ok : C0.Ok b e) (hb : b < 90000) (he : e < 800000) {m0 : Int} (h0 : 0 ≤ m0) (h1 : m0 ≤ 900000) :
  Tri Tryz.prog 48 [.pointer (some ⟨p, 0, none⟩), yieldV l] Fr w (lpH l r :: rndL tb mb p C0 m0) (fun v L => ∃ C m, Dlv C0 m0 C m ∧ v = .bool true ∧ L = lpH l r :: rndL tb mb p C m) := by
 refine TF 27 Tryz.func48 rfl ym tabOk rfl rfl ?_
 refine xeq ?_
 refine VC.meet (σ := CluM × Int) (fun _ => []) (fun s => lpH l r :: rndL tb mb p s.1 s.2) (fun s => Dlv C0 m0 s.1 s.2) ?_ ?_
 rotate_left
 ·rintro ⟨C, m⟩ hd
  dsimp only at hd ⊢
  refine xjr ?_
  exact CR (Ret.tmp 4 rfl rfl ER ⟨C, m, hd, rfl, rfl⟩)
 refine xjr ?_
 refine VC.loop (σ := Nat × CluM × Int) (fun s => [(0, pV p), (1, yieldV l), (6, .int .i64 (s.1 : Int))]) (fun s => lpH l r :: rndL tb mb p s.2.1 s.2.2) (fun s => Pth C0 m0 s.1 s.2.1 s.2.2 ∧ s.1 ≤ 4096) (fun s => 4096 - s.1) (0, C0, m0)
  ⟨.nil, Nat.zero_le _⟩ sbZ ER ?_
 rintro ⟨k, C, m⟩ ⟨hP, hk⟩
 dsimp only at hP hk ⊢
 have okC := hP.ok ok hb he hk
 have hfew := hP.few
 refine xjr ?_
 refine CP (p := (k : Int) < 4096) rfl (fun h2 => CK ?_) (fun h2 => CX ?_)
 rotate_left
 ·exact ⟨(C, m), ⟨k, hk, hP, .inl yd⟩, SN _, ER⟩
 have hcl := few_mail okC.lnk okC.adr
 refine xjr ?_
 refine VG (VK (Lc := []) (fun Fr w hF hw hS => look_links Fr w okC.lnk (hS.at_ 3 rfl)) rfl rfl ?_)
 rintro _ _ ⟨q, ml, hml, rfl, rfl⟩
 refine VG (VK (Lc := []) (fun Fr w hF hw hS => look_pairs Fr w (S := ⟨C.lnk.cap, ml⟩) (by have := hml.length_eq; dsimp only; omega) (hS.at_ 0 rfl)) rfl rfl ?_)
 rintro _ _ ⟨prs, pa, pc, hprs, rfl, rfl⟩
 have hpm : prs.Perm (C.lnk.mail.map Prod.fst) := hprs.trans (hml.map _)
 refine xjr ?_
 refine CE rfl (fun h3 => CX ?_) (fun h3 => CK ?_)
 ·refine ⟨(C, m), ⟨k, hk, hP, .inr ?_⟩, SN _, (Imp.trans Imp.tail Imp.tail).ent⟩
  have h4 := hpm.length_eq
  rw [List.length_map] at h4
  have h5 : C.lnk.mail.length = 0 := by omega
  exact List.eq_nil_of_length_eq_zero h5
 refine CN (L' := slH prT2 2 pa prs.length pc (flat prC prs) :: lpH l r :: rndL tb mb p C m) (Imp.cons Imp.tail).ent ?_
 refine VC.opn 0 rfl (HOpn.rl prT2 pa pc prs prC_len) ?_
 rintro ⟨xa, xc, xb, xcs, xs⟩ ⟨rok, rv, rx⟩
 dsimp only at rx
 subst rx
 injection rv with e1 _ e3
 subst e1 e3
 have hxl : 0 < xs.length := by omega
 have hxp : xs[0]? = some xs[0] := GE hxl
 have hpin : xs[0] ∈ C.lnk.mail.map Prod.fst := hpm.mem_iff.1 (List.getElem_mem hxl)
 generalize xs[0] = pr at hxp hpin
 obtain ⟨tb', tof, htb, hta, hrd⟩ := RL.Ok.ld (t := prT2) (k := 0) (x := pr) rok hxp (prC_len pr)
 dsimp only at hta
 subst hta
 refine CS ?_
 refine xnu ?_
 refine xlf ?_
 refine AG (AI rfl (light_idx 0 rfl rfl rfl rfl rfl rfl hxl) ?_)
 refine xnx ?_
 refine AG (yE rfl rfl rfl ((hrd 0 rfl).2 _ 0 (.int .i64 pr.1) rfl rfl) ?_)
 refine xlf ?_
 refine AG (AI rfl (light_idx 0 rfl rfl rfl rfl rfl rfl hxl) ?_)
 refine xny ?_
 refine AG (yE rfl rfl rfl ((hrd 0 rfl).2 _ 1 (.int .i64 pr.2) rfl rfl) ?_)
 refine xlf ?_
 refine AG (AI rfl (LB (pv := [(0, .int .i64 4), (1, .int .i64 pr.1), (2, .int .i64 pr.2)]) ((stD pr).cells) rfl rfl rfl ym rfl) ?_)
 refine xlf ?_
 refine AG (VA.opY (OpY.yield (r := r) (vals := [.agg (stD pr).cells.toArray]) (Lc := rndL tb mb p C m) (Lr := [RL.h prT2 ⟨some ⟨tb', tof, none⟩, xc, xb, xcs, xs⟩]) rfl rfl hps.symm (List.perm_append_comm (l₁ := [_]) (l₂ := lpH l r :: rndL tb mb p C m)) (fun Fr' w hF hw hS => hy okC yd yd m yd yd (stD pr) Fr' w)) rfl ?_ ?_)
 ·rintro _ _ ⟨_, ⟨rfl, rfl⟩, rfl⟩
  have g1 := fun {X} {L} h => (hrd (X := X) (L := L) 4 h).2 t3 0 (.int .i64 pr.1) rfl rfl
  have g2 := fun {X} {L} h => (hrd (X := X) (L := L) 4 h).2 t3 1 (.int .i64 pr.2) rfl rfl
  exact (by (try refine Pd.st ?_);(repeat (first|exact Pd.nil|exact Pd.fnil|refine Pd.inner ?_|refine Pd.skip yq ?_|refine zf (RdL.blk g1 rfl rfl) ?_|refine zf (RdL.blk g2 rfl rfl) ?_|refine zf (g1 rfl) ?_|refine zf (g2 rfl) ?_|refine zc (RdL.blk g1 rfl rfl) ?_|refine zc (RdL.blk g2 rfl rfl) ?_|refine zc (g1 rfl) ?_|refine zc (g2 rfl) ?_)))
 rintro _ _ ⟨_, ⟨rfl, rfl⟩, rfl⟩
 rw [Pth.is_one]
 refine zqd ?_
 refine zoj ?_
 exact ⟨(k + 1, _, _), ⟨hP.snoc hpin, by dsimp only; omega⟩, by dsimp only; omega, SC rfl (SC rfl (Sub.int rfl ybb (SN _))), (Imp.trans (Imp.perm (List.perm_append_comm (l₁ := lpH l r :: rndL tb mb p (C.do_ (stD pr)).1 (m + oneIf (C.do_ (stD pr)).2)) (l₂ := [_]))) Imp.tail).ent⟩
end Cl
namespace Cl
open Go Vg T Api Ch Rep Conf Lg Rd
attribute [local irreducible] VO VC VA VM VD
theorem steps1_spec {r : Loop} {l tb mb p sb : Nat} (hy : RdY r l tb mb p) (hps : r.params.size = 1) {C0 : CluM} {b e : Nat} (ok : C0.Ok b e) (hb : b < 80000) (he : e < 700000) :
  Tri Tryz.prog 47 [yieldV l, .pointer (some ⟨sb, 0, none⟩)] Fr w (lpH l r :: pt sb [.pointer (some ⟨p, 0, none⟩)] cpT1 :: rndL tb mb p C0 0) (fun v L => ∃ C m, Rnd C0 C m ∧ v = .tuple #[] ∧ L = lpH l r :: pt sb [.pointer (some ⟨p, 0, none⟩)] cpT1 :: rndL tb mb p C m) := by
 refine TF 29 Tryz.func47 rfl ym tabOk rfl rfl ?_
 refine xdo ?_
 refine VG (VO.ent (L' := (lpH l r :: rndL tb mb p C0 0) ++ [pt sb [.pointer (some ⟨p, 0, none⟩)] cpT1]) (Imp.perm (List.Perm.cons _ (List.perm_append_comm (l₁ := [_]) (l₂ := rndL tb mb p C0 0)))).ent ?_)
 refine VG (VK (fun Fr w hF hw hS => deliver_spec26 Fr w hy hps ok yd yd (Int.le_refl 0) yo) rfl rfl ?_)
 rintro _ _ ⟨C1, m1, hD1, rfl, rfl⟩
 have hf1 := hD1.few
 have ok1 := hD1.ok ok yd yd
 refine xjr ?_
 refine xfh ?_
 refine xjs ?_
 refine VG (VI (LB (pv := [(0, .int .i64 3)]) ((stS 3 0 0).cells) rfl rfl rfl ym rfl) ?_)
 refine VG (VO.opY (OpY.yield (r := r) (vals := [.agg (stS 3 0 0).cells.toArray]) (Lc := rndL tb mb p C1 m1) (Lr := [pt sb [.pointer (some ⟨p, 0, none⟩)] cpT1]) rfl rfl hps.symm (List.Perm.refl _) (fun Fr' w hF hw hS => hy ok1 yd yd m1 yd yd (stS 3 0 0) Fr' w)) ?_)
 rintro _ _ ⟨_, ⟨rfl, rfl⟩, rfl⟩
 rw [isD_no _ yo, Int.add_zero]
 have okT := (ok1.do_ yd yd (stS 3 0 0)).mono (b' := b + 4097) (e' := e + 28679) yd yd
 have hmid : midC C1 = stepsC 6 (C1.do_ (stS 3 0 0)).1 := rfl
 generalize (C1.do_ (stS 3 0 0)).1 = C2 at okT hmid
 have okM := steps_ok okT yd yd 6 (NR _)
 rw [← hmid] at okM
 refine zqc ?_
 refine VC.loop (σ := Nat) (fun n => [(0, yieldV l), (1, pV sb), (3, .int .i64 (n : Int))]) (fun n => lpH l r :: (rndL tb mb p (stepsC n C2) m1 ++ [pt sb [.pointer (some ⟨p, 0, none⟩)] cpT1])) (fun n => n ≤ 6) (fun n => 6 - n) 0
  (Nat.zero_le _) sbZ ER ?_
 rintro n hn
 refine xjr ?_
 refine CP (p := (n : Int) < 6) rfl (fun h2 => CK ?_) (fun h2 => CX ?_)
 rotate_left
 ·obtain rfl : n = 6 := by omega
  rw [← hmid]
  refine xjr ?_
  refine zG (zD 4 rfl rfl rfl rfl ?_)
  refine xjr ?_
  refine VG (VK (Lc := lpH l r :: rndL tb mb p (midC C1) m1) (Lr := [pt sb [.pointer (some ⟨p, 0, none⟩)] cpT1]) (fun Fr w hF hw hS => deliver_spec26 Fr w hy hps okM yd yd yd yd) rfl rfl ?_)
  rintro _ _ ⟨C4, m4, hD4, rfl, rfl⟩
  have hf4 := hD4.few
  have ok4 := hD4.ok okM yd yd
  refine zow ?_
  refine VG (VI (LB (pv := [(0, .int .i64 11)]) ((stS 11 0 0).cells) rfl rfl rfl ym rfl) ?_)
  refine VG (VO.opY (OpY.yield (r := r) (vals := [.agg (stS 11 0 0).cells.toArray]) (Lc := rndL tb mb p C4 m4) (Lr := [pt sb [.pointer (some ⟨p, 0, none⟩)] cpT1]) rfl rfl hps.symm (List.Perm.refl _) (fun Fr' w hF hw hS => hy ok4 yd yd m4 yd yd (stS 11 0 0) Fr' w)) ?_)
  rintro _ _ ⟨_, ⟨rfl, rfl⟩, rfl⟩
  rw [isD_no _ yo, Int.add_zero]
  refine xjr ?_
  exact Ret.void rfl (Imp.perm (List.Perm.cons _ (List.perm_append_comm (l₁ := rndL tb mb p (C4.do_ (stS 11 0 0)).1 m4) (l₂ := [_])))).ent ⟨_, m4, ⟨C1, m1, C4, hD1, hD4, rfl⟩, rfl, rfl⟩
 have okN := steps_ok okT yd yd n yd
 refine xjr ?_
 refine VG (VI (LB (pv := [(0, .int .i64 2), (1, .int .i64 (n : Int))]) ((stS 2 n 0).cells) rfl rfl rfl ym rfl) ?_)
 refine VG (VO.opY (OpY.yield (r := r) (vals := [.agg (stS 2 n 0).cells.toArray]) (Lc := rndL tb mb p (stepsC n C2) m1) (Lr := [pt sb [.pointer (some ⟨p, 0, none⟩)] cpT1]) rfl rfl hps.symm (List.Perm.refl _) (fun Fr' w hF hw hS => hy okN yd yd m1 yd yd (stS 2 n 0) Fr' w)) ?_)
 rintro _ _ ⟨_, ⟨rfl, rfl⟩, rfl⟩
 rw [isD_no _ (by show (2 : Int) ≠ 4; decide), Int.add_zero]
 refine zot ?_
 refine zoj ?_
 exact ⟨n + 1, by omega, by dsimp only; omega, SC rfl (SC rfl (Sub.int rfl yd (SN _))), ER⟩
theorem steps26_spec (p : Nat) : Tri Tryz.prog 24 [.pointer (some ⟨p, 0, none⟩)] Fr w [] (fun v L => ∃ sb, v = fnV 47 [] [.pointer (some ⟨sb, 0, none⟩)] ∧ L = [pt sb [.pointer (some ⟨p, 0, none⟩)] cpT1]) := by
 refine TF 4 Tryz.func24 rfl ym tabOk rfl rfl ?_
 refine CS (CG (VG (VO.box1 rfl fun sb => ?_)))
 refine xjr ?_
 refine VG (VI (light_makeFunc (u := []) (v := [.pointer (some ⟨sb, 0, none⟩)]) rfl rfl) ?_)
 refine xjr ?_
 exact CR (Ret.tmp 2 rfl rfl ER ⟨sb, rfl, rfl⟩)
theorem call47 : Callable Tryz.prog 47 := ⟨_, Tryz.func47, by kernel_rfl, by kernel_rfl⟩
theorem round_spec {p : Nat} {C0 : CluM} {b e : Nat} (ok : C0.Ok b e) (hb : b < 80000) (he : e < 700000) :
  Tri Tryz.prog 11 [.pointer (some ⟨p, 0, none⟩)] Fr w [cluH p C0] (fun v L => ∃ C m, Rnd C0 C m ∧ v = .int .i64 m ∧ L = [cluH p C]) := by
 refine Tri.ofM 23 Tryz.func11 rfl ym tabOk rfl rfl ?_
 refine VM.seqV ?_
 refine CG (VG (VO.box1 rfl fun tb => ?_))
 refine VG (VO.alloc rfl fun mb => ?_)
 refine xec ?_
 refine VM.seqV ?_
 refine xdo ?_
 refine VG (VV (fun Fr w hF hw hS => fnone_spec Fr w (hS.at_ 2 rfl)) rfl ?_)
 refine zqb ?_
 refine VM.seqD ?_
 refine VM.seqV ?_
 refine xdo ?_
 refine VG (VK (Lc := []) (fun Fr w hF hw hS => steps26_spec Fr w p) rfl rfl ?_)
 rintro _ _ ⟨sb, rfl, rfl⟩
 refine xjr ?_
 refine VM.block ?_
 refine VM.rangeF (M := fun L2 => ∃ C m, Rnd C0 C m ∧ L2 = pt sb [.pointer (some ⟨p, 0, none⟩)] cpT1 :: rndL tb mb p C m) rfl call47 (fun l r Fr' w hF ha hst hpe hps has hbo => ?_) (fun D L2 h => ?_)
 rotate_left
 ·obtain ⟨C, m, hR, rfl⟩ := h
  refine ⟨rfl, ?_⟩
  refine VD.seq (VD.region ?_)
  refine zG (zD 2 rfl rfl rfl rfl ?_)
  refine VG (VO.st 2 rfl rfl rfl rfl Nat.zero_lt_one rfl rfl ?_)
  refine VG (VN (VD.ret ⟨_, rfl, ?_⟩))
  exact Ret.cell 2 rfl rfl rfl (RdL.one 1 rfl rfl) (IP 3 rfl Imp.nil).ent ⟨C, m, hR, rfl, rfl⟩
 obtain ⟨a, ha1, ha2⟩ := ha
 have hy : RdY r l tb mb p := by
  intro C b e ok hb he m h0 h1 s Fr w
  have key := Agr.par1 ha1 (t := 9) rfl (.agg s.cells.toArray)
  rw [← ha2, ← hps] at key
  refine Yld.of (vals := [.agg s.cells.toArray]) (tab := tab) (ok := tabOk) (n := 23) hst hpe key ?_
  intro w
  generalize ({ r with state := LoopState.busy } : Loop) = rb
  rw [has]
  refine CG (VG (VO.alloc rfl fun ab => ?_))
  refine VG (VT (vs := s.cells) (cs' := s.cells) 0 rfl rfl rfl rfl (NR _) rfl rfl rfl ?_)
  refine VG (VO.ent (L' := lpH l r :: pt ab s.cells doT :: rndL tb mb p C m) (Imp.perm (List.Perm.swap ..)).ent ?_)
  refine VG (VN ⟨rfl, _, rfl, fun w => ?_⟩)
  rw [hbo]
  refine xmh ?_
  refine VG (VL 1 s.cells rfl rfl rfl rfl ?_)
  refine VG (VQ 4 rfl (fun Fr w hF' hs hS => udo_spec Fr w ok yd yd s) rfl (ψ := fun v H => v = .int .i64 (C.do_ s).2 ∧ H = cluH p (C.do_ s).1) yy ?_)
  rintro _ _ ⟨rfl, rfl⟩
  have hdr : Imp (lpH l rb :: pt ab s.cells doT :: rndL tb mb p (C.do_ s).1 m) (lpH l rb :: rndL tb mb p (C.do_ s).1 m) := Imp.cons Imp.tail
  refine xjr ?_
  by_cases he : (C.do_ s).2 = 0
  rotate_left
  ·refine VG (VY 15 false rfl (by simpa using he) ?_)
   refine xjs ?_
   refine VC.condF rfl (CN hdr.ent (CK ⟨rfl, _, rfl, rfl, ?_⟩))
   rw [show isD s (C.do_ s).2 = 0 from if_neg fun g => he g.1, Int.add_zero]
  refine VG (VY 15 true rfl (by simpa using he) ?_)
  refine xdt ?_
  refine CE rfl (fun hk => ?_) (fun hk => CN hdr.ent (CK ⟨rfl, _, rfl, rfl, ?_⟩))
  rotate_left
  ·rw [show isD s (C.do_ s).2 = 0 from if_neg fun g => hk g.2, Int.add_zero]
  rw [show isD s (C.do_ s).2 = 1 from if_pos ⟨he, hk⟩]
  refine CG ?_
  refine xdp ?_
  refine xdi ?_
  refine VG (VO.st 2 rfl rfl rfl rfl Nat.zero_lt_one rfl rfl ?_)
  refine VG (VO.ent (L' := lpH l rb :: rndL tb mb p (C.do_ s).1 (m + 1)) (Imp.cons Imp.tail).ent ?_)
  refine VG (VN ⟨rfl, _, rfl, rfl, rfl⟩)
 exact Ring.Tri.drop (steps1_spec Fr' w hy (by rw [hps]; rfl) ok hb he) fun v L ⟨C, m, hR, _, e⟩ => ⟨L, ⟨_, e, C, m, hR, rfl⟩, Imp.refl⟩
end Cl
namespace Cl
open Go Vg T Api Ch Rep Conf Lg Rd
attribute [local irreducible] VO VC VA
section
variable {p : Nat} {C : CluM} {y : CluS} {b e : Nat}
theorem node_piece {Fr : Nat → Prop} {w : World} (hy : SatIn Fr (cluL p C y) w) {k q : Nat} {r : RepM} (h : y.nr[k]? = some (some (q, r))) : SatIn Fr [repH q r] w := by
 refine ((hy.at_ 8 rfl).sep).at_ k ?_
 rw [List.getElem?_map, h]; rfl
theorem node_mem {n : Int} {r : RepM} (h : C.node n = some r) : some r ∈ C.nodes := by
 unfold CluM.node at h
 split at h
 ·cases h
 ·cases hx : C.nodes[n.toNat]? with
  | none => rw [hx] at h; cases h
  | some x =>
   rw [hx] at h
   obtain rfl : x = some r := h
   exact ME hx
theorem has_spec (fit : CluFit C y) (hy : SatIn Fr (cluL p C y) w) (x : MemM) : Tri Tryz.prog 28 [.pointer (some ⟨p, 0, none⟩), .agg (memC x).toArray] Fr w [] (fun v L => v = .bool (hasM C x) ∧ L = []) := by
 refine TF 23 Tryz.func28 rfl ym tabOk rfl rfl ?_
 refine CS (CG (VG (VB (vs := memC x) rfl fun xb => ?_)))
 refine xdc ?_
 refine xoa ?_
 intro v hv
 have hd : hasM C x = match C.node x.1 with
  | none => false
  | some r => decide (r.since = x.2) && r.whole := rfl
 rw [hd]
 cases hn : C.node x.1 with
 | none =>
  rw [hn] at hv
  obtain rfl : v = .pointer none := hv
  refine xjr ?_
  refine CD (ts 0 14 .nil) ym yq ?_
  refine xlf ?_
  refine AG (AY 12 false rfl rfl ?_)
  refine xlf ?_
  refine AG (AY 19 false rfl rfl ?_)
  refine xlf ?_
  exact xef
 | some r =>
  rw [hn] at hv
  obtain ⟨k, q, -, hk, rfl⟩ : ∃ k q, x.1 = (k : Nat) ∧ y.nr[k]? = some (some (q, r)) ∧ v = .pointer (some ⟨q, 0, none⟩) := hv
  have hr := node_piece hy hk
  dsimp only
  refine xjr ?_
  by_cases hs : r.since = x.2
  ·refine CD (ts 0 4 (ts 5 2 (.only 4 (ts 7 4 (.only 11 (ts 12 2 .nil)))))) ym yq ?_
   refine xer ?_
   refine AG (AY 12 true rfl rfl ?_)
   refine xer ?_
   refine xob ?_
   rintro _ rfl
   refine xer ?_
   refine AG (AY 19 true rfl (DT hs) ?_)
   refine xer ?_
   refine AG (VA.callP (φ := fun v => v = .bool r.whole) (fun Fr w hF hw hS => whole_spec Fr w (hr.of hF hw)) rfl rfl yr ?_)
   rintro _ rfl
   refine xer ?_
   exact CR (Ret.bool 4 rfl rfl (by rw [DT hs, Bool.true_and]) Imp.nil.ent ⟨rfl, rfl⟩)
  ·refine CD (ts 0 4 (ts 5 2 (.only 4 (ts 7 7 .nil)))) ym yq ?_
   refine xer ?_
   refine AG (AY 12 true rfl rfl ?_)
   refine xer ?_
   refine xob ?_
   rintro _ rfl
   refine xer ?_
   refine AG (AY 19 false rfl (DF hs) ?_)
   refine xer ?_
   exact CR (Ret.bool 4 rfl rfl (by rw [DF hs, Bool.false_and]) Imp.nil.ent ⟨rfl, rfl⟩)
theorem alive_spec (ok : C.Ok b e) (h : SatIn Fr [cluH p C] w) : Tri Tryz.prog 13 [.pointer (some ⟨p, 0, none⟩)] Fr w [] (fun v L => v = .bool (aliveM C) ∧ L = []) := by
 obtain ⟨y, fit, hy⟩ := clu_in h
 have hml := ok.mas.ml
 refine TF 29 Tryz.func13 rfl ym tabOk rfl rfl ?_
 refine xjr ?_
 refine xoc ?_
 refine zot ?_
 refine xnz ?_
 refine xod ?_
 rintro _ _ ⟨ma, mc, rfl, rfl⟩
 refine VG (VO.opn 0 rfl (HOpn.rl memT ma mc C.mas.ch.ms memC_len) ?_)
 rintro ⟨xa, xc, xb, xcs, xs⟩ ⟨rok, rv, rx⟩
 dsimp only at rx
 have hxs : C.mas.ch.ms = xs := rx.symm
 injection rv with e1 e2 e3
 subst e1 e3
 refine VG (VO.alloc rfl fun cb => ?_)
 refine xoe ?_
 refine xdc ?_
 have hlen : C.mas.ch.ms.length = xs.length := by rw [hxs]
 refine VC.loop (σ := Nat) (fun i => [(0, pV p), (3, pV cb), (12, .slice xa C.mas.ch.ms.length xc), (13, .int .i64 C.mas.ch.ms.length), (14, .int .i64 (i : Int))]) (fun _ => [pt cb (C.mas.ch.cells xa xc) chT, RL.h memT ⟨xa, xc, xb, xcs, xs⟩]) (fun i => i ≤ xs.length ∧ ∀ j < i, ∀ x, xs[j]? = some x → (!decide (x.1 = C.mas.ch.drain) && hasM C x) = false) (fun i => xs.length - i) 0
  ⟨Nat.zero_le _, fun j hj => absurd hj (Nat.not_lt_zero j)⟩ sbZ ER ?_
 rintro i ⟨hi, hall⟩
 refine xjr ?_
 refine CP (p := (i : Int) < C.mas.ch.ms.length) rfl (fun h2 => CK ?_) (fun h2 => CX ?_)
 rotate_left
 ·refine xjr ?_
  refine CR (Ret.bool 2 rfl rfl ?_ Imp.nil.ent ⟨rfl, rfl⟩)
  unfold aliveM
  rw [hxs]
  refine (List.any_eq_false.2 fun x hx => ?_).symm
  obtain ⟨j, hj⟩ := List.mem_iff_getElem?.1 hx
  rw [hall j (by have := (List.getElem?_eq_some_iff.1 hj).1; omega) x hj]
  decide
 have hil : i < xs.length := by omega
 have hxk : xs[i]? = some xs[i] := GE hil
 generalize xs[i] = x at hxk
 have hxm : x ∈ C.mas.ch.ms := by rw [hxs]; exact ME hxk
 obtain ⟨tb, tof, htb, hta, hrd⟩ := RL.Ok.ld (t := memT) (k := i) (x := x) rok hxk (memC_len x)
 dsimp only at hta
 subst hta
 refine xjr ?_
 refine VG (VI (light_idx i rfl rfl rfl rfl rfl rfl yd) ?_)
 refine xiu ?_
 refine VG (VO.alloc rfl fun xb2 => ?_)
 refine xkv ?_
 refine xdo ?_
 have hstep : (!decide (x.1 = C.mas.ch.drain) && hasM C x) = false → ∀ j < i + 1, ∀ x, xs[j]? = some x → (!decide (x.1 = C.mas.ch.drain) && hasM C x) = false := fun h0 j hj z hz => by
  by_cases hji : j < i
  ·exact hall j hji z hz
  ·obtain rfl : j = i := by omega
   rw [hxk] at hz
   cases hz
   exact h0
 by_cases hd : x.1 = C.mas.ch.drain
 ·refine VG (VY 23 false rfl (by simpa using hd) ?_)
  refine zqc ?_
  refine zoj ?_
  exact ⟨i + 1, ⟨by omega, hstep (by rw [DT hd]; rfl)⟩, by dsimp only; omega, SC rfl (SC rfl (SC rfl (SC rfl (Sub.int rfl yd (SN _))))), Imp.tail.ent⟩
 refine VG (VY 23 true rfl (by simpa using hd) ?_)
 refine xdt ?_
 refine VG (VL 0 (memC x) rfl rfl rfl rfl ?_)
 refine VG (VV (fun Fr w hF hw hS => has_spec Fr w fit (hy.of hF hw) x) rfl ?_)
 refine xjs ?_
 refine CC rfl (fun hh => ?_) (fun hh => CK ?_)
 ·refine xjr ?_
  refine CR (Ret.bool 2 rfl rfl ?_ Imp.nil.ent ⟨rfl, rfl⟩)
  unfold aliveM
  refine (List.any_eq_true.2 ⟨x, hxm, ?_⟩).symm
  rw [DF hd, hh]; rfl
 refine zoq ?_
 exact ⟨i + 1, ⟨by omega, hstep (by rw [hh, Bool.and_false])⟩, by dsimp only; omega, SC rfl (SC rfl (SC rfl (SC rfl (Sub.int rfl yd (SN _))))), Imp.tail.ent⟩
end
end Cl
namespace Cl
open Go Vg T Api Ch Rep Conf Lg Rd
attribute [local irreducible] VO VC VA
theorem busy_none : Tri Tryz.prog 34 [.pointer none] Fr w [] (fun v L => v = .bool false ∧ L = []) := by
 have mn : ∀ Fr w, Tri Tryz.prog 64 [.pointer none] Fr w [] (fun v L => v = .bool false ∧ L = []) := fun Fr w => by
  refine TF 12 Tryz.func64 rfl ym tabOk rfl rfl ?_
  refine zpz ?_
  refine xjs ?_
  exact xex
 refine TF 12 Tryz.func34 rfl ym tabOk rfl rfl ?_
 refine xjs ?_
 refine VG (VV (fun Fr w hF hw _ => mn Fr w) rfl ?_)
 refine zpz ?_
 refine xjs ?_
 exact xex
section
variable {p : Nat} {C : CluM} {y : CluS} {b e : Nat}
theorem uclient_spec (fit : CluFit C y) (hb : Blk Fr w p (cluC C y)) (hc : Blk Fr w y.cb (flat cliV y.cr ++ y.cx)) (n : Nat) : Tri Tryz.prog 33 [.pointer (some ⟨p, 0, none⟩), .int .i64 (n : Int)] Fr w []
  (fun v L => v = (match y.cr[n]? with
   | none => .pointer none
   | some x => .pointer (some ⟨x.1, 0, none⟩)) ∧ L = []) := by
 refine TF 28 Tryz.func33 rfl ym tabOk rfl rfl ?_
 refine xjs ?_
 refine xnw ?_
 refine xjs ?_
 refine xfh ?_
 refine xjs ?_
 refine VG (VY 12 false rfl (DF yd) ?_)
 refine xib ?_
 refine CP (p := (y.cr.length : Int) ≤ n) rfl (fun h => ?_) (fun h => CK ?_)
 ·refine xjs ?_
  exact CR (Ret.tmp 4 rfl rfl ER ⟨by rw [List.getElem?_eq_none yd], rfl⟩)
 have hl : n < y.cr.length := by omega
 have hx : y.cr[n]? = some y.cr[n] := GE hl
 generalize y.cr[n] = x at hx
 rw [hx]
 refine xib ?_
 refine VG (VI (light_idx n rfl rfl rfl rfl rfl rfl hl) ?_)
 refine VG (VO.load rfl rfl (RdL.blk hc (cli_cell hx)) ?_)
 refine xjs ?_
 exact xjy
theorem cli_piece {Fr : Nat → Prop} {w : World} (hy : SatIn Fr (cluL p C y) w) {k : Nat} {x : CiG} (h : y.cr[k]? = some x) : ∃ z, Blk Fr w x.1 (cliC x.2 z) := by
 have h1 : SatIn Fr [cliH x.1 x.2] w := by
  refine ((hy.at_ 9 rfl).sep).at_ k ?_
  rw [List.getElem?_map, h]; rfl
 obtain ⟨z, hz⟩ := h1.ex
 exact ⟨z, hz.sep.blk 0 rfl⟩
theorem lib_piece {Fr : Nat → Prop} {w : World} (ok : C.Ok b e) (fit : CluFit C y) (hy : SatIn Fr (cluL p C y) w) (n : Nat) : ∃ u, u = (match y.cr[n]? with
   | none => Value.pointer none
   | some x => .pointer (some ⟨x.1, 0, none⟩)) ∧ ∀ (Fr' : Nat → Prop) (w' : World), (∀ b, Fr b → Fr' b) → Keep Fr w w' → Tri Tryz.prog 34 [u] Fr' w' [] (fun v L => v = .bool (busyM C n) ∧ L = []) := by
 cases hx : y.cr[n]? with
 | none =>
  refine ⟨_, rfl, fun Fr' w' hF hk => ?_⟩
  have : busyM C n = false := by
   unfold busyM CluM.cli
   rw [if_neg yd, Int.toNat_natCast]
   have := List.getElem?_eq_none_iff.1 hx
   rw [cli_len fit] at this
   rw [List.getElem?_eq_none this]
  rw [this]
  exact busy_none Fr' w'
 | some x =>
  obtain ⟨z, hz⟩ := cli_piece hy hx
  obtain ⟨h1, h2⟩ := cli_at fit hx
  refine ⟨_, rfl, fun Fr' w' hF hk => ?_⟩
  refine Go.Proofs.YtmghpgpfeabghaaGreat.Ring.Tri.drop (cbusy_spec Fr' w' (ok.cok _ (ME h2)) (y := z) ⟨hF _ hz.fr, by rw [hk.block _ hz.fr]; exact hz.at_⟩) fun v L h => ⟨L, ⟨?_, h.2⟩, Imp.refl⟩
  rw [h.1]
  unfold busyM
  rw [h1]
  show Value.bool (x.2.doing != 0) = Value.bool (decide (x.2.doing ≠ 0))
  by_cases h0 : x.2.doing = 0 <;> simp [h0]
theorem idle_spec (ok : C.Ok b e) (fit : CluFit C y) (hy : SatIn Fr (cluL p C y) w) {n : Int} {r : RepM} (hn : C.node n = some r) (hid : idleM r = true) : Tri Tryz.prog 32 [.pointer (some ⟨p, 0, none⟩), .int .i64 n] Fr w [] (fun v L => v = .bool true ∧ L = []) := by
 have okr := (ok.fit r (node_mem hn)).ok
 unfold idleM at hid
 rw [Bool.and_eq_true, Bool.and_eq_true, List.all_eq_true, decide_eq_true_eq, decide_eq_true_eq] at hid
 obtain ⟨i1, i2, i3⟩ := hid
 refine TF 30 Tryz.func32 rfl ym tabOk rfl rfl ?_
 refine xjr ?_
 refine xoa ?_
 intro v hv
 rw [hn] at hv
 obtain ⟨k, q, -, hk, rfl⟩ : ∃ k q, n = (k : Nat) ∧ y.nr[k]? = some (some (q, r)) ∧ v = .pointer (some ⟨q, 0, none⟩) := hv
 have hr := node_piece hy hk
 refine xjr ?_
 refine VC.loop (σ := Nat) (fun i => [(5, pV q), (6, .int .i64 (i : Int))]) (fun _ => []) (fun i => i ≤ 4) (fun i => 4 - i) 0
  (Nat.zero_le _) sbZ ER ?_
 rintro i hi
 refine xjr ?_
 refine CP (p := (i : Int) < 4) rfl (fun h2 => CK ?_) (fun h2 => CX ?_)
 rotate_left
 ·refine xjr ?_
  refine xof ?_
  rintro _ _ ⟨wq, rfl, rfl⟩
  refine xnq ?_
  refine xjr ?_
  refine xof ?_
  rintro _ _ ⟨wq2, rfl, rfl⟩
  refine VG (VV (fun Fr w hF hw hS => Win.last_spec Fr w (hS.blk 0 rfl) okr.win.cap0) rfl ?_)
  refine xjr ?_
  refine VG (VY 25 true rfl (by simpa using i2) ?_)
  refine xjs ?_
  refine VG (VV (fun Fr w hF hw hS => reading_spec Fr w okr (hr.of hF hw)) rfl ?_)
  refine xjs ?_
  exact CR (Ret.bool 4 rfl rfl (by rw [i3]; rfl) Imp.nil.ent ⟨rfl, rfl⟩)
 refine xjr ?_
 refine VG (VV (fun Fr w hF hw hS => waiting_spec Fr w (hr.of hF hw) (i : Int)) rfl ?_)
 refine xjr ?_
 have hw0 := of_decide_eq_true (i1 i (List.mem_range.2 yd))
 refine CP (p := (0 : Int) < r.adm.sch.lenM (i : Nat)) rfl (fun h3 => ?_) (fun h3 => CK ?_)
 ·exact absurd hw0 yd
 refine zoq ?_
 exact ⟨i + 1, by omega, by dsimp only; omega, SC rfl (Sub.int rfl yd (SN _)), ER⟩
theorem rest_spec (ok : C.Ok b e) (h : SatIn Fr [cluH p C] w) (hre : restM C = true) : Tri Tryz.prog 14 [.pointer (some ⟨p, 0, none⟩)] Fr w [] (fun v L => v = .bool true ∧ L = []) := by
 obtain ⟨y, fit, hy⟩ := clu_in h
 have hml := ok.mas.ml
 unfold restM at hre
 rw [Bool.and_eq_true, Bool.and_eq_true, List.all_eq_true, List.all_eq_true, decide_eq_true_eq] at hre
 obtain ⟨hdr, hmem, hbusy⟩ := hre
 refine TF 52 Tryz.func14 rfl ym tabOk rfl rfl ?_
 refine xjr ?_
 refine xoc ?_
 refine zot ?_
 refine xnz ?_
 refine xod ?_
 rintro _ _ ⟨ma, mc, rfl, rfl⟩
 refine VG (VO.opn 0 rfl (HOpn.rl memT ma mc C.mas.ch.ms memC_len) ?_)
 rintro ⟨xa, xc, xb, xcs, xs⟩ ⟨rok, rv, rx⟩
 dsimp only at rx
 have hxs : C.mas.ch.ms = xs := rx.symm
 injection rv with e1 e2 e3
 subst e1 e3
 have hlen : C.mas.ch.ms.length = xs.length := by rw [hxs]
 refine VG (VO.alloc rfl fun cb => ?_)
 refine xoe ?_
 refine xdc ?_
 refine VC.condNE rfl (fun h3 => absurd hdr h3) (fun h3 => CK ?_)
 refine xdc ?_
 refine VC.loop (σ := Nat) (fun i => [(0, pV p), (3, pV cb), (16, .slice xa C.mas.ch.ms.length xc), (17, .int .i64 C.mas.ch.ms.length), (18, .int .i64 (i : Int))]) (fun _ => [pt cb (C.mas.ch.cells xa xc) chT, RL.h memT ⟨xa, xc, xb, xcs, xs⟩]) (fun i => i ≤ xs.length) (fun i => xs.length - i) 0
  (Nat.zero_le _) sbZ ER ?_
 rintro i hi
 refine xjr ?_
 refine CP (p := (i : Int) < C.mas.ch.ms.length) rfl (fun h2 => CK ?_) (fun h2 => CX ?_)
 rotate_left
 ·refine xjr ?_
  refine VC.loop (σ := Nat) (fun i => [(0, pV p), (6, .int .i64 (i : Int))]) (fun _ => []) (fun i => i ≤ 6) (fun i => 6 - i) 0
   (Nat.zero_le _) sbZ Imp.nil.ent ?_
  rintro n hn
  refine xjr ?_
  refine CP (p := (n : Int) < 6) rfl (fun h4 => CK ?_) (fun h4 => CX ?_)
  rotate_left
  ·refine xjr ?_
   exact xdy
  have hb0 : busyM C n = false := by
   have := hbusy n (List.mem_range.2 yd)
   simpa using this
  obtain ⟨u, hu, hbz⟩ := lib_piece ok fit hy n
  rw [hb0] at hbz
  refine xjr ?_
  refine VG (VV (fun Fr w hF hw hS => uclient_spec Fr w fit ((hy.blk 0 rfl).of hF hw) ((hy.blk 4 rfl).of hF hw) n) rfl ?_)
  rw [← hu]
  refine VG (VV (fun Fr w hF hw hS => hbz Fr w hF hw.keep) rfl ?_)
  refine zot ?_
  refine zoj ?_
  exact ⟨n + 1, by omega, by dsimp only; omega, SC rfl (Sub.int rfl yd (SN _)), ER⟩
 have hil : i < xs.length := by omega
 have hxk : xs[i]? = some xs[i] := GE hil
 generalize xs[i] = x at hxk
 have hxm := hmem x (by rw [hxs]; exact ME hxk)
 unfold memRest at hxm
 rw [Bool.and_eq_true] at hxm
 obtain ⟨hhas, hxm⟩ := hxm
 cases hnd : C.node x.1 with
 | none => rw [hnd] at hxm; cases hxm
 | some r =>
 rw [hnd, Bool.and_eq_true, decide_eq_true_eq] at hxm
 obtain ⟨hch, hid⟩ := hxm
 have okr := (ok.fit r (node_mem hnd)).ok
 obtain ⟨tb, tof, htb, hta, hrd⟩ := RL.Ok.ld (t := memT) (k := i) (x := x) rok hxk (memC_len x)
 dsimp only at hta
 subst hta
 refine xjr ?_
 refine VG (VI (light_idx i rfl rfl rfl rfl rfl rfl yd) ?_)
 refine xiu ?_
 refine VG (VO.alloc rfl fun xb2 => ?_)
 refine xkv ?_
 refine xjr ?_
 refine CD (ts 0 2 (.only 2 (ts 3 5 (ts 10 1 (.only 8 (.only 9 (.only 11 (ts 12 6 (.only 18 (ts 19 2 .nil)))))))))) ym yq ?_
 refine xlf ?_
 refine AG (VA.ldA 0 (memC x) rfl rfl rfl rfl rfl ?_)
 refine xlf ?_
 refine AG (VA.callP (φ := fun v => v = .bool true) (fun Fr w hF hw hS => by have := has_spec Fr w fit (hy.of hF hw) x; rw [hhas] at this; exact this) rfl rfl yr ?_)
 rintro _ rfl
 refine xle ?_
 refine AG (AY 26 false rfl rfl ?_)
 refine xle ?_
 refine AG (VA.ldA 1 (C.mas.ch.cells (some ⟨tb, tof, none⟩) xc) rfl rfl rfl rfl rfl ?_)
 refine xle ?_
 refine AG (VA.callP (φ := fun v => ∃ k q, x.1 = (k : Nat) ∧ y.nr[k]? = some (some (q, r)) ∧ v = .pointer (some ⟨q, 0, none⟩)) (fun Fr w hF hw hS => by have := unode_spec Fr w fit ((hy.blk 0 rfl).of hF hw) ((hy.blk 3 rfl).of hF hw) (n := x.1); rw [hnd] at this; exact this) rfl rfl yr ?_)
 rintro _ ⟨k, q, -, hk, rfl⟩
 have hr := node_piece hy hk
 refine xlf ?_
 refine AG (VA.op (i := 9) rfl rfl rfl rfl (OC (Lc := []) (vals := [.pointer (some ⟨q, 0, none⟩)]) rfl (List.Perm.refl _) (fun Fr w hF hw hS => chain_spec Fr w okr (hr.of hF hw))) ?_ ?_)
 ·rintro _ _ ⟨_, ⟨ca, cc, rfl, rfl⟩, rfl⟩
  exact yr
 rintro _ _ ⟨_, ⟨ca, cc, rfl, rfl⟩, rfl⟩
 refine xlf ?_
 refine AG (VA.callP (φ := fun v => v = .bool true) (fun Fr w hF hw hS => by
  have h1 := RwIn.rl (hS.at_ 3 rfl) rok
  dsimp only at h1
  rw [← hxs] at h1
  have := same_spec Fr w (c := r.ch) (d := C.mas.ch) (ac := cc) (bc := xc) (RwIn.slH memC_len (hS.at_ 0 rfl)) h1 (by rw [hch]; omega) yd
  rw [DT hch] at this
  exact this) rfl rfl yr ?_)
 rintro _ rfl
 refine xlf ?_
 refine AG (AY 36 false rfl rfl ?_)
 refine xle ?_
 refine AG (VA.callP (φ := fun v => v = .bool true) (fun Fr w hF hw hS => idle_spec Fr w ok fit (hy.of hF hw) hnd hid) rfl rfl yr ?_)
 rintro _ rfl
 refine zqd ?_
 refine zoj ?_
 exact ⟨i + 1, by omega, by dsimp only; omega, SC rfl (SC rfl (SC rfl (SC rfl (Sub.int rfl yd (SN _))))), (Imp.trans Imp.tail Imp.tail).ent⟩
end
end Cl
namespace Cl
open Go Vg T Api Ch Rep Conf Lg Rd Sched
attribute [local irreducible] VO VC VA
def zPcs (o : Option Nat) : List HP := match o with
 | none => []
 | some p => [pt p cluZ cluT]
def zVal (o : Option Nat) : Value := .pointer (o.map fun p => ⟨p, 0, none⟩)
theorem z_no {Fr : Nat → Prop} {w : World} {o : Option Nat} (h : SatIn Fr (zPcs o) w) : NoClu Fr w (zVal o) := by
 cases o with
 | none => exact .inl rfl
 | some p => exact .inr ⟨p, rfl, h.blk 0 rfl⟩
section
variable {u : Value}
theorem round_no (h : NoClu Fr w u) : Tri Tryz.prog 11 [u] Fr w [] (fun v L => v = .int .i64 0 ∧ L = []) := by
 have hc : u.cells = #[u] := by
  rcases h with rfl | ⟨p, rfl, _⟩ <;> rfl
 refine TF 23 Tryz.func11 rfl ym tabOk rfl rfl ?_
 refine CS (CG (VG (VO.box1 rfl (fun tb => ?_) hc)))
 refine VG (VO.alloc rfl fun mb => ?_)
 refine xdo ?_
 refine xog ?_
 refine zow ?_
 refine VG (VO.st 0 rfl rfl rfl rfl Nat.zero_lt_one rfl rfl ?_)
 refine xjr ?_
 exact CR (Ret.cell 2 rfl rfl rfl (RdL.one 0 rfl rfl) Imp.nil.ent ⟨rfl, rfl⟩)
theorem run_no (h : NoClu Fr w u) (n : Int) : Tri Tryz.prog 12 [u, .int .i64 n] Fr w [] (fun v L => v = .int .i64 1 ∧ L = []) := by
 refine TF 19 Tryz.func12 rfl ym tabOk rfl rfl ?_
 refine xjr ?_
 refine xog ?_
 refine zow ?_
 exact xjy
theorem alive_no (h : NoClu Fr w u) : Tri Tryz.prog 13 [u] Fr w [] (fun v L => v = .bool false ∧ L = []) := by
 refine TF 29 Tryz.func13 rfl ym tabOk rfl rfl ?_
 refine xjr ?_
 refine xog ?_
 refine zow ?_
 exact xex
theorem rest_no (h : NoClu Fr w u) : Tri Tryz.prog 14 [u] Fr w [] (fun v L => v = .bool false ∧ L = []) := by
 refine TF 52 Tryz.func14 rfl ym tabOk rfl rfl ?_
 refine xjr ?_
 refine xog ?_
 refine zow ?_
 exact xex
end
theorem run_bad {p : Nat} {C : CluM} (h : SatIn Fr [cluH p C] w) {n : Int} (hn : n < 0 ∨ 4096 < n) : Tri Tryz.prog 12 [.pointer (some ⟨p, 0, none⟩), .int .i64 n] Fr w [] (fun v L => v = .int .i64 2 ∧ L = []) := by
 refine TF 19 Tryz.func12 rfl ym tabOk rfl rfl ?_
 refine xjr ?_
 refine xoc ?_
 refine zot ?_
 by_cases h0 : n < 0
 ·refine VG (VY 9 true rfl (DT h0) ?_)
  refine zpe ?_
  exact xjy
 refine VG (VY 9 false rfl (DF h0) ?_)
 refine xjs ?_
 refine CP (p := (4096 : Int) < n) rfl (fun h1 => ?_) (fun h1 => absurd hn yd)
 refine xjr ?_
 exact xjy
theorem settle_spec {F : ConfM} (hF : F = fitM F) {a : Option Addr} {c : Nat} (ha : AdOk a) (hc : F.qs.length ≤ c) (hq : IntsIn Fr w a F.qs) (h1 : F.patience = 4) (h2 : F.nodes = 1) (h3 : F.budget = 0) (h4 : F.timeout = 4) :
  Tri Tryz.prog 42 [.agg (F.cells a c).toArray, .int .i64 10] Fr w [] (fun v L => v = .int .i64 288 ∧ L = []) := by
 refine TF 36 Tryz.func42 rfl ym tabOk rfl rfl ?_
 refine CS (CG (VG (VB (vs := F.cells a c) rfl fun b2 => ?_)))
 refine xjr ?_
 refine VG (VL 0 (F.cells a c) rfl rfl rfl rfl ?_)
 refine VG (VV (fun Fr w hF' hw hS => check_spec Fr w F a c (ints_of hq hF' hw) ha hc) rfl ?_)
 rw [show checkM F = 0 from if_pos hF]
 refine xjr ?_
 refine xfh ?_
 refine xjs ?_
 refine VG (VY 12 false rfl rfl ?_)
 refine zor ?_
 refine zol ?_
 refine VG (VO.mul rfl rfl yd yd ?_)
 refine xdc ?_
 refine VG (VO.mul rfl rfl yd yd ?_)
 refine xdc ?_
 refine VG (VP rfl rfl yo yo ?_)
 refine VG (VO.mul rfl rfl ybn ybn ?_)
 refine VG (VP rfl rfl (by rw [h1, h2]; decide) (by rw [h1, h2]; decide) ?_)
 refine zol ?_
 refine VG (VO.mul rfl rfl yd yd ?_)
 refine zol ?_
 refine VG (VO.mul rfl rfl (by rw [h3, h4]; decide) (by rw [h3, h4]; decide) ?_)
 refine VG (VP rfl rfl ycp ycp ?_)
 refine xjr ?_
 exact CR (Ret.int 4 rfl rfl ycp Imp.nil.ent ⟨rfl, rfl⟩)
theorem rC0_ok : rC0.Ok 1000 1000 := (RunOk.new done_fit).ok.mono yo yo
theorem rC3_ok : rC3.Ok 2000 2000 := by
 have h1 : rC1.Ok 1100 1100 := (steps_ok (rC0_ok.do_ yd yd (stS 3 0 0)) yd yd 6 (NR _)).mono yd yd
 have h2 : rC2.Ok 1200 1200 := (h1.do_ yd yd _).mono yd yd
 exact (h2.do_ yd yd _).mono yd yd
theorem zF_is : (fitM zC).patience = 4 ∧ (fitM zC).nodes = 1 ∧ (fitM zC).budget = 0 ∧ (fitM zC).timeout = 4 := by decide +kernel
theorem rested_spec : Tri Tryz.prog 18 [] Fr w [] (fun v L => v = .bool true ∧ L = []) := by
 obtain ⟨z1, z2, z3, z4⟩ := zF_is
 obtain ⟨r1, r2, r3⟩ := r_3
 refine TF 36 Tryz.func18 rfl ym tabOk rfl rfl ?_
 refine xjr ?_
 refine VG (VI (LB (pv := []) (zC.cells none 0) rfl rfl rfl rfl rfl) ?_)
 refine xoh ?_
 rintro _ _ ⟨a, cap, ha, hcap, rfl, rfl⟩
 refine VG (VO.alloc rfl fun b1 => ?_)
 refine VG (VT (vs := (fitM zC).cells a cap) (cs' := (fitM zC).cells a cap) 0 rfl rfl rfl rfl (NR _) rfl rfl rfl ?_)
 refine xjr ?_
 refine VG (VL 0 ((fitM zC).cells a cap) rfl rfl rfl rfl ?_)
 refine VG (VK (Lc := []) (fun Fr w _ _ h2 => unew_spec Fr w (fitM zC) (ints_sl (h2.at_ 1 rfl)) hcap) rfl rfl ?_)
 intro v L1 g
 rw [if_pos done_fit] at g
 obtain ⟨p, rfl, rfl⟩ := g
 refine xjr ?_
 refine VG (VY 13 true rfl rfl ?_)
 refine xjs ?_
 refine VG (VL 1 ((fitM zC).cells a cap) rfl rfl rfl rfl ?_)
 refine VG (VV (fun Fr w hF hw hS => settle_spec Fr w done_fit ha hcap (ints_sl (hS.at_ 2 rfl)) z1 z2 z3 z4) rfl ?_)
 refine xjs ?_
 refine VG (VY 18 true rfl rfl ?_)
 refine xjs ?_
 refine VG (VQ 0 rfl (fun Fr w hF hs hS => round_spec Fr w rC0_ok yd yd) rfl (ψ := fun v H => v = .int .i64 1 ∧ H = cluH p rC3) (fun v L h => by
  obtain ⟨C, m, hR, h1, h2⟩ := h
  obtain ⟨rfl, rfl⟩ := r_rnd hR
  exact ⟨_, h2, h1, rfl⟩) ?_)
 rintro _ _ ⟨rfl, rfl⟩
 refine xjs ?_
 refine VG (VY 23 true rfl rfl ?_)
 refine xjs ?_
 refine VG (VV (fun Fr w hF hw hS => rest_spec Fr w rC3_ok (hS.at_ 0 rfl) r1) rfl ?_)
 refine xjs ?_
 refine VG (VY 27 true rfl rfl ?_)
 refine xjs ?_
 refine VG (VV (fun Fr w hF hw hS => by have := alive_spec Fr w rC3_ok (hS.at_ 0 rfl); rw [r2] at this; exact this) rfl ?_)
 refine xjs ?_
 refine VG (VY 31 true rfl rfl ?_)
 refine xjs ?_
 refine VG (VV (fun Fr w hF hw hS => unow_spec Fr w (hS.at_ 0 rfl)) rfl ?_)
 rw [r3]
 refine xjs ?_
 exact CR (Ret.tmp 0 rfl rfl Imp.nil.ent ⟨rfl, rfl⟩)
theorem fairnone_spec (n : Int) : Tri Tryz.prog 4 [.int .i64 n] Fr w [] (fun v L => v = .bool true ∧ L = []) := by
 refine TF 60 Tryz.func4 rfl ym tabOk rfl rfl ?_
 refine xjr ?_
 refine VC.loop (σ := Nat × Option Nat) (fun x => [(0, .int .i64 n), (3, zVal x.2), (4, .int .i64 (x.1 : Int))]) (fun x => zPcs x.2) (fun x => x.1 ≤ 2) (fun x => 2 - x.1) (0, none)
  (Nat.zero_le _) sbZ Imp.nil.ent ?_
 rintro ⟨k, o⟩ hk
 dsimp only at hk ⊢
 refine xjr ?_
 refine CP (p := (k : Int) < 2) rfl (fun h1 => CK ?_) (fun h1 => CX ?_)
 ·have no : ∀ {Fr' : Nat → Prop} {w : World}, SatIn Fr' (zPcs o) w → NoClu Fr' w (zVal o) := fun h => z_no h
  refine xjr ?_
  refine VG (VV (fun Fr w hF hw hS => round_no Fr w (no hS)) rfl ?_)
  refine xjr ?_
  refine VG (VY 14 false rfl rfl ?_)
  refine xjs ?_
  refine VG (VV (fun Fr w hF hw hS => run_no Fr w (no hS) n) rfl ?_)
  refine xjs ?_
  refine VG (VY 20 false rfl rfl ?_)
  refine xjs ?_
  refine VG (VV (fun Fr w hF hw hS => alive_no Fr w (no hS)) rfl ?_)
  refine xjs ?_
  refine VG (VY 24 false rfl rfl ?_)
  refine xjs ?_
  refine VG (VV (fun Fr w hF hw hS => rest_no Fr w (no hS)) rfl ?_)
  refine zor ?_
  refine xjs ?_
  refine VG (VI (LB (pv := []) cluZ rfl rfl rfl ym rfl) ?_)
  refine VG (VB (vs := cluZ) rfl fun q => ?_)
  refine zoq ?_
  exact ⟨(k + 1, some q), by dsimp only; omega, by dsimp only; omega, SC rfl (SC rfl (Sub.int rfl ybb (SN _))), (IP 0 rfl Imp.nil).ent⟩
 refine CN (L' := []) Imp.nil.ent ?_
 refine xjr ?_
 refine VG (VI (LB (pv := []) (zC.cells none 0) rfl rfl rfl rfl rfl) ?_)
 refine xoh ?_
 rintro _ _ ⟨a, cap, ha, hcap, rfl, rfl⟩
 refine VG (VK (Lc := []) (fun Fr w _ _ h2 => unew_spec Fr w (fitM zC) (ints_sl (h2.at_ 0 rfl)) hcap) rfl rfl ?_)
 intro v L1 g
 rw [if_pos done_fit] at g
 obtain ⟨p, rfl, rfl⟩ := g
 refine xjr ?_
 refine VG (VY 38 true rfl rfl ?_)
 refine xjs ?_
 refine VG (VV (fun Fr w hF hw hS => run_bad Fr w (hS.at_ 0 rfl) (n := if -1 < n then -1 else n) (.inl yu)) rfl ?_)
 refine xjs ?_
 refine VG (VY 45 true rfl rfl ?_)
 refine xjs ?_
 refine VG (VV (fun Fr w hF hw hS => run_bad Fr w (hS.at_ 0 rfl) (n := if n < 4097 then 4097 else n) (.inr yu)) rfl ?_)
 refine xjs ?_
 refine VG (VY 52 true rfl rfl ?_)
 refine xjs ?_
 refine VG (VV (fun Fr w hF hw hS => unow_spec Fr w (hS.at_ 0 rfl)) rfl ?_)
 rw [show (newC (fitM zC)).now = 0 from rfl]
 refine xjs ?_
 refine VG (VY 57 true rfl rfl ?_)
 refine xjs ?_
 refine VG (VV (fun Fr w _ _ _ => rested_spec Fr w) rfl ?_)
 refine xjs ?_
 exact xdy
end Cl
namespace Vg
open Go Go.ChangeShapes Go.WideShapes Go.ChangeAt Go.RowKit
theorem trodAll_below {H : Type} {enc : TypeId × Value → H} {P : Program} (hl : laidOutB P = true) {W W' : World} (hb : Below W.heap.size W W') :
  ∀ {ts : List TypeId} {vs : List Value} {ds : List (DataW H)} {ps : List MemPlace}, (∀ t ∈ ts, P.readableRec t = true ∧ t < P.types.size) →
   DataW.TrodAll enc P W 0 (fun _ => true) true ts vs ds ps → DataW.TrodAll enc P W' 0 (fun b => decide (b < W.heap.size)) true ts vs ds ps
 | [], vs, ds, ps, _, h => by
  obtain ⟨rfl, rfl, rfl⟩ := trodAll_nil h
  exact trodAll_mk0
 | t :: ts, vs, ds, ps, ht, h => by
  obtain ⟨v, vs', d, ds', p, q, rfl, rfl, rfl, h0, r0⟩ := trodAll_cons h
  have lt0 : ∀ x ∈ p, x.block < W.heap.size := by obtain ⟨m, hm⟩ := h0; exact DataW.trod_lt m _ _ _ hm
  have h1 := ht t yf
  exact trodAll_cons_mk (Below.trod hl h1.1 h1.2 h0 hb lt0) (trodAll_below hl hb (fun t h => ht t ya) r0)
theorem trodAll_length {H : Type} {enc : TypeId × Value → H} {P : Program} {W : World} {b : Nat} {sp : Nat → Bool} {hd : Bool} :
  ∀ {ts : List TypeId} {vs : List Value} {ds : List (DataW H)} {ps : List MemPlace}, DataW.TrodAll enc P W b sp hd ts vs ds ps → ds.length = ts.length
 | [], vs, ds, ps, h => by
  obtain ⟨rfl, rfl, rfl⟩ := trodAll_nil h
  rfl
 | t :: ts, vs, ds, ps, h => by
  obtain ⟨v, vs', d, ds', p, q, rfl, rfl, rfl, h0, r0⟩ := trodAll_cons h
  simp [trodAll_length r0]
theorem law_post {H : Type} {enc : TypeId × Value → H} {P : Program} {f : Func} {s : ChangeSpec} (hl : laidOutB P = true) (hts : ∀ t ∈ f.params.toList, P.readableRec t = true ∧ t < P.types.size)
  (hv : s.vars = []) {tb : TypeId} (hres : f.resultTypes = #[tb]) (hbool : P.underlying tb = some .bool)
  (hfn : ∀ ds : List (DataW H), ds.length = f.params.toList.length → s.fn H (ds ++ []) = { results := [.lit (.bool true)], args := ds })
  {W W' : World} {args : Array Value} {ds gs : List (DataW H)} {before : List MemPlace} (hW : DataW.Whole enc P f.params.toList s.vars false W args.toList ds gs before) (bel : Below W.heap.size W W') :
  s.post enc P f false true false false W args (.bool true) W' := by
 have hW' := hW
 obtain ⟨p, q, hA, hV, rfl, _, _⟩ := hW
 rw [hv] at hV
 obtain ⟨rfl, rfl⟩ := trodVars_none hV
 have e := hfn ds (trodAll_length hA)
 refine ⟨ds, [], p ++ [], [], p, [], hW', ?_, ?_, ?_, bel.frame _, fun h => by cases h⟩
 ·rw [e, hres]; exact trodAll_mk1 (shut_bool hbool _)
 ·rw [e]; exact trodAll_below hl bel hts hA
 ·rw [e, hv]; rfl
theorem law_returns {H : Type} {enc : TypeId × Value → H} {C : Checked} {os : Os} {f : FuncId} {fn : Func} {s : ChangeSpec} {conds : List PathCond}
  (own : ownKnob C.prog.godebug = none) (started : os.Started) (noInit : C.prog.inits.idxOf? f = none) (hfn : C.prog.funcs[f]? = some fn)
  (witness : ∃ (w : World) (tape : Tape) (i : Input), w.os = os ∧ (w.forCall tape i).Shaped C.prog ∧ i.vars = [] ∧ Input.okWide C.prog (w.forCall tape i) .any w.heap.size f i ∧
   s.pre6 enc C.prog fn conds false (w.forCall tape i).memory i.args ∧ ({} : Assume).holds C.prog (lone (Frame.enter C.prog f i.args .normal) [] (w.forCall tape i)))
  (hl : laidOutB C.prog = true) (hts : ∀ t ∈ fn.params.toList, C.prog.readableRec t = true ∧ t < C.prog.types.size)
  (hv : s.vars = []) {tb : TypeId} (hres : fn.resultTypes = #[tb]) (hbool : C.prog.underlying tb = some .bool)
  (hs : ∀ ds : List (DataW H), ds.length = fn.params.toList.length → s.fn H (ds ++ []) = { results := [.lit (.bool true)], args := ds })
  (walk : ∀ (W : World) (base : Nat) (args : Array Value) (ds : List (DataW H)) (ps : List MemPlace),
   (∀ (j : Nat) t v, fn.params[j]? = some t → args[j]? = some v → Value.okWide C.prog W .any base t v) →
   DataW.TrodAll enc C.prog W 0 (fun _ => true) true fn.params.toList args.toList ds ps → W.noneFrozen ps →
   (DataW.weightsEach C.prog fn.params.toList ds).all (· ≤ reachBytes) = true →
   Tri C.prog f args.toList (fun b => b < W.heap.size) W [] (fun v _ => v = .bool true)) :
  ReturnsInHanded {} C os f .any (s.pre6 enc C.prog fn conds false) (s.post enc C.prog fn false true false false) := by
 refine returnsInHanded_of_change_sized own started noInit hfn witness fun W base args ds gs before hval hW _ hwt _ => ?_
 have hW2 := hW
 obtain ⟨p, q, hA, hV, rfl, hfz, _⟩ := hW2
 rw [hv] at hV
 obtain ⟨rfl, rfl⟩ := trodVars_none hV
 have hvt : s.plain.varTypes C.prog = [] := by simp [ChangeSpec.plain, hv, DataSpec.varTypes]
 rw [hvt] at hwt
 simp only [List.append_nil] at hwt hfz
 have T := walk W base args ds p hval hA hfz hwt
 have := T.calls (fun _ h => h) Sat.nil
 simp only [Array.toArray_toList] at this
 exact Calls.mono this fun e W' ⟨v, L', he, h1, _, hk⟩ => ⟨v, he, by subst h1; exact law_post hl hts hv hres hbool hs hW hk.below⟩
end Vg
end Go.Proofs.YtmghpgpfeabghaaGreat
