/- Texts of the proof, put together and shortened. No condition. -/
import Derived.Test.YtjmahknbffdadaaGreatZc4
set_option maxRecDepth 100000
set_option maxHeartbeats 16000000
set_option linter.unusedVariables false
set_option linter.unusedSectionVars false
set_option linter.unusedSimpArgs false
namespace Go.Proofs.YtjmahknbffdadaaGreat
variable (Fr : Nat → Prop) (w : World)
namespace Cl
open Go Vg T Api Ch Rep
attribute [local irreducible] VO VC VA
theorem nat_sub_len : ∀ {l m : List Nat}, l.Nodup → (∀ x ∈ l, x ∈ m) → l.length ≤ m.length
 | [], m, _, _ => Nat.zero_le _
 | x :: l, m, hn, hs => by
  have hx := hs x List.mem_cons_self
  have h1 := List.nodup_cons.1 hn
  have := nat_sub_len (l := l) (m := m.erase x) h1.2 (fun y hy => (List.mem_erase_of_ne (fun e => h1.1 (by rw [← e]; exact hy))).2 (hs y (List.mem_cons_of_mem _ hy)))
  have h2 := List.length_erase_of_mem hx
  have h3 : 0 < m.length := List.length_pos_of_mem hx
  rw [List.length_cons]; omega
theorem ZOk.len {κ α : Type} {c : κ → Value} {d : α → Value} {xs : List (κ × α)} {es : Array MapEntry} {k : Nat} {J : Zed κ α} (h : ZAt c d xs es k) (ok : ZOk c d xs es J) : J.length ≤ xs.length := by
 have h1 := nat_sub_len (m := es.toList.map (·.born)) ok.nd (fun x hx => by
  obtain ⟨z, hz, rfl⟩ := List.mem_map.1 hx
  exact List.mem_map.2 ⟨z.1, (h.kv (ok.sub z hz)).1, rfl⟩)
 rw [List.length_map, List.length_map, h.len] at h1
 exact h1
theorem ZOk.keys {κ α : Type} {c : κ → Value} {d : α → Value} {xs : List (κ × α)} {es : Array MapEntry} {k : Nat} {J : Zed κ α} (h : ZAt c d xs es k) (ok : ZOk c d xs es J) : ((J.map Prod.snd).map Prod.fst).Nodup := by
 rw [List.map_map]
 refine List.pairwise_map.2 ((List.pairwise_map.1 ok.nd).imp_of_mem fun {z1 z2} h1 h2 hne e => hne ?_)
 obtain ⟨a1, _, a2, _⟩ := h.kv (ok.sub z1 h1)
 obtain ⟨b1, _, b2, _⟩ := h.kv (ok.sub z2 h2)
 rw [inj_of_nodup_map h.st.2.2 a1 b1 (by rw [a2, b2]; exact congrArg c e)]
theorem mPut_new {κ α : Type} [DecidableEq κ] {a : κ} (u : α) : ∀ {l : List (κ × α)}, a ∉ l.map Prod.fst → mPut l a u = l ++ [(a, u)]
 | [], _ => rfl
 | (k, v) :: r, h => by
  simp only [List.map_cons, List.mem_cons, not_or] at h
  unfold mPut
  rw [if_neg (fun e => h.1 e.symm), mPut_new u h.2]; rfl
theorem fdV_is (S : LnkM) (q : PrM) (i : Int) : ∃ x y t, fdV S q i = .tuple #[.agg (mailC x y t).toArray, .int .i64 (S.drop q i).2] := by
 cases hf : S.find q i with
 | none => exact ⟨_, _, _, by rw [fdV_none hf, drop_none hf]⟩
 | some t => exact ⟨_, _, _, by rw [fdV_some hf, drop_some hf]⟩
section
variable {p : Nat} {S : LnkM} {b : Nat} {X : List LnG}
theorem ldrop_spec (ok : S.Ok) (x y i : Int) : Tri Tryz.prog 68 [.pointer (some ⟨p, 0, none⟩), .int .i64 x, .int .i64 y, .int .i64 i] Fr w [lnkH p S]
  (fun v L => v = .int .i64 (S.drop (x, y) i).2 ∧ L = [lnkH p (S.drop (x, y) i).1]) := by
 refine TF 20 Tryz.func68 rfl yl tabOk rfl rfl ?_
 refine xjg ?_
 refine VG (VK (Lc := [lnkH p S]) (Lr := []) (fun Fr w hF hw _ => ldeliver_spec Fr w ok x y i) rfl rfl ?_)
 rintro _ _ ⟨rfl, rfl⟩
 obtain ⟨x', y', t', e⟩ := fdV_is S (x, y) i
 rw [e]
 refine xjg ?_
 refine VG (VO.alloc rfl fun rb => ?_)
 refine VG (VT (vs := mailC x' y' t') (cs' := mailC x' y' t') 0 rfl rfl rfl rfl (NR _) rfl rfl rfl ?_)
 refine xjg ?_
 exact CR (Ret.tmp 8 rfl rfl (IP 1 rfl Imp.nil).ent ⟨rfl, rfl⟩)
theorem double_none {q : PrM} {i : Int} (h : S.find q i = none) : S.double q i = (S, 4) := by unfold LnkM.double; rw [h]
theorem double_some {q : PrM} {i : Int} {t : ByteArray} (h : S.find q i = some t) : S.double q i = (S.send q t, S.sendE q t) := by unfold LnkM.double; rw [h]
theorem LnkM.Ok.double (ok : S.Ok) (q : PrM) (i : Int) : (S.double q i).1.Ok := by
 unfold LnkM.double
 split
 ·exact ok
 ·exact ok.send _ _
theorem ldouble_spec (ok : S.Ok) (x y i : Int) : Tri Tryz.prog 69 [.pointer (some ⟨p, 0, none⟩), .int .i64 x, .int .i64 y, .int .i64 i] Fr w [lnkH p S]
  (fun v L => v = .int .i64 (S.double (x, y) i).2 ∧ L = [lnkH p (S.double (x, y) i).1]) := by
 refine TF 25 Tryz.func69 rfl yl tabOk rfl rfl ?_
 refine VC.opn 0 rfl (HOpn.lnk p S) ?_
 rintro ⟨b, X⟩ hX
 dsimp only at hX
 refine xmj ?_
 refine xjg ?_
 refine VG (VV (fun Fr w hF hw hS => lfind_spec Fr w ok (hS.blk 0 rfl) (hS.mapBlk 1 rfl) (lk_rows (A := [_, _]) hS) hX x y i) rfl ?_)
 refine VO.ent (L' := [lnkH p S]) (Imp.lnk (K := []) b X hX (by rw [List.append_nil]; exact Imp.refl)).ent ?_
 cases hf : S.find (x, y) i with
 | none =>
  rw [fdV_none hf]
  refine xjg ?_
  refine VG (VO.alloc rfl fun rb => ?_)
  refine xmo ?_
  refine zpr ?_
  exact CR (Ret.tmp 8 rfl rfl (IP 1 rfl Imp.nil).ent ⟨by rw [double_none hf], by rw [double_none hf]⟩)
 | some t =>
  rw [fdV_some hf]
  refine xjg ?_
  refine VG (VO.alloc rfl fun rb => ?_)
  refine xmp ?_
  refine zoh ?_
  refine VG (VL 0 (mailC x y t) rfl rfl rfl rfl ?_)
  refine VO.ent (L' := [lnkH p S, pt rb (mailC x y t) mailT]) (IP 1 rfl Imp.refl).ent ?_
  refine VG (VK (Lc := [lnkH p S]) (Lr := [pt rb (mailC x y t) mailT]) (fun Fr w hF hw _ => lsend_spec Fr w ok x y t) rfl rfl ?_)
  rintro _ _ ⟨rfl, rfl⟩
  refine xjg ?_
  exact CR (Ret.tmp 8 rfl rfl (IP 0 rfl Imp.nil).ent ⟨by rw [double_some hf], by rw [double_some hf]⟩)
theorem lcopy_spec (ok : S.Ok) (h : Blk Fr w p (lnkC S b)) (hm : MapBlk Fr w iiV txV b X) (hr : ∀ z ∈ X, RwIn txC 1 Fr w z.2.2.1 z.2.1) (hX : erX X = S.mail) : Tri Tryz.prog 37 [.pointer (some ⟨p, 0, none⟩)] Fr w [] (fun v L => ∃ q m, m.Perm S.mail ∧ v = .pointer (some ⟨q, 0, none⟩) ∧ L = [lnkH q ⟨S.cap, m⟩]) := by
 obtain ⟨es, clock, g1, g2, g3⟩ := hm.at_
 have hz : ZAt iiV txV X es clock := ⟨g2, g3⟩
 have hXe : ∀ z ∈ X, z.2.1.length ≤ 64 := fun z hz => by
  have := ok.each (z.1, z.2.1) (by rw [← hX]; exact List.mem_map.2 ⟨z, hz, rfl⟩)
  exact this
 refine TF 33 Tryz.func37 rfl yl tabOk rfl rfl ?_
 refine xjh ?_
 refine xmh ?_
 refine zod ?_
 refine xji ?_
 refine VG (VO.opx (OpT.makeMap iiV txV) ?_)
 rintro _ _ ⟨m, rfl, rfl⟩
 refine VG (VI (LB (pv := [(0, .int .i64 S.cap), (1, .map (some m))]) (lnkC S m) rfl rfl rfl yl rfl) ?_)
 refine VG (VB (vs := lnkC S m) rfl fun q => ?_)
 refine xji ?_
 refine VG (VO.opx (OpT.rangeM (es := es) (clock := clock) iiV txV Tryz.underlying95 rfl (fun w hw => (hw.keep.block b hm.fr).trans g1)) ?_)
 rintro _ _ ⟨it, rfl, rfl⟩
 refine xdv ?_
 refine VC.block ?_
 refine VC.loop (σ := Zed PrM LnV × List LnG) (fun s => [(3, pV q), (19, pV it)]) (fun s => itmH it b clock s.1 :: pt q (lnkC S m) lnkT :: mapH iiV txV m s.2 :: s.2.map txH) (fun s => ZOk iiV txV X es s.1 ∧ erX s.2 = erX (s.1.map Prod.snd)) (fun s => X.length - s.1.length) ([], [])
  ⟨ZOk.nil, rfl⟩ sbZ ER ?_
 rintro ⟨J, Y⟩ ⟨hJ, hY⟩
 dsimp only at hJ hY ⊢
 refine xjg ?_
 refine VG (VO.opx (OpT.nextM 0 rfl rfl (fun w hw => (hw.keep.block b hm.fr).trans g1) hz hJ) ?_)
 rintro v L' (⟨rfl, rfl, hp⟩ | ⟨z, rfl, z1, z2, hok, rfl⟩)
 ·refine xjg ?_
  refine VC.condF rfl (CX ?_)
  refine xjg ?_
  refine CR (Ret.tmp 2 rfl rfl (L' := [lnkH q ⟨S.cap, erX Y⟩]) ?_ ⟨q, erX Y, ?_, rfl, rfl⟩)
  ·exact (Imp.lnk (S := ⟨S.cap, erX Y⟩) (K := []) m Y rfl (by rw [List.append_nil]; exact Imp.app (L := [_]) (M := []) Imp.nil Imp.refl)).ent
  ·rw [hY, ← hX]; exact hp.map _
 ·refine xjg ?_
  refine VC.condT rfl (CK ?_)
  refine xjg ?_
  refine VG (VO.op1 (OpT.entryM 0 (J := J) (z := z) rfl rfl (fun w hw => (hw.keep.block b hm.fr).trans g1) hz z2) ?_)
  refine xjg ?_
  refine VG (VO.alloc rfl fun kb => ?_)
  refine VG (VT (vs := [.int .i64 z.2.1.1, .int .i64 z.2.1.2]) (cs' := [.int .i64 z.2.1.1, .int .i64 z.2.1.2]) 0 rfl rfl rfl rfl (NR _) rfl rfl rfl ?_)
  refine xjg ?_
  refine CD (ts 0 6 (.only 6 (.only 7 .nil))) yl yq ?_
  refine xfs ?_
  refine AG (VA.ldA 0 [.int .i64 z.2.1.1, .int .i64 z.2.1.2] rfl rfl rfl rfl rfl ?_)
  refine xfs ?_
  have hzl := hXe _ z1
  refine AG (AO (OC (Lc := []) rfl (.refl _) (fun Fr w hF hs _ => tclone_spec (a := z.2.2.2.1) (cap := z.2.2.2.2) Fr w ((hr _ z1).of hF hs) ye)) rfl (fun v L' g => by obtain ⟨_, ⟨a1, c1, rfl, rfl⟩, rfl⟩ := g; exact yu) ?_)
  rintro _ _ ⟨_, ⟨a1, c1, rfl, rfl⟩, rfl⟩
  refine AG (AO (OpT.mapUpdate 4 (c := iiV) (d := txV) (xs := Y) (a := z.2.1) (u := (z.2.2.1, (a1, c1))) keyI Tryz.underlying95 rfl rfl rfl rfl) rfl ?_ ?_)
  ·rintro _ _ ⟨rfl, rfl⟩
   exact yu
  rintro _ _ ⟨rfl, rfl⟩
  refine xjj ?_
  have hnk : z.2.1 ∉ Y.map Prod.fst := fun hh => by
   have e1 : Y.map Prod.fst = (J.map Prod.snd).map Prod.fst := by
    have := congrArg (List.map Prod.fst) hY
    unfold erX at this
    rw [List.map_map, List.map_map] at this
    exact this
   rw [e1] at hh
   have := ZOk.keys hz hok
   rw [List.map_append, List.map_append] at this
   exact (List.nodup_append.1 this).2.2 _ hh _ (List.mem_singleton.2 rfl) rfl
  have b2 := ZOk.len hz hok
  rw [List.length_append] at b2
  refine ⟨(J ++ [z], Y ++ [(z.2.1, (z.2.2.1, (a1, c1)))]), ⟨hok, by show erX (Y ++ _) = erX ((J ++ [z]).map Prod.snd); rw [erX, List.map_append, List.map_append, erX, List.map_append]; exact congrArg (· ++ _) hY⟩, by show X.length - (J ++ [z]).length < X.length - J.length; rw [List.length_append]; simp at b2 ⊢; omega, sbZ, ?_⟩
  dsimp only
  rw [mPut_new _ hnk, List.map_append]
  refine Imp.ent ?_
  refine IP 2 rfl (IP 2 rfl (IP 2 rfl ?_))
  exact (Imp.perm (List.perm_append_comm (l₁ := [_, _]) (l₂ := Y.map txH))).trans (Imp.app Imp.refl (IP 0 rfl Imp.nil))
end
end Cl
namespace Cl
open Go Vg T Api Ch Conf Rep
structure StpM where
 kind : Int
 a : Int
 b : Int
 c : Int
 op : OpM
structure CluM where
 conf : ConfM
 now : Int
 mas : MasM
 nodes : List (Option RepM)
 clis : List CliM
 lnk : LnkM
 his : HisM
 done : List EntryM
def newC (c : ConfM) : CluM := ⟨c, 0, newM c, (List.range c.nodes.toNat).map fun (n : Nat) => some (newR c n false), (List.range c.clients.toNat).map fun (n : Nat) => newCl c n, ⟨c.link, []⟩, newH, []⟩
def post1 (from_ : Int) (l : LnkM) (s : SdM) : LnkM := match putM s.2.1 s.2.2 with
 | none => l
 | some t => l.send (from_, s.1) (bT t)
def postL (from_ : Int) (l : LnkM) (S : List SdM) : LnkM := S.foldl (post1 from_) l
def CluM.post (C : CluM) (from_ : Int) (S : List SdM) : CluM := { C with lnk := postL from_ C.lnk S }
def CluM.node (C : CluM) (n : Int) : Option RepM := if n < 0 then none else (C.nodes[n.toNat]?).getD none
def CluM.upE (C : CluM) (n : Int) : Int := if n < 0 ∨ (C.nodes.length : Int) ≤ n then 4 else if (C.node n).isNone then 61 else 0
def CluM.setNode (C : CluM) (n : Int) (r : Option RepM) : CluM := { C with nodes := C.nodes.set n.toNat r }
def CluM.cli (C : CluM) (n : Int) : Option CliM := if n < 0 then none else C.clis[n.toNat]?
def CluM.setCli (C : CluM) (n : Int) (s : CliM) : CluM := { C with clis := C.clis.set n.toNat s }
def CluM.dead (C : CluM) (c : Int) : Int := min (C.now + min (max c 0) 1099511627776) 1099511627776
def CluM.call (C : CluM) (s : StpM) : CluM × Int := match C.cli s.a with
 | none => (C, 4)
 | some x =>
  if x.callE s.op s.b (C.dead s.c) ≠ 0 then (C, x.callE s.op s.b (C.dead s.c))
  else
   let y := x.call s.op s.b (C.dead s.c) C.now
   (({ C.setCli s.a y.1 with his := C.his.call s.a y.1.seq s.op } : CluM).post (32 + s.a) y.2, 0)
def CluM.tickN (C : CluM) (n : Nat) : CluM := match (C.nodes[n]?).getD none with
 | none => C
 | some r => (C.setNode n (some (tickR r).1)).post n (ofS (tickR r).2)
def CluM.tickC (C : CluM) (n : Nat) : CluM := match C.clis[n]? with
 | none => C
 | some s => (C.setCli n (s.tick C.now).1).post (32 + n) (s.tick C.now).2
def CluM.tick (C : CluM) : CluM :=
 let C := { C with now := min (C.now + 1) 1099511627776 }
 let C := (List.range C.nodes.length).foldl CluM.tickN C
 (List.range C.clis.length).foldl CluM.tickC C
def CluM.takes (C : CluM) (from_ to : Int) (f : FrameM) (ms : List MemM) : CluM :=
 if to = 16 then ({ C with mas := (C.mas.take from_ f C.now).1 }).post to (C.mas.take from_ f C.now).2
 else match C.node to with
  | some r => (C.setNode to (some (takeR r from_ f ms C.now).1)).post to (ofS (takeR r from_ f ms C.now).2)
  | none => match C.cli (to - 32) with
   | some s => (C.setCli (to - 32) (s.take f ms C.now).1).post to (s.take f ms C.now).2
   | none => C
def CluM.got (C : CluM) (from_ to : Int) (t : ByteArray) : CluM := match getM (sB t) with
 | some (f, ms) => C.takes from_ to f ms
 | none => C
def CluM.deliver (C : CluM) (p : PrM) (i : Int) : CluM × Int := match C.lnk.find p i with
 | none => (C, 4)
 | some t => (({ C with lnk := C.lnk.without p i } : CluM).got p.1 p.2 t, 0)
def CluM.back (C : CluM) (n : Int) : CluM :=
 if C.upE n = 61 then
  let r := takeR (newR C.conf n true) 16 (cfgF C.mas.ch) C.mas.ch.ms C.now
  (C.setNode n (some r.1)).post n (ofS r.2)
 else C
def CluM.join (C : CluM) (n : Int) : CluM × Int :=
 let j := C.mas.join n C.now
 if j.2.2 ≠ 0 then (C, j.2.2) else ((({ C with mas := j.1 } : CluM).back n).post 16 j.2.1, 0)
def CluM.step (C : CluM) (s : StpM) : CluM × Int :=
 if s.kind = 1 then C.call s
 else if s.kind = 2 then match C.node s.a with
  | none => (C, C.upE s.a)
  | some r => ((C.setNode s.a (some (stepR r C.now).1)).post s.a (ofS (stepR r C.now).2), 0)
 else if s.kind = 3 then (C.tick, 0)
 else if s.kind = 4 then C.deliver (s.a, s.b) s.c
 else if s.kind = 5 then ({ C with lnk := (C.lnk.drop (s.a, s.b) s.c).1 }, (C.lnk.drop (s.a, s.b) s.c).2)
 else if s.kind = 6 then ({ C with lnk := (C.lnk.double (s.a, s.b) s.c).1 }, (C.lnk.double (s.a, s.b) s.c).2)
 else if s.kind = 7 then if C.upE s.a ≠ 0 then (C, C.upE s.a) else (C.setNode s.a none, 0)
 else if s.kind = 8 then (({ C with mas := (C.mas.suspect s.a).1 } : CluM).post 16 (C.mas.suspect s.a).2.1, (C.mas.suspect s.a).2.2)
 else if s.kind = 9 then C.join s.a
 else if s.kind = 10 then (({ C with mas := (C.mas.drain s.a).1 } : CluM).post 16 (C.mas.drain s.a).2.1, (C.mas.drain s.a).2.2)
 else if s.kind = 11 then (({ C with mas := (C.mas.tick C.now).1 } : CluM).post 16 (C.mas.tick C.now).2, 0)
 else (C, 2)
def endH (h : HisM) (x : CliM × Nat) : HisM := match x.1.outcome with
 | none => h
 | some o => h.end_ (x.2 : Int) x.1.seq o
def lastMem (ms : List MemM) : Int := match ms.getLast? with
 | none => -1
 | some m => m.1
def doneN (d : List EntryM) (x : Option RepM × Nat) : List EntryM := match x.1 with
 | none => d
 | some r => if r.since = 0 ∨ r.ch.ms.length = 0 ∨ lastMem r.ch.ms ≠ x.2 ∨ r.win.done ≤ d.length then d else d ++ (r.log.take r.win.done.toNat).drop d.length
def CluM.behind (C : CluM) : CluM := { C with his := C.clis.zipIdx.foldl endH C.his, done := C.nodes.zipIdx.foldl doneN C.done }
def CluM.do_ (C : CluM) (s : StpM) : CluM × Int := ((C.step s).1.behind, (C.step s).2)
def putS (client : Int) : StpM := ⟨1, client, 0, 100, ⟨2, ⟨#[107]⟩, ⟨#[118]⟩, 0⟩⟩
end Cl
namespace Cl
open Go Vg T Api Ch Rep Conf Lg
attribute [local irreducible] VO VC VA
abbrev cluT : TypeId := 51
abbrev rpT : TypeId := 36
abbrev cpT : TypeId := 40
abbrev NdG := Option (Nat × RepM)
abbrev CiG := Nat × CliM
def nodV : NdG → Value
 | none => .pointer none
 | some x => .pointer (some ⟨x.1, 0, none⟩)
def nodC (x : NdG) : List Value := [nodV x]
theorem nodC_len (x : NdG) : (nodC x).length = 1 := rfl
def nodP : NdG → HP
 | none => hpure True
 | some x => repH x.1 x.2
def cliV (x : CiG) : List Value := [.pointer (some ⟨x.1, 0, none⟩)]
theorem cliV_len (x : CiG) : (cliV x).length = 1 := rfl
def cliP (x : CiG) : HP := cliH x.1 x.2
structure CluS where
 qa : Option Addr
 qc : Nat
 mp : Nat
 nb : Nat
 nc : Nat
 nx : List Value
 nr : List NdG
 cb : Nat
 cc : Nat
 cx : List Value
 cr : List CiG
 lp : Nat
 hp : Nat
 da : Option Addr
 dc : Nat
def cluC (C : CluM) (y : CluS) : List Value := C.conf.cells y.qa y.qc ++ [.int .i64 C.now, .pointer (some ⟨y.mp, 0, none⟩), .slice (some ⟨y.nb, 0, none⟩) y.nr.length y.nc, .slice (some ⟨y.cb, 0, none⟩) y.cr.length y.cc, .pointer (some ⟨y.lp, 0, none⟩), .pointer (some ⟨y.hp, 0, none⟩), .slice y.da C.done.length y.dc]
def cluL (p : Nat) (C : CluM) (y : CluS) : List HP := [pt p (cluC C y) cluT, intH y.qa y.qc C.conf.qs, masH y.mp C.mas, pt y.nb (flat nodC y.nr ++ y.nx) rpT, pt y.cb (flat cliV y.cr ++ y.cx) cpT, lnkH y.lp C.lnk, hisH y.hp C.his, slH entT 7 y.da C.done.length y.dc (flat entC C.done), hsep (y.nr.map nodP), hsep (y.cr.map cliP)]
structure CluFit (C : CluM) (y : CluS) : Prop where
 nr : y.nr.map (Option.map Prod.snd) = C.nodes
 cr : y.cr.map Prod.snd = C.clis
 qc : C.conf.qs.length ≤ y.qc
def cluH (p : Nat) (C : CluM) : HP := hex fun y : CluS => hsep (hpure (CluFit C y) :: cluL p C y)
theorem HOpn.clu (p : Nat) (C : CluM) : HOpn (ι := CluS) (cluH p C) (fun y => CluFit C y) (fun y => cluL p C y) := fun w ids ⟨x, h⟩ hn => by
 obtain ⟨i1, i2, rfl, ⟨rfl, h1⟩, h2⟩ := h
 exact ⟨x, h1, i2, h2, hn, fun _ h => h⟩
theorem Imp.clu {p : Nat} {C : CluM} {L K : List HP} (y : CluS) (hy : CluFit C y) (h : Imp L (cluL p C y ++ K)) : Imp L (cluH p C :: K) := Imp.ex (f := fun y : CluS => hsep (hpure (CluFit C y) :: cluL p C y)) y (Imp.sep (Imp.pure hy h))
theorem clu_in {Fr : Nat → Prop} {w : World} {p : Nat} {C : CluM} (h : SatIn Fr [cluH p C] w) : ∃ y, CluFit C y ∧ SatIn Fr (cluL p C y) w := by
 obtain ⟨y, hy⟩ := h.ex
 have hs := hy.sep
 exact ⟨y, hs.pure 0 rfl, SatIn.tail hs⟩
def LnkM.Adr (S : LnkM) : Prop := ∀ x ∈ S.mail, adrB x.1.1 = true ∧ adrB x.1.2 = true
structure CluM.Ok (C : CluM) (b e : Nat) : Prop where
 cf : C.conf = fitM C.conf
 n0 : 0 ≤ C.now
 n1 : C.now ≤ 1099511627776
 mas : C.mas.Ok
 nl : C.nodes.length = C.conf.nodes.toNat
 cl : C.clis.length = C.conf.clients.toNat
 lnk : C.lnk.Ok
 his : C.his.Ok
 fit : ∀ r, some r ∈ C.nodes → r.Fit
 last : ∀ r, some r ∈ C.nodes → r.rds.last ≤ b
 cok : ∀ s ∈ C.clis, s.Ok
 seq : ∀ s ∈ C.clis, s.seq ≤ b
 rc : C.his.recs.length ≤ b
 ev : C.his.events ≤ e
 dn : C.done.length ≤ 4096
 adr : C.lnk.Adr
section
variable {p : Nat} {C : CluM} {y : CluS}
theorem umade_spec (h : Blk Fr w p (cluC C y)) : Tri Tryz.prog 33 [.pointer (some ⟨p, 0, none⟩)] Fr w [] (fun v L => v = .bool true ∧ L = []) := by
 refine TF 12 Tryz.func33 rfl yl tabOk rfl rfl ?_
 refine zpm ?_
 refine xji ?_
 exact xep
theorem node_len (fit : CluFit C y) : y.nr.length = C.nodes.length := by rw [← fit.nr, List.length_map]
theorem cli_len (fit : CluFit C y) : y.cr.length = C.clis.length := by rw [← fit.cr, List.length_map]
theorem node_at (fit : CluFit C y) {k : Nat} {x : NdG} (h : y.nr[k]? = some x) : C.node (k : Int) = x.map Prod.snd ∧ C.nodes[k]? = some (x.map Prod.snd) := by
 have : C.nodes[k]? = some (x.map Prod.snd) := by rw [← fit.nr, List.getElem?_map, h]; rfl
 refine ⟨?_, this⟩
 unfold CluM.node
 rw [if_neg ye, Int.toNat_natCast, this]; rfl
theorem cli_at (fit : CluFit C y) {k : Nat} {x : CiG} (h : y.cr[k]? = some x) : C.cli (k : Int) = some x.2 ∧ C.clis[k]? = some x.2 := by
 have : C.clis[k]? = some x.2 := by rw [← fit.cr, List.getElem?_map, h]; rfl
 refine ⟨?_, this⟩
 unfold CluM.cli
 rw [if_neg ye, Int.toNat_natCast, this]
theorem nod_cell {l : List NdG} {k : Nat} {x : NdG} {r : List Value} (h : l[k]? = some x) : (flat nodC l ++ r)[0 + k * 1]? = some (nodV x) := by rw [Nat.zero_add]; exact flat_cell (j := 0) nodC_len h rfl r
theorem cli_cell {l : List CiG} {k : Nat} {x : CiG} {r : List Value} (h : l[k]? = some x) : (flat cliV l ++ r)[0 + k * 1]? = some (.pointer (some ⟨x.1, 0, none⟩)) := by rw [Nat.zero_add]; exact flat_cell (j := 0) cliV_len h rfl r
theorem up_spec (fit : CluFit C y) (h : Blk Fr w p (cluC C y)) (hr : Blk Fr w y.nb (flat nodC y.nr ++ y.nx)) (n : Int) : Tri Tryz.prog 36 [.pointer (some ⟨p, 0, none⟩), .int .i64 n] Fr w [] (fun v L => v = .int .i64 (C.upE n) ∧ L = []) := by
 have hl := node_len fit
 refine TF 26 Tryz.func36 rfl yl tabOk rfl rfl ?_
 refine xjh ?_
 by_cases h0 : n < 0
 ·refine VG (VY 8 true rfl (DT h0) ?_)
  refine xji ?_
  refine xdo ?_
  refine xjh ?_
  exact CR (Ret.tmp 4 rfl rfl ER ⟨by rw [CluM.upE, if_pos (.inl h0)], rfl⟩)
 obtain ⟨k, rfl⟩ : ∃ k : Nat, n = k := ⟨n.toNat, by omega⟩
 refine VG (VY 8 false rfl (DF h0) ?_)
 refine xji ?_
 refine CP (p := (y.nr.length : Int) ≤ k) rfl (fun h1 => ?_) (fun h1 => ?_)
 ·refine xjh ?_
  exact CR (Ret.tmp 4 rfl rfl ER ⟨by rw [CluM.upE, if_pos (.inr ye)], rfl⟩)
 have hk : k < y.nr.length := by omega
 have hk2 : y.nr[k]? = some y.nr[k] := GE hk
 generalize y.nr[k] = x at hk2
 obtain ⟨e1, e2⟩ := node_at fit hk2
 have hu : C.upE (k : Int) = if x.isNone then 61 else 0 := by
  unfold CluM.upE
  rw [if_neg ye, e1]
  cases x <;> rfl
 refine xji ?_
 refine xdp ?_
 refine VG (VD rfl rfl (RdL.blk hr (nod_cell hk2)) ?_)
 cases x with
 | none =>
  refine zoc ?_
  exact CR (Ret.tmp 4 rfl rfl ER ⟨by rw [hu]; rfl, rfl⟩)
 | some z =>
  show VO _ _ _ _ (putE (some 24) (.pointer (some ⟨z.1, 0, none⟩)) _) _ _
  refine zod ?_
  refine xjh ?_
  exact CR (Ret.tmp 4 rfl rfl ER ⟨by rw [hu]; rfl, rfl⟩)
end
end Cl
namespace Cl
open Go Vg T Api Ch Rep Conf Lg
attribute [local irreducible] VO VC VA
structure SdIn (Fr : Nat → Prop) (w : World) (a : Option Addr) (X : List SdG) : Prop where
 rows : RwIn sdC 30 Fr w a X
 mems : ∀ x ∈ X, RwIn memC 2 Fr w x.2.1 x.1.2.2
 len : X.length ≤ 1000000
 ml : ∀ x ∈ X, x.1.2.2.length ≤ 1000000
theorem sd_in {Fr : Nat → Prop} {w : World} {A : List HP} {a : Option Addr} {c : Nat} {X : List SdG} (h : SatIn Fr (slH sndT 30 a X.length c (flat sdC X) :: (X.map memH ++ A)) w) (hl : X.length ≤ 1000000) (hm : ∀ x ∈ X.map Prod.fst, x.2.2.length ≤ 1000000) : SdIn Fr w a X :=
 ⟨RwIn.slH sdC_len (h.at_ 0 rfl), fun x hx => by
  obtain ⟨i, hi, rfl⟩ := List.getElem_of_mem hx
  exact RwIn.slH memC_len (h.at_ (1 + i) (by rw [show 1 + i = i + 1 from by omega, List.getElem?_cons_succ, List.getElem?_append_left (by rw [List.length_map]; exact hi), List.getElem?_map, GE hi]; rfl)), hl, fun x hx => hm x.1 (List.mem_map.2 ⟨x, hx, rfl⟩)⟩
theorem postL_snoc (from_ : Int) (l : LnkM) (S : List SdM) (s : SdM) : postL from_ l (S ++ [s]) = post1 from_ (postL from_ l S) s := by unfold postL; rw [List.foldl_append]; rfl
theorem LnkM.Ok.post1 {S : LnkM} (ok : S.Ok) (from_ : Int) (s : SdM) : (Cl.post1 from_ S s).Ok := by
 unfold Cl.post1
 split
 ·exact ok
 ·exact ok.send _ _
theorem LnkM.Ok.postL (from_ : Int) : ∀ (l : List SdM) {S : LnkM}, S.Ok → (Cl.postL from_ S l).Ok
 | [], _, ok => ok
 | s :: l, S, ok => LnkM.Ok.postL from_ l (ok.post1 from_ s)
theorem sd_frame (x : SdG) : ((sdC x).drop 1).take 29 = x.1.2.1.cells (x.2.1, x.1.2.2.length, x.2.2) := rfl
theorem usend_spec {p : Nat} {C : CluM} {y : CluS} {S : LnkM} (h : Blk Fr w p (cluC C y)) (ok : S.Ok) (from_ : Int) {a : Option Addr} {c : Nat} {X : List SdG} (hX : SdIn Fr w a X) : Tri Tryz.prog 63 [.pointer (some ⟨p, 0, none⟩), .int .i64 from_, .slice a X.length c] Fr w [lnkH y.lp S]
  (fun v L => v = .tuple #[] ∧ L = [lnkH y.lp (postL from_ S (X.map Prod.fst))]) := by
 have hlen := hX.len
 refine TF 35 Tryz.func63 rfl yl tabOk rfl rfl ?_
 refine xjh ?_
 refine VC.loop (σ := Nat) (fun k => [(0, pV p), (1, .int .i64 from_), (10, .slice a X.length c), (11, .int .i64 X.length), (12, .int .i64 (k : Int))]) (fun k => [lnkH y.lp (postL from_ S ((X.take k).map Prod.fst))]) (fun k => k ≤ X.length) (fun k => X.length - k) 0
  (Nat.zero_le _) sbZ ER ?_
 rintro k hk
 refine xjh ?_
 refine CP (p := (k : Int) < X.length) rfl (fun h1 => CK ?_) (fun h1 => CX ?_)
 rotate_left
 ·obtain rfl : k = X.length := by omega
  exact Ret.void rfl ER ⟨rfl, by rw [List.take_length]⟩
 have hkl : k < X.length := by omega
 have hx : X[k]? = some X[k] := GE hkl
 have hxm : X[k] ∈ X := List.getElem_mem hkl
 generalize X[k] = x at hx hxm
 obtain ⟨xb, xo, rfl, ra, rc⟩ := RwIn.rd (X := ⟨Tryz.prog, tab, tabOk, 35, Fr, w⟩) hX.rows hx
 have okk : (postL from_ S ((X.take k).map Prod.fst)).Ok := LnkM.Ok.postL from_ _ ok
 have htk : (X.take (k + 1)).map Prod.fst = (X.take k).map Prod.fst ++ [x.1] := by
  rw [List.take_add_one, hx, List.map_append]; rfl
 have hxml := hX.ml x hxm
 refine xjh ?_
 refine xmq ?_
 refine xda ?_
 refine VG (VO.alloc rfl fun sb => ?_)
 refine VG (VT (vs := sdC x) (cs' := sdC x) 0 rfl rfl rfl rfl (NR _) rfl rfl rfl ?_)
 refine xjh ?_
 refine VG (VL 0 (x.1.2.1.cells (x.2.1, x.1.2.2.length, x.2.2)) rfl rfl rfl (sd_frame x) ?_)
 refine VG (VO.callP (φ := fpR (putM x.1.2.1 x.1.2.2)) (fun Fr w hF hw _ => fput_spec Fr w ((hX.mems x hxm).of hF hw) hxml) rfl ?_)
 intro v hv
 have fin : ∀ S', S' = post1 from_ (postL from_ S ((X.take k).map Prod.fst)) x.1 → S' = postL from_ S ((X.take (k + 1)).map Prod.fst) := fun S' h => by rw [htk, postL_snoc, h]
 cases hp : putM x.1.2.1 x.1.2.2 with
 | none =>
  rw [hp] at hv
  obtain ⟨e, he, rfl⟩ := hv
  have h1 := fin (postL from_ S ((X.take k).map Prod.fst)) (by unfold post1; rw [hp])
  refine xjh ?_
  refine CE rfl (fun k0 => absurd k0 he) (fun _ => CK ?_)
  refine xjh ?_
  refine xdb ?_
  refine xjh ?_
  exact xmr
 | some t =>
  rw [hp] at hv
  obtain rfl := hv
  have h1 := fin ((postL from_ S ((X.take k).map Prod.fst)).send (from_, x.1.1) (bT t)) (by unfold post1; rw [hp])
  refine zoc ?_
  refine CD (ts 0 9 (.only 9 .nil)) yl yq ?_
  refine xhi ?_
  refine AG (AI rfl (LB (pv := [(0, .int .i64 from_), (1, .int .i64 x.1.1), (2, .string (bT t))]) (mailC from_ x.1.1 (bT t)) rfl rfl rfl yl rfl) ?_)
  refine AG (AQ 1 rfl (fun Fr w hF hs hS => lsend_spec Fr w okk from_ x.1.1 (bT t)) rfl rfl (ψ := fun v H => v = .int .i64 ((postL from_ S ((X.take k).map Prod.fst)).sendE (from_, x.1.1) (bT t)) ∧ H = lnkH y.lp ((postL from_ S ((X.take k).map Prod.fst)).send (from_, x.1.1) (bT t))) yx ?_ ?_)
  ·rintro _ _ ⟨rfl, rfl⟩
   exact (by (try refine Pd.st ?_);(repeat (first|exact Pd.nil|exact Pd.fnil|refine Pd.inner ?_|refine Pd.skip yq ?_|refine zf (zo 0 rfl rfl) ?_|refine zf (zo 1 rfl rfl) ?_|refine zf (zm 0 rfl rfl) ?_|refine zf (zm 1 rfl rfl) ?_|refine zf (RdL.blk h rfl) ?_|refine zf (h) ?_|refine zc (zo 0 rfl rfl) ?_|refine zc (zo 1 rfl rfl) ?_|refine zc (zm 0 rfl rfl) ?_|refine zc (zm 1 rfl rfl) ?_|refine zc (RdL.blk h rfl) ?_|refine zc (h) ?_)))
  rintro _ _ ⟨rfl, rfl⟩
  refine xjj ?_
  refine xjh ?_
  refine xdb ?_
  refine xjh ?_
  exact xmr
end Cl
namespace Cl
open Go Vg T Api Ch Rep Conf Lg Rd
attribute [local irreducible] VO VC VA
theorem refs_len (e : Int) (l : List FrameM) (r : Int) : (refs e l r).length = l.length := by rw [refs, List.length_map]
theorem step_few {R : RepM} (h : R.Ok) (now : Int) : (stepR R now).2.length ≤ 300000 := by
 have h1 : (expS R now).length ≤ 16 := by
  unfold expS
  rw [refs_len, List.length_map]
  have := List.length_filter_le (fun y => !lives now y) R.rds.l
  have := h.rl
  have := h.rc1
  omega
 have h2 : (step2 R now).2.length ≤ 65 * 4200 := by
  unfold step2
  split
  ·exact serveLoop_len now 65 (expR_ok h now)
  ·simp
 have h3 : (step3 R now).2.length ≤ 4200 := by
  unfold step3
  split
  ·show (passN _ _).2.length ≤ _
   have ok2 := (step2_ok h now).win
   have := ok2.last1
   have := ok2.sent0
   rw [passN_len]
   unfold passK
   omega
  ·simp
 show List.length (_ ++ _ ++ _) ≤ _
 rw [List.length_append, List.length_append]
 omega
theorem tick_few (R : RepM) : (tickR R).2.length ≤ 5 := by
 have gl := greetM_len R
 have bl := baseM_len R
 have ml : R.masterM.length = 1 := rfl
 have x1 : (if (!R.rds.l.isEmpty) = true then [((16 : Int), confirmF R.ch.epoch R.rds.lastI)] else []).length ≤ 1 := by split <;> simp
 have x2 : (if R.drainsB = true ∧ R.win.done = R.win.last then [((16 : Int), drainedF R.ch.epoch)] else []).length ≤ 1 := by split <;> simp
 show List.length (_ ++ _ ++ _ ++ _ ++ _) ≤ _
 rw [List.length_append, List.length_append, List.length_append, List.length_append]
 omega
theorem enter_few {R : RepM} (h : R.Fit) {c : ChM} (hc : ChS c) : (enterR R c).2.length ≤ 5000 := by
 have h1 : (entG R c).length ≤ 80 := by
  unfold entG
  rw [List.length_append, refs_len, refs_len, List.length_map]
  have := gone_few h.ok maxI
  have := h.ok.rl
  have := h.ok.rc1
  omega
 have h2 := finishM_len (ent5_ok h.ok hc h.cap0 h.cap1)
 have h3 := greetM_len (ent5 R c).finishR
 have h4 := baseM_len (ent5 R c).finishR
 have h5 : (ent5 R c).finishR.masterM.length = 1 := rfl
 show List.length (_ ++ _ ++ _ ++ _ ++ _) ≤ _
 rw [List.length_append, List.length_append, List.length_append, List.length_append]
 omega
theorem take_few {R : RepM} (h : R.Fit) (from_ : Int) (f : FrameM) (ms : List MemM) (now : Int) : (takeR R from_ f ms now).2.length ≤ 5000 := by
 unfold takeR
 split
 ·split
  ·simp
  split
  ·simp
  split
  ·unfold readR; split <;> simp
  ·unfold updateR; split <;> (try split) <;> (try split) <;> simp
 split
 ·split
  ·rename_i h1; exact enter_few h ⟨by have := chE_len h1.1.2; omega⟩
  ·simp
 split
 ·split
  ·unfold forwardR
   have g1 := greetM_len R
   have g2 := greetM_len (pushE R f.entry).finishR.becomeR
   have g3 := becomeM_len (pushE R f.entry).finishR
   split
   ·rename_i h1
    have g4 := finishM_len (pushE_ok h.ok (e := f.entry) h1.2 (fwd_room h1.1))
    show List.length (_ ++ _ ++ _) ≤ _
    rw [List.length_append, List.length_append]
    omega
   ·show R.greetM.length ≤ _; omega
  ·simp
 split
 ·split
  ·show (if _ then _ else _ : List SndM).length ≤ _
   split
   ·have := greetM_len { ack2 R f with win := (ack2 R f).win.ack f.index }; omega
   ·simp
  ·simp
 split
 ·split
  ·have := becomeM_len (baseR R f.index); show (RepM.becomeM _).length ≤ _; omega
  ·simp
 split
 ·split
  ·show (sureS R f.index).length ≤ _
   unfold sureS
   rw [List.length_map]
   have := List.length_filter_le (fun y => !surely f.index y) R.rds.l
   have := h.ok.rl
   have := h.ok.rc1
   omega
  ·simp
 ·simp
theorem ofS_len (S : List SndM) : (ofS S).length = S.length := List.length_map ..
theorem ofS_ms (S : List SndM) : ∀ x ∈ ofS S, x.2.2.length ≤ 7 := fun x hx => by
 obtain ⟨y, _, rfl⟩ := List.mem_map.1 hx
 exact Nat.zero_le _
structure FewS (S : List SdM) : Prop where
 n : S.length ≤ 300000
 m : ∀ x ∈ S, x.2.2.length ≤ 7
theorem FewS.of {S : List SndM} (h : S.length ≤ 300000) : FewS (ofS S) := ⟨by rw [ofS_len]; exact h, ofS_ms S⟩
theorem FewS.nil : FewS [] := ⟨by decide, fun _ h => absurd h List.not_mem_nil⟩
theorem FewS.one {to : Int} {f : FrameM} {ms : List MemM} (h : ms.length ≤ 7) : FewS [(to, f, ms)] := ⟨by show 1 ≤ 300000; omega, fun x hx => by rw [List.mem_singleton.1 hx]; exact h⟩
theorem MasM.Ok.all_few {M : MasM} (ok : M.Ok) : FewS M.all := ⟨by have := ok.n1; unfold MasM.all; rw [List.length_map, List.length_range]; omega, fun x hx => by
 obtain ⟨n, _, rfl⟩ := List.mem_map.1 hx
 exact ok.ml⟩
theorem MasM.Ok.take_few {M : MasM} (ok : M.Ok) (from_ : Int) (f : FrameM) (now : Int) : FewS (M.take from_ f now).2 := by
 have c1 : ∀ n, FewS [cfgS M.ch n] := fun n => FewS.one ok.ml
 have c2 : ∀ n, (M.heardAt n now).ch = M.ch := fun _ => rfl
 unfold MasM.take
 split
 ·exact c1 _
 split
 ·exact .nil
 split
 ·split
  ·exact c1 _
  split <;> exact .nil
 split
 ·split
  ·exact c1 _
  split
  ·exact FewS.one (Nat.zero_le _)
  ·exact .nil
 split
 ·split
  ·rename_i h; exact (ok.gone h.2.2).all_few
  ·exact .nil
 ·exact .nil
theorem MasM.Ok.tick_few {M : MasM} (ok : M.Ok) (now : Int) : FewS (M.tick now).2 := by
 have := (ok.tick now).all_few
 unfold MasM.tick at this ⊢
 dsimp only at this ⊢
 split
 ·exact this
 ·exact .nil
theorem MasM.Ok.suspect_few {M : MasM} (ok : M.Ok) (n : Int) : FewS (M.suspect n).2.1 ∧ (M.suspect n).1.Ok := by
 unfold MasM.suspect
 split
 ·exact ⟨.nil, ok⟩
 split
 ·exact ⟨.nil, ok⟩
 ·rename_i h
  have := ok.gone (n := n) yc
  exact ⟨this.all_few, this⟩
theorem MasM.Ok.drain_few {M : MasM} (ok : M.Ok) (n : Int) : FewS (M.drain n).2.1 ∧ (M.drain n).1.Ok := by
 unfold MasM.drain
 split
 ·exact ⟨.nil, ok⟩
 split
 ·exact ⟨.nil, ok⟩
 ·rename_i h
  have := ok.drained (n := n) yc
  exact ⟨this.all_few, this⟩
theorem MasM.Ok.join_few {M : MasM} (ok : M.Ok) (n now : Int) : FewS (M.join n now).2.1 ∧ (M.join n now).1.Ok := by
 unfold MasM.join
 split
 ·exact ⟨.nil, ok⟩
 split
 ·exact ⟨.nil, ok⟩
 ·rename_i h
  have := ok.joined (n := n) yc now
  exact ⟨this.all_few, this⟩
theorem ask_few : FewS askS := FewS.one (Nat.zero_le _)
theorem try_few (s : CliM) (now : Int) : FewS (s.try_ now).2 := FewS.one (Nat.zero_le _)
theorem goOn_few (s : CliM) (r now : Int) : FewS (s.goOn r now).2 := by
 unfold CliM.goOn CliM.giveUp
 split
 ·exact ask_few
 split
 ·exact .nil
 ·exact ask_few
theorem CliM.call_few (s : CliM) (o : OpM) (cl d now : Int) : FewS (s.call o cl d now).2 := by
 unfold CliM.call
 split
 ·exact .nil
 split
 ·exact try_few _ _
 ·exact ask_few
theorem CliM.tick_few (s : CliM) (now : Int) : FewS (s.tick now).2 := by
 unfold CliM.tick
 split
 ·split
  ·exact goOn_few _ _ _
  ·exact .nil
 split
 ·split
  ·exact .nil
  split
  ·exact ask_few
  ·exact ask_few
 split
 ·split
  ·exact ask_few
  ·exact .nil
 ·exact .nil
theorem CliM.take_few (s : CliM) (f : FrameM) (ms : List MemM) (now : Int) : FewS (s.take f ms now).2 := by
 unfold CliM.take
 split
 ·split
  ·exact .nil
  split
  ·exact try_few _ _
  ·exact .nil
 split
 ·split <;> exact .nil
 split
 ·split
  ·unfold CliM.refused
   split
   ·exact goOn_few _ _ _
   split
   ·exact ask_few
   ·exact goOn_few _ _ _
  ·exact .nil
 ·exact .nil
def sentP (a : Option Addr) (c : Nat) (X : List SdG) : HP := hsep (slH sndT 30 a X.length c (flat sdC X) :: X.map memH)
def sentH (H : HP) (a : Option Addr) (c : Nat) (X : List SdG) : HP := hsep [H, sentP a c X]
def SentV1 (S : List SdM) (H : HP) (v : Value) (K : HP) : Prop := ∃ (X : List SdG) (a : Option Addr) (c : Nat), X.map Prod.fst = S ∧ v = .slice a X.length c ∧ K = sentH H a c X
def SentW1 (S : List SdM) (e : Int) (H : HP) (v : Value) (K : HP) : Prop := ∃ (X : List SdG) (a : Option Addr) (c : Nat), X.map Prod.fst = S ∧ v = .tuple #[.slice a X.length c, .int .i64 e] ∧ K = sentH H a c X
def SentV (S : List SdM) (H : HP) (v : Value) (L : List HP) : Prop := ∃ K, L = [K] ∧ SentV1 S H v K
def SentW (S : List SdM) (e : Int) (H : HP) (v : Value) (L : List HP) : Prop := ∃ K, L = [K] ∧ SentW1 S e H v K
theorem SdIn.at_ {Fr : Nat → Prop} {w : World} {L : List HP} {a : Option Addr} {c : Nat} {X : List SdG} {S : List SdM} (i : Nat) {H : HP} (h : SatIn Fr L w) (hL : L[i]? = some (sentH H a c X)) (hX : X.map Prod.fst = S) (hS : FewS S) : SdIn Fr w a X := by
 subst hX
 have hh := (((h.at_ i hL).sep).at_ 1 rfl).sep
 have hn := hS.n
 rw [List.length_map] at hn
 exact sd_in (A := []) (c := c) (by simpa using hh) ye (fun x hx => by have := hS.m x hx; omega)
def toX (S : List SndM) : List SdG := S.map fun x => ((x.1, x.2, []), (none, 0))
theorem toX_fst (S : List SndM) : (toX S).map Prod.fst = ofS S := by unfold toX ofS; rw [List.map_map]; rfl
theorem toX_len (S : List SndM) : (toX S).length = S.length := List.length_map ..
theorem toX_flat (S : List SndM) : flat sdC (toX S) = flat sndC S := by
 unfold flat toX
 rw [List.map_map]
 rfl
theorem toX_mems {L : List HP} : ∀ (S : List SndM), Imp L ((toX S).map memH)
 | [] => Imp.nil
 | s :: S => by
  show Imp L (slH memT 2 none 0 0 [] :: (toX S).map memH)
  exact Imp.slNil (toX_mems S)
theorem sentV_of {S : List SndM} {v : Value} {L : List HP} {H : HP} (h : sent S v L [H]) : ∃ L2, SentV (ofS S) H v L2 ∧ Imp L L2 := by
 obtain ⟨a, c, rfl, rfl⟩ := h
 refine ⟨[sentH H a c (toX S)], ⟨_, rfl, toX S, a, c, toX_fst S, by rw [toX_len], rfl⟩, Imp.sep (Imp.cons (Imp.sep ?_))⟩
 show Imp [_] ((slH sndT 30 a (toX S).length c (flat sdC (toX S)) :: List.map memH (toX S)) ++ [])
 rw [List.append_nil, toX_len, toX_flat]
 exact Imp.cons (toX_mems S)
theorem sentV_ofX {S : List SdM} {v : Value} {L : List HP} {H : HP} (h : sentX S v L [H]) : ∃ L2, SentV S H v L2 ∧ Imp L L2 := by
 obtain ⟨X, a, c, e, rfl, rfl⟩ := h
 exact xms
theorem Imp.tail {H : HP} {L : List HP} : Imp (H :: L) L := Imp.app (L := [H]) (M := []) Imp.nil Imp.refl
theorem sentH_open {H : HP} {a : Option Addr} {c : Nat} {X : List SdG} {L : List HP} : Imp (sentH H a c X :: L) (H :: L) := Imp.unsep (Imp.cons Imp.tail)
theorem sentW_ofE {S : List SdM} {e : Int} {v : Value} {L : List HP} {H : HP} (h : sentE S e v L [H]) : ∃ L2, SentW S e H v L2 ∧ Imp L L2 := by
 obtain ⟨X, a, c, e, rfl, rfl⟩ := h
 exact xms
section
variable {α : Type} {f : α → HP} {l : List α} {k : Nat} {x : α}
theorem many_take {A : List HP} (h : l[k]? = some x) : Imp (hsep (l.map f) :: A) (f x :: hsep ((l.eraseIdx k).map f) :: A) := by
 have e1 : (l.map f)[k]? = some (f x) := by rw [List.getElem?_map, h]; rfl
 have e2 : (l.map f).eraseIdx k = (l.eraseIdx k).map f := (map_eraseIdx f l k).symm
 refine Imp.unsep (Imp.trans (Imp.app (M := f x :: (l.eraseIdx k).map f) (Imp.perm ?_) Imp.refl) ?_)
 ·have := perm_eraseIdx e1
  rwa [e2] at this
 ·exact Imp.cons (Imp.sep Imp.refl)
theorem many_put {A : List HP} (h : k < l.length) (y : α) : Imp (f y :: hsep ((l.eraseIdx k).map f) :: A) (hsep ((l.set k y).map f) :: A) := by
 have e3 : ((l.set k y).map f)[k]? = some (f y) := by rw [List.getElem?_map, List.getElem?_set_self h]; rfl
 have e4 : ((l.set k y).map f).eraseIdx k = (l.eraseIdx k).map f := by rw [List.map_set, List.eraseIdx_set_eq, map_eraseIdx]
 have hp := (perm_eraseIdx e3).symm
 rw [e4] at hp
 refine Imp.sep ?_
 refine Imp.trans (M := (f y :: (l.eraseIdx k).map f) ++ A) (Imp.cons (Imp.unsep Imp.refl)) ?_
 exact Imp.app (Imp.perm hp) Imp.refl
end
end Cl
namespace Cl
open Go Vg T Api Ch Rep Conf Lg Rd
attribute [local irreducible] VO VC VA
theorem last_take (R : RepM) (from_ : Int) (f : FrameM) (ms : List MemM) (now : Int) : (takeR R from_ f ms now).1.rds.last ≤ R.rds.last + 1 := by
 have h : ∀ Q : RepM, Q.rds.last = R.rds.last → Q.rds.last ≤ R.rds.last + 1 := fun Q h => by omega
 unfold takeR
 split
 ·split
  ·exact h _ rfl
  split
  ·exact h _ rfl
  split
  ·unfold readR
   split
   ·exact h _ rfl
   ·show (R.rds.put _ _).last ≤ _
    unfold RdsM.put; split
    ·exact Int.le_refl _
    ·omega
  ·refine h _ ?_
   unfold updateR
   split
   ·rfl
   split
   ·rfl
   split <;> rfl
 split
 ·split
  ·refine h _ ?_
   show (Rep.ent5 R (frCh f ms)).finishR.rds.last = _
   unfold RepM.finishR
   split <;> (unfold Rep.ent5; split <;> rfl)
  ·exact h _ rfl
 split
 ·split
  ·refine h _ ?_
   unfold forwardR
   split
   ·show (Rep.pushE R f.entry).finishR.becomeR.rds.last = _
    unfold RepM.becomeR
    split <;> (unfold RepM.finishR; split <;> rfl)
   ·rfl
  ·exact h _ rfl
 split
 ·split
  ·refine h _ ?_
   show (Rep.ack2 R f).rds.last = _
   unfold Rep.ack2 Rep.ack1; dsimp only; split <;> rfl
  ·exact h _ rfl
 split
 ·split
  ·refine h _ ?_; unfold RepM.becomeR; split <;> rfl
  ·exact h _ rfl
 split
 ·split <;> exact h _ rfl
 ·exact h _ rfl
theorem last_step (R : RepM) (now : Int) : (stepR R now).1.rds.last = R.rds.last := by
 have hs : ∀ R : RepM, (serveR R now).1.rds = R.rds := fun R => by
  unfold serveR
  split
  ·rfl
  split
  ·rfl
  ·unfold RepM.finishR; split <;> rfl
 have hl : ∀ (k : Nat) (R : RepM), (serveLoop now k R).1.rds = R.rds := by
  intro k
  induction k with
  | zero => intro R; rfl
  | succ k ih =>
   intro R
   unfold serveLoop
   split
   ·split
    ·rw [ih, hs]
    ·exact hs R
   ·rfl
 have h2 : (step2 R now).1.rds.last = R.rds.last := by
  unfold Rep.step2
  split
  ·rw [hl]; rfl
  ·rfl
 show (step3 R now).1.rds.last = _
 unfold step3
 split
 ·exact h2
 ·exact h2
theorem last_tick (R : RepM) : (tickR R).1.rds.last = R.rds.last := by
 show (tick1 R).rds.last = _
 unfold tick1; split <;> rfl
theorem goOn_seq (s : CliM) (r now : Int) : (s.goOn r now).1.seq = s.seq := by
 unfold CliM.goOn CliM.giveUp CliM.pause CliM.took
 split
 ·rfl
 split <;> rfl
theorem ctick_seq (s : CliM) (now : Int) : (s.tick now).1.seq = s.seq := by
 unfold CliM.tick
 split
 ·split
  ·exact goOn_seq _ _ _
  ·rfl
 split
 ·split
  ·rfl
  split <;> rfl
 split
 ·split <;> rfl
 ·rfl
theorem ctake_seq (s : CliM) (f : FrameM) (ms : List MemM) (now : Int) : (s.take f ms now).1.seq = s.seq := by
 unfold CliM.take
 split
 ·split
  ·rfl
  split <;> rfl
 split
 ·split <;> rfl
 split
 ·split
  ·unfold CliM.refused
   split
   ·exact goOn_seq _ _ _
   split
   ·rfl
   ·exact goOn_seq _ _ _
  ·rfl
 ·rfl
theorem ccall_seq (s : CliM) (o : OpM) (cl d now : Int) : (s.call o cl d now).1.seq ≤ s.seq + 1 := by
 unfold CliM.call
 split
 ·show s.seq ≤ _; omega
 split <;> exact Int.le_refl _
theorem hcall_len (S : HisM) (c seq : Int) (o : OpM) : (S.call c seq o).recs.length ≤ S.recs.length + 1 ∧ (S.call c seq o).events ≤ S.events + 1 := by
 unfold HisM.call
 split
 ·exact ⟨by omega, by omega⟩
 ·exact ⟨by simp, Int.le_refl _⟩
theorem hend_len (S : HisM) (c seq : Int) (o : OutM) : (S.end_ c seq o).recs.length = S.recs.length ∧ (S.end_ c seq o).events ≤ S.events + 1 := by
 unfold HisM.end_
 split
 ·exact ⟨rfl, by omega⟩
 split
 ·exact ⟨rfl, by omega⟩
 split
 ·exact ⟨rfl, by omega⟩
 ·exact ⟨List.length_set, Int.le_refl _⟩
theorem mGet_mem {κ α : Type} [DecidableEq κ] {a : κ} {v : α} : ∀ {l : List (κ × α)}, mGet l a = some v → (a, v) ∈ l
 | [], h => by cases h
 | (k, u) :: r, h => by
  simp only [mGet] at h
  split at h
  ·rename_i e; cases h; rw [e]; exact List.mem_cons_self ..
  ·exact List.mem_cons_of_mem _ (mGet_mem h)
theorem mDel_mem {κ α : Type} [DecidableEq κ] {a : κ} : ∀ {l : List (κ × α)} {x : κ × α}, x ∈ mDel l a → x ∈ l
 | [], x, h => by cases h
 | (k, u) :: r, x, h => by
  simp only [mDel] at h
  split at h
  ·exact List.mem_cons_of_mem _ h
  ·rcases List.mem_cons.1 h with h | h
   ·rw [h]; exact List.mem_cons_self ..
   ·exact List.mem_cons_of_mem _ (mDel_mem h)
namespace LnkM.Adr
variable {S : LnkM}
theorem put (h : S.Adr) {p : PrM} (h1 : adrB p.1 = true) (h2 : adrB p.2 = true) (l : List ByteArray) : ({ S with mail := mPut S.mail p l } : LnkM).Adr := fun x hx => by
 rcases mPut_mem hx with h3 | h3
 ·exact h x h3
 ·rw [h3]; exact ⟨h1, h2⟩
theorem send (h : S.Adr) (p : PrM) (t : ByteArray) : (S.send p t).Adr := by
 unfold LnkM.send
 split
 ·exact h
 ·rename_i h0
  have h0 : S.sendE p t = 0 := by simpa using h0
  have : ¬ (adrB p.1 = false ∨ adrB p.2 = false ∨ p.1 = p.2) := fun g => by unfold LnkM.sendE at h0; rw [if_pos g] at h0; cases h0
  exact h.put (by cases hh : adrB p.1 <;> simp_all) (by cases hh : adrB p.2 <;> simp_all) _
theorem found (h : S.Adr) {p : PrM} {i : Int} {t : ByteArray} (hf : S.find p i = some t) : adrB p.1 = true ∧ adrB p.2 = true := by
 unfold LnkM.find LnkM.list at hf
 split at hf
 ·cases hf
 ·cases hg : mGet S.mail p with
  | none => rw [hg] at hf; cases hf
  | some l => exact h _ (mGet_mem hg)
theorem without (h : S.Adr) {p : PrM} {i : Int} {t : ByteArray} (hf : S.find p i = some t) : (S.without p i).Adr := by
 have := h.found hf
 unfold LnkM.without
 split
 ·exact fun x hx => (h.put this.1 this.2 _) x (mDel_mem hx)
 ·exact h.put this.1 this.2 _
theorem drop (h : S.Adr) (p : PrM) (i : Int) : (S.drop p i).1.Adr := by
 unfold LnkM.drop
 split
 ·exact h
 ·rename_i hf
  cases hg : S.find p i with
  | none => exact absurd hg hf
  | some t => exact h.without hg
theorem double (h : S.Adr) (p : PrM) (i : Int) : (S.double p i).1.Adr := by
 unfold LnkM.double
 split
 ·exact h
 ·exact h.send _ _
theorem postL (h : S.Adr) (from_ : Int) (l : List SdM) : (Cl.postL from_ S l).Adr := by
 unfold Cl.postL
 induction l generalizing S with
 | nil => exact h
 | cons s l ih =>
  refine ih ?_
  unfold post1
  split
  ·exact h
  ·exact h.send _ _
end LnkM.Adr
theorem adr_r {a : Int} (h : adrB a = true) : 0 ≤ a ∧ a < 38 := by
 unfold adrB at h
 simp only [Bool.or_eq_true, Bool.and_eq_true, decide_eq_true_eq] at h
 omega
namespace CluM.Ok
variable {C : CluM} {b e : Nat}
theorem mono (h : C.Ok b e) {b' e' : Nat} (hb : b ≤ b') (he : e ≤ e') : C.Ok b' e' where
 cf := h.cf
 n0 := h.n0
 n1 := h.n1
 mas := h.mas
 nl := h.nl
 cl := h.cl
 lnk := h.lnk
 his := h.his
 fit := h.fit
 last r hr := by have := h.last r hr; omega
 cok := h.cok
 seq s hs := by have := h.seq s hs; omega
 rc := Nat.le_trans h.rc hb
 ev := by have := h.ev; omega
 dn := h.dn
 adr := h.adr
theorem links (h : C.Ok b e) {l : LnkM} (hl : l.Ok) (ha : l.Adr) : ({ C with lnk := l } : CluM).Ok b e := ⟨h.cf, h.n0, h.n1, h.mas, h.nl, h.cl, hl, h.his, h.fit, h.last, h.cok, h.seq, h.rc, h.ev, h.dn, ha⟩
theorem master (h : C.Ok b e) {m : MasM} (hm : m.Ok) : ({ C with mas := m } : CluM).Ok b e := ⟨h.cf, h.n0, h.n1, hm, h.nl, h.cl, h.lnk, h.his, h.fit, h.last, h.cok, h.seq, h.rc, h.ev, h.dn, h.adr⟩
theorem at_ (h : C.Ok b e) : ({ C with now := min (C.now + 1) 1099511627776 } : CluM).Ok b e := ⟨h.cf, by show 0 ≤ min (C.now + 1) 1099511627776; have := h.n0; omega, by show min (C.now + 1) 1099511627776 ≤ 1099511627776; omega, h.mas, h.nl, h.cl, h.lnk, h.his, h.fit, h.last, h.cok, h.seq, h.rc, h.ev, h.dn, h.adr⟩
theorem post (h : C.Ok b e) (from_ : Int) (S : List SdM) : (C.post from_ S).Ok b e := h.links (h.lnk.postL from_ S) (h.adr.postL from_ S)
theorem setNode (h : C.Ok b e) (n : Int) {x : Option RepM} (hx : ∀ r, x = some r → r.Fit ∧ r.rds.last ≤ b) : (C.setNode n x).Ok b e := ⟨h.cf, h.n0, h.n1, h.mas, by show (C.nodes.set _ _).length = _; rw [List.length_set]; exact h.nl, h.cl, h.lnk, h.his, fun r hr => by
 rcases List.mem_or_eq_of_mem_set hr with h1 | h1
 ·exact h.fit r h1
 ·exact (hx r h1.symm).1, fun r hr => by
 rcases List.mem_or_eq_of_mem_set hr with h1 | h1
 ·exact h.last r h1
 ·exact (hx r h1.symm).2, h.cok, h.seq, h.rc, h.ev, h.dn, h.adr⟩
theorem node1 (h : C.Ok b e) (n : Int) {r : RepM} (h1 : r.Fit) (h2 : r.rds.last ≤ b) : (C.setNode n (some r)).Ok b e := h.setNode n fun r' e => by cases e; exact ⟨h1, h2⟩
theorem node0 (h : C.Ok b e) (n : Int) : (C.setNode n none).Ok b e := h.setNode n fun r' e => by cases e
theorem setCli (h : C.Ok b e) (n : Int) {s : CliM} (h1 : s.Ok) (h2 : s.seq ≤ b) : (C.setCli n s).Ok b e := ⟨h.cf, h.n0, h.n1, h.mas, h.nl, by show (C.clis.set _ _).length = _; rw [List.length_set]; exact h.cl, h.lnk, h.his, h.fit, h.last, fun x hx => by
 rcases List.mem_or_eq_of_mem_set hx with g | g
 ·exact h.cok x g
 ·rw [g]; exact h1, fun x hx => by
 rcases List.mem_or_eq_of_mem_set hx with g | g
 ·exact h.seq x g
 ·rw [g]; exact h2, h.rc, h.ev, h.dn, h.adr⟩
theorem hist (h : C.Ok b e) {H : HisM} (h1 : H.Ok) (h2 : H.recs.length ≤ b) (h3 : H.events ≤ e) : ({ C with his := H } : CluM).Ok b e := ⟨h.cf, h.n0, h.n1, h.mas, h.nl, h.cl, h.lnk, h1, h.fit, h.last, h.cok, h.seq, h2, h3, h.dn, h.adr⟩
theorem up (h : C.Ok b e) {n : Int} {r : RepM} (hn : C.node n = some r) : some r ∈ C.nodes := by
 unfold CluM.node at hn
 split at hn
 ·cases hn
 ·cases hx : C.nodes[n.toNat]? with
  | none => rw [hx] at hn; cases hn
  | some x => rw [hx] at hn; obtain rfl : x = some r := hn; exact ME hx
theorem upC (h : C.Ok b e) {n : Int} {s : CliM} (hn : C.cli n = some s) : s ∈ C.clis := by
 unfold CluM.cli at hn
 split at hn
 ·cases hn
 ·exact ME hn
theorem tickN (h : C.Ok b e) (n : Nat) : (C.tickN n).Ok b e := by
 unfold CluM.tickN
 split
 ·exact h
 ·rename_i r hr
  have hm : some r ∈ C.nodes := by
   cases hx : C.nodes[n]? with
   | none => rw [hx] at hr; cases hr
   | some x => rw [hx] at hr; obtain rfl : x = some r := hr; exact ME hx
  exact (h.node1 n (tickR_fit (h.fit r hm)) (by rw [last_tick]; exact h.last r hm)).post _ _
theorem tickC (h : C.Ok b e) (n : Nat) : (C.tickC n).Ok b e := by
 unfold CluM.tickC
 split
 ·exact h
 ·rename_i s hs
  have hm : s ∈ C.clis := ME hs
  exact (h.setCli n ((h.cok s hm).tick C.now) (by rw [ctick_seq]; exact h.seq s hm)).post _ _
theorem tickNs (h : C.Ok b e) (l : List Nat) : (l.foldl CluM.tickN C).Ok b e := by
 induction l generalizing C with
 | nil => exact h
 | cons x l ih => exact ih (h.tickN x)
theorem tickCs (h : C.Ok b e) (l : List Nat) : (l.foldl CluM.tickC C).Ok b e := by
 induction l generalizing C with
 | nil => exact h
 | cons x l ih => exact ih (h.tickC x)
theorem tick (h : C.Ok b e) : C.tick.Ok b e := (h.at_.tickNs _).tickCs _
theorem takes (h : C.Ok b e) (hb : b < 100000000) (from_ to : Int) (f : FrameM) (ms : List MemM) : (C.takes from_ to f ms).Ok (b + 1) e := by
 have h' := h.mono (b' := b + 1) ye (NR e)
 unfold CluM.takes
 split
 ·exact (h'.master (h.mas.take _ _ _)).post _ _
 split
 ·rename_i r hr
  have hm := h.up hr
  have hl := h.last r hm
  exact (h'.node1 _ (takeR_fit (h.fit r hm) ye _ _ _ _) (by have := last_take r from_ f ms C.now; omega)).post _ _
 split
 ·rename_i s hs
  have hm := h.upC hs
  exact (h'.setCli _ ((h.cok s hm).take f ms C.now) (by rw [ctake_seq]; exact h'.seq s hm)).post _ _
 ·exact h'
theorem got (h : C.Ok b e) (hb : b < 100000000) (from_ to : Int) (t : ByteArray) : (C.got from_ to t).Ok (b + 1) e := by
 unfold CluM.got
 split
 ·exact h.takes hb _ _ _ _
 ·exact h.mono ye (NR e)
theorem find_without {l : LnkM} {p : PrM} {i : Int} {t : ByteArray} (h : l.find p i = some t) : l.without p i = (l.drop p i).1 := by
 unfold LnkM.drop
 rw [if_neg (by rw [h]; intro g; cases g)]
theorem deliver (h : C.Ok b e) (hb : b < 100000000) (p : PrM) (i : Int) : (C.deliver p i).1.Ok (b + 1) e := by
 unfold CluM.deliver
 split
 ·exact h.mono ye (NR e)
 ·rename_i t ht
  have : (C.lnk.without p i).Ok := by rw [find_without ht]; exact h.lnk.drop p i
  exact (h.links this (h.adr.without ht)).got hb _ _ _
theorem back (h : C.Ok b e) (hb : b < 100000000) (n : Int) : (C.back n).Ok (b + 1) e := by
 have h' := h.mono (b' := b + 1) ye (NR e)
 unfold CluM.back
 split
 ·have hf := newR_fit h.cf n true
  have hl : (newR C.conf n true).rds.last = 0 := by
   unfold newR; split
   ·rfl
   split <;> rfl
  exact (h'.node1 _ (takeR_fit hf ye _ _ _ _) (by have := last_take (newR C.conf n true) 16 (cfgF C.mas.ch) C.mas.ch.ms C.now; omega)).post _ _
 ·exact h'
theorem join (h : C.Ok b e) (hb : b < 100000000) (n : Int) : (C.join n).1.Ok (b + 1) e := by
 unfold CluM.join
 dsimp only
 split
 ·exact h.mono ye (NR e)
 ·exact ((h.master (h.mas.join_few n C.now).2).back hb n).post _ _
theorem call (h : C.Ok b e) (hb : b < 100000) (he : e < 1000000) (s : StpM) : (C.call s).1.Ok (b + 1) (e + 1) := by
 have h' := h.mono (b' := b + 1) (e' := e + 1) ye ye
 unfold CluM.call
 split
 ·exact h'
 ·rename_i x hx
  have hm := h.upC hx
  split
  ·exact h'
  ·have h1 := h.rc
   have h2 := h.ev
   have h3 := h.seq x hm
   have h4 := ccall_seq x s.op s.b (C.dead s.c) C.now
   have h5 := hcall_len C.his s.a (x.call s.op s.b (C.dead s.c) C.now).1.seq s.op
   exact ((h'.setCli s.a ((h.cok x hm).call _ _ _ _) ye).hist (h.his.call ye ye s.a (x.call s.op s.b (C.dead s.c) C.now).1.seq s.op) ye ye).post _ _
theorem step (h : C.Ok b e) (hb : b < 100000) (he : e < 1000000) (s : StpM) : (C.step s).1.Ok (b + 1) (e + 1) := by
 have h' := h.mono (b' := b + 1) (e' := e + 1) ye ye
 have up1 : ∀ {D : CluM}, D.Ok (b + 1) e → D.Ok (b + 1) (e + 1) := fun g => g.mono (NR _) ye
 unfold CluM.step
 by_cases k1 : s.kind = 1
 ·rw [if_pos k1]
  exact h.call hb he s
 rw [if_neg k1]
 by_cases k2 : s.kind = 2
 ·rw [if_pos k2]
  split
  ·exact h'
  ·rename_i r hr
   have hm := h.up hr
   exact (h'.node1 _ (stepR_fit (h.fit r hm) C.now) (by rw [last_step]; exact h'.last r hm)).post _ _
 rw [if_neg k2]
 by_cases k3 : s.kind = 3
 ·rw [if_pos k3]
  exact h'.tick
 rw [if_neg k3]
 by_cases k4 : s.kind = 4
 ·rw [if_pos k4]
  exact up1 (h.deliver ye _ _)
 rw [if_neg k4]
 by_cases k5 : s.kind = 5
 ·rw [if_pos k5]
  exact h'.links (h.lnk.drop _ _) (h.adr.drop _ _)
 rw [if_neg k5]
 by_cases k6 : s.kind = 6
 ·rw [if_pos k6]
  exact h'.links (h.lnk.double _ _) (h.adr.double _ _)
 rw [if_neg k6]
 by_cases k7 : s.kind = 7
 ·rw [if_pos k7]
  split
  ·exact h'
  ·exact h'.node0 _
 rw [if_neg k7]
 by_cases k8 : s.kind = 8
 ·rw [if_pos k8]
  exact (h'.master (h.mas.suspect_few s.a).2).post _ _
 rw [if_neg k8]
 by_cases k9 : s.kind = 9
 ·rw [if_pos k9]
  exact up1 (h.join ye s.a)
 rw [if_neg k9]
 by_cases k10 : s.kind = 10
 ·rw [if_pos k10]
  exact (h'.master (h.mas.drain_few s.a).2).post _ _
 rw [if_neg k10]
 by_cases k11 : s.kind = 11
 ·rw [if_pos k11]
  exact (h'.master (h.mas.tick C.now)).post _ _
 rw [if_neg k11]
 exact h'
theorem endHs {H : HisM} (h : H.Ok) : ∀ (l : List (CliM × Nat)), H.events + l.length < 10000000 → (l.foldl endH H).Ok ∧ (l.foldl endH H).recs.length = H.recs.length ∧ (l.foldl endH H).events ≤ H.events + l.length
 | [], _ => ⟨h, rfl, by simp⟩
 | x :: l, hl => by
  rw [List.length_cons] at hl
  rw [List.foldl_cons, List.length_cons]
  have key : ∃ K, endH H x = K ∧ K.Ok ∧ K.recs.length = H.recs.length ∧ K.events ≤ H.events + 1 := by
   unfold endH
   split
   ·exact ⟨_, rfl, h, rfl, by omega⟩
   ·rename_i o ho
    exact ⟨_, rfl, h.end_ ye _ _ o, (hend_len H _ _ o).1, (hend_len H _ _ o).2⟩
  obtain ⟨K, e1, e2, e3, e4⟩ := key
  rw [e1]
  have := endHs e2 l ye
  exact ⟨this.1, by rw [this.2.1, e3], by have := this.2.2; omega⟩
theorem doneN_len {d : List EntryM} {x : Option RepM × Nat} (hd : d.length ≤ 4096) (hx : ∀ r, x.1 = some r → r.Fit) : (doneN d x).length ≤ 4096 := by
 unfold doneN
 split
 ·exact hd
 ·rename_i r hr
  split
  ·exact hd
  ·have hf := (hx r hr).ok
   have := hf.win.last1
   have := hf.win.done1
   rw [List.length_append, List.length_drop, List.length_take]
   omega
theorem doneNs {l : List (Option RepM × Nat)} {d : List EntryM} (hd : d.length ≤ 4096) (hx : ∀ x ∈ l, ∀ r, x.1 = some r → r.Fit) : (l.foldl doneN d).length ≤ 4096 := by
 induction l generalizing d with
 | nil => exact hd
 | cons x l ih => exact ih (doneN_len hd (hx x yb)) (fun y hy => hx y (by simp [hy]))
theorem clis (h : C.Ok b e) : C.clis.length ≤ 6 := by
 have := conf_bounds h.cf
 rw [h.cl]
 omega
theorem nods (h : C.Ok b e) : C.nodes.length ≤ 6 := by
 have := conf_bounds h.cf
 rw [h.nl]
 omega
theorem behind (h : C.Ok b e) (he : e < 1000000) : C.behind.Ok b (e + 6) := by
 have hc := h.clis
 have h2 := h.ev
 have key := endHs h.his C.clis.zipIdx (by rw [List.length_zipIdx]; omega)
 rw [List.length_zipIdx] at key
 have h' := (h.mono (b' := b) (e' := e + 6) (NR b) ye).hist key.1 (by rw [key.2.1]; exact h.rc) (by have := key.2.2; omega)
 exact ⟨h'.cf, h'.n0, h'.n1, h'.mas, h'.nl, h'.cl, h'.lnk, h'.his, h'.fit, h'.last, h'.cok, h'.seq, h'.rc, h'.ev, doneNs h.dn fun x hx r hr => h.fit r (by
  have : x.1 ∈ C.nodes := by
   have := List.mem_zipIdx' (x := x.1) (i := x.2) hx
   exact ME (by rw [GE this.1, ← this.2])
  rw [hr] at this; exact this), h'.adr⟩
theorem do_ (h : C.Ok b e) (hb : b < 100000) (he : e < 900000) (s : StpM) : (C.do_ s).1.Ok (b + 1) (e + 7) := (h.step hb ye s).behind ye
end CluM.Ok
theorem newC_ok {c : ConfM} (h : c = fitM c) : (newC c).Ok 0 0 := by
 have hb := conf_bounds h
 have hb2 := conf_bounds2 h
 have hM : (newM c).Ok := newM_eq c h ▸ newMk_ok h _
 exact ⟨h, Int.le_refl _, by show (0 : Int) ≤ _; decide, hM, by simp [newC], by simp [newC], ⟨by show 1 ≤ c.link; omega, hb2.2.2.2.2.1.2, fun x hx => absurd hx List.not_mem_nil, List.nodup_nil⟩,
  ⟨by show 0 ≤ 1000000; omega, by show (0 : Int) ≤ 0; decide, by show (0 : Int) ≤ 10000000; decide, rfl, fun x hx => by rw [List.eq_of_mem_replicate hx]; exact ⟨Int.le_refl _, Int.le_refl _⟩⟩, fun r hr => by
   obtain ⟨n, _, e⟩ := List.mem_map.1 hr
   cases e; exact newR_fit h _ _, fun r hr => by
   obtain ⟨n, _, e⟩ := List.mem_map.1 hr
   cases e
   have : (newR c n false).rds.last = 0 := by
    unfold newR; split
    ·rfl
    split <;> rfl
   omega, fun s hs => by
   obtain ⟨n, _, rfl⟩ := List.mem_map.1 hs
   exact newCl_ok h n, fun s hs => by
   obtain ⟨n, _, rfl⟩ := List.mem_map.1 hs
   exact Int.le_refl _, Nat.zero_le _, Int.le_refl _, Nat.zero_le _, fun x hx => absurd hx List.not_mem_nil⟩
end Cl
namespace Cl
open Go Vg T Api Ch Rep Conf Lg Rd
attribute [local irreducible] VO VC VA
section
variable {p : Nat} {C : CluM} {y : CluS}
def cnL (p : Nat) (C : CluM) (y : CluS) (k : Nat) (l : LnkM) : List HP := [pt p (cluC C y) cluT, intH y.qa y.qc C.conf.qs, masH y.mp C.mas, pt y.nb (flat nodC y.nr ++ y.nx) rpT, pt y.cb (flat cliV y.cr ++ y.cx) cpT, lnkH y.lp l, hisH y.hp C.his, slH entT 7 y.da C.done.length y.dc (flat entC C.done), hsep ((y.nr.eraseIdx k).map nodP), hsep (y.cr.map cliP)]
def ccL (p : Nat) (C : CluM) (y : CluS) (k : Nat) (l : LnkM) (h : HisM) : List HP := [pt p (cluC C y) cluT, intH y.qa y.qc C.conf.qs, masH y.mp C.mas, pt y.nb (flat nodC y.nr ++ y.nx) rpT, pt y.cb (flat cliV y.cr ++ y.cx) cpT, lnkH y.lp l, hisH y.hp h, slH entT 7 y.da C.done.length y.dc (flat entC C.done), hsep (y.nr.map nodP), hsep ((y.cr.eraseIdx k).map cliP)]
def cmL (p : Nat) (C : CluM) (y : CluS) (l : LnkM) : List HP := [pt p (cluC C y) cluT, intH y.qa y.qc C.conf.qs, pt y.nb (flat nodC y.nr ++ y.nx) rpT, pt y.cb (flat cliV y.cr ++ y.cx) cpT, lnkH y.lp l, hisH y.hp C.his, slH entT 7 y.da C.done.length y.dc (flat entC C.done), hsep (y.nr.map nodP), hsep (y.cr.map cliP)]
def CluS.node (y : CluS) (k : Nat) (x : NdG) : CluS := { y with nr := y.nr.set k x }
def CluS.cli (y : CluS) (k : Nat) (x : CiG) : CluS := { y with cr := y.cr.set k x }
theorem node_out {k q : Nat} {r : RepM} (h : y.nr[k]? = some (some (q, r))) : Imp (cluL p C y) (repH q r :: cnL p C y k C.lnk) :=
 Imp.trans (IP 8 rfl Imp.refl) (Imp.trans (many_take (f := nodP) h) (Imp.cons (IP 1 rfl (IP 1 rfl (IP 1 rfl (IP 1 rfl (IP 1 rfl (IP 1 rfl (IP 1 rfl (IP 1 rfl Imp.refl))))))))))
theorem cli_out {k q : Nat} {s : CliM} (h : y.cr[k]? = some (q, s)) : Imp (cluL p C y) (cliH q s :: ccL p C y k C.lnk C.his) :=
 Imp.trans (IP 9 rfl Imp.refl) (Imp.trans (many_take (f := cliP) h) (Imp.cons (IP 1 rfl (IP 1 rfl (IP 1 rfl (IP 1 rfl (IP 1 rfl (IP 1 rfl (IP 1 rfl (IP 1 rfl (IP 1 rfl Imp.refl)))))))))))
theorem mas_out : Imp (cluL p C y) (masH y.mp C.mas :: cmL p C y C.lnk) := IP 2 rfl Imp.refl
theorem nod_same {l : List NdG} {k q : Nat} {r r' : RepM} (h : l[k]? = some (some (q, r))) : flat nodC (l.set k (some (q, r'))) = flat nodC l := by
 have hk := (List.getElem?_eq_some_iff.1 h).1
 unfold flat
 rw [List.map_set]
 congr 1
 apply List.ext_getElem?
 intro j
 rw [List.getElem?_set]
 split
 ·rename_i e; subst e
  rw [if_pos (by rw [List.length_map]; exact hk), List.getElem?_map, h]; rfl
 ·rfl
theorem cli_same {l : List CiG} {k q : Nat} {s s' : CliM} (h : l[k]? = some (q, s)) : flat cliV (l.set k (q, s')) = flat cliV l := by
 have hk := (List.getElem?_eq_some_iff.1 h).1
 unfold flat
 rw [List.map_set]
 congr 1
 apply List.ext_getElem?
 intro j
 rw [List.getElem?_set]
 split
 ·rename_i e; subst e
  rw [if_pos (by rw [List.length_map]; exact hk), List.getElem?_map, h]; rfl
 ·rfl
theorem node_fit (fit : CluFit C y) (k : Nat) (x : NdG) (l : LnkM) : CluFit ({ C.setNode k (x.map Prod.snd) with lnk := l } : CluM) (y.node k x) :=
 ⟨by show (y.nr.set k x).map _ = C.nodes.set k _; rw [List.map_set, fit.nr], fit.cr, fit.qc⟩
theorem cli_fit (fit : CluFit C y) (k : Nat) (x : CiG) (l : LnkM) (h : HisM) : CluFit ({ C.setCli k x.2 with lnk := l, his := h } : CluM) (y.cli k x) :=
 ⟨fit.nr, by show (y.cr.set k x).map _ = C.clis.set k _; rw [List.map_set, fit.cr], fit.qc⟩
theorem node_cells (C' : CluM) {k : Nat} {x : NdG} (h1 : C'.conf = C.conf) (h2 : C'.now = C.now) (h3 : C'.done = C.done) : cluC C' (y.node k x) = cluC C y := by
 unfold cluC CluS.node
 rw [h1, h2, h3]
 dsimp only
 rw [List.length_set]
theorem cli_cells (C' : CluM) {k : Nat} {x : CiG} (h1 : C'.conf = C.conf) (h2 : C'.now = C.now) (h3 : C'.done = C.done) : cluC C' (y.cli k x) = cluC C y := by
 unfold cluC CluS.cli
 rw [h1, h2, h3]
 dsimp only
 rw [List.length_set]
theorem node_in {k q : Nat} {r r' : RepM} {l : LnkM} (h : y.nr[k]? = some (some (q, r))) : Imp (repH q r' :: cnL p C y k l) (cluL p ({ C.setNode k (some r') with lnk := l } : CluM) (y.node k (some (q, r')))) := by
 have hk := (List.getElem?_eq_some_iff.1 h).1
 have e1 := node_cells (C := C) (y := y) (k := k) (x := some (q, r')) ({ C.setNode k (some r') with lnk := l } : CluM) rfl rfl rfl
 have e2 := nod_same (r' := r') h
 unfold cluL
 rw [e1]
 show Imp _ [_, _, _, pt y.nb (flat nodC (y.nr.set k (some (q, r'))) ++ y.nx) rpT, _, _, _, _, hsep ((y.nr.set k (some (q, r'))).map nodP), _]
 rw [e2]
 refine Imp.trans (M := repH q r' :: hsep ((y.nr.eraseIdx k).map nodP) :: _) (Imp.cons (IP 8 rfl Imp.refl)) (Imp.trans (many_put (f := nodP) hk (some (q, r'))) ?_)
 exact IP 1 rfl (IP 1 rfl (IP 1 rfl (IP 1 rfl (IP 1 rfl (IP 1 rfl (IP 1 rfl (IP 1 rfl Imp.refl)))))))
theorem cli_in {k q : Nat} {s s' : CliM} {l : LnkM} {hi : HisM} (h : y.cr[k]? = some (q, s)) : Imp (cliH q s' :: ccL p C y k l hi) (cluL p ({ C.setCli k s' with lnk := l, his := hi } : CluM) (y.cli k (q, s'))) := by
 have hk := (List.getElem?_eq_some_iff.1 h).1
 have e1 := cli_cells (C := C) (y := y) (k := k) (x := (q, s')) ({ C.setCli k s' with lnk := l, his := hi } : CluM) rfl rfl rfl
 have e2 := cli_same (s' := s') h
 unfold cluL
 rw [e1]
 show Imp _ [_, _, _, _, pt y.cb (flat cliV (y.cr.set k (q, s')) ++ y.cx) cpT, _, _, _, _, hsep ((y.cr.set k (q, s')).map cliP)]
 rw [e2]
 refine Imp.trans (M := cliH q s' :: hsep ((y.cr.eraseIdx k).map cliP) :: _) (Imp.cons (IP 9 rfl Imp.refl)) (Imp.trans (many_put (f := cliP) hk (q, s')) ?_)
 exact IP 1 rfl (IP 1 rfl (IP 1 rfl (IP 1 rfl (IP 1 rfl (IP 1 rfl (IP 1 rfl (IP 1 rfl (IP 1 rfl Imp.refl))))))))
theorem mas_in {m : MasM} {l : LnkM} : Imp (masH y.mp m :: cmL p C y l) (cluL p ({ C with mas := m, lnk := l } : CluM) y) := IP 1 rfl (IP 1 rfl Imp.refl)
theorem clu_shut (fit : CluFit C y) {R : List HP} : Imp (cluL p C y ++ R) [cluH p C] := Imp.clu (K := []) y fit (by rw [List.append_nil]; exact Imp.trans (Imp.app (M := cluL p C y) (M' := []) Imp.refl Imp.nil) (Imp.of_eq (List.append_nil _)))
theorem node_shut (fit : CluFit C y) {k q : Nat} {r r' : RepM} {l : LnkM} {a : Option Addr} {c : Nat} {X : List SdG} (h : y.nr[k]? = some (some (q, r))) {R : List HP} : Imp (sentH (repH q r') a c X :: (cnL p C y k l ++ R)) [cluH p ({ C.setNode k (some r') with lnk := l } : CluM)] :=
 Imp.trans sentH_open (Imp.trans (Imp.app (L := repH q r' :: cnL p C y k l) (node_in h) Imp.refl) (clu_shut (node_fit fit k (some (q, r')) l)))
theorem cli_shut (fit : CluFit C y) {k q : Nat} {s s' : CliM} {l : LnkM} {hi : HisM} {a : Option Addr} {c : Nat} {X : List SdG} (h : y.cr[k]? = some (q, s)) {R : List HP} : Imp (sentH (cliH q s') a c X :: (ccL p C y k l hi ++ R)) [cluH p ({ C.setCli k s' with lnk := l, his := hi } : CluM)] :=
 Imp.trans sentH_open (Imp.trans (Imp.app (L := cliH q s' :: ccL p C y k l hi) (cli_in h) Imp.refl) (clu_shut (cli_fit fit k (q, s') l hi)))
theorem mas_shut (fit : CluFit C y) {m : MasM} {l : LnkM} {a : Option Addr} {c : Nat} {X : List SdG} {R : List HP} : Imp (sentH (masH y.mp m) a c X :: (cmL p C y l ++ R)) [cluH p ({ C with mas := m, lnk := l } : CluM)] :=
 Imp.trans sentH_open (Imp.trans (Imp.app (L := masH y.mp m :: cmL p C y l) mas_in Imp.refl) (clu_shut (C := ({ C with mas := m, lnk := l } : CluM)) ⟨fit.nr, fit.cr, fit.qc⟩))
end
section
variable {q : Nat}
theorem vstep_spec {r : RepM} (ok : r.Ok) (now : Int) : Tri Tryz.prog 64 [.pointer (some ⟨q, 0, none⟩), .int .i64 now] Fr w [repH q r] (fun v L => SentV (ofS (stepR r now).2) (repH q (stepR r now).1) v L) := Go.Proofs.YtjmahknbffdadaaGreat.Ring.Tri.drop (step_spec Fr w ok now) fun _ _ h => sentV_of h
theorem vtick_spec {r : RepM} (ok : r.Ok) (now : Int) : Tri Tryz.prog 109 [.pointer (some ⟨q, 0, none⟩), .int .i64 now] Fr w [repH q r] (fun v L => SentV (ofS (tickR r).2) (repH q (tickR r).1) v L) := Go.Proofs.YtjmahknbffdadaaGreat.Ring.Tri.drop (tick_spec Fr w ok now) fun _ _ h => sentV_of h
theorem vtake_spec {r : RepM} (fit : r.Fit) (hlast : r.rds.last < 100000000) (from_ : Int) (f : FrameM) {ma : Option Addr} {mc : Nat} {ms : List MemM} (hm : RwIn memC 2 Fr w ma ms) (hml : ms.length ≤ 1000000) (now : Int)
  (hi1 : -9223372036854775808 ≤ f.entry.index) (hi2 : f.entry.index ≤ 9223372036854775807) : Tri Tryz.prog 121 [.pointer (some ⟨q, 0, none⟩), .int .i64 from_, .agg (f.cells (ma, ms.length, mc)).toArray, .int .i64 now] Fr w [repH q r] (fun v L => SentV (ofS (takeR r from_ f ms now).2) (repH q (takeR r from_ f ms now).1) v L) :=
 Go.Proofs.YtjmahknbffdadaaGreat.Ring.Tri.drop (take_spec Fr w fit hlast from_ f hm hml now hi1 hi2) fun _ _ h => sentV_of h
theorem vmtake_spec {M : MasM} (ok : M.Ok) (from_ : Int) (f : FrameM) (g : MemG) (now : Int) : Tri Tryz.prog 183 [.pointer (some ⟨q, 0, none⟩), .int .i64 from_, .agg (f.cells g).toArray, .int .i64 now] Fr w [masH q M] (fun v L => SentV (M.take from_ f now).2 (masH q (M.take from_ f now).1) v L) := Go.Proofs.YtjmahknbffdadaaGreat.Ring.Tri.drop (mtake_spec Fr w ok from_ f g now) fun _ _ h => sentV_ofX h
theorem vmtick_spec {M : MasM} (ok : M.Ok) (now : Int) : Tri Tryz.prog 66 [.pointer (some ⟨q, 0, none⟩), .int .i64 now] Fr w [masH q M] (fun v L => SentV (M.tick now).2 (masH q (M.tick now).1) v L) := Go.Proofs.YtjmahknbffdadaaGreat.Ring.Tri.drop (mtick_spec Fr w ok now) fun _ _ h => sentV_ofX h
theorem vsuspect_spec {M : MasM} (ok : M.Ok) (n : Int) : Tri Tryz.prog 70 [.pointer (some ⟨q, 0, none⟩), .int .i64 n] Fr w [masH q M] (fun v L => SentW (M.suspect n).2.1 (M.suspect n).2.2 (masH q (M.suspect n).1) v L) := Go.Proofs.YtjmahknbffdadaaGreat.Ring.Tri.drop (msuspect_spec Fr w ok n) fun _ _ h => sentW_ofE h
theorem vdrain_spec {M : MasM} (ok : M.Ok) (n : Int) : Tri Tryz.prog 72 [.pointer (some ⟨q, 0, none⟩), .int .i64 n] Fr w [masH q M] (fun v L => SentW (M.drain n).2.1 (M.drain n).2.2 (masH q (M.drain n).1) v L) := Go.Proofs.YtjmahknbffdadaaGreat.Ring.Tri.drop (mdrain_spec Fr w ok n) fun _ _ h => sentW_ofE h
theorem vjoin_spec {M : MasM} (ok : M.Ok) (n now : Int) : Tri Tryz.prog 120 [.pointer (some ⟨q, 0, none⟩), .int .i64 n, .int .i64 now] Fr w [masH q M] (fun v L => SentW (M.join n now).2.1 (M.join n now).2.2 (masH q (M.join n now).1) v L) := Go.Proofs.YtjmahknbffdadaaGreat.Ring.Tri.drop (mjoin_spec Fr w ok n now) fun _ _ h => sentW_ofE h
theorem vctake_spec {S : CliM} (ok : S.Ok) (f : FrameM) {ma : Option Addr} {mc : Nat} {ms : List MemM} (hm : RwIn memC 2 Fr w ma ms) (hml : ms.length ≤ 1000000) (now : Int) : Tri Tryz.prog 242 [.pointer (some ⟨q, 0, none⟩), .agg (f.cells (ma, ms.length, mc)).toArray, .int .i64 now] Fr w [cliH q S] (fun v L => SentV (S.take f ms now).2 (cliH q (S.take f ms now).1) v L) := Go.Proofs.YtjmahknbffdadaaGreat.Ring.Tri.drop (ctake_spec Fr w ok f hm hml now) fun _ _ h => sentV_ofX h
theorem vctick_spec {S : CliM} (ok : S.Ok) (now : Int) : Tri Tryz.prog 110 [.pointer (some ⟨q, 0, none⟩), .int .i64 now] Fr w [cliH q S] (fun v L => SentV (S.tick now).2 (cliH q (S.tick now).1) v L) := Go.Proofs.YtjmahknbffdadaaGreat.Ring.Tri.drop (ctick_spec Fr w ok now) fun _ _ h => sentV_ofX h
theorem vccall_spec {S : CliM} (ok : S.Ok) (hq : S.seq ≤ 1000000000) (o : OpM) (cl d now : Int) : Tri Tryz.prog 97 [.pointer (some ⟨q, 0, none⟩), .agg o.cells.toArray, .int .i64 cl, .int .i64 d, .int .i64 now] Fr w [cliH q S] (fun v L => SentW (S.call o cl d now).2 (S.callE o cl d) (cliH q (S.call o cl d now).1) v L) := Go.Proofs.YtjmahknbffdadaaGreat.Ring.Tri.drop (ccall_spec Fr w ok hq o cl d now) fun _ _ h => sentW_ofE h
theorem clic_in {Fr : Nat → Prop} {w : World} {S : CliM} (h : SatIn Fr [cliH q S] w) : ∃ y, Blk Fr w q (cliC S y) ∧ ∀ x, S.out = some x → Blk Fr w y.b (sloM x) := by
 obtain ⟨y, hy⟩ := h.ex
 have hs := hy.sep
 refine ⟨y, hs.blk 0 rfl, fun x hx => ?_⟩
 have hb := hs.at_ 3 rfl
 rw [hx] at hb
 exact hb.blk 0 rfl
theorem vseq_spec {S : CliM} (ok : S.Ok) (h : SatIn Fr [cliH q S] w) : Tri Tryz.prog 75 [.pointer (some ⟨q, 0, none⟩)] Fr w [] (fun v L => v = .int .i64 S.seq ∧ L = []) := by
 obtain ⟨y, h1, _⟩ := clic_in h
 exact cseq_spec Fr w ok h1
theorem voutcome_spec {S : CliM} (ok : S.Ok) (h : SatIn Fr [cliH q S] w) : Tri Tryz.prog 73 [.pointer (some ⟨q, 0, none⟩)] Fr w [] (fun v L => v = outV S.outcome ∧ L = []) := by
 obtain ⟨y, h1, h2⟩ := clic_in h
 exact coutcome_spec Fr w ok h1 h2
end
theorem set_same {α : Type} {l : List α} {k : Nat} {x : α} (h : l[k]? = some x) : l.set k x = l := by
 apply List.ext_getElem?
 intro j
 rw [List.getElem?_set]
 split
 ·rename_i e; subst e
  rw [if_pos (List.getElem?_eq_some_iff.1 h).1, h]
 ·rfl
end Cl
namespace Cl
open Go Vg T Api Ch Rep Conf Lg Rd
theorem in_n {n : Int} (h : inN n = true) : 0 ≤ n ∧ n ≤ 1099511627776 := by unfold inN at h; simpa using h
theorem intsB_put : ∀ (l : List Int) (r : Bs), (∀ n ∈ l, inN n = true) → intsB l.length (l.flatMap intB ++ r) = some (l, r)
 | [], r, _ => rfl
 | n :: l, r, h => by
  have hn := in_n (h n (List.mem_cons_self ..))
  rw [List.flatMap_cons, List.append_assoc, List.length_cons]
  unfold intsB
  rw [unintB_int ye hn.2]
  dsimp only
  rw [intsB_put l r fun m hm => h m (List.mem_cons_of_mem _ hm)]
theorem op_bad {o : OpM} (h : opCheck o = 0) : (1 ≤ o.kind ∧ o.kind ≤ 4) ∧ o.key.size ≤ 64 ∧ o.value.size ≤ 64 ∧ (valB o.kind = false → o.value.size = 0) ∧ (o.kind ≠ 4 → o.version = 0) ∧ (o.kind = 4 → 0 ≤ o.version ∧ o.version ≤ 1099511627776) := by
 unfold opCheck at h
 split at h
 ·cases h
 split at h
 ·cases h
 rename_i hb hl
 simp only [opBad, opLong, Bool.or_eq_true, Bool.and_eq_true, Bool.not_eq_true', Bool.or_eq_false_iff, decide_eq_true_eq, decide_eq_false_iff_not, not_or, not_and] at hb hl
 obtain ⟨⟨⟨⟨⟨⟨a1, a2⟩, a3⟩, a4⟩, a5⟩, a6⟩, a7⟩ := hb
 refine ⟨⟨by omega, by omega⟩, by omega, by omega, fun hv => ?_, fun h4 => ?_, fun h4 => ⟨by omega, by omega⟩⟩
 ·unfold valB at hv
  simp only [Bool.or_eq_false_iff, decide_eq_false_iff_not] at hv
  by_cases hz : o.value.size = 0
  ·exact hz
  ·exact absurd hv (by simpa using a7 hz)
 ·by_cases hz : o.version = 0
  ·exact hz
  ·exact absurd h4 (by simpa using a6 hz)
theorem getO_put {o : OpM} (h : opCheck o = 0) : getO (opB o) = some o := by
 obtain ⟨⟨k1, k2⟩, hk, hv, h1, h2, h3⟩ := op_bad h
 unfold getO opB
 rw [List.append_assoc, List.append_assoc, unintB_int ye ye]
 dsimp only
 rw [cutB_text _ _ (by rw [sB_len]; omega)]
 dsimp only
 have hval : (if valB o.kind then cutB ((if valB o.kind then textB (sB o.value) else []) ++ (if o.kind = 4 then intB o.version else [])) else some ([], (if valB o.kind then textB (sB o.value) else []) ++ (if o.kind = 4 then intB o.version else []))) = some (sB o.value, if o.kind = 4 then intB o.version else []) := by
  cases hb : valB o.kind with
  | true => exact cutB_text _ _ (by rw [sB_len]; omega)
  | false =>
   have : sB o.value = [] := List.eq_nil_of_length_eq_zero (by rw [sB_len]; exact h1 hb)
   rw [this]; rfl
 rw [hval]
 dsimp only
 have hver : (if o.kind = 4 then unintB (if o.kind = 4 then intB o.version else []) else some (0, if o.kind = 4 then intB o.version else [])) = some (o.version, []) := by
  by_cases h4 : o.kind = 4
  ·have := h3 h4
   rw [if_pos h4, if_pos h4]
   have := unintB_int (n := o.version) ye ye []
   rwa [List.append_nil] at this
  ·rw [if_neg h4, if_neg h4, h2 h4]
 rw [hver]
 dsimp only
 rw [bT_of, bT_of, if_pos ⟨rfl, h⟩]
theorem call_back {f : FrameM} {t : Bs} (hk : f.kind = 1) (h : putM f [] = some t) : ∃ g, getM t = some (g, []) ∧ g.kind = 1 ∧ g.client = f.client ∧ inN g.client = true ∧ inN g.seq = true ∧ inN g.try_ = true := by
 unfold putM at h
 split at h
 ·rename_i hm
  split at h
  ·cases h
  ·rename_i hlen
   cases h
   have hm2 := hm
   unfold mayM mayB at hm
   rw [hk] at hm
   simp only [Bool.and_eq_true, decide_eq_true_eq, List.all_eq_true] at hm
   obtain ⟨-, hn, ho⟩ := hm
   have ho : opCheck f.op = 0 := by simpa using ho
   have hoff : offs 1 = [1, 2, 3, 4, 5, 6] := rfl
   rw [hoff] at hn
   have n1 := hn 1 yb
   have n2 := hn 2 yb
   have n3 := hn 3 yb
   have n4 := hn 4 yb
   have n5 := hn 5 yb
   have n6 := hn 6 yb
   refine ⟨{ FrameM.zero with kind := 1, epoch := f.epoch, client := f.client, seq := f.seq, try_ := f.try_, cls := f.cls, deadline := f.deadline, op := f.op }, ?_, rfl, rfl, n2, n3, n4⟩
   unfold getM
   rw [if_neg hlen]
   have e1 : putB f [] = intB 1 ++ ([f.epoch, f.client, f.seq, f.try_, f.cls, f.deadline].flatMap intB ++ opB f.op) := by
    unfold putB behB
    rw [hk, hoff, if_pos rfl, List.append_assoc]
    rfl
   rw [e1, unintB_int ye ye]
   dsimp only
   rw [hoff]
   have e2 := intsB_put [f.epoch, f.client, f.seq, f.try_, f.cls, f.deadline] (opB f.op) (fun n hx => by
    simp only [List.mem_cons, List.not_mem_nil, or_false] at hx
    rcases hx with rfl | rfl | rfl | rfl | rfl | rfl <;> assumption)
   rw [show ([1, 2, 3, 4, 5, 6] : List Nat).length = [f.epoch, f.client, f.seq, f.try_, f.cls, f.deadline].length from rfl, e2]
   dsimp only
   have e3 : readF (setFs { FrameM.zero with kind := 1 } [1, 2, 3, 4, 5, 6] [f.epoch, f.client, f.seq, f.try_, f.cls, f.deadline]) (opB f.op) = some ({ FrameM.zero with kind := 1, epoch := f.epoch, client := f.client, seq := f.seq, try_ := f.try_, cls := f.cls, deadline := f.deadline, op := f.op }, []) := by
    rw [show setFs { FrameM.zero with kind := 1 } [1, 2, 3, 4, 5, 6] [f.epoch, f.client, f.seq, f.try_, f.cls, f.deadline] = { FrameM.zero with kind := 1, epoch := f.epoch, client := f.client, seq := f.seq, try_ := f.try_, cls := f.cls, deadline := f.deadline } from rfl]
    unfold readF
    rw [if_pos (show (1 : Int) = 1 from rfl), getO_put ho]
   rw [e3]
   dsimp only
   rw [if_pos]
   unfold mayM mayB
   simp only [Bool.and_eq_true, decide_eq_true_eq, List.all_eq_true]
   refine ⟨by show (1 : Int) ≤ 1 ∧ (1 : Int) ≤ 12; decide, fun o hx => ?_, by simp [ho]⟩
   have hx : o ∈ [1, 2, 3, 4, 5, 6] := hx
   simp only [List.mem_cons, List.not_mem_nil, or_false] at hx
   rcases hx with rfl | rfl | rfl | rfl | rfl | rfl <;> assumption
 ·cases h
end Cl
namespace Ref16
open Go Vg T Api Sched
attribute [local irreducible] VO VC VA
abbrev FL := RL FM
structure RfS where
 ua : Option Addr
 uc : Nat
 qb : Nat
 qc : Nat
 cb : Nat
 cc : Nat
 sb : Nat
 sc : Nat
 rows : List FL
def rfC (s : RfS) (n : Nat) (cap t : Int) (f : Bool) : List Value := [.int .i64 cap, .slice s.ua n s.uc, .slice (some ⟨s.qb, 0, none⟩) n s.qc, .slice (some ⟨s.cb, 0, none⟩) n s.cc, .slice (some ⟨s.sb, 0, none⟩) n s.sc, .int .i64 t, .bool f]
end Ref16
namespace Rep
open Go Vg T Api Kv Ch Lg Rd Win Adm Sched Conf
section
variable {R : RepM} {from_ : Int} {f : FrameM} {ms : List MemM} {now : Int}
theorem take_call (h : f.kind = 1) (h0 : 0 ≤ f.client) (h1 : f.client < R.clients) : takeR R from_ f ms now = if readsB f.op = true then readR R f now else updateR R f now := by
 unfold takeR; rw [if_pos h, if_neg ye, if_neg ye]
end
end Rep
namespace Adm
open Go Vg Api Sched Conf
theorem offer_in {A : AdmM} {f : FrameM} {now : Int} (h0 : (A.offerM f now).1 = 0) : A.may f = true ∧ A.barred f.client f.seq f.try_ = false ∧ A.wt f.client = 0 ∧ ¬ f.deadline < now ∧ (A.sch.pushM f).1 = 0 ∧ (A.offerM f now).2 = (A.withSch (A.sch.pushM f).2).setWt f.client f.seq := by
 unfold AdmM.offerM at h0 ⊢
 by_cases hm : A.may f = true
 ·rw [if_pos hm] at h0 ⊢
  by_cases hc : (A.waitM f now).1 ≠ 0 ∧ (A.waitM f now).1 ≠ 6
  ·rw [if_pos hc] at h0; exact absurd h0 hc.1
  ·rw [if_neg hc] at h0 ⊢
   unfold AdmM.waitM at h0 ⊢
   by_cases hb : A.barred f.client f.seq f.try_ = true
   ·rw [if_pos hb] at h0; cases h0
   rw [if_neg hb] at h0 ⊢
   by_cases hs : A.wt f.client = f.seq
   ·rw [if_pos hs] at h0; cases h0
   rw [if_neg hs] at h0 ⊢
   by_cases hz : A.wt f.client ≠ 0
   ·rw [if_pos hz] at h0; cases h0
   rw [if_neg hz] at h0 ⊢
   by_cases hd : f.deadline < now
   ·rw [if_pos hd] at h0; cases h0
   rw [if_neg hd] at h0 ⊢
   by_cases hp : (A.sch.pushM f).1 ≠ 0
   ·rw [if_pos hp] at h0; cases h0
   rw [if_neg hp]
   exact ⟨hm, by simpa using hb, by simpa using hz, hd, by simpa using hp, rfl⟩
 ·rw [if_neg hm] at h0; cases h0
theorem push_same {S : SchM} {f : FrameM} (h : (S.pushM f).1 ≠ 0) : (S.pushM f).2 = S := by
 unfold SchM.pushM at h ⊢
 split
 ·rfl
 ·rename_i c hc
  rw [hc] at h
  dsimp only at h
  split
  ·rfl
  ·rename_i h1
   rw [if_neg h1] at h
   split
   ·rename_i h2; rw [if_pos h2] at h; exact absurd rfl h
   ·rfl
theorem offer_not {A : AdmM} {f : FrameM} (now : Int) (h0 : (A.offerM f now).1 ≠ 0) : (A.offerM f now).2.sch = A.sch ∧ (A.offerM f now).2.waits = A.waits := by
 have key : (A.waitM f now).1 ≠ 0 → (A.waitM f now).2.sch = A.sch ∧ (A.waitM f now).2.waits = A.waits := by
  unfold AdmM.waitM
  intro h
  repeat' split
  all_goals first
   | exact ⟨rfl, rfl⟩
   | (rename_i hp; exact ⟨push_same hp, rfl⟩)
   | (simp_all)
 unfold AdmM.offerM at h0 ⊢
 by_cases hm : A.may f = true
 ·rw [if_pos hm] at h0 ⊢
  by_cases hc : (A.waitM f now).1 ≠ 0 ∧ (A.waitM f now).1 ≠ 6
  ·rw [if_pos hc]
   have := key hc.1
   refine ⟨(barM_sch _ _ _ _).trans this.1, ?_⟩
   rw [← this.2]
   show (AdmM.barM _ _ _ _).2.waits = _
   unfold AdmM.barM
   split
   ·exact barF_waits _ _ _ _
   ·rfl
  ·rw [if_neg hc] at h0 ⊢
   exact key h0
 ·rw [if_neg hm]; exact ⟨rfl, rfl⟩
end Adm
namespace Adm
open Go Vg Api Sched Conf
theorem flat_snoc {α : Type} {f : α} : ∀ {l : List (List α)} {k : Nat} {q : List α}, l[k]? = some q → (l.set k (q ++ [f])).flatten.Perm (f :: l.flatten)
 | x :: l, 0, q, h => by
  obtain rfl : x = q := by simpa using h
  rw [List.set_cons_zero, List.flatten_cons, List.flatten_cons, List.append_assoc]
  exact List.perm_middle
 | x :: l, k + 1, q, h => by
  rw [List.set_cons_succ, List.flatten_cons, List.flatten_cons]
  exact ((flat_snoc (l := l) (k := k) yc).append_left x).trans List.perm_middle
 | [], _, _, h => by simp at h
end Adm
namespace Rep
open Go Vg T Api Kv Ch Lg Rd Win Adm Sched Conf
def LogOk (es : List EntryM) : Prop := ∀ (k : Nat) (e : EntryM), es[k]? = some e → logErr (es.take k) e = 0
theorem LogOk.snoc {es : List EntryM} (h : LogOk es) {e : EntryM} (he : logErr es e = 0) : LogOk (es ++ [e]) := by
 intro k x hx
 by_cases hk : k < es.length
 ·rw [List.getElem?_append_left hk] at hx
  rw [List.take_append_of_le_length ye]
  exact h k x hx
 ·by_cases hk2 : k = es.length
  ·subst hk2
   rw [List.getElem?_append_right (NR _), Nat.sub_self] at hx
   obtain rfl : e = x := by simpa using hx
   rw [List.take_append_of_le_length (NR _), List.take_length]; exact he
  ·rw [List.getElem?_eq_none (by rw [List.length_append]; simp; omega)] at hx; cases hx
end Rep
namespace Nd
open Go Vg Api Kv Ch Lg Rd Win Adm Sched Conf Rep
section
variable {C : ConfM} {R : RepM}
theorem LogOk.good {es : List EntryM} (h : LogOk es) (hl : es.length ≤ 4096) {e : EntryM} (he : e ∈ es) : opCheck e.op = 0 ∧ e.op.kind ≠ 1 ∧ 1 ≤ e.index ∧ e.index ≤ 4096 := by
 obtain ⟨k, hk⟩ := List.getElem?_of_mem he
 have hlt := (List.getElem?_eq_some_iff.1 hk).1
 obtain ⟨h1, h2, h3, h4⟩ := logErr_ok (h k e hk)
 rw [List.length_take] at h3
 simp only [badE, Lg.readsB, Bool.or_eq_false_iff, Bool.and_eq_false_iff, decide_eq_false_iff_not] at h1
 have hc : opCheck e.op = 0 := by have := h1.2.1; omega
 refine ⟨hc, ?_, by omega, by omega⟩
 rcases h1.2.2 with h5 | h5
 ·exact h5
 ·exact absurd hc h5
end
end Nd
namespace Nd
open Go Vg T Api Kv Ch Lg Rd Win Adm Sched Conf Rep
section
variable {C : ConfM} {R : RepM} {B : Int}
theorem last_step (R : RepM) (now : Int) : (stepR R now).1.rds.last = R.rds.last := by
 have hs : ∀ R : RepM, (serveR R now).1.rds = R.rds := fun R => by
  unfold serveR
  split
  ·rfl
  split
  ·rfl
  ·unfold RepM.finishR; split <;> rfl
 have hl : ∀ (k : Nat) (R : RepM), (serveLoop now k R).1.rds = R.rds := by
  intro k
  induction k with
  | zero => intro R; rfl
  | succ k ih =>
   intro R
   unfold serveLoop
   split
   ·split
    ·rw [ih, hs]
    ·exact hs R
   ·rfl
 have h2 : (step2 R now).1.rds.last = R.rds.last := by
  unfold Rep.step2
  split
  ·rw [hl]; rfl
  ·rfl
 show (step3 R now).1.rds.last = _
 unfold step3
 split
 ·exact h2
 ·exact h2
end
end Nd
namespace Vg
open Go Go.ChangeShapes Go.WideShapes Go.ChangeAt Go.RowKit
theorem trodAll_below {H : Type} {enc : TypeId × Value → H} {P : Program} (hl : laidOutB P = true) {W W' : World} (hb : Below W.heap.size W W') :
  ∀ {ts : List TypeId} {vs : List Value} {ds : List (DataW H)} {ps : List MemPlace}, (∀ t ∈ ts, P.readableRec t = true ∧ t < P.types.size) →
   DataW.TrodAll enc P W 0 (fun _ => true) true ts vs ds ps → DataW.TrodAll enc P W' 0 (fun b => decide (b < W.heap.size)) true ts vs ds ps
 | [], vs, ds, ps, _, h => by
  obtain ⟨rfl, rfl, rfl⟩ := trodAll_nil h
  exact trodAll_mk0
 | t :: ts, vs, ds, ps, ht, h => by
  obtain ⟨v, vs', d, ds', p, q, rfl, rfl, rfl, h0, r0⟩ := trodAll_cons h
  have lt0 : ∀ x ∈ p, x.block < W.heap.size := by obtain ⟨m, hm⟩ := h0; exact DataW.trod_lt m _ _ _ hm
  have h1 := ht t yb
  exact trodAll_cons_mk (Below.trod hl h1.1 h1.2 h0 hb lt0) (trodAll_below hl hb (fun t h => ht t yd) r0)
theorem trodAll_length {H : Type} {enc : TypeId × Value → H} {P : Program} {W : World} {b : Nat} {sp : Nat → Bool} {hd : Bool} :
  ∀ {ts : List TypeId} {vs : List Value} {ds : List (DataW H)} {ps : List MemPlace}, DataW.TrodAll enc P W b sp hd ts vs ds ps → ds.length = ts.length
 | [], vs, ds, ps, h => by
  obtain ⟨rfl, rfl, rfl⟩ := trodAll_nil h
  rfl
 | t :: ts, vs, ds, ps, h => by
  obtain ⟨v, vs', d, ds', p, q, rfl, rfl, rfl, h0, r0⟩ := trodAll_cons h
  simp [trodAll_length r0]
theorem law_post {H : Type} {enc : TypeId × Value → H} {P : Program} {f : Func} {s : ChangeSpec} (hl : laidOutB P = true) (hts : ∀ t ∈ f.params.toList, P.readableRec t = true ∧ t < P.types.size)
  (hv : s.vars = []) {tb : TypeId} (hres : f.resultTypes = #[tb]) (hbool : P.underlying tb = some .bool)
  (hfn : ∀ ds : List (DataW H), ds.length = f.params.toList.length → s.fn H (ds ++ []) = { results := [.lit (.bool true)], args := ds })
  {W W' : World} {args : Array Value} {ds gs : List (DataW H)} {before : List MemPlace} (hW : DataW.Whole enc P f.params.toList s.vars false W args.toList ds gs before) (bel : Below W.heap.size W W') :
  s.post enc P f false true false false W args (.bool true) W' := by
 have hW' := hW
 obtain ⟨p, q, hA, hV, rfl, _, _⟩ := hW
 rw [hv] at hV
 obtain ⟨rfl, rfl⟩ := trodVars_none hV
 have e := hfn ds (trodAll_length hA)
 refine ⟨ds, [], p ++ [], [], p, [], hW', ?_, ?_, ?_, bel.frame _, fun h => by cases h⟩
 ·rw [e, hres]; exact trodAll_mk1 (shut_bool hbool _)
 ·rw [e]; exact trodAll_below hl bel hts hA
 ·rw [e, hv]; rfl
theorem law_returns {H : Type} {enc : TypeId × Value → H} {C : Checked} {os : Os} {f : FuncId} {fn : Func} {s : ChangeSpec} {conds : List PathCond}
  (own : ownKnob C.prog.godebug = none) (started : os.Started) (noInit : C.prog.inits.idxOf? f = none) (hfn : C.prog.funcs[f]? = some fn)
  (witness : ∃ (w : World) (tape : Tape) (i : Input), w.os = os ∧ (w.forCall tape i).Shaped C.prog ∧ i.vars = [] ∧ Input.okWide C.prog (w.forCall tape i) .any w.heap.size f i ∧
   s.pre6 enc C.prog fn conds false (w.forCall tape i).memory i.args ∧ ({} : Assume).holds C.prog (lone (Frame.enter C.prog f i.args .normal) [] (w.forCall tape i)))
  (hl : laidOutB C.prog = true) (hts : ∀ t ∈ fn.params.toList, C.prog.readableRec t = true ∧ t < C.prog.types.size)
  (hv : s.vars = []) {tb : TypeId} (hres : fn.resultTypes = #[tb]) (hbool : C.prog.underlying tb = some .bool)
  (hs : ∀ ds : List (DataW H), ds.length = fn.params.toList.length → s.fn H (ds ++ []) = { results := [.lit (.bool true)], args := ds })
  (walk : ∀ (W : World) (base : Nat) (args : Array Value) (ds : List (DataW H)) (ps : List MemPlace),
   (∀ (j : Nat) t v, fn.params[j]? = some t → args[j]? = some v → Value.okWide C.prog W .any base t v) →
   DataW.TrodAll enc C.prog W 0 (fun _ => true) true fn.params.toList args.toList ds ps → W.noneFrozen ps →
   (DataW.weightsEach C.prog fn.params.toList ds).all (· ≤ reachBytes) = true →
   Tri C.prog f args.toList (fun b => b < W.heap.size) W [] (fun v _ => v = .bool true)) :
  ReturnsInHanded {} C os f .any (s.pre6 enc C.prog fn conds false) (s.post enc C.prog fn false true false false) := by
 refine returnsInHanded_of_change_sized own started noInit hfn witness fun W base args ds gs before hval hW _ hwt _ => ?_
 have hW2 := hW
 obtain ⟨p, q, hA, hV, rfl, hfz, _⟩ := hW2
 rw [hv] at hV
 obtain ⟨rfl, rfl⟩ := trodVars_none hV
 have hvt : s.plain.varTypes C.prog = [] := by simp [ChangeSpec.plain, hv, DataSpec.varTypes]
 rw [hvt] at hwt
 simp only [List.append_nil] at hwt hfz
 have T := walk W base args ds p hval hA hfz hwt
 have := T.calls (fun _ h => h) Sat.nil
 simp only [Array.toArray_toList] at this
 exact Calls.mono this fun e W' ⟨v, L', he, h1, _, hk⟩ => ⟨v, he, by subst h1; exact law_post hl hts hv hres hbool hs hW hk.below⟩
end Vg
namespace Vg
open Go Go.ChangeShapes Go.WideShapes Go.ChangeAt Go.RowKit
section
variable {H : Type} (enc : TypeId × Value → H) (P : Program) (w : World) (base : Nat) (spare : Nat → Bool) (held : Bool)
def Leaf (t : TypeId) (v : Value) : Prop := ∃ fuel x, DataW.trod enc P w base spare held fuel t [v] = some x
def flatFs (rec : TypeId → Option (List TypeId)) : List Field → Nat → Option (List TypeId)
 | [], _ => some []
 | f :: fs, off => if f.offset = off then match rec f.type with
   | some l => if P.cellsOf f.type = l.length then (flatFs rec fs (off + l.length)).map (l ++ ·) else none
   | none => none
  else none
def flatT : Nat → TypeId → Option (List TypeId)
 | 0, _ => none
 | n + 1, t => match P.underlying t with
  | some (.struct fs) => match flatFs P (flatT n) fs.toList 0 with
   | some l => if P.cellsOf t = l.length then some l else none
   | none => none
  | some (.int _) => some [t]
  | some .bool => some [t]
  | some .string => some [t]
  | some (.slice _) => some [t]
  | some (.pointer _) => some [t]
  | _ => none
end
section
variable {H : Type} {enc : TypeId × Value → H} {P : Program} {w : World} {base : Nat} {spare : Nat → Bool} {held : Bool}
theorem Leaf.int {t : TypeId} {v : Value} {k : IntKind} (h : Leaf enc P w base spare held t v) (ht : P.underlying t = some (.int k)) : ∃ n, v = .int k n ∧ (Lit.int k n).wf = true := by
 obtain ⟨fuel, x, h⟩ := h
 obtain ⟨n, e, _, hw⟩ := DataW.trod_int ht h
 exact ⟨n, (List.cons.inj e).1, hw⟩
theorem Leaf.str {t : TypeId} {v : Value} (h : Leaf enc P w base spare held t v) (ht : P.underlying t = some .string) : ∃ s, v = .string s ∧ s.size ≤ maxLen := by
 obtain ⟨fuel, x, h⟩ := h
 obtain ⟨n, e, _, hs⟩ := DataW.trod_string ht h
 exact ⟨n, (List.cons.inj e).1, hs⟩
theorem flatFs_ok {rec : TypeId → Option (List TypeId)} {cs : List Value} {n : Nat}
  (hrec : ∀ (t : TypeId) (ls : List TypeId), rec t = some ls → ∀ (cs : List Value) x, DataW.trod enc P w base spare held n t cs = some x → cs.length = ls.length ∧ ∀ (i : Nat) (v : Value) (u : TypeId), cs[i]? = some v → ls[i]? = some u → Leaf enc P w base spare held u v) :
  ∀ (fs : List Field) (off : Nat) (ls : List TypeId), flatFs P rec fs off = some ls → (∀ f ∈ fs, ∃ y, DataW.trod enc P w base spare held n f.type ((cs.drop f.offset).take (P.cellsOf f.type)) = some y) →
   ∀ (i : Nat) (v : Value) (u : TypeId), cs[off + i]? = some v → ls[i]? = some u → Leaf enc P w base spare held u v
 | [], off, ls, h, _, i, v, u, _, hu => by
  obtain rfl : ls = [] := by simpa [flatFs] using h.symm
  simp at hu
 | f :: fs, off, ls, h, hf, i, v, u, hv, hu => by
  simp only [flatFs] at h
  split at h
  ·rename_i hoff
   split at h
   ·rename_i l hl
    split at h
    ·rename_i hc
     cases hr : flatFs P rec fs (off + l.length) with
     | none => rw [hr] at h; cases h
     | some ls' =>
      rw [hr] at h
      obtain rfl : l ++ ls' = ls := by simpa using h
      obtain ⟨y, hy⟩ := hf f yb
      obtain ⟨h1, h2⟩ := hrec f.type l hl _ y hy
      by_cases hi : i < l.length
      ·refine h2 i v u ?_ (by rwa [List.getElem?_append_left hi] at hu)
       rw [List.getElem?_take, if_pos ye, List.getElem?_drop, hoff]; exact hv
      ·rw [List.getElem?_append_right ye] at hu
       refine flatFs_ok hrec fs (off + l.length) ls' hr (fun g hg => hf g (by simp [hg])) (i - l.length) v u ?_ hu
       rw [← hv]; congr 1; omega
    ·cases h
   ·cases h
  ·cases h
theorem flatT_ok : ∀ (n : Nat) (t : TypeId) (ls : List TypeId), flatT P n t = some ls → ∀ (fuel : Nat) (cs : List Value) x, DataW.trod enc P w base spare held fuel t cs = some x →
  cs.length = ls.length ∧ ∀ (i : Nat) (v : Value) (u : TypeId), cs[i]? = some v → ls[i]? = some u → Leaf enc P w base spare held u v
 | 0, t, ls, h, _, _, _, _ => by simp [flatT] at h
 | n + 1, t, ls, h, fuel, cs, x, hx => by
  have one : ∀ v, cs = [v] → ls = [t] → cs.length = ls.length ∧ ∀ (i : Nat) (v : Value) (u : TypeId), cs[i]? = some v → ls[i]? = some u → Leaf enc P w base spare held u v := by
   intro v h1 h2
   subst h1; subst h2
   refine ⟨rfl, fun i v' u hv hu => ?_⟩
   match i, hv, hu with
   | 0, hv, hu =>
    obtain rfl := Option.some.inj hv
    obtain rfl := Option.some.inj hu
    exact ⟨fuel, x, hx⟩
   | i + 1, hv, _ => cases hv
  simp only [flatT] at h
  split at h
  ·rename_i fs ht
   cases hr : flatFs P (flatT P n) fs.toList 0 with
   | none => rw [hr] at h; cases h
   | some l =>
    rw [hr] at h
    dsimp only at h
    split at h
    ·rename_i hc
     obtain rfl := Option.some.inj h
     obtain ⟨xs, m, _, _, hl, hlen, hfs⟩ := DataW.trod_struct ht hx
     refine ⟨hl.trans hc, fun i v u hv hu => ?_⟩
     refine flatFs_ok (n := m) (cs := cs) (fun t ls h1 cs x h2 => flatT_ok n t ls h1 m cs x h2) fs.toList 0 l hr (fun f hf => ?_) i v u (by rwa [Nat.zero_add]) hu
     obtain ⟨j, hj⟩ := List.getElem?_of_mem hf
     have hj' : fs[j]? = some f := by simpa using hj
     have hjl : j < xs.length := by
      have := (Array.getElem?_eq_some_iff.1 hj').1
      omega
     exact ⟨xs[j], by rw [hfs j f hj', GE hjl]⟩
    ·cases h
  ·rename_i k ht
   obtain ⟨a, e, _⟩ := DataW.trod_int ht hx
   exact xmt
  ·rename_i ht
   obtain ⟨a, e, _⟩ := DataW.trod_bool ht hx
   exact xmt
  ·rename_i ht
   obtain ⟨a, e, _⟩ := DataW.trod_string ht hx
   exact xmt
  ·rename_i e ht
   rcases DataW.trod_slice ht hx with ⟨e, _⟩ | ⟨_, _, _, _, _, _, _, e, _⟩
   ·exact xmt
   ·exact xmt
  ·rename_i e ht
   rcases DataW.trod_pointer ht hx with ⟨e, _⟩ | ⟨_, _, _, _, _, e, _⟩
   ·exact xmt
   ·exact xmt
  ·cases h
theorem cell_block {w : World} {a : Addr} {v : Value} (h : w.cell? a = some v) : a.block < w.heap.size := by
 unfold World.cell? at h
 cases hb : w.heap[a.block]? with
 | none => simp [hb] at h
 | some o => exact (Array.getElem?_eq_some_iff.1 hb).1
theorem open_rows {α : Type} (cells : α → List Value) (φ : α → Prop) {t e : TypeId} {n : Nat} {ls : List TypeId} (ht : P.underlying t = some (.slice e)) (hf : flatT P n e = some ls) (hce : P.cellsOf e = ls.length) (hpos : 0 < ls.length)
  (hrow : ∀ cs, cs.length = ls.length → (∀ (i : Nat) (v : Value) (u : TypeId), cs[i]? = some v → ls[i]? = some u → Leaf enc P w base spare held u v) → ∃ x, cs = cells x ∧ φ x)
  {fuel : Nat} {v : Value} {x : DataW H × List MemPlace} (h : DataW.trod enc P w base spare held fuel t [v] = some x) :
  ∃ (a : Option Addr) (tc : Nat) (l : List α), v = .slice a l.length tc ∧ (l.length ≤ tc ∧ l.length ≤ maxLen) ∧ (∀ x ∈ l, φ x) ∧ (l ≠ [] → ∃ b off, a = some ⟨b, off, none⟩ ∧ b < w.heap.size ∧ ∀ i x, l[i]? = some x → ∀ j v, (cells x)[j]? = some v → w.cell? ⟨b, off + i * ls.length + j, none⟩ = some v) := by
 rcases Go.Deep.open_slice ht h with ⟨e, _⟩ | ⟨a', len, cap, m, n', D, Pl, e, _, hle, hcm, hm, _, hx⟩
 ·exact ⟨none, 0, [], (List.cons.inj e).1, ⟨Nat.zero_le _, Nat.zero_le _⟩, fun x hx => by simp at hx, fun h => absurd rfl h⟩
 ·have hlm : len ≤ m := by rw [hm]; split <;> omega
  rw [hce] at hx
  have key : ∀ i, i < len → ∃ y : α, φ y ∧ (cells y).length = ls.length ∧ ∀ j v, (cells y)[j]? = some v → w.cell? ((a'.add (i * ls.length)).add j) = some v := by
   intro i hi
   obtain ⟨cs', h1, h2⟩ := hx i ye
   obtain ⟨_, hl, hc⟩ := World.cells?_some h1
   obtain ⟨h3, h4⟩ := flatT_ok n _ ls hf _ _ _ h2
   obtain ⟨y, rfl, hy⟩ := hrow cs' h3 h4
   refine ⟨y, hy, h3, fun j v hv => ?_⟩
   have hj : j < ls.length := by have := (List.getElem?_eq_some_iff.1 hv).1; omega
   rw [hc j hj, hv]
  have build : ∀ k, k ≤ len → ∃ l : List α, l.length = k ∧ ∀ i x, l[i]? = some x → φ x ∧ (cells x).length = ls.length ∧ ∀ j v, (cells x)[j]? = some v → w.cell? ((a'.add (i * ls.length)).add j) = some v := by
   intro k
   induction k with
   | zero => intro _; exact ⟨[], rfl, fun i x hx => by simp at hx⟩
   | succ k ih =>
    intro hk
    obtain ⟨l, hl, hall⟩ := ih ye
    obtain ⟨y, hy⟩ := key k ye
    refine ⟨l ++ [y], by simp [hl], fun i x hx => ?_⟩
    by_cases hi : i < l.length
    ·rw [List.getElem?_append_left hi] at hx; exact hall i x hx
    ·rw [List.getElem?_append_right ye] at hx
     have hi2 : i = k := by
      have := (List.getElem?_eq_some_iff.1 hx).1
      simp at this; omega
     subst hi2
     rw [hl, Nat.sub_self] at hx
     obtain rfl := Option.some.inj hx
     exact hy
  obtain ⟨l, hl, hall⟩ := build len (NR _)
  subst hl
  refine ⟨some a', cap, l, (List.cons.inj e).1, ⟨by omega, by omega⟩, fun x hx => ?_, fun hne => ?_⟩
  ·obtain ⟨i, hi⟩ := List.getElem?_of_mem hx
   exact (hall i x hi).1
  obtain ⟨ab, ao, asp⟩ := a'
  cases l with
  | nil => exact absurd rfl hne
  | cons y l =>
   obtain ⟨_, h5, h6⟩ := hall 0 y rfl
   have h0 := h6 0 _ (GE ye)
   have hsp : asp = none := by simpa [Addr.add] using World.cell?_spot h0
   subst hsp
   refine ⟨ab, ao, rfl, by simpa [Addr.add] using cell_block h0, fun i x hx j v hv => ?_⟩
   have := (hall i x hx).2.2 j v hv
   rwa [Addr.add_mid, Addr.add_mid] at this
end
end Vg
namespace Adm
open Go Vg Go.ChangeShapes Go.WideShapes Go.ChangeAt Go.RowKit Sched Conf
theorem confFlat : flatT Tryz.prog 3 24 = some [3, 3, 3, 22, 3, 3, 3, 3, 3, 3, 3, 3] := by kernel_rfl
theorem intFlat : flatT Tryz.prog 1 3 = some [3] := by kernel_rfl
section
variable {H : Type} {enc : TypeId × Value → H} {w : World} {base : Nat} {spare : Nat → Bool} {held : Bool}
theorem leaf_ints {v : Value} (h : Leaf enc Tryz.prog w base spare held 22 v) : ∃ a tc l, v = .slice a (l : List Int).length tc ∧ l.length ≤ tc ∧ IntsIn (fun b => b < w.heap.size) w a l := by
 obtain ⟨fuel, x, hf⟩ := h
 obtain ⟨a, tc, l, e, h1, h2, h3⟩ := open_rows (α := Int) (fun x => [.int .i64 x]) (fun _ => True) Tryz.underlying22 intFlat yl yn (fun cs hl hc => by
  match cs, hl, hc with
  | [c], _, hc =>
   obtain ⟨n, rfl, _⟩ := (hc 0 c _ rfl rfl).int Tryz.underlying3
   exact ⟨n, rfl, trivial⟩) hf
 refine ⟨a, tc, l, e, h1.1, ⟨fun hne => ?_⟩⟩
 obtain ⟨b, off, h4, h5, h6⟩ := h3 hne
 refine ⟨b, off, h4, h5, fun i v hv => ?_⟩
 have := h6 i v hv 0 _ rfl
 simpa using this
theorem leaf_conf {cs : List Value} (hl : cs.length = 12) (h3 : ∀ (i : Nat) (v : Value) (u : TypeId), cs[i]? = some v → ([3, 3, 3, 22, 3, 3, 3, 3, 3, 3, 3, 3] : List TypeId)[i]? = some u → Leaf enc Tryz.prog w base spare held u v) :
  ∃ (c : ConfM) (a : Option Addr) (cap : Nat), cs = c.cells a cap ∧ c.qs.length ≤ cap ∧ IntsIn (fun b => b < w.heap.size) w a c.qs := by
 match cs, hl, h3 with
 | [c0, c1, c2, c3, c4, c5, c6, c7, c8, c9, c10, c11], _, h3 =>
 obtain ⟨n0, rfl, _⟩ := (h3 0 c0 _ rfl rfl).int Tryz.underlying3
 obtain ⟨n1, rfl, _⟩ := (h3 1 c1 _ rfl rfl).int Tryz.underlying3
 obtain ⟨n2, rfl, _⟩ := (h3 2 c2 _ rfl rfl).int Tryz.underlying3
 obtain ⟨a3, cap3, l3, rfl, hc3, hq3⟩ := leaf_ints (h3 3 c3 _ rfl rfl)
 obtain ⟨n4, rfl, _⟩ := (h3 4 c4 _ rfl rfl).int Tryz.underlying3
 obtain ⟨n5, rfl, _⟩ := (h3 5 c5 _ rfl rfl).int Tryz.underlying3
 obtain ⟨n6, rfl, _⟩ := (h3 6 c6 _ rfl rfl).int Tryz.underlying3
 obtain ⟨n7, rfl, _⟩ := (h3 7 c7 _ rfl rfl).int Tryz.underlying3
 obtain ⟨n8, rfl, _⟩ := (h3 8 c8 _ rfl rfl).int Tryz.underlying3
 obtain ⟨n9, rfl, _⟩ := (h3 9 c9 _ rfl rfl).int Tryz.underlying3
 obtain ⟨n10, rfl, _⟩ := (h3 10 c10 _ rfl rfl).int Tryz.underlying3
 obtain ⟨n11, rfl, _⟩ := (h3 11 c11 _ rfl rfl).int Tryz.underlying3
 exact ⟨⟨n0, n1, n2, l3, n4, n5, n6, n7, n8, n9, n10, n11⟩, a3, cap3, rfl, hc3, hq3⟩
theorem okWide_agg {P : Program} {r : Reach} {t : TypeId} {v : Value} {fs : Array Field} (ht : P.underlying t = some (.struct fs)) (h : Value.okWide P w r base t v) : ∃ cs : List Value, v = .agg cs.toArray := by
 unfold Value.okWide at h
 rw [ht] at h
 obtain ⟨cs, h, _⟩ := h
 exact ⟨cs.toList, by rw [h]⟩
theorem open_conf {base0 : Nat} {v : Value} {d : DataW H} {ps : List MemPlace} (hval : Value.okWide Tryz.prog w .any base0 24 v) (h : DataW.Trod enc Tryz.prog w base spare held 24 v d ps) :
  ∃ (c : ConfM) (a : Option Addr) (cap : Nat), v = .agg (c.cells a cap).toArray ∧ c.qs.length ≤ cap ∧ IntsIn (fun b => b < w.heap.size) w a c.qs := by
 obtain ⟨cs, rfl⟩ := okWide_agg Tryz.underlying24 hval
 obtain ⟨fuel, hf⟩ := h
 obtain ⟨h1, h2⟩ := flatT_ok 3 _ _ confFlat fuel cs _ hf
 obtain ⟨c, a, cap, rfl, h3, h4⟩ := leaf_conf h1 h2
 exact ⟨c, a, cap, rfl, h3, h4⟩
end
end Adm
namespace Nd
open Go Vg T Api Kv Ch Lg Rd Win Adm Sched Conf Rep
attribute [local irreducible] VO VC VA
structure XAct where
 kind : Nat
 a : Nat
 b : Nat
 c : Nat
 op : OpM
 from_ : Int
 f : FrameM
 ma : Option Addr
 mn : Nat
 mc : Nat
def XAct.bad (x : XAct) : Bool := decide (200 < x.op.key.size) || (decide (200 < x.op.value.size) || (decide (200 < x.f.op.key.size) || (decide (200 < x.f.op.value.size) || (decide (200 < x.f.entry.op.key.size) || (decide (200 < x.f.entry.op.value.size) || (decide (200 < x.f.res.value.size) || decide (10 < x.mn)))))))
def greatB (l : List XAct) (most : Int) : Bool := l.any XAct.bad || decide (most < l.length)
end Nd
namespace Nd
open Go Vg T Api Kv Ch Lg Rd Win Adm Sched Conf Rep
attribute [local irreducible] VO VC VA
def waitsN (R : RepM) (k : Nat) : Int := R.rds.l.length + ((List.range k).map fun i => R.adm.sch.lenM (i : Nat)).sum
theorem waitsN_succ (R : RepM) (k : Nat) : waitsN R (k + 1) = waitsN R k + R.adm.sch.lenM k := by
 unfold waitsN
 rw [List.range_succ, List.map_append, List.sum_append]; simp; omega
theorem mem_sum {l : List Nat} {a : Nat} (h : a ∈ l) : a ≤ l.sum := by
 induction l with
 | nil => cases h
 | cons b l ih =>
  rw [List.sum_cons]
  rcases List.mem_cons.1 h with rfl | h
  ·omega
  ·have := ih h; omega
theorem len_le {S : SchM} (wf : S.Wf) (k : Nat) : 0 ≤ S.lenM k ∧ S.lenM k ≤ 64 := by
 rw [len_qs]
 split
 ·rename_i q hq
  have h1 : q ∈ S.qs := ME hq
  obtain ⟨c, hc, rfl⟩ := List.mem_map.1 h1
  have h2 := wf.few S.cls.length
  rw [List.take_length, List.length_flatMap] at h2
  have h3 : c.q.length ≤ ((S.cls.map fun c => c.q.length)).sum := mem_sum (List.mem_map_of_mem hc)
  exact ⟨by omega, by omega⟩
 ·exact ⟨Int.le_refl _, by decide⟩
end Nd
namespace Nd
open Go Vg Api Kv Ch Lg Rd Win Adm Sched Conf Rep
theorem sum_rng : ∀ (l : List (List FrameM)) (n : Nat), l.length ≤ n → ((List.range n).map fun i : Nat => (match l[i]? with | some q => (q.length : Int) | none => 0)).sum = (totQ l : Int)
 | [], n, _ => by
  show _ = (0 : Int)
  induction n with
  | zero => rfl
  | succ n ih =>
   rw [List.range_succ, List.map_append, List.sum_append, ih (Nat.zero_le _)]; rfl
 | q :: l, 0, h => by simp at h
 | q :: l, n + 1, h => by
  have ih := sum_rng l n yc
  rw [List.range_succ_eq_map, List.map_cons, List.sum_cons, List.map_map]
  show (q.length : Int) + ((List.range n).map fun i : Nat => (match l[i]? with | some q => (q.length : Int) | none => 0)).sum = _
  rw [ih]
  simp [totQ]
theorem waits_tot {R : RepM} (wf : R.adm.sch.Wf) : waitsN R 4 = R.rds.l.length + (tot R.adm : Int) := by
 have h4 := wf.n1
 unfold waitsN tot
 rw [← sum_rng R.adm.sch.qs 4 (by unfold SchM.qs; rw [List.length_map]; exact h4)]
 congr 2
 apply List.map_congr_left
 intro i _
 exact len_qs _ _
theorem tot_flat (A : AdmM) : tot A = A.sch.qs.flatten.length := by unfold tot totQ; rw [List.length_flatten]
theorem tot_offer {A : AdmM} {f : FrameM} {now : Int} (h0 : (A.offerM f now).1 = 0) : tot (A.offerM f now).2 = tot A + 1 := by
 obtain ⟨hm, hb, hz, hd, hp, e⟩ := offer_in h0
 obtain ⟨⟨k, hk, hlt⟩, ho⟩ := may_cls hm
 have hq : A.sch.qs[k]? = some (A.sch.cls[k].q) := by simp [SchM.qs, GE hlt]
 obtain ⟨p1, p2, p3⟩ := push_qs hk hq ho
 have hlt2 : (A.sch.cls[k].q).length < A.sch.cap := by
  apply Decidable.byContradiction
  intro hn; rw [if_neg hn] at p1; rw [p1] at hp; cases hp
 rw [if_pos hlt2] at p2
 rw [tot_flat, tot_flat, e]
 show (A.sch.pushM f).2.qs.flatten.length = _
 rw [p2, (flat_snoc hq).length_eq]; rfl
section
variable {C : ConfM} {R : RepM}
theorem waits_sch {R Q : RepM} (h1 : Q.adm.sch = R.adm.sch) (h2 : Q.rds = R.rds) : waitsN Q 4 = waitsN R 4 := by unfold waitsN; rw [h1, h2]
end
end Nd
namespace Cl
open Go Vg T Api Ch Rep Conf Lg Rd Nd Adm
theorem in_of {n : Int} (h0 : 0 ≤ n) (h1 : n ≤ 1099511627776) : inN n = true := by unfold inN; simp [h0, h1]
def ResB (r : ResM) : Prop := (1 ≤ r.code ∧ r.code ≤ 3) ∧ r.value.size ≤ 64 ∧ (0 ≤ r.version ∧ r.version ≤ 4096) ∧ (0 ≤ r.at_ ∧ r.at_ ≤ 4096)
def KvB (S : Kv.KvM) : Prop := ∀ x ∈ S, x.2.1.size ≤ 64 ∧ 0 ≤ x.2.2 ∧ x.2.2 ≤ 4096
theorem resB_mk {c n i : Int} {v : ByteArray} (hc : 1 ≤ c ∧ c ≤ 3) (hv : v.size ≤ 64) (hn : 0 ≤ n ∧ n ≤ 4096) (hi : 0 ≤ i ∧ i ≤ 4096) : ResB ⟨c, v, n, i⟩ := ⟨hc, hv, hn, hi⟩
theorem nilB_few : Kv.nilB.size ≤ 64 := by decide
theorem KvB.got {S : Kv.KvM} (h : KvB S) (k : ByteArray) : ((mGet S k).getD (Kv.nilB, 0)).1.size ≤ 64 ∧ 0 ≤ ((mGet S k).getD (Kv.nilB, 0)).2 ∧ ((mGet S k).getD (Kv.nilB, 0)).2 ≤ 4096 := by
 cases hg : mGet S k with
 | none => exact ⟨nilB_few, Int.le_refl _, by show (0 : Int) ≤ 4096; omega⟩
 | some v => exact h _ (mGet_mem hg)
theorem apply_b {S : Kv.KvM} (h : KvB S) {i : Int} {o : OpM} (g1 : opCheck o = 0) (g2 : o.kind ≠ 1) (g3 : 1 ≤ i) (g4 : i ≤ 4096) : KvB (Kv.kvApply S i o).1 ∧ ResB (Kv.kvApply S i o).2 := by
 obtain ⟨-, -, hv, -⟩ := op_bad g1
 unfold Kv.kvApply
 rw [if_neg ye, if_neg g2]
 by_cases h3 : o.kind = 3
 ·rw [if_pos h3]
  cases hg : mGet S o.key with
  | none => exact ⟨h, resB_mk ye nilB_few ye ye⟩
  | some v => exact ⟨fun x hx => h x (mDel_mem hx), resB_mk ye nilB_few ye ye⟩
 rw [if_neg h3]
 have hk := h.got o.key
 split
 ·exact ⟨h, resB_mk ye hk.1 hk.2 ye⟩
 ·refine ⟨fun x hx => ?_, resB_mk ye nilB_few ye ye⟩
  rcases mPut_mem hx with h5 | rfl
  ·exact h x h5
  ·exact ⟨hv, by show 0 ≤ i ∧ i ≤ 4096; omega⟩
theorem run_b : ∀ (es : List EntryM) (x : Kv.KvM × List ResM), KvB x.1 → (∀ r ∈ x.2, ResB r) → (∀ e ∈ es, opCheck e.op = 0 ∧ e.op.kind ≠ 1 ∧ 1 ≤ e.index ∧ e.index ≤ 4096) → ∀ r ∈ (es.foldl logStep x).2, ResB r
 | [], x, _, hx, _ => hx
 | e :: es, x, hs, hx, hg => by
  obtain ⟨g1, g2, g3, g4⟩ := hg e (List.mem_cons_self ..)
  have hb := apply_b hs g1 g2 g3 g4
  refine run_b es (logStep x e) hb.1 (fun r hr => ?_) (fun y hy => hg y (List.mem_cons_of_mem _ hy))
  rcases List.mem_append.1 hr with hr | hr
  ·exact hx r hr
  ·rw [List.mem_singleton.1 hr]; exact hb.2
structure NdC (C : ConfM) (R : RepM) : Prop where
 cl : C.clients = R.clients
 lok : LogOk R.log
 ch : inN R.ch.epoch = true
section
variable {C : ConfM} {R : RepM}
theorem NdC.same (i : NdC C R) {Q : RepM} (h1 : Q.clients = R.clients) (h2 : Q.log = R.log) (h3 : Q.ch = R.ch) : NdC C Q := ⟨i.cl.trans h1.symm, by rw [h2]; exact i.lok, by rw [h3]; exact i.ch⟩
theorem NdC.pushE (i : NdC C R) {x : EntryM} (h : logErr R.log x = 0) : NdC C (pushE R x) := ⟨i.cl, i.lok.snoc h, i.ch⟩
theorem NdC.finish (i : NdC C R) : NdC C R.finishR := by unfold RepM.finishR; split <;> exact i.same rfl rfl rfl
theorem NdC.become (i : NdC C R) : NdC C R.becomeR := by unfold RepM.becomeR; split <;> exact i.same rfl rfl rfl
theorem ch_in {c : ChM} (h : chE c = 0) : inN c.epoch = true := by
 unfold chE at h
 split at h
 ·rename_i h1
  simp only [chOk, headOk, Bool.and_eq_true, decide_eq_true_eq] at h1
  exact in_of ye h1.1.2.1
 ·cases h
theorem NdC.enter (i : NdC C R) {c : ChM} (hc : chE c = 0) : NdC C (enterR R c).1 := by
 have h5 : NdC C (ent5 R c) := by
  have h4 : NdC C (ent4 R c) := ⟨i.cl, by
   show LogOk (if nlB R c then [] else R.log)
   split
   ·intro k e he; cases he
   ·exact i.lok, ch_in hc⟩
  unfold Rep.ent5
  split
  ·exact h4.same rfl rfl rfl
  ·exact h4
 exact h5.finish
theorem NdC.take (i : NdC C R) (from_ : Int) (f : FrameM) (ms : List MemM) (now : Int) : NdC C (takeR R from_ f ms now).1 := by
 unfold takeR
 split
 ·split
  ·exact i
  split
  ·exact i
  split
  ·unfold readR
   split
   ·exact i
   ·exact xmu
  ·unfold updateR
   split
   ·exact xmu
   split
   ·exact xmu
   split
   ·exact xmu
   ·exact xmu
 split
 ·split
  ·rename_i h; exact i.enter h.1.2
  ·exact i
 split
 ·split
  ·unfold forwardR
   split
   ·rename_i h; exact (i.pushE h.2).finish.become
   ·exact i
  ·exact i
 split
 ·split
  ·have h2 : NdC C (ack2 R f) := by
    unfold Rep.ack2 Rep.ack1
    dsimp only
    split <;> exact i.same rfl rfl rfl
   exact h2.same rfl rfl rfl
  ·exact i
 split
 ·split
  ·have h2 : NdC C (baseR R f.index) := i.same rfl rfl rfl
   exact h2.become
  ·exact i
 split
 ·split
  ·exact xmu
  ·exact i
 ·exact i
theorem NdC.serve (i : NdC C R) (now : Int) : NdC C (serveR R now).1 := by
 have i1 : NdC C (nextA R now) := i.same rfl rfl rfl
 unfold serveR
 split
 ·exact i1
 split
 ·exact xmu
 ·rename_i h; exact (i1.pushE yav).finish
theorem NdC.loop (now : Int) : ∀ (k : Nat) {R : RepM}, NdC C R → NdC C (serveLoop now k R).1
 | 0, R, i => i
 | k + 1, R, i => by
  unfold serveLoop
  split
  ·split
   ·exact NdC.loop now k (i.serve now)
   ·exact i.serve now
  ·exact i
theorem NdC.step (i : NdC C R) (now : Int) : NdC C (stepR R now).1 := by
 have h1 : NdC C (expR R now) := i.same rfl rfl rfl
 have h2 : NdC C (step2 R now).1 := by
  unfold Rep.step2
  split
  ·exact NdC.loop now 65 h1
  ·exact h1
 show NdC C (step3 R now).1
 unfold step3
 split
 ·exact h2.same rfl rfl rfl
 ·exact h2
theorem NdC.tick (i : NdC C R) : NdC C (tickR R).1 := by
 show NdC C (tick1 R)
 unfold tick1
 split
 ·exact xmu
 ·exact i
theorem NdC.new (c : ConfM) (id : Int) (blank : Bool) : NdC c (newR c id blank) := by
 have key : ∀ (ch : ChM) (s t : Int) (wh : Bool), inN ch.epoch = true → NdC c { newR0 c id with ch := ch, since := s, whole := wh, start := t } := fun ch s t wh h => ⟨rfl, fun k e he => (by cases he), h⟩
 unfold newR
 split
 ·exact key chZ _ _ _ rfl
 split
 ·exact key (firstC c) _ _ _ rfl
 ·exact key (firstC c) _ _ _ rfl
theorem lit_0 (x : Int) (h : 0 ≤ x ∧ x ≤ 10) : 0 ≤ x ∧ x ≤ 10 := h
theorem wait_r (A : AdmM) (f : FrameM) (now : Int) : 0 ≤ (A.waitM f now).1 ∧ (A.waitM f now).1 ≤ 10 := by
 unfold AdmM.waitM
 split
 ·exact lit_0 7 ye
 split
 ·exact lit_0 6 ye
 split
 ·exact lit_0 1 ye
 split
 ·exact lit_0 2 ye
 split
 ·exact lit_0 1 ye
 ·exact lit_0 0 ye
theorem offer_r (A : AdmM) (f : FrameM) (now : Int) : 0 ≤ (A.offerM f now).1 ∧ (A.offerM f now).1 ≤ 10 := by
 have h := wait_r A f now
 unfold AdmM.offerM
 split
 ·split
  ·exact h
  ·exact h
 ·exact lit_0 10 ye
theorem read_r (R : RepM) (f : FrameM) (now : Int) : 0 ≤ readReason R f now ∧ readReason R f now ≤ 10 := by
 unfold readReason
 repeat' split
 all_goals decide
theorem judge3 (fit : R.Fit) (lok : LogOk R.log) (f : FrameM) (h0 : 0 ≤ f.client) (hc : f.client < R.clients) (now : Int) :
  ((judgeM R f now).2.1.code ≠ 0 ∧ ResB (judgeM R f now).2.1 ∧ (judgeM R f now).2.2.sch = R.adm.sch) ∨
  ((judgeM R f now).2.1.code = 0 ∧ (judgeM R f now).1 = 0 ∧ (judgeM R f now).2.2 = (R.adm.offerM f now).2 ∧ (R.adm.offerM f now).1 = 0) ∨
  ((judgeM R f now).2.1.code = 0 ∧ (judgeM R f now).1 ≠ 0 ∧ (judgeM R f now).2.2.sch = R.adm.sch ∧ 0 ≤ (judgeM R f now).1 ∧ (judgeM R f now).1 ≤ 10) := by
 have z : Kv.resZ.code = 0 := rfl
 have no : ∀ (x : Int) (A : AdmM), x ≠ 0 → 0 ≤ x ∧ x ≤ 10 → A.sch = R.adm.sch → judgeM R f now = (x, Kv.resZ, A) → ((judgeM R f now).2.1.code ≠ 0 ∧ ResB (judgeM R f now).2.1 ∧ (judgeM R f now).2.2.sch = R.adm.sch) ∨
  ((judgeM R f now).2.1.code = 0 ∧ (judgeM R f now).1 = 0 ∧ (judgeM R f now).2.2 = (R.adm.offerM f now).2 ∧ (R.adm.offerM f now).1 = 0) ∨
  ((judgeM R f now).2.1.code = 0 ∧ (judgeM R f now).1 ≠ 0 ∧ (judgeM R f now).2.2.sch = R.adm.sch ∧ 0 ≤ (judgeM R f now).1 ∧ (judgeM R f now).1 ≤ 10) := fun x A hx hr hA e => by
  rw [e]
  exact .inr (.inr ⟨z, hx, hA, hr.1, hr.2⟩)
 by_cases c1 : R.adm.may f = false
 ·exact no 10 _ yn yn rfl (by rw [judgeM, if_pos c1])
 by_cases c2 : R.adm.barred f.client f.seq f.try_ = true
 ·exact no 7 _ yn yn rfl (by rw [judgeM, if_neg c1, if_pos c2])
 by_cases c3 : R.knownB f = false
 ·exact no 5 _ yn yn rfl (by rw [judgeM, if_neg c1, if_neg c2, if_pos c3])
 by_cases c4 : R.headB = false
 ·exact no 4 _ yn yn rfl (by rw [judgeM, if_neg c1, if_neg c2, if_neg c3, if_pos c4])
 by_cases c5 : R.whole = false
 ·exact no 8 _ yn yn rfl (by rw [judgeM, if_neg c1, if_neg c2, if_neg c3, if_neg c4, if_pos c5])
 by_cases c6 : R.drainsB = true
 ·exact no 3 _ yn yn rfl (by rw [judgeM, if_neg c1, if_neg c2, if_neg c3, if_neg c4, if_neg c5, if_pos c6])
 by_cases c7 : f.seq = (lastR R.log f.client).1 ∧ R.win.done < (lastR R.log f.client).2
 ·exact no 6 _ yn yn rfl (by rw [judgeM, if_neg c1, if_neg c2, if_neg c3, if_neg c4, if_neg c5, if_neg c6, if_pos c7])
 by_cases c8 : f.seq = (lastR R.log f.client).1
 ·have e : judgeM R f now = (0, (atI (logRun R.log).2 (lastR R.log f.client).2).getD Kv.resZ, R.adm) := by rw [judgeM, if_neg c1, if_neg c2, if_neg c3, if_neg c4, if_neg c5, if_neg c6, if_neg c7, if_pos c8]
  have hs1 : 1 ≤ f.seq := by
   obtain ⟨-, m2, -⟩ := may_client (A := R.adm) (f := f) (by simpa using c1)
   simp only [numM, Bool.and_eq_true, decide_eq_true_eq] at m2
   exact m2.1
  have hcl := fit.cl
  have hl : lastR R.log f.client = lastOf R.log f.client := by unfold lastR; rw [if_pos ye]
  have hidx : 1 ≤ (lastR R.log f.client).2 := by
   rw [hl] at c8 ⊢
   rcases lastOf_mem R.log f.client with h | ⟨x, hx, h, _⟩
   ·rw [h] at c8; dsimp only at c8; omega
   ·rw [h]; exact (fit.ok.logi x hx).1
  have hl1 := fit.ok.win.last1
  rw [fit.ok.last] at hl1
  obtain ⟨j, r, _, _, hr, hat⟩ := atI_some (l := (logRun R.log).2) (i := (lastR R.log f.client).2) hidx (by rw [logRun_len]; exact (fit.ok.lasti f.client).2)
  have hb := run_b R.log ([], []) (fun x hx => by cases hx) (fun r hr => by cases hr) (fun e he => LogOk.good lok ye he) r (ME hr)
  rw [e, hat]
  exact .inl ⟨by show r.code ≠ 0; have := hb.1; omega, hb, rfl⟩
 by_cases c9 : f.seq < (lastR R.log f.client).1
 ·exact no 7 _ yn yn rfl (by rw [judgeM, if_neg c1, if_neg c2, if_neg c3, if_neg c4, if_neg c5, if_neg c6, if_neg c7, if_neg c8, if_pos c9])
 by_cases c10 : 4096 ≤ R.log.length
 ·exact no 1 _ yn yn rfl (by rw [judgeM, if_neg c1, if_neg c2, if_neg c3, if_neg c4, if_neg c5, if_neg c6, if_neg c7, if_neg c8, if_neg c9, if_pos c10])
 have e : judgeM R f now = ((R.adm.offerM f now).1, Kv.resZ, (R.adm.offerM f now).2) := by rw [judgeM, if_neg c1, if_neg c2, if_neg c3, if_neg c4, if_neg c5, if_neg c6, if_neg c7, if_neg c8, if_neg c9, if_neg c10]
 by_cases hz : (R.adm.offerM f now).1 = 0
 ·rw [e]; exact .inr (.inl ⟨z, hz, rfl, hz⟩)
 ·exact no _ _ hz (offer_r _ _ _) (offer_not now hz).1 e
def Puts (f : FrameM) : Prop := ∃ t, putM f [] = some t ∧ t.length ≤ 512
theorem puts_refuse {e x : Int} {f : FrameM} (he : inN e = true) (hc : inN f.client = true) (hs : inN f.seq = true) (ht : inN f.try_ = true) (hx : 0 ≤ x ∧ x ≤ 10) : Puts (refuseF e f x) := by
 have hm : mayM (refuseF e f x) [] = true := by
  unfold mayM mayB
  simp only [Bool.and_eq_true, decide_eq_true_eq, List.all_eq_true]
  refine ⟨by show (1 : Int) ≤ 3 ∧ (3 : Int) ≤ 12; decide, fun o ho => ?_, ?_⟩
  ·have ho : o ∈ [1, 2, 3, 4, 15] := ho
   simp only [List.mem_cons, List.not_mem_nil, or_false] at ho
   rcases ho with rfl | rfl | rfl | rfl | rfl
   ·exact he
   ·exact hc
   ·exact hs
   ·exact ht
   ·exact in_of hx.1 (by show x ≤ _; omega)
  ·rfl
 have hl : (putB (refuseF e f x) []).length ≤ 512 := by
  have e1 : putB (refuseF e f x) [] = (intB 3 ++ [e, f.client, f.seq, f.try_, x].flatMap intB) ++ [] := rfl
  have h0 := intB_len 3
  have h1 := intB_len e
  have h2 := intB_len f.client
  have h3 := intB_len f.seq
  have h4 := intB_len f.try_
  have h5 := intB_len x
  rw [e1]
  simp only [List.flatMap_cons, List.flatMap_nil, List.length_append, List.length_nil]
  omega
 exact ⟨_, by unfold putM; rw [if_pos hm, if_neg ye], hl⟩
theorem puts_reply {c s t : Int} {r : ResM} (hc : inN c = true) (hs : inN s = true) (ht : inN t = true) (hr : ResB r) : Puts (replyF c s t r) := by
 obtain ⟨⟨r1, r2⟩, r3, r4, r5⟩ := hr
 have hm : mayM (replyF c s t r) [] = true := by
  unfold mayM mayB
  simp only [Bool.and_eq_true, decide_eq_true_eq, List.all_eq_true]
  refine ⟨by show (1 : Int) ≤ 2 ∧ (2 : Int) ≤ 12; decide, fun o ho => ?_, ?_⟩
  ·have ho : o ∈ [2, 3, 4] := ho
   simp only [List.mem_cons, List.not_mem_nil, or_false] at ho
   rcases ho with rfl | rfl | rfl
   ·exact hc
   ·exact hs
   ·exact ht
  ·show (decide (1 ≤ r.code) && decide (r.code ≤ 3) && decide (r.value.size ≤ 64) && (inN r.version && inN r.at_)) = true
   simp only [Bool.and_eq_true, decide_eq_true_eq]
   exact ⟨⟨⟨r1, r2⟩, r3⟩, in_of r4.1 (by show r.version ≤ _; omega), in_of r5.1 (by show r.at_ ≤ _; omega)⟩
 have hl : (putB (replyF c s t r) []).length ≤ 512 := by
  have e1 : putB (replyF c s t r) [] = (intB 2 ++ [c, s, t].flatMap intB) ++ (intB r.code ++ textB (sB r.value) ++ intB r.version ++ intB r.at_) := rfl
  have h0 := intB_len 2
  have h1 := intB_len c
  have h2 := intB_len s
  have h3 := intB_len t
  have h4 := intB_len r.code
  have h5 := textB_len (sB r.value)
  have h6 := intB_len r.version
  have h7 := intB_len r.at_
  rw [sB_len] at h5
  rw [e1]
  simp only [List.flatMap_cons, List.flatMap_nil, List.length_append, List.length_nil]
  omega
 exact ⟨_, by unfold putM; rw [if_pos hm, if_neg ye], hl⟩
def OutB (R : RepM) (cl : Int) (Q : RepM × List SndM) : Prop :=
 (∃ fr, Puts fr ∧ Q.2 = [(32 + cl, fr)] ∧ waitsN Q.1 4 = waitsN R 4) ∨ ((∀ s ∈ Q.2, s.1 = 16) ∧ waitsN Q.1 4 = waitsN R 4 + 1)
theorem call_b (fit : R.Fit) (i : NdC C R) (from_ : Int) {f : FrameM} (h1 : f.kind = 1) (h0 : 0 ≤ f.client) (hc : f.client < R.clients) (ic : inN f.client = true) (is : inN f.seq = true) (it : inN f.try_ = true) (ms : List MemM) (now : Int) : OutB R f.client (takeR R from_ f ms now) := by
 rw [take_call h1 h0 hc]
 have he := i.ch
 by_cases hr : Rep.readsB f.op = true
 ·rw [if_pos hr]
  unfold readR
  split
  ·exact .inl ⟨_, puts_refuse he ic is it (read_r R f now), rfl, rfl⟩
  ·rename_i hx
   have hx : readReason R f now = 0 := by simpa using hx
   have room : (R.rds.l.length : Int) < R.rds.cap := by
    rw [← fit.most]
    apply Decidable.byContradiction
    intro hn
    unfold readReason at hx
    repeat' split at hx
    all_goals first | (exact absurd hx yn) | omega
   refine .inr ⟨fun s hs => by rw [List.mem_singleton.1 hs], ?_⟩
   unfold waitsN
   show ((R.rds.put f _).l.length : Int) + _ = _
   unfold RdsM.put
   rw [if_pos room]
   show ((R.rds.l ++ [_]).length : Int) + _ = _
   rw [List.length_append]
   show ((R.rds.l.length + 1 : Nat) : Int) + _ = _
   push_cast; omega
 rw [if_neg hr]
 have ok2 := updateR_ok fit.ok f now
 unfold updateR at ok2 ⊢
 rcases judge3 fit i.lok f h0 hc now with ⟨j1, j2, j3⟩ | ⟨j1, j2, j3, j4⟩ | ⟨j1, j2, j3, j4⟩
 ·rw [if_pos j1]
  exact .inl ⟨_, puts_reply ic is it j2, rfl, waits_sch j3 rfl⟩
 ·rw [if_neg (fun k => k j1), if_pos j2] at ok2 ⊢
  refine .inr ⟨fun s hs => (by cases hs), ?_⟩
  have w1 := waits_tot ok2.wf.sch
  have w2 := waits_tot fit.ok.wf.sch
  rw [w1, w2]
  show (R.rds.l.length : Int) + (tot (judgeM R f now).2.2 : Int) = _
  rw [j3, tot_offer j4]
  push_cast; omega
 ·rw [if_neg (fun k => k j1), if_neg j2]
  split
  ·exact .inl ⟨_, puts_refuse he ic is it j4, rfl, waits_sch (by show ((judgeM R f now).2.2.barM _ _ _).2.sch = _; rw [barM_sch, j3]) rfl⟩
  ·exact .inl ⟨_, puts_refuse he ic is it j4, rfl, waits_sch j3 rfl⟩
end
end Cl
namespace Cl
open Go Vg T Api Ch Rep Conf Lg Rd
attribute [local irreducible] VO VC VA
abbrev doT : TypeId := 28
def StpM.cells (s : StpM) : List Value := [.int .i64 s.kind, .int .i64 s.a, .int .i64 s.b, .int .i64 s.c] ++ s.op.cells
theorem dead_if (C : CluM) (c : Int) : C.dead c = if 1099511627776 < C.now + (if 1099511627776 < (if c < 0 then 0 else c) then 1099511627776 else (if c < 0 then 0 else c)) then 1099511627776 else C.now + (if 1099511627776 < (if c < 0 then 0 else c) then 1099511627776 else (if c < 0 then 0 else c)) := by
 unfold CluM.dead
 repeat' split
 all_goals omega
section
variable {p : Nat} {C : CluM} {b e : Nat}
theorem ucall_spec (ok : C.Ok b e) (hb : b < 100000) (he : e < 1000000) (s : StpM) : Tri Tryz.prog 62 [.pointer (some ⟨p, 0, none⟩), .agg s.cells.toArray] Fr w [cluH p C]
  (fun v L => v = .int .i64 (C.call s).2 ∧ L = [cluH p (C.call s).1]) := by
 obtain ⟨kd, sa, sx, sc, op⟩ := s
 have hcl := ok.clis
 have hev := ok.ev
 have hn0 := ok.n0
 have hn1 := ok.n1
 refine TF 74 Tryz.func62 rfl yl tabOk rfl rfl ?_
 refine CS (CG (VG (VB (vs := (⟨kd, sa, sx, sc, op⟩ : StpM).cells) rfl fun sb => VO.opn 1 rfl (HOpn.clu p C) ?_)))
 rintro y fit
 have hln := cli_len fit
 refine VO.ent (L' := pt sb (⟨kd, sa, sx, sc, op⟩ : StpM).cells doT :: cluL p C y) (IP 10 rfl Imp.refl).ent ?_
 refine xjg ?_
 refine CD (ts 0 13 .nil) yl yq ?_
 refine xfr ?_
 by_cases h0 : sa < 0
 ·have hc : C.cli sa = none := by unfold CluM.cli; rw [if_pos h0]
  have hr : C.call ⟨kd, sa, sx, sc, op⟩ = (C, 4) := by unfold CluM.call; dsimp only; rw [hc]
  refine AG (AY 12 true rfl (DT h0) ?_)
  refine xkt ?_
  refine zoe ?_
  exact xmv
 obtain ⟨k, rfl⟩ : ∃ k : Nat, sa = k := ⟨sa.toNat, by omega⟩
 refine AG (AY 12 false rfl (DF h0) ?_)
 refine xfr ?_
 refine CP (p := (y.cr.length : Int) ≤ k) rfl (fun h1 => ?_) (fun h1 => CK ?_)
 ·have hc : C.cli (k : Int) = none := by
   unfold CluM.cli
   rw [if_neg h0, Int.toNat_natCast, List.getElem?_eq_none ye]
  have hr : C.call ⟨kd, k, sx, sc, op⟩ = (C, 4) := by unfold CluM.call; dsimp only; rw [hc]
  refine xjg ?_
  exact xmv
 have hk : k < y.cr.length := by omega
 have hx2 : y.cr[k]? = some y.cr[k] := GE hk
 generalize y.cr[k] = z at hx2
 obtain ⟨q, x⟩ := z
 obtain ⟨hcx, hcs⟩ := cli_at fit hx2
 have hm : x ∈ C.clis := ME hcs
 have hsq := ok.seq x hm
 have okx := ok.cok x hm
 have okc := okx.call op sx (C.dead sc) C.now
 have hrc := ok.rc
 have fw : FewS (x.call op sx (C.dead sc) C.now).2 := CliM.call_few x op sx (C.dead sc) C.now
 have hr0 : x.callE op sx (C.dead sc) ≠ 0 → C.call ⟨kd, k, sx, sc, op⟩ = (C, x.callE op sx (C.dead sc)) := fun h => by
  unfold CluM.call; dsimp only; rw [hcx]; dsimp only; rw [if_pos h]
 have hr1 : x.callE op sx (C.dead sc) = 0 → C.call ⟨kd, k, sx, sc, op⟩ = (({ C.setCli k (x.call op sx (C.dead sc) C.now).1 with his := C.his.call k (x.call op sx (C.dead sc) C.now).1.seq op, lnk := postL (32 + k) C.lnk (x.call op sx (C.dead sc) C.now).2 } : CluM), 0) := fun h => by
  unfold CluM.call; dsimp only; rw [hcx]; dsimp only; rw [if_neg ybu]; rfl
 refine CS (CD (ts 0 9 .nil) yl yq ?_)
 refine xfr ?_
 refine AG (AI rfl (light_idx k rfl rfl rfl rfl rfl rfl hk) ?_)
 refine AG (yE rfl rfl rfl (RdL.one 5 rfl (cli_cell hx2)) ?_)
 refine xfr ?_
 refine CS (CD (ts 0 11 .nil) yl yq ?_)
 refine xfr ?_
 refine xed ?_
 refine xfr ?_
 refine CN (L' := pt sb (⟨kd, k, sx, sc, op⟩ : StpM).cells doT :: cliH q x :: ccL p C y k C.lnk C.his) (Imp.cons (cli_out hx2)).ent ?_
 refine xjg ?_
 refine CD (ts 0 10 (.only 10 (ts 11 5 .nil))) yl yq ?_
 refine xfs ?_
 refine AG (VA.ldA 0 op.cells rfl rfl rfl rfl rfl ?_)
 refine xfs ?_
 refine AG (AQ 1 rfl (fun Fr w hF hs hS => vccall_spec Fr w okx ye op sx (C.dead sc) C.now) rfl (by rw [dead_if]; rfl) yce ?_ ?_)
 ·rintro _ _ ⟨X, a, c, hX, rfl, rfl⟩
  exact ycf
 rintro _ _ ⟨X, a, c, hX, rfl, rfl⟩
 refine xfs ?_
 refine xjg ?_
 refine VC.condNE rfl (fun k1 => ?_) (fun k1 => CK ?_)
 ·refine xjg ?_
  refine CR (Ret.tmp 4 rfl rfl (Imp.tail.trans (cli_shut (R := []) fit hx2)).ent ⟨by rw [hr0 k1], ?_⟩)
  rw [hr0 k1, (call_bad rfl k1).1]
  have : C.setCli (k : Int) x = C := by unfold CluM.setCli; rw [Int.toNat_natCast, set_same hcs]
  rw [this]
 have hr := hr1 ycd
 have hss := ccall_seq x op sx (C.dead sc) C.now
 generalize x.call op sx (C.dead sc) C.now = X2 at hX okc fw hr hss
 obtain ⟨x', S'⟩ := X2
 dsimp only at hX okc fw hr hss ⊢
 refine CS (CD (ts 0 7 (ts 8 2 (.only 7 (.only 10 .nil)))) yl yq ?_)
 refine xfs ?_
 refine AG (VA.ldA 0 op.cells rfl rfl rfl rfl rfl ?_)
 refine AG (AR (fun Fr w hF hw hS => vseq_spec Fr w okc (((hS.at_ 1 rfl).sep).at_ 0 rfl)) rfl rfl ycf ?_)
 refine AG (AQ 8 rfl (fun Fr w hF hs hS => hcall_spec Fr w ok.his ye k x'.seq op) rfl rfl (ψ := fun v H => v = .int .i64 (C.his.callE k x'.seq op) ∧ H = hisH y.hp (C.his.call k x'.seq op)) yx ?_ ?_)
 ·rintro _ _ ⟨rfl, rfl⟩
  exact ycf
 rintro _ _ ⟨rfl, rfl⟩
 refine xfs ?_
 refine xdi ?_
 refine VG (VP rfl rfl yba yba ?_)
 refine xdi ?_
 refine VG (VQ 7 rfl (fun Fr w hF hs hS => usend_spec Fr w (hS.blk 2 rfl) ok.lnk (32 + k) (SdIn.at_ 1 hS rfl hX fw)) rfl (ψ := fun v H => v = .tuple #[] ∧ H = lnkH y.lp (postL (32 + k) C.lnk (X.map Prod.fst))) yx ?_)
 rintro _ _ ⟨rfl, rfl⟩
 refine xdi ?_
 rw [hX]
 exact CR (Ret.tmp 4 rfl rfl ((Imp.tail (H := pt sb _ doT)).trans (cli_shut (p := p) (R := []) (s' := x') (hi := C.his.call k x'.seq op) (l := postL (32 + k) C.lnk S') (a := a) (c := c) (X := X) fit hx2)).ent ⟨by rw [hr], by rw [hr]⟩)
end
end Cl
namespace Cl
open Go Vg T Api Ch Rep Conf Lg Rd
attribute [local irreducible] VO VC VA
section
variable {p : Nat} {C : CluM} {b e : Nat}
theorem fold_succ {α : Type} (f : α → Nat → α) (x : α) (k : Nat) : (List.range (k + 1)).foldl f x = f ((List.range k).foldl f x) k := by
 rw [List.range_succ, List.foldl_append]; rfl
theorem tickN_len (C : CluM) (n : Nat) : (C.tickN n).nodes.length = C.nodes.length ∧ (C.tickN n).clis = C.clis ∧ (C.tickN n).now = C.now ∧ (C.tickN n).conf = C.conf ∧ (C.tickN n).done = C.done := by
 unfold CluM.tickN
 split
 ·exact xja
 ·exact ⟨List.length_set, rfl, rfl, rfl, rfl⟩
theorem utick_spec (ok : C.Ok b e) : Tri Tryz.prog 65 [.pointer (some ⟨p, 0, none⟩)] Fr w [cluH p C]
  (fun v L => v = .tuple #[] ∧ L = [cluH p C.tick]) := by
 have hcl := ok.clis
 have hnd := ok.nods
 have hn0 := ok.n0
 have hn1 := ok.n1
 refine TF 58 Tryz.func65 rfl yl tabOk rfl rfl ?_
 refine xmw ?_
 rintro y fit
 refine xmx ?_
 have hln := cli_len fit
 have hnn := node_len fit
 have hmin : min (C.now + 1) 1099511627776 = if 1099511627776 < C.now + 1 then 1099511627776 else C.now + 1 := by split <;> omega
 generalize hC1 : ({ C with now := min (C.now + 1) 1099511627776 } : CluM) = C1
 have ok1 : C1.Ok b e := hC1 ▸ ok.at_
 have fit1 : CluFit C1 y := hC1 ▸ ⟨fit.nr, fit.cr, fit.qc⟩
 have hnn1 : C1.nodes.length = C.nodes.length := by rw [← hC1]
 have hcc1 : C1.clis.length = C.clis.length := by rw [← hC1]
 refine zoa ?_
 refine VG (VO.st 0 (cs' := cluC C1 y) rfl rfl rfl rfl (by show 12 < 19; omega) (by rw [← hC1, hmin]; rfl) rfl ?_)
 refine VO.ent (L' := cluL p C1 y) (Imp.of_eq (by rw [← hC1]; rfl)).ent ?_
 refine xcv ?_
 have hT : C.tick = (List.range C1.clis.length).foldl CluM.tickC ((List.range C1.nodes.length).foldl CluM.tickN C1) := by
  unfold CluM.tick
  dsimp only
  rw [hC1, ← hnn1]
  have : ∀ (k : Nat), ((List.range k).foldl CluM.tickN C1).clis.length = C1.clis.length := by
   intro k
   induction k with
   | zero => rfl
   | succ k ih => rw [fold_succ, (tickN_len _ _).2.1, ih]
  rw [this]
 refine VC.loop (σ := Nat × List NdG) (fun s => [(0, pV p), (18, .slice (some ⟨y.nb, 0, none⟩) y.nr.length y.nc), (19, .int .i64 y.nr.length), (20, .int .i64 (s.1 : Int))])
  (fun s => cluL p ((List.range s.1).foldl CluM.tickN C1) { y with nr := s.2 })
  (fun s => s.1 ≤ y.nr.length ∧ s.2.length = y.nr.length ∧ CluFit ((List.range s.1).foldl CluM.tickN C1) { y with nr := s.2 }) (fun s => y.nr.length - s.1) (0, y.nr)
  ⟨Nat.zero_le _, rfl, fit1⟩ sbZ ER ?_
 rintro ⟨k, nr⟩ ⟨hk0, hnl, fk⟩
 dsimp only at hk0 hnl fk
 have okk := ok1.tickNs (List.range k)
 have hsu := fold_succ CluM.tickN C1 k
 generalize hD : (List.range k).foldl CluM.tickN C1 = D at okk hsu fk
 refine xjg ?_
 refine CP (p := (k : Int) < y.nr.length) rfl (fun h1 => CK ?_) (fun h1 => CX ?_)
 ·have hkl : k < nr.length := by omega
  have hx2 : nr[k]? = some nr[k] := GE hkl
  generalize nr[k] = z at hx2
  obtain ⟨hnx, hns⟩ := node_at fk (k := k) (x := z) hx2
  refine zog ?_
  refine VG (VD rfl rfl (RdL.one 3 rfl (nod_cell hx2)) ?_)
  cases z with
  | none =>
   have e1 : D.tickN k = D := by unfold CluM.tickN; rw [hns]; rfl
   refine zpe ?_
   refine znx ?_
   exact ⟨(k + 1, nr), ⟨by dsimp only; omega, hnl, by rw [hsu, e1]; exact fk⟩, by dsimp only; omega, SC rfl (SC rfl (SC rfl (Sub.int rfl ye (SN _)))), by dsimp only; rw [hsu, e1]; exact ER⟩
  | some z =>
   obtain ⟨q, r⟩ := z
   have hm : some r ∈ D.nodes := ME hns
   have e1 : D.tickN k = ({ D.setNode k (some (tickR r).1) with lnk := postL k D.lnk (ofS (tickR r).2) } : CluM) := by unfold CluM.tickN; rw [hns]; rfl
   have fw : FewS (ofS (tickR r).2) := FewS.of (by have := tick_few r; omega)
   show VO _ _ _ _ (putE (some 24) (.pointer (some ⟨q, 0, none⟩)) _) _ _
   refine xjg ?_
   refine xdo ?_
   refine CN (L' := repH q r :: cnL p D { y with nr := nr } k D.lnk) (node_out hx2).ent ?_
   refine xdh ?_
   refine VG (VQ 0 rfl (fun Fr w hF hs hS => vtick_spec Fr w (okk.fit r hm).ok D.now) rfl yce ?_)
   rintro _ _ ⟨X, a, c, hX, rfl, rfl⟩
   refine xdh ?_
   refine VG (VQ 6 rfl (fun Fr w hF hs hS => usend_spec Fr w (hS.blk 1 rfl) okk.lnk k (SdIn.at_ 0 hS rfl hX fw)) rfl (ψ := fun v H => v = .tuple #[] ∧ H = lnkH y.lp (postL k D.lnk (X.map Prod.fst))) yx ?_)
   rintro _ _ ⟨rfl, rfl⟩
   rw [hX]
   refine znx ?_
   refine ⟨(k + 1, nr.set k (some (q, (tickR r).1))), ⟨by dsimp only; omega, by dsimp only; rw [List.length_set]; exact hnl, by dsimp only; rw [hsu, e1]; exact node_fit fk k (some (q, (tickR r).1)) _⟩, by dsimp only; omega, SC rfl (SC rfl (SC rfl (Sub.int rfl ye (SN _)))), ?_⟩
   dsimp only
   rw [hsu, e1]
   exact (Imp.trans sentH_open (node_in (y := { y with nr := nr }) (r' := (tickR r).1) (l := postL k D.lnk (ofS (tickR r).2)) hx2)).ent
 have hkn : k = C1.nodes.length := by omega
 rw [hkn] at hD
 rw [hD] at hT
 clear hsu
 subst hkn
 have hDc : D.clis.length = C1.clis.length := by have h := cli_len fk; dsimp only at h; omega
 refine xcv ?_
 refine VC.loop (σ := Nat × List CiG) (fun s => [(0, pV p), (40, .slice (some ⟨y.cb, 0, none⟩) y.cr.length y.cc), (41, .int .i64 y.cr.length), (42, .int .i64 (s.1 : Int))])
  (fun s => cluL p ((List.range s.1).foldl CluM.tickC D) { y with nr := nr, cr := s.2 })
  (fun s => s.1 ≤ y.cr.length ∧ s.2.length = y.cr.length ∧ CluFit ((List.range s.1).foldl CluM.tickC D) { y with nr := nr, cr := s.2 }) (fun s => y.cr.length - s.1) (0, y.cr)
  ⟨Nat.zero_le _, rfl, fk⟩ sbZ ER ?_
 rintro ⟨k, cr⟩ ⟨hk0, hcr, fk⟩
 dsimp only at hk0 hcr fk
 have okk := okk.tickCs (List.range k)
 have hsu := fold_succ CluM.tickC D k
 generalize hE : (List.range k).foldl CluM.tickC D = E at okk hsu fk
 refine xjg ?_
 refine CP (p := (k : Int) < y.cr.length) rfl (fun h1 => CK ?_) (fun h1 => CX ?_)
 rotate_left
 ·have hkn : k = C1.clis.length := by omega
  have : C.tick = E := by rw [hT, ← hE, hkn]
  exact Ret.void rfl (clu_shut (R := []) fk).ent ⟨rfl, by rw [this]⟩
 have hkl : k < cr.length := by omega
 have hx2 : cr[k]? = some cr[k] := GE hkl
 generalize cr[k] = z at hx2
 obtain ⟨q, s⟩ := z
 obtain ⟨hnx, hns⟩ := cli_at fk (k := k) (x := (q, s)) hx2
 have hm : s ∈ E.clis := ME hns
 have e1 : E.tickC k = ({ E.setCli k (s.tick E.now).1 with lnk := postL (32 + k) E.lnk (s.tick E.now).2, his := E.his } : CluM) := by unfold CluM.tickC; rw [hns]; rfl
 have fw : FewS (s.tick E.now).2 := CliM.tick_few s E.now
 refine zog ?_
 refine VG (VD rfl rfl (RdL.one 4 rfl (cli_cell hx2)) ?_)
 refine xjg ?_
 refine xdb ?_
 refine VO.ent (L' := cliH q s :: ccL p E { y with nr := nr, cr := cr } k E.lnk E.his) (cli_out hx2).ent ?_
 refine xdh ?_
 refine VG (VQ 0 rfl (fun Fr w hF hs hS => vctick_spec Fr w (okk.cok s hm) E.now) rfl yce ?_)
 rintro _ _ ⟨X, a, c, hX, rfl, rfl⟩
 refine xdh ?_
 refine VG (VQ 6 rfl (fun Fr w hF hs hS => usend_spec Fr w (hS.blk 1 rfl) okk.lnk (32 + k) (SdIn.at_ 0 hS rfl hX fw)) rfl (ψ := fun v H => v = .tuple #[] ∧ H = lnkH y.lp (postL (32 + k) E.lnk (X.map Prod.fst))) yx ?_)
 rintro _ _ ⟨rfl, rfl⟩
 rw [hX]
 refine znx ?_
 refine ⟨(k + 1, cr.set k (q, (s.tick E.now).1)), ⟨by dsimp only; omega, by dsimp only; rw [List.length_set]; exact hcr, by dsimp only; rw [hsu, e1]; exact cli_fit fk k (q, (s.tick E.now).1) _ _⟩, by dsimp only; omega, SC rfl (SC rfl (SC rfl (Sub.int rfl ye (SN _)))), ?_⟩
 dsimp only
 rw [hsu, e1]
 exact (Imp.trans sentH_open (cli_in (y := { y with nr := nr, cr := cr }) (s' := (s.tick E.now).1) (l := postL (32 + k) E.lnk (s.tick E.now).2) (hi := E.his) hx2)).ent
end
end Cl
namespace Cl
open Go Vg T Api Ch Rep Conf Lg Rd
attribute [local irreducible] VO VC VA
theorem setF_ent (f : FrameM) (o : Nat) (n : Int) : (setF f o n).entry = f.entry := by unfold setF; split <;> rfl
theorem setFs_ent : ∀ (os : List Nat) (ns : List Int) (f : FrameM), (setFs f os ns).entry = f.entry
 | o :: os, n :: ns, f => by
  show (setFs (setF f o n) os ns).entry = _
  rw [setFs_ent os ns, setF_ent]
 | [], _, _ => rfl
 | _ :: _, [], _ => rfl
theorem readF_ent {f : FrameM} {s : Bs} {y : FrameM × List MemM} (h : readF f s = some y) : y.1.kind = f.kind ∧ (f.kind ≠ 4 → y.1.entry = f.entry) := by
 unfold readF at h
 repeat' split at h
 all_goals first | (cases h; done) | (cases h; exact ⟨rfl, fun _ => rfl⟩) | (cases h; exact ⟨rfl, fun k => absurd (by assumption) k⟩)
theorem getM_r {s : Bs} {f : FrameM} {ms : List MemM} (h : getM s = some (f, ms)) : ms.length ≤ 6 ∧ 0 ≤ f.entry.index ∧ f.entry.index ≤ 1099511627776 := by
 unfold getM at h
 split at h
 ·cases h
 split at h
 ·cases h
 split at h
 ·cases h
 split at h
 ·cases h
 ·rename_i k r hk _ l r2 hl _ f' ms' hr
  split at h
  ·rename_i hm
   cases h
   refine ⟨readF_ms hr, ?_⟩
   have he := readF_ent hr
   by_cases h4 : f.kind = 4
   ·unfold mayM mayB at hm
    simp only [h4, Bool.and_eq_true] at hm
    have hm := hm.2.2
    simp [inN] at hm
    exact hm.1.1
   ·have := he.2 (by rw [← he.1]; exact h4)
    rw [this, setFs_ent]
    exact ⟨by show (0 : Int) ≤ 0; decide, by show (0 : Int) ≤ 1099511627776; decide⟩
  ·cases h
section
variable {p : Nat} {C : CluM} {y : CluS} {b e : Nat}
def tkV (y : CluS) (to : Int) : Value :=
 if to = 16 then fnV 183 [.pointer (some ⟨y.mp, 0, none⟩)] []
 else match (if to < 0 then none else (y.nr[to.toNat]?).getD none) with
  | some z => fnV 121 [.pointer (some ⟨z.1, 0, none⟩)] []
  | none => match (if to < 32 then none else y.cr[(to - 32).toNat]?) with
   | some z => fnV 184 [.agg #[.pointer (some ⟨z.1, 0, none⟩)]] []
   | none => .nilFunc
theorem utaker_spec (fit : CluFit C y) (h : Blk Fr w p (cluC C y)) (hr : Blk Fr w y.nb (flat nodC y.nr ++ y.nx)) (hc : Blk Fr w y.cb (flat cliV y.cr ++ y.cx)) {to : Int} (h0 : 0 ≤ to) (h1 : to < 38) : Tri Tryz.prog 117 [.pointer (some ⟨p, 0, none⟩), .int .i64 to] Fr w [] (fun v L => v = tkV y to ∧ L = []) := by
 have hln := cli_len fit
 have hnn := node_len fit
 obtain ⟨k, rfl⟩ : ∃ k : Nat, to = k := ⟨to.toNat, by omega⟩
 refine TF 50 Tryz.func117 rfl yl tabOk rfl rfl ?_
 refine xjh ?_
 refine xds ?_
 refine xjh ?_
 refine CP (p := (k : Int) = 16) rfl (fun e1 => ?_) (fun e1 => ?_)
 ·refine xji ?_
  refine zpn ?_
  exact CR (Ret.tmp 4 rfl rfl ER ⟨by rw [tkV, if_pos e1], rfl⟩)
 refine xjh ?_
 refine VG (VV (fun Fr w hF hw hS => up_spec Fr w fit (h.of hF hw) (hr.of hF hw) k) rfl ?_)
 have hu : ∀ z : NdG, (y.nr[k]?).getD none = z → C.upE (k : Int) = if y.nr.length ≤ k then 4 else if z.isNone then 61 else 0 := fun z hz => by
  unfold CluM.upE
  by_cases hk : k < y.nr.length
  ·have hx := GE hk
   rw [hx] at hz
   rw [if_neg (show ¬ ((k : Int) < 0 ∨ (C.nodes.length : Int) ≤ k) by omega), if_neg (show ¬ y.nr.length ≤ k by omega), (node_at fit hx).1, ← hz]
   cases y.nr[k] <;> rfl
  ·rw [if_pos (.inr ye), if_pos ye]
 by_cases hx : ∃ q r, y.nr[k]? = some (some (q, r))
 ·obtain ⟨q, r, hx⟩ := hx
  have hk := (List.getElem?_eq_some_iff.1 hx).1
  have hu2 := hu (some (q, r)) (by rw [hx]; rfl)
  rw [if_neg ye] at hu2
  rw [hu2]
  refine znu ?_
  refine xji ?_
  refine xdp ?_
  refine VG (VD rfl rfl (RdL.blk hr (nod_cell hx)) ?_)
  refine xjh ?_
  refine zpn ?_
  exact CR (Ret.tmp 4 rfl rfl ER ⟨by rw [tkV, if_neg e1, if_neg ye, Int.toNat_natCast, hx]; rfl, rfl⟩)
 have hno : (y.nr[k]?).getD none = none := by
  cases hz : y.nr[k]? with
  | none => rfl
  | some z =>
   cases z with
   | none => rfl
   | some z => exact absurd ⟨z.1, z.2, hz⟩ hx
 have hu3 : C.upE (k : Int) ≠ 0 := by rw [hu none hno]; split <;> decide
 have et : tkV y k = match (if (k : Int) < 32 then none else y.cr[((k : Int) - 32).toNat]?) with
   | some z => fnV 184 [.agg #[.pointer (some ⟨z.1, 0, none⟩)]] []
   | none => .nilFunc := by rw [tkV, if_neg e1, if_neg ye, Int.toNat_natCast, hno]
 rw [et]
 refine xjh ?_
 refine CE rfl (fun k0 => absurd k0 hu3) (fun _ => ?_)
 refine xjh ?_
 by_cases h32 : (k : Int) < 32
 ·refine VG (VY 32 false rfl (DF ye) ?_)
  refine xji ?_
  refine xdn ?_
  refine xjh ?_
  exact CR (Ret.tmp 4 rfl rfl ER ⟨by rw [if_pos h32], rfl⟩)
 obtain ⟨j, rfl⟩ : ∃ j : Nat, k = 32 + j := ⟨k - 32, by omega⟩
 refine VG (VY 32 true rfl (DT ye) ?_)
 refine xji ?_
 refine CP (p := (((32 + j : Nat) : Int) - 32) < (y.cr.length : Int)) rfl (fun h2 => ?_) (fun h2 => CK ?_)
 ·have hj : j < y.cr.length := by omega
  have hx2 : y.cr[j]? = some y.cr[j] := GE hj
  generalize y.cr[j] = z at hx2
  have ej : ((32 + j : Nat) : Int) - 32 = (j : Int) := by omega
  rw [ej]
  refine xji ?_
  refine VG (VI (light_idx j rfl rfl rfl rfl rfl rfl hj) ?_)
  refine VG (VD rfl rfl (RdL.blk hc (cli_cell hx2)) ?_)
  refine xjh ?_
  refine VG (VI (LB (pv := [(0, .pointer (some ⟨z.1, 0, none⟩))]) [.pointer (some ⟨z.1, 0, none⟩)] rfl rfl rfl yl rfl) ?_)
  refine zpn ?_
  exact CR (Ret.tmp 4 rfl rfl ER ⟨by rw [if_neg h32, Int.toNat_natCast, hx2], rfl⟩)
 ·refine xjh ?_
  exact CR (Ret.tmp 4 rfl rfl ER ⟨by rw [if_neg h32, List.getElem?_eq_none ye], rfl⟩)
theorem useat_spec {q : Nat} {S : CliM} (ok : S.Ok) (from_ : Int) (f : FrameM) {ma : Option Addr} {mc : Nat} {ms : List MemM} (hm : RwIn memC 2 Fr w ma ms) (hml : ms.length ≤ 1000000) (now : Int) : Tri Tryz.prog 184 [.agg #[.pointer (some ⟨q, 0, none⟩)], .int .i64 from_, .agg (f.cells (ma, ms.length, mc)).toArray, .int .i64 now] Fr w [cliH q S] (fun v L => SentV (S.take f ms now).2 (cliH q (S.take f ms now).1) v L) := by
 refine TF 14 Tryz.func184 rfl yl tabOk rfl rfl ?_
 refine CS (CG (VG (VB (vs := [.pointer (some ⟨q, 0, none⟩)]) rfl fun s1 => VG (VB (vs := f.cells (ma, ms.length, mc)) rfl fun fb => ?_))))
 refine xdh ?_
 refine xmg ?_
 refine xdh ?_
 refine VG (VQ 2 rfl (fun Fr w hF hw hS => vctake_spec Fr w ok f (hm.of hF hw) hml now) rfl yce ?_)
 rintro _ _ ⟨X, a, c, hX, rfl, rfl⟩
 refine xdh ?_
 exact CR (Ret.tmp 8 rfl rfl (Imp.tail.trans Imp.tail).ent ⟨_, rfl, X, a, c, hX, rfl, rfl⟩)
end
end Cl
namespace Cl
open Go Vg T Api Ch Rep Conf Lg Rd
attribute [local irreducible] VO VC VA
theorem run_eq_fn {P : Program} {ty : Nat} {ps rs : Array TypeId} {vd : Bool} (hund : P.underlying ty = some (.func ps rs vd)) {v : Value} {r : Bool} (hv : (v = .nilFunc ∧ r = true) ∨ ∃ f a c, v = .func f a c ∧ r = false) (w : World) : (Op.equal ty v .nilFunc).run P w = .ok r w := by
 unfold Op.equal
 show (Op.equalIn (9999 + 1) ty v .nilFunc).run P w = _
 rw [Op.equalIn, Sem.run_bind, run_underlying hund]
 rcases hv with ⟨rfl, rfl⟩ | ⟨f, a, c, rfl, rfl⟩ <;> rfl
theorem light_neFn {X : Cx} {e : Env} {T yt : TypeId} {x : Operand} {v : Value} {ps rs : Array TypeId} {vd : Bool} (r : Bool) (hT : X.P.underlying T = some (.func ps rs vd)) (hx : ev e x = some v) (hv : (v = .nilFunc ∧ r = false) ∨ ∃ f a c, v = .func f a c ∧ r = true) :
  Light X (.binOp .neq T x (.const .nilFunc) yt) e (.bool r) := by
 intro a' ha dst ty pos after guard w
 have hq := run_eq_fn hT (v := v) (r := !r) (by rcases hv with ⟨h1, h2⟩ | ⟨f, a, c, h1, h2⟩ <;> simp [h1, h2]) w
 simp only [execOp, ha.ev hx]
 have h : (do eqGuard .neq T x (.const .nilFunc) v .nilFunc; binOp .neq T v .nilFunc : Sem Value).run X.P w = .ok (.bool r) w := by
  have hg : (eqGuard .neq T x (.const .nilFunc) v .nilFunc).run X.P w = .ok () w := by
   rcases hv with ⟨rfl, _⟩ | ⟨f, a, c, rfl, _⟩ <;> rfl
  rw [Sem.run_bind, hg, Result.andThen_ok]
  have hb : binOp .neq T v .nilFunc = (do pure (.bool (!(← Op.equal T v .nilFunc))) : Sem Value) := by
   rcases hv with ⟨rfl, _⟩ | ⟨f, a, c, rfl, _⟩ <;> rfl
  rw [hb, Sem.run_bind, hq]
  cases r <;> rfl
 rw [Sem.run_bind]
 show ((do eqGuard .neq T x (.const .nilFunc) v .nilFunc; binOp .neq T v .nilFunc : Sem Value).run X.P w).andThen _ = _
 rw [h]; rfl
section
variable {p : Nat} {C : CluM} {b e : Nat}
theorem tk_mas {y : CluS} : tkV y 16 = fnV 183 [.pointer (some ⟨y.mp, 0, none⟩)] [] := rfl
theorem tk_node {y : CluS} {k q : Nat} {r : RepM} (h1 : (k : Int) ≠ 16) (h : y.nr[k]? = some (some (q, r))) : tkV y k = fnV 121 [.pointer (some ⟨q, 0, none⟩)] [] := by
 rw [tkV, if_neg h1, if_neg ye, Int.toNat_natCast, h]; rfl
theorem tk_rest {y : CluS} {k : Nat} (h1 : (k : Int) ≠ 16) (h : ∀ q r, y.nr[k]? ≠ some (some (q, r))) : tkV y k = match (if (k : Int) < 32 then none else y.cr[((k : Int) - 32).toNat]?) with
   | some z => fnV 184 [.agg #[.pointer (some ⟨z.1, 0, none⟩)]] []
   | none => .nilFunc := by
 have hno : (y.nr[k]?).getD none = none := by
  cases hz : y.nr[k]? with
  | none => rfl
  | some z =>
   cases z with
   | none => rfl
   | some z => exact absurd hz (h z.1 z.2)
 rw [tkV, if_neg h1, if_neg ye, Int.toNat_natCast, hno] <;> rfl
theorem node_none {y : CluS} (fit : CluFit C y) {k : Nat} (h : ∀ q r, y.nr[k]? ≠ some (some (q, r))) : C.node (k : Int) = none := by
 unfold CluM.node
 rw [if_neg ye, Int.toNat_natCast, ← fit.nr, List.getElem?_map]
 cases hz : y.nr[k]? with
 | none => rfl
 | some z =>
  cases z with
  | none => rfl
  | some z => exact absurd hz (h z.1 z.2)
theorem udeliver_spec (ok : C.Ok b e) (hb : b < 100000000) (x to i : Int) : Tri Tryz.prog 67 [.pointer (some ⟨p, 0, none⟩), .int .i64 x, .int .i64 to, .int .i64 i] Fr w [cluH p C]
  (fun v L => v = .int .i64 (C.deliver (x, to) i).2 ∧ L = [cluH p (C.deliver (x, to) i).1]) := by
 have hcl := ok.clis
 have hnd := ok.nods
 refine TF 57 Tryz.func67 rfl yl tabOk rfl rfl ?_
 refine xmw ?_
 rintro y fit
 refine xmx ?_
 have hln := cli_len fit
 have hnn := node_len fit
 refine xcv ?_
 refine VG (VQ 5 rfl (fun Fr w hF hw hS => ldeliver_spec Fr w ok.lnk x to i) rfl (ψ := fun v H => v = fdV C.lnk (x, to) i ∧ H = lnkH y.lp (C.lnk.drop (x, to) i).1) yx ?_)
 rintro _ _ ⟨rfl, rfl⟩
 cases hf : C.lnk.find (x, to) i with
 | none =>
  have hr : C.deliver (x, to) i = (C, 4) := by unfold CluM.deliver; rw [hf]
  rw [fdV_none hf, drop_none hf]
  refine xjg ?_
  refine VG (VO.alloc rfl fun mb => ?_)
  refine xmo ?_
  refine zpr ?_
  exact CR (Ret.tmp 8 rfl rfl (Imp.trans (Imp.tail (H := pt mb _ mailT)) (clu_shut (C := C) (p := p) (R := []) fit)).ent ⟨by rw [hr], by rw [hr]⟩)
 | some t =>
 obtain ⟨ha1, ha2⟩ := ok.adr.found hf
 obtain ⟨hx0, hx1⟩ := adr_r ha1
 obtain ⟨ht0, ht1⟩ := adr_r ha2
 obtain ⟨k, rfl⟩ : ∃ k : Nat, to = k := ⟨to.toNat, by dsimp only at ht0; omega⟩
 dsimp only at ht0 ht1 hx0 hx1
 rw [fdV_some hf, drop_some hf]
 generalize hD : ({ C with lnk := C.lnk.without (x, k) i } : CluM) = D
 have okd : D.Ok b e := hD ▸ ok.links (by rw [CluM.Ok.find_without hf]; exact ok.lnk.drop _ _) (ok.adr.without hf)
 have fitd : CluFit D y := hD ▸ ⟨fit.nr, fit.cr, fit.qc⟩
 obtain ⟨s, rfl⟩ : ∃ s, t = bT s := ⟨sB t, (bT_of t).symm⟩
 have hr : C.deliver (x, k) i = (D.got x k (bT s), 0) := by unfold CluM.deliver; rw [hf]; dsimp only; rw [hD]
 have hgot : D.got x k (bT s) = match getM s with
   | some (f, ms) => D.takes x k f ms
   | none => D := by unfold CluM.got; rw [sB_of] <;> rfl
 refine VO.ent (L' := cluL p D y) (Imp.of_eq (by rw [← hD]; rfl)).ent ?_
 refine xjg ?_
 refine VG (VO.alloc rfl fun mb => ?_)
 refine VG (VT (vs := mailC x k (bT s)) (cs' := mailC x k (bT s)) 0 rfl rfl rfl rfl (NR _) rfl rfl rfl ?_)
 refine zpe ?_
 refine xcv ?_
 refine VG (VK (Lc := []) (fun Fr w hF hw hS => fget_spec Fr w (s := s)) rfl rfl ?_)
 intro v L1 hv
 cases hg : getM s with
 | none =>
  rw [hg] at hv hgot
  obtain ⟨rfl, rfl⟩ := hv
  dsimp only at hgot
  refine xjg ?_
  refine VG (VO.alloc rfl fun fb => ?_)
  refine xmd ?_
  refine xjg ?_
  refine xdh ?_
  refine xmy ?_
  refine xjg ?_
  refine xdl ?_
  refine xjh ?_
  refine znz ?_
  exact CR (Ret.tmp 8 rfl rfl (Imp.trans (Imp.tail (H := pt fb _ frT)) (Imp.trans (Imp.tail (H := pt mb _ mailT)) (clu_shut (C := D) (p := p) (R := []) fitd))).ent ⟨by rw [hr], by rw [hr, hgot]⟩)
 | some fm =>
 obtain ⟨f, ms⟩ := fm
 rw [hg] at hv hgot
 obtain ⟨ma, mc, rfl, rfl⟩ := hv
 dsimp only at hgot
 rw [hgot] at hr
 obtain ⟨hm6, hi0, hi1⟩ := getM_r hg
 refine xjg ?_
 refine VG (VO.alloc rfl fun fb => ?_)
 refine VG (VT (vs := f.cells (ma, ms.length, mc)) (cs' := f.cells (ma, ms.length, mc)) 0 rfl rfl rfl rfl (NR _) rfl rfl rfl ?_)
 refine VO.ent (L' := pt fb (f.cells (ma, ms.length, mc)) frT :: pt mb (mailC x k (bT s)) mailT :: (cluL p D y ++ [slH memT 2 ma ms.length mc (flat memC ms)])) (by refine Imp.ent ?_; refine IP 0 rfl ?_; refine IP 1 rfl ?_; exact Imp.last (L := cluL p D y)) ?_
 refine xjg ?_
 refine xdh ?_
 refine xmy ?_
 by_cases h16 : (k : Int) = 16
 ·have hk16 : k = 16 := by omega
  subst hk16
  have ht : D.takes x (16 : Nat) f ms = ({ D with mas := (D.mas.take x f D.now).1, lnk := postL (16 : Nat) D.lnk (D.mas.take x f D.now).2 } : CluM) := by
   unfold CluM.takes
   rw [if_pos yn]; rfl
  rw [ht] at hr
  have fw := okd.mas.take_few x f D.now
  rw [show tkV y (16 : Nat) = _ from tk_mas]
  refine xjg ?_
  refine xdj ?_
  refine xjg ?_
  refine xmz ?_
  refine xjg ?_
  refine xdo ?_
  refine CN (L' := pt fb (f.cells (ma, ms.length, mc)) frT :: pt mb (mailC x (16 : Nat) (bT s)) mailT :: masH y.mp D.mas :: (cmL p D y D.lnk ++ [slH memT 2 ma ms.length mc (flat memC ms)])) (Imp.cons (Imp.cons (Imp.app (M := masH y.mp D.mas :: cmL p D y D.lnk) mas_out Imp.refl))).ent ?_
  refine xna ?_
  refine xet ?_
  refine xnb ?_
  refine xet ?_
  refine AG (VA.callFAt 2 rfl rfl (fun Fr w hF hs hS => vmtake_spec Fr w okd.mas x f (ma, ms.length, mc) D.now) rfl rfl yce ?_ ?_)
  ·rintro _ _ ⟨X, a, c, hX, rfl, rfl⟩
   exact ycg
  rintro _ _ ⟨X, a, c, hX, rfl, rfl⟩
  refine AG (AQ 7 rfl (fun Fr w hF hs hS => usend_spec Fr w (hS.blk 3 rfl) okd.lnk (16 : Nat) (SdIn.at_ 2 hS rfl hX fw)) rfl rfl (ψ := fun v H => v = .tuple #[] ∧ H = lnkH y.lp (postL (16 : Nat) D.lnk (X.map Prod.fst))) yx ?_ ?_)
  ·rintro _ _ ⟨rfl, rfl⟩
   exact ycg
  rintro _ _ ⟨rfl, rfl⟩
  refine zof ?_
  rw [hX]
  exact CR (Ret.tmp 8 rfl rfl (Imp.trans (Imp.tail (H := pt fb _ frT)) (Imp.trans (Imp.tail (H := pt mb _ mailT)) (mas_shut (p := p) (m := (D.mas.take x f D.now).1) (l := postL (16 : Nat) D.lnk (D.mas.take x f D.now).2) (a := a) (c := c) (X := X) (R := [slH memT 2 ma ms.length mc (flat memC ms)]) fitd))).ent ⟨by rw [hr], by rw [hr]⟩)
 by_cases hx : ∃ q r, y.nr[k]? = some (some (q, r))
 ·obtain ⟨q, r, hx⟩ := hx
  obtain ⟨hn1, hn2⟩ := node_at fitd hx
  have hmr : some r ∈ D.nodes := ME hn2
  have hfit := okd.fit r hmr
  have hlr := okd.last r hmr
  have ht : D.takes x k f ms = ({ D.setNode k (some (takeR r x f ms D.now).1) with lnk := postL k D.lnk (ofS (takeR r x f ms D.now).2) } : CluM) := by
   unfold CluM.takes
   rw [if_neg h16, hn1]; rfl
  rw [ht] at hr
  have fw : FewS (ofS (takeR r x f ms D.now).2) := FewS.of (by have := take_few hfit x f ms D.now; omega)
  rw [tk_node h16 hx]
  refine xjg ?_
  refine xdj ?_
  refine xjg ?_
  refine xmz ?_
  refine xjg ?_
  refine xdo ?_
  refine CN (L' := pt fb (f.cells (ma, ms.length, mc)) frT :: pt mb (mailC x k (bT s)) mailT :: repH q r :: (cnL p D y k D.lnk ++ [slH memT 2 ma ms.length mc (flat memC ms)])) (Imp.cons (Imp.cons (Imp.app (M := repH q r :: cnL p D y k D.lnk) (node_out hx) Imp.refl))).ent ?_
  refine xna ?_
  refine xet ?_
  refine xnb ?_
  refine xet ?_
  refine AG (VA.callFAt 2 rfl rfl (fun Fr w hF hs hS => vtake_spec Fr w hfit ye x f (RwIn.slH memC_len (hS.at_ 12 rfl)) ye D.now ye ye) rfl rfl yce ?_ ?_)
  ·rintro _ _ ⟨X, a, c, hX, rfl, rfl⟩
   exact ycg
  rintro _ _ ⟨X, a, c, hX, rfl, rfl⟩
  refine AG (AQ 8 rfl (fun Fr w hF hs hS => usend_spec Fr w (hS.blk 3 rfl) okd.lnk k (SdIn.at_ 2 hS rfl hX fw)) rfl rfl (ψ := fun v H => v = .tuple #[] ∧ H = lnkH y.lp (postL k D.lnk (X.map Prod.fst))) yx ?_ ?_)
  ·rintro _ _ ⟨rfl, rfl⟩
   exact ycg
  rintro _ _ ⟨rfl, rfl⟩
  refine zof ?_
  rw [hX]
  exact CR (Ret.tmp 8 rfl rfl (Imp.trans (Imp.tail (H := pt fb _ frT)) (Imp.trans (Imp.tail (H := pt mb _ mailT)) (node_shut (p := p) (r' := (takeR r x f ms D.now).1) (l := postL k D.lnk (ofS (takeR r x f ms D.now).2)) (a := a) (c := c) (X := X) (R := [slH memT 2 ma ms.length mc (flat memC ms)]) fitd hx))).ent ⟨by rw [hr], by rw [hr]⟩)
 have hx : ∀ q r, y.nr[k]? ≠ some (some (q, r)) := fun q r h => hx ⟨q, r, h⟩
 have hnone := node_none fitd hx
 rw [tk_rest h16 hx]
 by_cases hc : ∃ j q z, k = 32 + j ∧ y.cr[j]? = some (q, z)
 ·obtain ⟨j, q, z, rfl, hz⟩ := hc
  obtain ⟨hn1, hn2⟩ := cli_at fitd hz
  have ej : ((32 + j : Nat) : Int) - 32 = (j : Int) := by omega
  have hmz : z ∈ D.clis := ME hn2
  have okz := okd.cok z hmz
  have ht : D.takes x (32 + j : Nat) f ms = ({ D.setCli j (z.take f ms D.now).1 with lnk := postL (32 + j : Nat) D.lnk (z.take f ms D.now).2, his := D.his } : CluM) := by
   unfold CluM.takes
   rw [if_neg h16, hnone, ej, hn1]; rfl
  rw [ht] at hr
  have fw : FewS (z.take f ms D.now).2 := CliM.take_few z f ms D.now
  rw [if_neg ye, ej, Int.toNat_natCast, hz]
  refine xjg ?_
  refine xdj ?_
  refine xjg ?_
  refine xmz ?_
  refine xjg ?_
  refine xdo ?_
  refine CN (L' := pt fb (f.cells (ma, ms.length, mc)) frT :: pt mb (mailC x (32 + j : Nat) (bT s)) mailT :: cliH q z :: (ccL p D y j D.lnk D.his ++ [slH memT 2 ma ms.length mc (flat memC ms)])) (Imp.cons (Imp.cons (Imp.app (M := cliH q z :: ccL p D y j D.lnk D.his) (cli_out hz) Imp.refl))).ent ?_
  refine xna ?_
  refine xet ?_
  refine xnb ?_
  refine xet ?_
  refine AG (VA.callFAt 2 rfl rfl (fun Fr w hF hs hS => useat_spec Fr w okz x f (RwIn.slH memC_len (hS.at_ 12 rfl)) ye D.now) rfl rfl yce ?_ ?_)
  ·rintro _ _ ⟨X, a, c, hX, rfl, rfl⟩
   exact ycg
  rintro _ _ ⟨X, a, c, hX, rfl, rfl⟩
  refine AG (AQ 8 rfl (fun Fr w hF hs hS => usend_spec Fr w (hS.blk 3 rfl) okd.lnk (32 + j : Nat) (SdIn.at_ 2 hS rfl hX fw)) rfl rfl (ψ := fun v H => v = .tuple #[] ∧ H = lnkH y.lp (postL (32 + j : Nat) D.lnk (X.map Prod.fst))) yx ?_ ?_)
  ·rintro _ _ ⟨rfl, rfl⟩
   exact ycg
  rintro _ _ ⟨rfl, rfl⟩
  refine zof ?_
  rw [hX]
  exact CR (Ret.tmp 8 rfl rfl (Imp.trans (Imp.tail (H := pt fb _ frT)) (Imp.trans (Imp.tail (H := pt mb _ mailT)) (cli_shut (p := p) (s' := (z.take f ms D.now).1) (hi := D.his) (l := postL (32 + j : Nat) D.lnk (z.take f ms D.now).2) (a := a) (c := c) (X := X) (R := [slH memT 2 ma ms.length mc (flat memC ms)]) fitd hz))).ent ⟨by rw [hr], by rw [hr]⟩)
 have hcn : D.cli ((k : Int) - 32) = none ∧ (if (k : Int) < 32 then none else y.cr[((k : Int) - 32).toNat]?) = none := by
  by_cases h32 : (k : Int) < 32
  ·exact ⟨by unfold CluM.cli; rw [if_pos ye], if_pos h32⟩
  obtain ⟨j, rfl⟩ : ∃ j : Nat, k = 32 + j := ⟨k - 32, by omega⟩
  have ej : ((32 + j : Nat) : Int) - 32 = (j : Int) := by omega
  have hz : y.cr[j]? = none := by
   cases hz : y.cr[j]? with
   | none => rfl
   | some z => exact absurd ⟨j, z.1, z.2, rfl, hz⟩ hc
  rw [ej, if_neg h32, Int.toNat_natCast, hz]
  refine ⟨?_, rfl⟩
  unfold CluM.cli
  rw [if_neg ye, Int.toNat_natCast, ← fitd.cr, List.getElem?_map, hz]; rfl
 have ht : D.takes x k f ms = D := by
  unfold CluM.takes
  rw [if_neg h16, hnone, hcn.1]
 rw [ht] at hr
 rw [hcn.2]
 refine xjg ?_
 refine xdj ?_
 refine xjg ?_
 refine VG (VI (light_neFn false Tryz.underlying190 rfl (.inl ⟨rfl, rfl⟩)) ?_)
 refine zoh ?_
 exact CR (Ret.tmp 8 rfl rfl (Imp.trans (Imp.tail (H := pt fb _ frT)) (Imp.trans (Imp.tail (H := pt mb _ mailT)) (clu_shut (C := D) (p := p) (R := [slH memT 2 ma ms.length mc (flat memC ms)]) fitd))).ent ⟨by rw [hr], by rw [hr]⟩)
end
end Cl
namespace Cl
open Go Vg T Api Ch Rep Conf Lg Rd
attribute [local irreducible] VO VC VA
theorem mas_in_ {Fr : Nat → Prop} {w : World} {q : Nat} {M : MasM} (h : SatIn Fr [masH q M] w) : ∃ a c, Blk Fr w q (masCs M a c) ∧ RwIn memC 2 Fr w a M.ch.ms := by
 obtain ⟨y, hy⟩ := h.ex
 have hs := hy.sep
 exact ⟨y.1, y.2, hs.blk 0 rfl, RwIn.slH memC_len (hs.at_ 1 rfl)⟩
theorem vchain_spec {q : Nat} {M : MasM} (ok : M.Ok) (h : SatIn Fr [masH q M] w) : Tri Tryz.prog 21 [.pointer (some ⟨q, 0, none⟩)] Fr w []
  (fun v L => ∃ a' c', v = .agg (M.ch.cells a' c').toArray ∧ L = [slH memT 2 a' M.ch.ms.length c' (flat memC M.ch.ms)]) := by
 obtain ⟨a, c, h1, h2⟩ := mas_in_ h
 exact mchain_spec Fr w ok h1 h2
theorem join_bad {M : MasM} {n now : Int} (h : (M.join n now).2.2 ≠ 0) : (M.join n now).1 = M := by
 unfold MasM.join at h ⊢
 split
 ·rfl
 ·rename_i h1
  rw [if_neg h1] at h
  split
  ·rfl
  ·rename_i h2; rw [if_neg h2] at h; exact absurd rfl h
section
variable {p : Nat} {C : CluM} {y : CluS} {b e : Nat}
theorem nod_put {l : List NdG} {k q : Nat} {r r' : RepM} (hk : k < l.length) : flat nodC (l.set k (some (q, r))) = flat nodC (l.set k (some (q, r'))) := by
 have h : (l.set k (some (q, r)))[k]? = some (some (q, r)) := List.getElem?_set_self hk
 have := nod_same (r' := r') h
 rw [List.set_set] at this
 exact this.symm
theorem nod_store {l : List NdG} {k : Nat} (x : NdG) (hk : k < l.length) (rest : List Value) : (flat nodC l ++ rest).set (0 + k * 1) (nodV x) = flat nodC (l.set k x) ++ rest := by
 rw [Nat.zero_add]
 have hz : l[k]? = some l[k] := GE hk
 exact flat_setCell (j := 0) nodC_len hz (Nat.zero_lt_one) (by cases l[k] <;> rfl) rest
theorem join_shut (fit : CluFit C y) {k q : Nat} (hk : k < y.nr.length) {r r' : RepM} {m : MasM} {l : LnkM} {a a' : Option Addr} {c c' : Nat} {X X' : List SdG} : Imp (sentH (repH q r') a c X :: sentH (masH y.mp m) a' c' X' :: [pt p (cluC C y) cluT, intH y.qa y.qc C.conf.qs, pt y.nb (flat nodC (y.nr.set k (some (q, r))) ++ y.nx) rpT, pt y.cb (flat cliV y.cr ++ y.cx) cpT, lnkH y.lp l, hisH y.hp C.his, slH entT 7 y.da C.done.length y.dc (flat entC C.done), hsep (y.nr.map nodP), hsep (y.cr.map cliP)])
  [cluH p ({ ({ C with mas := m } : CluM).setNode k (some r') with lnk := l } : CluM)] := by
 rw [nod_put (r' := r') hk]
 have e1 := node_cells (C := C) (y := y) (k := k) (x := some (q, r')) ({ ({ C with mas := m } : CluM).setNode k (some r') with lnk := l } : CluM) rfl rfl rfl
 have hz : y.nr[k]? = some y.nr[k] := GE hk
 refine Imp.trans sentH_open ?_
 refine Imp.trans (Imp.cons sentH_open) ?_
 refine Imp.trans (IP 9 rfl Imp.refl) ?_
 refine Imp.trans (many_take (f := nodP) hz) ?_
 refine Imp.trans Imp.tail ?_
 refine Imp.trans (M := repH q r' :: hsep ((y.nr.eraseIdx k).map nodP) :: _) (IP 1 rfl (IP 0 rfl Imp.refl)) ?_
 refine Imp.trans (many_put (f := nodP) hk (some (q, r'))) ?_
 have fit' : CluFit ({ ({ C with mas := m } : CluM).setNode k (some r') with lnk := l } : CluM) (y.node k (some (q, r'))) := node_fit (C := { C with mas := m }) ⟨fit.nr, fit.cr, fit.qc⟩ k (some (q, r')) l
 refine Imp.clu (K := []) _ fit' ?_
 unfold cluL
 rw [e1]
 exact (pkZ [2, 2, 1, 1, 1, 1, 1, 1, 0, 0])
theorem ujoin_spec (ok : C.Ok b e) (hb : b < 100000000) (n : Int) : Tri Tryz.prog 71 [.pointer (some ⟨p, 0, none⟩), .int .i64 n] Fr w [cluH p C]
  (fun v L => v = .int .i64 (C.join n).2 ∧ L = [cluH p (C.join n).1]) := by
 refine TF 65 Tryz.func71 rfl yl tabOk rfl rfl ?_
 refine xmw ?_
 rintro y fit
 refine CN (L' := masH y.mp C.mas :: cmL p C y C.lnk) ((Imp.of_eq (List.append_nil _)).trans mas_out).ent ?_
 have hnn := node_len fit
 have hjb := join_bad (M := C.mas) (n := n) (now := C.now)
 have hjf := ok.mas.join_few n C.now
 have hr0 : (C.mas.join n C.now).2.2 ≠ 0 → C.join n = (C, (C.mas.join n C.now).2.2) := fun h => by unfold CluM.join; dsimp only; rw [if_pos h]
 have hr1 : (C.mas.join n C.now).2.2 = 0 → C.join n = ((({ C with mas := (C.mas.join n C.now).1 } : CluM).back n).post 16 (C.mas.join n C.now).2.1, 0) := fun h => by unfold CluM.join; dsimp only; rw [if_neg ybu]
 refine xjg ?_
 refine CD (ts 0 9 (.only 9 (ts 10 5 .nil))) yl yq ?_
 refine xfr ?_
 refine AG (AQ 0 rfl (fun Fr w hF hs hS => vjoin_spec Fr w ok.mas n C.now) rfl rfl yce ?_ ?_)
 ·rintro _ _ ⟨X, a, c, hX, rfl, rfl⟩
  exact yr
 rintro _ _ ⟨X, a, c, hX, rfl, rfl⟩
 generalize C.mas.join n C.now = J at hjb hjf hr0 hr1 hX
 obtain ⟨m, S, er⟩ := J
 dsimp only at hjb hjf hr0 hr1 hX ⊢
 obtain ⟨fw, okm⟩ := hjf
 refine xfr ?_
 refine xjg ?_
 refine VC.condNE rfl (fun k1 => ?_) (fun k1 => CK ?_)
 ·refine xjg ?_
  exact CR (Ret.tmp 4 rfl rfl (mas_shut (p := p) (C := C) (m := m) (l := C.lnk) (a := a) (c := c) (X := X) (R := []) fit).ent ⟨by rw [hr0 k1], by rw [hr0 k1, hjb k1]⟩)
 have hr := hr1 ycd
 refine CS (CS (CG ?_))
 refine xjg ?_
 refine VG (VV (fun Fr w hF hw hS => up_spec Fr w fit (hS.blk 1 rfl) (hS.blk 3 rfl) n) rfl ?_)
 refine xjg ?_
 have hbk : ({ C with mas := m } : CluM).back n = if C.upE n = 61 then (({ C with mas := m } : CluM).setNode n (some (takeR (newR C.conf n true) 16 (cfgF m.ch) m.ch.ms C.now).1)).post n (ofS (takeR (newR C.conf n true) 16 (cfgF m.ch) m.ch.ms C.now).2) else ({ C with mas := m } : CluM) := rfl
 refine CE rfl (fun h61 => ?_) (fun h61 => CK ?_)
 rotate_left
 ·rw [hbk, if_neg h61] at hr
  refine CS (CG ?_)
  refine xjg ?_
  refine VG (VQ 5 rfl (fun Fr w hF hs hS => usend_spec Fr w (hS.blk 1 rfl) ok.lnk 16 (SdIn.at_ 0 hS rfl hX fw)) rfl (ψ := fun v H => v = .tuple #[] ∧ H = lnkH y.lp (postL 16 C.lnk (X.map Prod.fst))) yx ?_)
  rintro _ _ ⟨rfl, rfl⟩
  rw [hX]
  refine xjg ?_
  exact CR (Ret.tmp 4 rfl rfl (mas_shut (p := p) (C := C) (m := m) (l := postL 16 C.lnk S) (a := a) (c := c) (X := X) (R := []) fit).ent ⟨by rw [hr], by rw [hr]; rfl⟩)
 rw [hbk, if_pos h61] at hr
 obtain ⟨k, rfl, hk, hkn⟩ : ∃ k : Nat, n = k ∧ k < y.nr.length ∧ y.nr[k]? = some none := by
  have hu := h61
  unfold CluM.upE at hu
  split at hu
  ·cases hu
  ·rename_i h1
   split at hu
   ·rename_i h2
    have hk : n.toNat < y.nr.length := by omega
    have en : n = (n.toNat : Int) := by omega
    have hz : y.nr[n.toNat]? = some y.nr[n.toNat] := GE hk
    refine ⟨n.toNat, en, hk, ?_⟩
    have := (node_at fit hz).1
    rw [← en] at this
    rw [this] at h2
    rw [hz]
    cases hq : y.nr[n.toNat] with
    | none => rfl
    | some v => rw [hq] at h2; cases h2
   ·cases hu
 have hnl := ok.nl
 have hnb := conf_bounds ok.cf
 have hok : newOkB C.conf (k : Int) := ⟨ok.cf, by omega, by omega⟩
 have hfit := newR_fit ok.cf (k : Int) true
 have hlast : (newR C.conf (k : Int) true).rds.last = 0 := by
  unfold newR; split
  ·rfl
  split <;> rfl
 have hml := okm.ml
 have hei : (cfgF m.ch).entry.index = 0 := rfl
 refine xdh ?_
 refine VG (VL 1 (C.conf.cells y.qa y.qc) rfl rfl rfl rfl ?_)
 refine xdh ?_
 refine VG (VK (Lc := []) (fun Fr w hF hw hS => Rep.new_spec Fr w C.conf y.qa y.qc (ints_sl (hS.at_ 2 rfl)) trivial fit.qc k true) rfl rfl ?_)
 intro v L hv
 rw [if_pos hok] at hv
 obtain ⟨q, rfl, rfl⟩ := hv
 generalize newR C.conf (k : Int) true = r0 at hfit hlast hr
 have fw2 : FewS (ofS (takeR r0 16 (cfgF m.ch) m.ch.ms C.now).2) := FewS.of (by have := take_few hfit 16 (cfgF m.ch) m.ch.ms C.now; omega)
 have okl2 := LnkM.Ok.postL (k : Int) (ofS (takeR r0 16 (cfgF m.ch) m.ch.ms C.now).2) ok.lnk
 refine xjg ?_
 refine xdi ?_
 refine xdp ?_
 refine VG (VO.st 4 (cs' := flat nodC (y.nr.set k (some (q, r0))) ++ y.nx) rfl rfl rfl rfl ych (nod_store (some (q, r0)) hk y.nx) rfl ?_)
 refine xjg ?_
 refine xdi ?_
 refine VG (VK (Lc := []) (fun Fr w hF hw hS => vchain_spec Fr w okm (((hS.at_ 1 rfl).sep).at_ 0 rfl)) rfl rfl ?_)
 rintro _ _ ⟨ma, mc, rfl, rfl⟩
 refine xjg ?_
 refine VG (VI (LB (pv := [(0, .int .i64 8), (11, .agg (m.ch.cells ma mc).toArray)]) ((cfgF m.ch).cells (ma, m.ch.ms.length, mc)) rfl rfl rfl yl rfl) ?_)
 refine VG (VO.alloc rfl fun fb => ?_)
 refine VG (VT (vs := (cfgF m.ch).cells (ma, m.ch.ms.length, mc)) (cs' := (cfgF m.ch).cells (ma, m.ch.ms.length, mc)) 0 rfl rfl rfl rfl (NR _) rfl rfl rfl ?_)
 refine xjg ?_
 refine CD (ts 0 8 (.only 8 (.only 9 .nil))) yl yq ?_
 refine xev ?_
 refine AG (VA.ldA 0 ((cfgF m.ch).cells (ma, m.ch.ms.length, mc)) rfl rfl rfl rfl rfl ?_)
 refine xev ?_
 refine AG (AQ 2 rfl (fun Fr w hF hs hS => vtake_spec Fr w hfit ye 16 (cfgF m.ch) (RwIn.slH memC_len (hS.at_ 1 rfl)) ye C.now ye ye) rfl rfl yce ?_ ?_)
 ·rintro _ _ ⟨X2, a2, c2, hX2, rfl, rfl⟩
  exact yci
 rintro _ _ ⟨X2, a2, c2, hX2, rfl, rfl⟩
 generalize takeR r0 16 (cfgF m.ch) m.ch.ms C.now = T at hr fw2 okl2 hX2
 refine AG (AQ 8 rfl (fun Fr w hF hs hS => usend_spec Fr w (hS.blk 4 rfl) ok.lnk k (SdIn.at_ 2 hS rfl hX2 fw2)) rfl rfl (ψ := fun v H => v = .tuple #[] ∧ H = lnkH y.lp (postL k C.lnk (X2.map Prod.fst))) yx ?_ ?_)
 ·rintro _ _ ⟨rfl, rfl⟩
  exact yci
 rintro _ _ ⟨rfl, rfl⟩
 rw [hX2]
 refine zof ?_
 refine VG (VQ 8 rfl (fun Fr w hF hs hS => usend_spec Fr w (hS.blk 4 rfl) okl2 16 (SdIn.at_ 3 hS rfl hX fw)) rfl (ψ := fun v H => v = .tuple #[] ∧ H = lnkH y.lp (postL 16 (postL k C.lnk (ofS T.2)) (X.map Prod.fst))) yx ?_)
 rintro _ _ ⟨rfl, rfl⟩
 rw [hX]
 refine xjg ?_
 exact CR (Ret.tmp 4 rfl rfl (Imp.trans (Imp.tail (H := pt fb _ frT)) (Imp.trans (Imp.tail (H := slH memT 2 ma _ mc _)) (join_shut (p := p) (C := C) (r := r0) (r' := T.1) (m := m) (l := postL 16 (postL k C.lnk (ofS T.2)) S) (a := a2) (c := c2) (X := X2) (a' := a) (c' := c) (X' := X) fit hk))).ent ⟨by rw [hr], by rw [hr]; rfl⟩)
end
end Cl
namespace Cl
open Go Vg T Api Ch Rep Conf Lg Rd
attribute [local irreducible] VO VC VA
theorem zip_succ {α β : Type} (f : β → α × Nat → β) (x : β) {l : List α} {k : Nat} {a : α} (h : l[k]? = some a) : (l.zipIdx.take (k + 1)).foldl f x = f ((l.zipIdx.take k).foldl f x) (a, k) := by
 have : l.zipIdx[k]? = some (a, k) := by rw [List.getElem?_zipIdx, h]; simp
 rw [List.take_add_one, this, List.foldl_append]
 rfl
theorem zip_all {α β : Type} (f : β → α × Nat → β) (x : β) (l : List α) : (l.zipIdx.take l.length).foldl f x = l.zipIdx.foldl f x := by
 rw [List.take_of_length_le (by rw [List.length_zipIdx]; exact NR _)]
section
variable {p : Nat} {C : CluM} {b e : Nat}
theorem ubehind_spec (ok : C.Ok b e) (he : e < 1000000) : Tri Tryz.prog 35 [.pointer (some ⟨p, 0, none⟩)] Fr w [cluH p C]
  (fun v L => v = .tuple #[] ∧ L = [cluH p C.behind]) := by
 have hcl := ok.clis
 have hnd := ok.nods
 have hev := ok.ev
 have hdn := ok.dn
 refine TF 115 Tryz.func35 rfl yl tabOk rfl rfl ?_
 refine xmw ?_
 rintro y fit
 refine xmx ?_
 have hln := cli_len fit
 have hnn := node_len fit
 refine xcv ?_
 refine VC.loop (σ := Nat) (fun k => [(0, pV p), (17, .slice (some ⟨y.cb, 0, none⟩) y.cr.length y.cc), (18, .int .i64 y.cr.length), (19, .int .i64 (k : Int))])
  (fun k => cluL p ({ C with his := (C.clis.zipIdx.take k).foldl endH C.his } : CluM) y) (fun k => k ≤ y.cr.length) (fun k => y.cr.length - k) 0
  (Nat.zero_le _) sbZ ER ?_
 rintro k hk0
 have hH := CluM.Ok.endHs ok.his (C.clis.zipIdx.take k) (by rw [List.length_take, List.length_zipIdx]; omega)
 rw [List.length_take, List.length_zipIdx] at hH
 obtain ⟨okh, -, hhe⟩ := hH
 refine xjg ?_
 refine CP (p := (k : Int) < y.cr.length) rfl (fun h1 => CK ?_) (fun h1 => CX ?_)
 ·have hkl : k < y.cr.length := by omega
  have hx2 : y.cr[k]? = some y.cr[k] := GE hkl
  generalize y.cr[k] = z at hx2
  obtain ⟨q, s⟩ := z
  obtain ⟨hnx, hns⟩ := cli_at fit (k := k) (x := (q, s)) hx2
  have hm : s ∈ C.clis := ME hns
  have hsu := zip_succ endH C.his hns
  generalize (C.clis.zipIdx.take k).foldl endH C.his = H at okh hhe hsu
  have hcp : (y.cr.map cliP)[k]? = some (cliH q s) := by rw [List.getElem?_map, hx2]; rfl
  refine zog ?_
  refine VG (VD rfl rfl (RdL.one 4 rfl (cli_cell hx2)) ?_)
  refine xjg ?_
  refine VG (VV (fun Fr w hF hw hS => voutcome_spec Fr w (ok.cok s hm) (((hS.at_ 9 rfl).sep).at_ k hcp)) rfl ?_)
  unfold outV
  generalize ho : s.outcome = o
  refine xjg ?_
  refine VG (VO.alloc rfl fun ob => ?_)
  refine VG (VT (vs := outC (o.getD outZ')) (cs' := outC (o.getD outZ')) 0 rfl rfl rfl rfl (NR _) rfl rfl rfl ?_)
  refine xjg ?_
  cases o with
  | none =>
   have e1 : endH H (s, k) = H := by unfold endH; dsimp only; rw [ho]
   refine xdn ?_
   refine znx ?_
   exact xnc
  | some o =>
   have e1 : endH H (s, k) = H.end_ k s.seq o := by unfold endH; dsimp only; rw [ho]
   refine xdo ?_
   refine CD (ts 0 6 (ts 7 1 (.only 6 (.only 8 .nil)))) yl yq ?_
   refine xfr ?_
   refine AG (VA.ldA 0 (outC o) rfl rfl rfl rfl rfl ?_)
   refine AG (AR (fun Fr w hF hw hS => vseq_spec Fr w (ok.cok s hm) (((hS.at_ 10 rfl).sep).at_ k hcp)) rfl rfl ycj ?_)
   refine AG (AQ 7 rfl (fun Fr w hF hs hS => hend_spec Fr w okh ye k s.seq o) rfl rfl (ψ := fun v K => v = .int .i64 (H.endE k s.seq o) ∧ K = hisH y.hp (H.end_ k s.seq o)) yx ?_ ?_)
   ·rintro _ _ ⟨rfl, rfl⟩
    exact ycj
   rintro _ _ ⟨rfl, rfl⟩
   refine xjj ?_
   refine znx ?_
   exact xnc
 have hkn : k = C.clis.length := by omega
 subst hkn
 rw [zip_all]
 generalize hH2 : C.clis.zipIdx.foldl endH C.his = H
 clear okh hhe
 refine xcv ?_
 refine VC.loop (σ := Nat × Option Addr × Nat) (fun s => [(0, pV p), (43, .slice (some ⟨y.nb, 0, none⟩) y.nr.length y.nc), (44, .int .i64 y.nr.length), (45, .int .i64 (s.1 : Int))])
  (fun s => cluL p ({ C with his := H, done := (C.nodes.zipIdx.take s.1).foldl doneN C.done } : CluM) { y with da := s.2.1, dc := s.2.2 }) (fun s => s.1 ≤ y.nr.length) (fun s => y.nr.length - s.1) (0, y.da, y.dc)
  (Nat.zero_le _) sbZ ER ?_
 rintro ⟨k, da, dc⟩ hk0
 dsimp only at hk0
 have hdk : ((C.nodes.zipIdx.take k).foldl doneN C.done).length ≤ 4096 := CluM.Ok.doneNs hdn fun x hx r hr => ok.fit r (by
  have := List.mem_zipIdx' (x := x.1) (i := x.2) (List.mem_of_mem_take hx)
  rw [← hr]
  exact ME (by rw [GE this.1, ← this.2]))
 refine xjg ?_
 refine CP (p := (k : Int) < y.nr.length) rfl (fun h1 => CK ?_) (fun h1 => CX ?_)
 rotate_left
 ·have hkn : k = C.nodes.length := by omega
  subst hkn
  have hfin : C.behind = ({ C with his := H, done := (C.nodes.zipIdx.take C.nodes.length).foldl doneN C.done } : CluM) := by rw [zip_all, ← hH2]; rfl
  exact Ret.void rfl (clu_shut (p := p) (C := ({ C with his := H, done := (C.nodes.zipIdx.take C.nodes.length).foldl doneN C.done } : CluM)) (y := { y with da := da, dc := dc }) (R := []) ⟨fit.nr, fit.cr, fit.qc⟩).ent ⟨rfl, by rw [hfin]⟩
 have hkl : k < y.nr.length := by omega
 have hx2 : y.nr[k]? = some y.nr[k] := GE hkl
 generalize y.nr[k] = z at hx2
 obtain ⟨hnx, hns⟩ := node_at fit (k := k) (x := z) hx2
 have hsu := zip_succ doneN C.done hns
 generalize (C.nodes.zipIdx.take k).foldl doneN C.done = d at hdk hsu
 refine CS (VC.meetS (σ := Option Addr × Nat) (fun _ => [(0, pV p), (43, .slice (some ⟨y.nb, 0, none⟩) y.nr.length y.nc), (44, .int .i64 y.nr.length), (45, .int .i64 (k : Int))])
  (fun s => cluL p ({ C with his := H, done := (C.nodes.zipIdx.take (k + 1)).foldl doneN C.done } : CluM) { y with da := s.1, dc := s.2 }) (fun _ => True) ?_ ?_)
 rotate_left
 ·rintro ⟨da', dc'⟩ -
  refine znx ?_
  exact ⟨(k + 1, da', dc'), by dsimp only; omega, by dsimp only; omega, SC rfl (SC rfl (SC rfl (Sub.int rfl ye (SN _)))), ER⟩
 have stay : doneN d (z.map Prod.snd, k) = d → cluL p ({ C with his := H, done := (C.nodes.zipIdx.take (k + 1)).foldl doneN C.done } : CluM) { y with da := da, dc := dc } = cluL p ({ C with his := H, done := d } : CluM) { y with da := da, dc := dc } := fun h => by rw [hsu, h]
 refine zog ?_
 refine VG (VD rfl rfl (RdL.one 3 rfl (nod_cell hx2)) ?_)
 cases z with
 | none =>
  refine xjg ?_
  refine VG (VY 52 true rfl rfl ?_)
  refine znu ?_
  refine CX ?_
  exact ⟨(da, dc), trivial, sbZ, by dsimp only; rw [stay rfl]; exact ER⟩
 | some z =>
 obtain ⟨q, r⟩ := z
 have hm : some r ∈ C.nodes := ME hns
 have okr := (ok.fit r hm).ok
 have hcp : (y.nr.map nodP)[k]? = some (repH q r) := by rw [List.getElem?_map, hx2]; rfl
 have hdN : doneN d (some r, k) = if r.since = 0 ∨ r.ch.ms.length = 0 ∨ lastMem r.ch.ms ≠ k ∨ r.win.done ≤ d.length then d else d ++ (r.log.take r.win.done.toNat).drop d.length := rfl
 show VO _ _ _ _ (putE (some 49) (.pointer (some ⟨q, 0, none⟩)) _) _ _
 refine xjg ?_
 refine VG (VY 52 false rfl rfl ?_)
 refine xjh ?_
 refine VG (VV (fun Fr w hF hw hS => rsince_spec Fr w (((hS.at_ 8 rfl).sep).at_ k hcp)) rfl ?_)
 refine xjg ?_
 refine CP (p := r.since = 0) rfl (fun k1 => ?_) (fun k1 => CK ?_)
 ·refine CX ?_
  exact ⟨(da, dc), trivial, sbZ, by dsimp only; rw [stay (by show doneN d (some r, k) = d; rw [hdN, if_pos (.inl k1)])]; exact ER⟩
 refine xjg ?_
 refine VG (VK (Lc := []) (fun Fr w hF hw hS => Rep.chain_spec Fr w okr (((hS.at_ 8 rfl).sep).at_ k hcp)) rfl rfl ?_)
 rintro _ _ ⟨ma, mc, rfl, rfl⟩
 refine VO.opn 0 rfl (HOpn.rl memT ma mc r.ch.ms memC_len) ?_
 rintro ⟨ra, rc, rb, rcs, rxs⟩ ⟨rok, rv, rx⟩
 dsimp only at rx
 subst rx
 injection rv with e1 _ e3
 subst e1 e3
 refine xjg ?_
 refine VG (VI (light_fld (v := .slice ra r.ch.ms.length rc) Tryz.underlying62 rfl rfl (fun w => part1 (TabOk.look tabOk (t := 60) (ti := T.t60) rfl) rfl rfl w)) ?_)
 refine xjg ?_
 by_cases k2 : r.ch.ms.length = 0
 ·refine VG (VY 63 true rfl (DT ye) ?_)
  refine znu ?_
  refine CX ?_
  exact ⟨(da, dc), trivial, sbZ, by dsimp only; rw [stay (by show doneN d (some r, k) = d; rw [hdN, if_pos (.inr (.inl k2))])]; exact Imp.tail.ent⟩
 have hml := okr.ch.len
 have hlm : r.ch.ms[r.ch.ms.length - 1]? = some r.ch.ms[r.ch.ms.length - 1] := GE ye
 generalize r.ch.ms[r.ch.ms.length - 1] = lm at hlm
 have hlq : lastMem r.ch.ms = lm.1 := by unfold lastMem; rw [List.getLast?_eq_getElem?, hlm]
 obtain ⟨tb, tof, htb, hta, hrd⟩ := RL.Ok.ld (t := memT) (k := r.ch.ms.length - 1) (x := lm) rok hlm (memC_len lm)
 dsimp only at hta
 subst hta
 refine VG (VY 63 false rfl (DF ye) ?_)
 refine xjh ?_
 refine xds ?_
 rw [show ((r.ch.ms.length : Int) - 1) = ((r.ch.ms.length - 1 : Nat) : Int) by omega]
 refine VG (VI (light_idx (r.ch.ms.length - 1) rfl rfl rfl rfl rfl rfl ye) ?_)
 refine xjg ?_
 refine VG (VD rfl rfl ((hrd 0 rfl).2 _ 0 (.int .i64 lm.1) rfl rfl) ?_)
 refine xjg ?_
 refine VC.condNE rfl (fun k3 => ?_) (fun k3 => CK ?_)
 ·refine CX ?_
  exact ⟨(da, dc), trivial, sbZ, by dsimp only; rw [stay (by show doneN d (some r, k) = d; rw [hdN, if_pos (.inr (.inr (.inl (by rw [hlq]; exact k3))))])]; exact Imp.tail.ent⟩
 refine xjg ?_
 refine VG (VK (Lc := []) (fun Fr w hF hw hS => window_spec Fr w okr (((hS.at_ 9 rfl).sep).at_ k hcp)) rfl rfl ?_)
 rintro _ _ ⟨wq, rfl, rfl⟩
 refine VG (VV (fun Fr w hF hw hS => Win.done_spec Fr w (hS.blk 0 rfl) okr.win.cap0) rfl ?_)
 refine xjg ?_
 refine xdi ?_
 refine CP (p := r.win.done ≤ (d.length : Int)) rfl (fun k4 => ?_) (fun k4 => CK ?_)
 ·refine CX ?_
  exact ⟨(da, dc), trivial, sbZ, by dsimp only; rw [stay (by show doneN d (some r, k) = d; rw [hdN, if_pos (.inr (.inr (.inr k4)))])]; exact (Imp.trans Imp.tail Imp.tail).ent⟩
 have hd1 := okr.win.done1
 have hd2 := okr.last
 have hd3 := okr.win.last1
 have hdE : doneN d (some r, k) = d ++ (r.log.drop d.length).take (r.win.done.toNat - d.length) := by
  rw [hdN, if_neg (by rw [hlq]; omega), List.drop_take]
 refine xjg ?_
 refine VG (VK (Lc := []) (fun Fr w hF hw hS => log_spec Fr w okr (((hS.at_ 10 rfl).sep).at_ k hcp)) rfl rfl ?_)
 rintro _ _ ⟨lq, rfl, rfl⟩
 refine xjg ?_
 refine xlw ?_
 refine VG (VP rfl rfl yba yba ?_)
 refine xjg ?_
 refine VC.loop (σ := Nat × Option Addr × Nat) (fun s => [(0, pV p), (9, .int .i64 r.win.done), (10, pV lq), (11, .int .i64 ((d.length : Int) + 1 + (s.1 : Int))), (43, .slice (some ⟨y.nb, 0, none⟩) y.nr.length y.nc), (44, .int .i64 y.nr.length), (45, .int .i64 (k : Int))])
  (fun s => logH lq r.log :: cluL p ({ C with his := H, done := d ++ (r.log.drop d.length).take s.1 } : CluM) { y with da := s.2.1, dc := s.2.2 }) (fun s => (d.length : Int) + s.1 ≤ r.win.done) (fun s => (r.win.done - d.length).toNat - s.1) (0, da, dc)
  yba (SC rfl (SC rfl (SC rfl (Sub.int rfl yba sbZ)))) (by dsimp only; rw [List.take_zero, List.append_nil]; exact (Imp.cons (Imp.trans Imp.tail Imp.tail)).ent) ?_
 rintro ⟨j, da', dc'⟩ hj
 dsimp only at hj ⊢
 refine xjg ?_
 refine CP (p := (d.length : Int) + 1 + j ≤ r.win.done) rfl (fun k5 => CK ?_) (fun k5 => CX ?_)
 rotate_left
 ·have hjj : j = r.win.done.toNat - d.length := by omega
  subst hjj
  exact ⟨(da', dc'), trivial, sbZ, by dsimp only; rw [hsu]; show Ent _ _ (cluL p ({ C with his := H, done := doneN d (some r, k) } : CluM) _); rw [hdE]; exact Imp.tail.ent⟩
 have hle : r.log[d.length + j]? = some r.log[d.length + j] := GE ye
 generalize r.log[d.length + j] = e0 at hle
 have hat : atI r.log ((d.length : Int) + 1 + j) = some e0 := by
  unfold atI
  rw [if_pos ye, ← hle]
  congr 1
  omega
 have htk : d ++ (r.log.drop d.length).take (j + 1) = (d ++ (r.log.drop d.length).take j) ++ [e0] := by
  rw [List.take_add_one, List.getElem?_drop, hle, List.append_assoc]
  rfl
 have hDl : (d ++ (r.log.drop d.length).take j).length ≤ 10000 := by
  rw [List.length_append, List.length_take, List.length_drop]; omega
 generalize hDD : d ++ (r.log.drop d.length).take j = D at htk hDl
 refine xjg ?_
 refine VG (VV (fun Fr w hF hw hS => Lg.at_spec Fr w (hS.at_ 0 rfl) ((d.length : Int) + 1 + j) ye ye) rfl ?_)
 rw [hat]
 refine xjg ?_
 refine VG (VO.alloc rfl fun eb => ?_)
 refine VG (VT (vs := entC e0) (cs' := entC e0) 0 rfl rfl rfl rfl (NR _) rfl rfl rfl ?_)
 refine xjg ?_
 refine xdo ?_
 refine CD (ts 0 6 (.only 6 (.only 7 (ts 8 2 (.only 10 .nil))))) yl yq ?_
 refine xfs ?_
 refine AG (VA.ldA 0 (entC e0) rfl rfl rfl rfl rfl ?_)
 refine AG (AO (OpT.buildSlice (n := 1) (pv := [(0, .agg (entC e0).toArray)]) (cells := entC e0) rfl rfl rfl rfl yn (fill_one rfl rfl rfl)) rfl (fun v L' g => by obtain ⟨nb, rfl, rfl⟩ := g; exact (by (try refine Pd.st ?_);(repeat (first|exact Pd.nil|exact Pd.fnil|refine Pd.inner ?_|refine Pd.skip yq ?_|refine zf (zo 0 rfl rfl) ?_|refine zf (zo 1 rfl rfl) ?_|refine zf (zo 2 rfl rfl) ?_|refine zf (zo 3 rfl rfl) ?_|refine zf (zm 0 rfl rfl) ?_|refine zf (zm 1 rfl rfl) ?_|refine zf (zm 2 rfl rfl) ?_|refine zf (zm 3 rfl rfl) ?_|refine zf (RdL.blk (RdL.many 1 rfl rfl) rfl) ?_|refine zf ((RdL.many 1 rfl rfl)) ?_|refine zc (zo 0 rfl rfl) ?_|refine zc (zo 1 rfl rfl) ?_|refine zc (zo 2 rfl rfl) ?_|refine zc (zo 3 rfl rfl) ?_|refine zc (zm 0 rfl rfl) ?_|refine zc (zm 1 rfl rfl) ?_|refine zc (zm 2 rfl rfl) ?_|refine zc (zm 3 rfl rfl) ?_|refine zc (RdL.blk (RdL.many 1 rfl rfl) rfl) ?_|refine zc ((RdL.many 1 rfl rfl)) ?_)))) ?_)
 rintro _ _ ⟨nb, rfl, rfl⟩
 refine AG (AO (OpT.append (m := 1) (news := entC e0) 10 rfl rfl rfl rfl rfl rfl rfl (RdRow.pt 0 rfl rfl rfl) rfl (few_bytes (k := 20000) yba yn) yba) rfl (fun v L' g => by obtain ⟨a2, c2, rfl, hc2, rfl⟩ := g; exact yck) ?_)
 rintro _ _ ⟨a2, c2, rfl, hc2, rfl⟩
 refine xev ?_
 refine AG (VA.st 4 (cs' := cluC ({ C with his := H, done := D ++ [e0] } : CluM) { y with da := a2, dc := c2 }) rfl rfl rfl rfl rfl (by show 18 < 19; omega) (by unfold cluC; dsimp only; rw [List.length_append]; rfl) rfl yck ?_)
 refine xjj ?_
 refine znx ?_
 refine ⟨(j + 1, a2, c2), by dsimp only; omega, by dsimp only; omega, SC rfl (SC rfl (SC rfl (Sub.int rfl ye sbZ))), ?_⟩
 dsimp only
 rw [htk]
 refine Imp.ent ?_
 refine IP 3 rfl (IP 3 rfl (IP 3 rfl (IP 3 rfl (IP 3 rfl (IP 3 rfl (IP 3 rfl (IP 3 rfl ?_)))))))
 rw [flat_append, List.length_append]
 exact (pkZ [0, 2, 2])
end
end Cl
namespace Cl
open Go Vg T Api Ch Rep Conf Lg Rd
attribute [local irreducible] VO VC VA
theorem st_1 (C : CluM) {s : StpM} (h : s.kind = 1) : C.step s = C.call s := by
 unfold CluM.step
 rw [if_pos h]
theorem st_2 (C : CluM) {s : StpM} (h : s.kind = 2) : C.step s = match C.node s.a with
  | none => (C, C.upE s.a)
  | some r => ((C.setNode s.a (some (stepR r C.now).1)).post s.a (ofS (stepR r C.now).2), 0) := by
 unfold CluM.step
 rw [if_neg ybu, if_pos h] <;> rfl
theorem st_3 (C : CluM) {s : StpM} (h : s.kind = 3) : C.step s = (C.tick, 0) := by
 unfold CluM.step
 rw [if_neg ybu, if_neg ybu, if_pos h]
theorem st_4 (C : CluM) {s : StpM} (h : s.kind = 4) : C.step s = C.deliver (s.a, s.b) s.c := by
 unfold CluM.step
 rw [if_neg ybu, if_neg ybu, if_neg ybu, if_pos h]
theorem st_5 (C : CluM) {s : StpM} (h : s.kind = 5) : C.step s = ({ C with lnk := (C.lnk.drop (s.a, s.b) s.c).1 }, (C.lnk.drop (s.a, s.b) s.c).2) := by
 unfold CluM.step
 rw [if_neg ybu, if_neg ybu, if_neg ybu, if_neg ybu, if_pos h]
theorem st_6 (C : CluM) {s : StpM} (h : s.kind = 6) : C.step s = ({ C with lnk := (C.lnk.double (s.a, s.b) s.c).1 }, (C.lnk.double (s.a, s.b) s.c).2) := by
 unfold CluM.step
 rw [if_neg ybu, if_neg ybu, if_neg ybu, if_neg ybu, if_neg ybu, if_pos h]
theorem st_7 (C : CluM) {s : StpM} (h : s.kind = 7) : C.step s = if C.upE s.a ≠ 0 then (C, C.upE s.a) else (C.setNode s.a none, 0) := by
 unfold CluM.step
 rw [if_neg ybu, if_neg ybu, if_neg ybu, if_neg ybu, if_neg ybu, if_neg ybu, if_pos h]
theorem st_8 (C : CluM) {s : StpM} (h : s.kind = 8) : C.step s = (({ C with mas := (C.mas.suspect s.a).1 } : CluM).post 16 (C.mas.suspect s.a).2.1, (C.mas.suspect s.a).2.2) := by
 unfold CluM.step
 rw [if_neg ybu, if_neg ybu, if_neg ybu, if_neg ybu, if_neg ybu, if_neg ybu, if_neg ybu, if_pos h]
theorem st_9 (C : CluM) {s : StpM} (h : s.kind = 9) : C.step s = C.join s.a := by
 unfold CluM.step
 rw [if_neg ybu, if_neg ybu, if_neg ybu, if_neg ybu, if_neg ybu, if_neg ybu, if_neg ybu, if_neg ybu, if_pos h]
theorem st_10 (C : CluM) {s : StpM} (h : s.kind = 10) : C.step s = (({ C with mas := (C.mas.drain s.a).1 } : CluM).post 16 (C.mas.drain s.a).2.1, (C.mas.drain s.a).2.2) := by
 unfold CluM.step
 rw [if_neg ybu, if_neg ybu, if_neg ybu, if_neg ybu, if_neg ybu, if_neg ybu, if_neg ybu, if_neg ybu, if_neg ybu, if_pos h]
theorem st_11 (C : CluM) {s : StpM} (h : s.kind = 11) : C.step s = (({ C with mas := (C.mas.tick C.now).1 } : CluM).post 16 (C.mas.tick C.now).2, 0) := by
 unfold CluM.step
 rw [if_neg ybu, if_neg ybu, if_neg ybu, if_neg ybu, if_neg ybu, if_neg ybu, if_neg ybu, if_neg ybu, if_neg ybu, if_neg ybu, if_pos h]
theorem st_no (C : CluM) {s : StpM} (h : ∀ k : Nat, 1 ≤ k → k ≤ 11 → s.kind ≠ k) : C.step s = (C, 2) := by
 unfold CluM.step
 rw [if_neg (show ¬ s.kind = 1 from h 1 yn yn), if_neg (show ¬ s.kind = 2 from h 2 yn yn), if_neg (show ¬ s.kind = 3 from h 3 yn yn), if_neg (show ¬ s.kind = 4 from h 4 yn yn), if_neg (show ¬ s.kind = 5 from h 5 yn yn), if_neg (show ¬ s.kind = 6 from h 6 yn yn), if_neg (show ¬ s.kind = 7 from h 7 yn yn), if_neg (show ¬ s.kind = 8 from h 8 yn yn), if_neg (show ¬ s.kind = 9 from h 9 yn yn), if_neg (show ¬ s.kind = 10 from h 10 yn yn), if_neg (show ¬ s.kind = 11 from h 11 yn yn)]
theorem up_0 {C : CluM} {n : Int} (h : C.upE n = 0) : ∃ (k : Nat) (r : RepM), n = k ∧ C.nodes[k]? = some (some r) ∧ C.node n = some r := by
 unfold CluM.upE at h
 split at h
 ·cases h
 ·rename_i h1
  split at h
  ·cases h
  ·rename_i h2
   cases hn : C.node n with
   | none => rw [hn] at h2; exact absurd rfl h2
   | some r =>
    refine ⟨n.toNat, r, by omega, ?_, rfl⟩
    unfold CluM.node at hn
    rw [if_neg ye] at hn
    cases hx : C.nodes[n.toNat]? with
    | none => rw [hx] at hn; cases hn
    | some x => rw [hx] at hn; obtain rfl : x = some r := hn; rfl
theorem up_ne {C : CluM} {n : Int} (h : C.upE n ≠ 0) : C.node n = none := by
 unfold CluM.upE at h
 split at h
 ·rename_i h1
  unfold CluM.node
  split
  ·rfl
  ·rw [List.getElem?_eq_none ye]; rfl
 ·split at h
  ·rename_i h2
   cases hn : C.node n with
   | none => rfl
   | some r => rw [hn] at h2; cases h2
  ·exact absurd rfl h
section
variable {p : Nat} {C : CluM} {y : CluS} {b e : Nat}
theorem node_of (fit : CluFit C y) {k : Nat} {r : RepM} (h : C.nodes[k]? = some (some r)) : ∃ q, y.nr[k]? = some (some (q, r)) := by
 rw [← fit.nr, List.getElem?_map] at h
 cases hz : y.nr[k]? with
 | none => rw [hz] at h; cases h
 | some z =>
  rw [hz] at h
  cases z with
  | none => cases h
  | some z => cases h; exact ⟨z.1, rfl⟩
theorem crash_shut (fit : CluFit C y) {k : Nat} (hk : k < y.nr.length) {R : List HP} : Imp ([pt p (cluC C y) cluT, intH y.qa y.qc C.conf.qs, masH y.mp C.mas, pt y.nb (flat nodC (y.nr.set k none) ++ y.nx) rpT, pt y.cb (flat cliV y.cr ++ y.cx) cpT, lnkH y.lp C.lnk, hisH y.hp C.his, slH entT 7 y.da C.done.length y.dc (flat entC C.done), hsep (y.nr.map nodP), hsep (y.cr.map cliP)] ++ R) [cluH p (C.setNode k none)] := by
 have hz : y.nr[k]? = some y.nr[k] := GE hk
 have e1 := node_cells (C := C) (y := y) (k := k) (x := none) (C.setNode k none) rfl rfl rfl
 refine Imp.trans (Imp.app (M := _) (M' := []) (IP 8 rfl Imp.refl) Imp.nil) ?_
 refine Imp.trans (Imp.of_eq (List.append_nil _)) ?_
 refine Imp.trans (many_take (f := nodP) hz) ?_
 refine Imp.trans Imp.tail ?_
 refine Imp.trans (M := nodP none :: hsep ((y.nr.eraseIdx k).map nodP) :: _) (Imp.pure trivial Imp.refl) ?_
 refine Imp.trans (many_put (f := nodP) hk none) ?_
 refine Imp.clu (K := []) (y.node k none) ⟨by show (y.nr.set k none).map _ = C.nodes.set k none; rw [List.map_set, fit.nr]; rfl, fit.cr, fit.qc⟩ ?_
 unfold cluL
 rw [e1]
 exact (pkZ [1, 1, 1, 1, 1, 1, 1, 1, 0, 0])
theorem ustep_spec (ok : C.Ok b e) (hb : b < 100000) (he : e < 1000000) (s : StpM) : Tri Tryz.prog 34 [.pointer (some ⟨p, 0, none⟩), .agg s.cells.toArray] Fr w [cluH p C]
  (fun v L => v = .int .i64 (C.step s).2 ∧ L = [cluH p (C.step s).1]) := by
 refine TF 151 Tryz.func34 rfl yl tabOk rfl rfl ?_
 refine CS (CG (VG (VB (vs := s.cells) rfl fun sb => ?_)))
 have opn : ∀ {c : Code} {e : Env} {Q : Exit → Env → List HP → Prop}, (∀ y, CluFit C y → VC ⟨Tryz.prog, tab, tabOk, 151, Fr, w⟩ c e (pt sb s.cells doT :: cluL p C y) Q) → VC ⟨Tryz.prog, tab, tabOk, 151, Fr, w⟩ c e [pt sb s.cells doT, cluH p C] Q := fun h => by
  refine VC.opn 1 rfl (HOpn.clu p C) ?_
  rintro y fit
  exact CN (IP 10 rfl Imp.refl).ent (h y fit)
 refine xcv ?_
 refine CP (p := s.kind = 1) rfl (fun h => ?_) (fun h1 => ?_)
 ·have hr := st_1 C h
  refine xjg ?_
  refine xnd ?_
  refine VG (VQ 1 rfl (fun Fr w hF hs hS => ucall_spec Fr w ok hb he s) rfl (ψ := fun v H => v = .int .i64 (C.call s).2 ∧ H = cluH p (C.call s).1) yx ?_)
  rintro _ _ ⟨rfl, rfl⟩
  refine xjg ?_
  exact CR (Ret.tmp 4 rfl rfl (Imp.tail (H := pt sb _ doT) (L := [cluH p (C.call s).1])).ent ⟨by rw [hr], by rw [hr]⟩)
 refine xjg ?_
 refine CP (p := s.kind = 2) rfl (fun h => ?_) (fun h2 => ?_)
 ·have hr := st_2 C h
  refine opn fun y fit => ?_
  refine xcv ?_
  refine xne ?_
  refine xjg ?_
  refine VC.condNE rfl (fun k1 => ?_) (fun k1 => CK ?_)
  ·rw [up_ne k1] at hr
   refine xjg ?_
   exact xnf
  obtain ⟨k, r, hk, hkr, hnr⟩ := up_0 (C := C) (n := s.a) ycd
  obtain ⟨q, hx⟩ := node_of fit hkr
  have hkl := (List.getElem?_eq_some_iff.1 hx).1
  have hm : some r ∈ C.nodes := ME hkr
  have okr := (ok.fit r hm).ok
  have fw : FewS (ofS (stepR r C.now).2) := FewS.of (step_few okr C.now)
  rw [hnr] at hr
  dsimp only at hr
  obtain ⟨kd, sa, sx, sc, op⟩ := s
  dsimp only at hk hr k1
  subst hk
  refine CN (L' := pt sb (⟨kd, k, sx, sc, op⟩ : StpM).cells doT :: repH q r :: cnL p C y k C.lnk) (Imp.cons (node_out hx)).ent ?_
  refine CD (ts 0 15 (.only 15 (.only 16 .nil))) yl yq ?_
  refine xfs ?_
  refine AG (AI rfl (light_idx k rfl rfl rfl rfl rfl rfl hkl) ?_)
  refine AG (yE rfl rfl rfl (RdL.one 5 rfl (nod_cell hx)) ?_)
  refine xfs ?_
  refine AG (AQ 1 rfl (fun Fr w hF hs hS => vstep_spec Fr w okr C.now) rfl rfl yce ?_ ?_)
  ·rintro _ _ ⟨X, a, c, hX, rfl, rfl⟩
   exact ycl
  rintro _ _ ⟨X, a, c, hX, rfl, rfl⟩
  refine AG (AQ 7 rfl (fun Fr w hF hs hS => usend_spec Fr w (hS.blk 2 rfl) ok.lnk k (SdIn.at_ 1 hS rfl hX fw)) rfl rfl (ψ := fun v H => v = .tuple #[] ∧ H = lnkH y.lp (postL k C.lnk (X.map Prod.fst))) yx ?_ ?_)
  ·rintro _ _ ⟨rfl, rfl⟩
   exact ycl
  rintro _ _ ⟨rfl, rfl⟩
  rw [hX]
  refine zof ?_
  exact CR (Ret.tmp 4 rfl rfl (Imp.trans (Imp.tail (H := pt sb _ doT)) (node_shut (p := p) (r' := (stepR r C.now).1) (l := postL k C.lnk (ofS (stepR r C.now).2)) (a := a) (c := c) (X := X) (R := []) fit hx)).ent ⟨by rw [hr], by rw [hr]; rfl⟩)
 refine xjg ?_
 refine CP (p := s.kind = 3) rfl (fun h => ?_) (fun h3 => ?_)
 ·have hr := st_3 C h
  refine xjg ?_
  refine VG (VQ 1 rfl (fun Fr w hF hs hS => utick_spec Fr w ok) rfl (ψ := fun v H => v = .tuple #[] ∧ H = cluH p C.tick) yx ?_)
  rintro _ _ ⟨rfl, rfl⟩
  refine xjg ?_
  exact CR (Ret.tmp 4 rfl rfl (Imp.tail (H := pt sb _ doT) (L := [cluH p C.tick])).ent ⟨by rw [hr], by rw [hr]⟩)
 refine xjg ?_
 refine CP (p := s.kind = 11) rfl (fun h => ?_) (fun h11 => ?_)
 ·have hr := st_11 C h
  refine opn fun y fit => ?_
  refine xng ?_
  have fw := ok.mas.tick_few C.now
  refine CD (ts 0 9 (.only 9 (.only 10 .nil))) yl yq ?_
  refine xfs ?_
  refine AG (AQ 1 rfl (fun Fr w hF hs hS => vmtick_spec Fr w ok.mas C.now) rfl rfl yce ?_ ?_)
  ·rintro _ _ ⟨X, a, c, hX, rfl, rfl⟩
   exact yr
  rintro _ _ ⟨X, a, c, hX, rfl, rfl⟩
  refine AG (AQ 6 rfl (fun Fr w hF hs hS => usend_spec Fr w (hS.blk 2 rfl) ok.lnk 16 (SdIn.at_ 1 hS rfl hX fw)) rfl rfl (ψ := fun v H => v = .tuple #[] ∧ H = lnkH y.lp (postL 16 C.lnk (X.map Prod.fst))) yx ?_ ?_)
  ·rintro _ _ ⟨rfl, rfl⟩
   exact yr
  rintro _ _ ⟨rfl, rfl⟩
  rw [hX]
  refine zof ?_
  exact CR (Ret.tmp 4 rfl rfl (Imp.trans (Imp.tail (H := pt sb _ doT)) (mas_shut (p := p) (C := C) (m := (C.mas.tick C.now).1) (l := postL 16 C.lnk (C.mas.tick C.now).2) (a := a) (c := c) (X := X) (R := []) fit)).ent ⟨by rw [hr], by rw [hr]; rfl⟩)
 refine xjg ?_
 refine CP (p := s.kind = 4) rfl (fun h => ?_) (fun h4 => ?_)
 ·have hr := st_4 C h
  refine xcv ?_
  refine VG (VQ 1 rfl (fun Fr w hF hs hS => udeliver_spec Fr w ok ye s.a s.b s.c) rfl (ψ := fun v H => v = .int .i64 (C.deliver (s.a, s.b) s.c).2 ∧ H = cluH p (C.deliver (s.a, s.b) s.c).1) yx ?_)
  rintro _ _ ⟨rfl, rfl⟩
  refine xjg ?_
  exact CR (Ret.tmp 4 rfl rfl (Imp.tail (H := pt sb _ doT) (L := [cluH p (C.deliver (s.a, s.b) s.c).1])).ent ⟨by rw [hr], by rw [hr]⟩)
 refine xjg ?_
 refine CP (p := s.kind = 5) rfl (fun h => ?_) (fun h5 => ?_)
 ·have hr := st_5 C h
  refine opn fun y fit => ?_
  refine xjg ?_
  refine CD (ts 0 10 (.only 10 (ts 11 1 .nil))) yl yq ?_
  refine xfr ?_
  refine AG (AQ 6 rfl (fun Fr w hF hs hS => ldrop_spec Fr w ok.lnk s.a s.b s.c) rfl rfl (ψ := fun v H => v = .int .i64 (C.lnk.drop (s.a, s.b) s.c).2 ∧ H = lnkH y.lp (C.lnk.drop (s.a, s.b) s.c).1) yx ?_ ?_)
  ·rintro _ _ ⟨rfl, rfl⟩
   exact yr
  rintro _ _ ⟨rfl, rfl⟩
  refine xfr ?_
  refine xjg ?_
  exact CR (Ret.tmp 4 rfl rfl (Imp.trans (Imp.tail (H := pt sb _ doT)) (clu_shut (p := p) (C := ({ C with lnk := (C.lnk.drop (s.a, s.b) s.c).1 } : CluM)) (y := y) (R := []) ⟨fit.nr, fit.cr, fit.qc⟩)).ent ⟨by rw [hr], by rw [hr]⟩)
 refine xjg ?_
 refine CP (p := s.kind = 6) rfl (fun h => ?_) (fun h6 => ?_)
 ·have hr := st_6 C h
  refine opn fun y fit => ?_
  refine xjg ?_
  refine CD (ts 0 10 (.only 10 (ts 11 1 .nil))) yl yq ?_
  refine xfr ?_
  refine AG (AQ 6 rfl (fun Fr w hF hs hS => ldouble_spec Fr w ok.lnk s.a s.b s.c) rfl rfl (ψ := fun v H => v = .int .i64 (C.lnk.double (s.a, s.b) s.c).2 ∧ H = lnkH y.lp (C.lnk.double (s.a, s.b) s.c).1) yx ?_ ?_)
  ·rintro _ _ ⟨rfl, rfl⟩
   exact yr
  rintro _ _ ⟨rfl, rfl⟩
  refine xfr ?_
  refine xjg ?_
  exact CR (Ret.tmp 4 rfl rfl (Imp.trans (Imp.tail (H := pt sb _ doT)) (clu_shut (p := p) (C := ({ C with lnk := (C.lnk.double (s.a, s.b) s.c).1 } : CluM)) (y := y) (R := []) ⟨fit.nr, fit.cr, fit.qc⟩)).ent ⟨by rw [hr], by rw [hr]⟩)
 refine xjg ?_
 refine CP (p := s.kind = 7) rfl (fun h => ?_) (fun h7 => ?_)
 ·have hr := st_7 C h
  refine opn fun y fit => ?_
  refine xcv ?_
  refine xne ?_
  refine xjg ?_
  refine VC.condNE rfl (fun k1 => ?_) (fun k1 => CK ?_)
  ·rw [if_pos k1] at hr
   refine xjg ?_
   exact xnf
  rw [if_neg (fun g => g ycd)] at hr
  obtain ⟨k, r, hk, hkr, hnr⟩ := up_0 (C := C) (n := s.a) ycd
  obtain ⟨q, hx⟩ := node_of fit hkr
  have hkl := (List.getElem?_eq_some_iff.1 hx).1
  obtain ⟨kd, sa, sx, sc, op⟩ := s
  dsimp only at hk hr k1
  subst hk
  refine CD (ts 0 7 (.only 7 .nil)) yl yq ?_
  refine xfr ?_
  refine AG (AI rfl (light_idx k rfl rfl rfl rfl rfl rfl hkl) ?_)
  refine AG (VA.st 4 (cs' := flat nodC (y.nr.set k none) ++ y.nx) rfl rfl rfl rfl rfl ych (nod_store none hkl y.nx) rfl yr ?_)
  refine zof ?_
  exact CR (Ret.tmp 4 rfl rfl (Imp.trans (Imp.tail (H := pt sb _ doT)) (crash_shut (p := p) (C := C) (R := []) fit hkl)).ent ⟨by rw [hr], by rw [hr]⟩)
 refine xjg ?_
 refine CP (p := s.kind = 8) rfl (fun h => ?_) (fun h8 => ?_)
 ·have hr := st_8 C h
  refine opn fun y fit => ?_
  refine xng ?_
  have fw := (ok.mas.suspect_few s.a).1
  refine xjg ?_
  refine CD (ts 0 6 (.only 6 (ts 7 5 .nil))) yl yq ?_
  refine xfs ?_
  refine AG (AQ 1 rfl (fun Fr w hF hs hS => vsuspect_spec Fr w ok.mas s.a) rfl rfl yce ?_ ?_)
  ·rintro _ _ ⟨X, a, c, hX, rfl, rfl⟩
   exact yr
  rintro _ _ ⟨X, a, c, hX, rfl, rfl⟩
  refine xfs ?_
  refine xjg ?_
  refine xnh ?_
  rintro _ _ ⟨rfl, rfl⟩
  rw [hX]
  refine xjg ?_
  exact CR (Ret.tmp 4 rfl rfl (Imp.trans (Imp.tail (H := pt sb _ doT)) (mas_shut (p := p) (C := C) (m := (C.mas.suspect s.a).1) (l := postL 16 C.lnk (C.mas.suspect s.a).2.1) (a := a) (c := c) (X := X) (R := []) fit)).ent ⟨by rw [hr], by rw [hr]; rfl⟩)
 refine xjg ?_
 refine CP (p := s.kind = 9) rfl (fun h => ?_) (fun h9 => ?_)
 ·have hr := st_9 C h
  refine xcv ?_
  refine VG (VQ 1 rfl (fun Fr w hF hs hS => ujoin_spec Fr w ok ye s.a) rfl (ψ := fun v H => v = .int .i64 (C.join s.a).2 ∧ H = cluH p (C.join s.a).1) yx ?_)
  rintro _ _ ⟨rfl, rfl⟩
  refine xjg ?_
  exact CR (Ret.tmp 4 rfl rfl (Imp.tail (H := pt sb _ doT) (L := [cluH p (C.join s.a).1])).ent ⟨by rw [hr], by rw [hr]⟩)
 refine xjg ?_
 refine CP (p := s.kind = 10) rfl (fun h => ?_) (fun h10 => ?_)
 ·have hr := st_10 C h
  refine opn fun y fit => ?_
  refine xng ?_
  have fw := (ok.mas.drain_few s.a).1
  refine xjg ?_
  refine CD (ts 0 6 (.only 6 (ts 7 5 .nil))) yl yq ?_
  refine xfs ?_
  refine AG (AQ 1 rfl (fun Fr w hF hs hS => vdrain_spec Fr w ok.mas s.a) rfl rfl yce ?_ ?_)
  ·rintro _ _ ⟨X, a, c, hX, rfl, rfl⟩
   exact yr
  rintro _ _ ⟨X, a, c, hX, rfl, rfl⟩
  refine xfs ?_
  refine xjg ?_
  refine xnh ?_
  rintro _ _ ⟨rfl, rfl⟩
  rw [hX]
  refine xjg ?_
  exact CR (Ret.tmp 4 rfl rfl (Imp.trans (Imp.tail (H := pt sb _ doT)) (mas_shut (p := p) (C := C) (m := (C.mas.drain s.a).1) (l := postL 16 C.lnk (C.mas.drain s.a).2.1) (a := a) (c := c) (X := X) (R := []) fit)).ent ⟨by rw [hr], by rw [hr]; rfl⟩)
 refine xjg ?_
 have hr := st_no C (s := s) (fun k k1 k2 => by
  rcases (by omega : k = 1 ∨ k = 2 ∨ k = 3 ∨ k = 4 ∨ k = 5 ∨ k = 6 ∨ k = 7 ∨ k = 8 ∨ k = 9 ∨ k = 10 ∨ k = 11) with rfl | rfl | rfl | rfl | rfl | rfl | rfl | rfl | rfl | rfl | rfl <;> assumption)
 exact CR (Ret.tmp 4 rfl rfl Imp.tail.ent ⟨by rw [hr], by rw [hr]⟩)
end
end Cl
namespace Cl
open Go Vg T Api Ch Rep Conf Lg Rd Nd
def IsCall (N c : Int) (t : ByteArray) : Prop := c < N ∧ ∃ g, getM (sB t) = some (g, []) ∧ g.kind = 1 ∧ g.client = c ∧ inN g.client = true ∧ inN g.seq = true ∧ inN g.try_ = true
def MailC (N : Int) (S : LnkM) : Prop := ∀ x ∈ S.mail, 32 ≤ x.1.1 → x.1.2 ≠ 16 → ∀ t ∈ x.2, IsCall N (x.1.1 - 32) t
namespace MailC
variable {N : Int} {S : LnkM}
theorem list (h : MailC N S) {p : PrM} (h1 : 32 ≤ p.1) (h2 : p.2 ≠ 16) : ∀ t ∈ S.list p, IsCall N (p.1 - 32) t := fun t ht => by
 unfold LnkM.list at ht
 cases hg : mGet S.mail p with
 | none => rw [hg] at ht; cases ht
 | some l => rw [hg] at ht; exact h _ (mGet_mem hg) h1 h2 t ht
theorem put (h : MailC N S) {p : PrM} {l : List ByteArray} (hl : 32 ≤ p.1 → p.2 ≠ 16 → ∀ t ∈ l, IsCall N (p.1 - 32) t) : MailC N { S with mail := mPut S.mail p l } := fun x hx => by
 rcases mPut_mem hx with h3 | h3
 ·exact h x h3
 ·rw [h3]; exact hl
theorem send (h : MailC N S) {p : PrM} {t : ByteArray} (ht : 32 ≤ p.1 → p.2 ≠ 16 → IsCall N (p.1 - 32) t) : MailC N (S.send p t) := by
 unfold LnkM.send
 split
 ·exact h
 ·refine h.put fun h1 h2 u hu => ?_
  rcases List.mem_append.1 hu with hu | hu
  ·exact h.list h1 h2 u hu
  ·rw [List.mem_singleton.1 hu]; exact ht h1 h2
theorem found (h : MailC N S) {p : PrM} {i : Int} {t : ByteArray} (hf : S.find p i = some t) (h1 : 32 ≤ p.1) (h2 : p.2 ≠ 16) : IsCall N (p.1 - 32) t := by
 unfold LnkM.find at hf
 split at hf
 ·cases hf
 ·exact h.list h1 h2 t (ME hf)
theorem without (h : MailC N S) (p : PrM) (i : Int) : MailC N (S.without p i) := by
 have h' : MailC N { S with mail := mPut S.mail p ((S.list p).eraseIdx i.toNat) } := h.put fun h1 h2 u hu => h.list h1 h2 u (List.mem_of_mem_eraseIdx hu)
 unfold LnkM.without
 split
 ·exact fun x hx => h' x (mDel_mem hx)
 ·exact h'
theorem drop (h : MailC N S) (p : PrM) (i : Int) : MailC N (S.drop p i).1 := by
 unfold LnkM.drop
 split
 ·exact h
 ·exact h.without p i
theorem double (h : MailC N S) (p : PrM) (i : Int) : MailC N (S.double p i).1 := by
 unfold LnkM.double
 cases hf : S.find p i with
 | none => exact h
 | some t => exact h.send fun h1 h2 => h.found hf h1 h2
theorem postL (h : MailC N S) {from_ : Int} {l : List SdM} (hl : 32 ≤ from_ → ∀ s ∈ l, s.1 ≠ 16 → ∀ t, putM s.2.1 s.2.2 = some t → IsCall N (from_ - 32) (bT t)) : MailC N (Cl.postL from_ S l) := by
 unfold Cl.postL
 induction l generalizing S with
 | nil => exact h
 | cons s l ih =>
  refine ih ?_ fun h1 x hx => hl h1 x (List.mem_cons_of_mem _ hx)
  unfold post1
  split
  ·exact h
  ·rename_i t ht
   exact h.send fun h1 h2 => hl h1 s (List.mem_cons_self ..) h2 t ht
end MailC
theorem send_cap (S : LnkM) (p : PrM) (t : ByteArray) : (S.send p t).cap = S.cap := by unfold LnkM.send; split <;> rfl
theorem without_cap (S : LnkM) (p : PrM) (i : Int) : (S.without p i).cap = S.cap := by unfold LnkM.without; split <;> rfl
theorem drop_cap (S : LnkM) (p : PrM) (i : Int) : (S.drop p i).1.cap = S.cap := by
 unfold LnkM.drop
 split
 ·rfl
 ·exact without_cap S p i
theorem double_cap (S : LnkM) (p : PrM) (i : Int) : (S.double p i).1.cap = S.cap := by
 unfold LnkM.double
 split
 ·rfl
 ·exact send_cap S p _
theorem postL_cap (from_ : Int) (l : List SdM) (S : LnkM) : (postL from_ S l).cap = S.cap := by
 unfold postL
 induction l generalizing S with
 | nil => rfl
 | cons s l ih =>
  rw [List.foldl_cons, ih]
  unfold post1
  split
  ·rfl
  ·exact send_cap _ _ _
def CallS (id : Int) (S : List SdM) : Prop := ∀ s ∈ S, s.1 = 16 ∨ (s.2.1.kind = 1 ∧ s.2.1.client = id ∧ s.2.2 = [])
def Cls (s : CliM) (Q : CliM × List SdM) : Prop := Q.1.id = s.id ∧ CallS s.id Q.2
theorem CallS.nil (id : Int) : CallS id [] := fun s hs => by cases hs
theorem CallS.ask (id : Int) : CallS id askS := fun s hs => .inl (by rw [List.mem_singleton.1 hs])
theorem giveUp_c (s : CliM) (r : Int) : Cls s (s.giveUp r) := ⟨rfl, CallS.ask _⟩
theorem goOn_c (s : CliM) (r now : Int) : Cls s (s.goOn r now) := by
 unfold CliM.goOn
 split
 ·exact giveUp_c s r
 split
 ·exact ⟨rfl, CallS.nil _⟩
 ·exact giveUp_c (s.took now) r
theorem try_c (s : CliM) (now : Int) : Cls s (s.try_ now) := ⟨rfl, fun x hx => .inr (by rw [List.mem_singleton.1 hx]; exact ⟨rfl, rfl, rfl⟩)⟩
theorem ccall_c (s : CliM) (o : OpM) (cl d now : Int) : Cls s (s.call o cl d now) := by
 unfold CliM.call
 split
 ·exact ⟨rfl, CallS.nil _⟩
 split
 ·exact try_c (s.begun o cl d) _
 ·exact ⟨rfl, CallS.ask _⟩
theorem refused_c (s : CliM) (r now : Int) : Cls s (s.refused r now) := by
 unfold CliM.refused
 split
 ·exact goOn_c ({ s with unsure := true } : CliM) r now
 split
 ·exact giveUp_c s r
 ·exact goOn_c s r now
theorem ctake_c (s : CliM) (f : FrameM) (ms : List MemM) (now : Int) : Cls s (s.take f ms now) := by
 have z : Cls s (s, []) := ⟨rfl, CallS.nil _⟩
 unfold CliM.take
 split
 ·split
  ·exact z
  split
  ·exact try_c ({ s with ch := ⟨f.cepoch, ms, f.drain⟩ } : CliM) _
  ·exact ⟨rfl, CallS.nil _⟩
 split
 ·split
  ·exact ⟨rfl, CallS.nil _⟩
  ·exact z
 split
 ·split
  ·exact refused_c s _ _
  ·exact z
 ·exact z
theorem ctick_c (s : CliM) (now : Int) : Cls s (s.tick now) := by
 have z : Cls s (s, []) := ⟨rfl, CallS.nil _⟩
 unfold CliM.tick
 split
 ·split
  ·exact goOn_c ({ s with unsure := true } : CliM) _ _
  ·exact z
 split
 ·split
  ·exact z
  split
  ·exact giveUp_c s _
  ·exact ⟨rfl, CallS.ask _⟩
 split
 ·split
  ·exact ⟨rfl, CallS.ask _⟩
  ·exact z
 ·exact z
structure RefI (F : ConfM) (C : CluM) : Prop where
 cf : C.conf = F
 cap : C.lnk.cap = F.link
 mail : MailC F.clients C.lnk
 inv : ∀ r, some r ∈ C.nodes → NdC F r
 ids : ∀ (i : Nat) (s : CliM), C.clis[i]? = some s → s.id = i
 len : (C.clis.length : Int) ≤ F.clients
namespace RefI
variable {F : ConfM} {C : CluM}
theorem links (h : RefI F C) {l : LnkM} (h1 : l.cap = C.lnk.cap) (h2 : MailC F.clients l) : RefI F { C with lnk := l } := ⟨h.cf, h1.trans h.cap, h2, h.inv, h.ids, h.len⟩
theorem master (h : RefI F C) (m : MasM) : RefI F { C with mas := m } := ⟨h.cf, h.cap, h.mail, h.inv, h.ids, h.len⟩
theorem postN (h : RefI F C) {n : Int} (hn : n < 32) (S : List SdM) : RefI F (C.post n S) := h.links (postL_cap ..) (h.mail.postL fun h1 => by omega)
theorem postC (h : RefI F C) {n : Int} (hn : n - 32 < F.clients) {S : List SdM} (hS : CallS (n - 32) S) : RefI F (C.post n S) := h.links (postL_cap ..) (h.mail.postL fun h1 s hs h16 t ht => by
 rcases hS s hs with h2 | ⟨h2, h3, h4⟩
 ·exact absurd h2 h16
 ·rw [h4] at ht
  obtain ⟨g, g1, g2, g3, g4⟩ := call_back h2 ht
  exact ⟨hn, g, by rw [sB_of]; exact g1, g2, g3.trans h3, g4⟩)
theorem setNode (h : RefI F C) (n : Int) {x : Option RepM} (hx : ∀ r, x = some r → NdC F r) : RefI F (C.setNode n x) := ⟨h.cf, h.cap, h.mail, fun r hr => by
 rcases List.mem_or_eq_of_mem_set hr with h1 | h1
 ·exact h.inv r h1
 ·exact hx r h1.symm, h.ids, h.len⟩
theorem node1 (h : RefI F C) (n : Int) {r : RepM} (hr : NdC F r) : RefI F (C.setNode n (some r)) := h.setNode n fun _ e => by cases e; exact hr
theorem setCli (h : RefI F C) {n : Int} {s x : CliM} (hs : C.cli n = some s) (hx : x.id = s.id) : RefI F (C.setCli n x) := ⟨h.cf, h.cap, h.mail, h.inv, fun i y hy => by
 have hy : (C.clis.set n.toNat x)[i]? = some y := hy
 rw [List.getElem?_set] at hy
 split at hy
 ·rename_i e
  split at hy
  ·cases hy
   unfold CluM.cli at hs
   split at hs
   ·cases hs
   ·rw [hx, ← e]; exact h.ids _ s hs
  ·cases hy
 ·exact h.ids i y hy, by show ((C.clis.set _ _).length : Int) ≤ _; rw [List.length_set]; exact h.len⟩
theorem cli_in (h : RefI F C) {n : Int} {s : CliM} (hs : C.cli n = some s) : n < F.clients := by
 unfold CluM.cli at hs
 split at hs
 ·cases hs
 ·have := (List.getElem?_eq_some_iff.1 hs).1
  have := h.len
  omega
theorem cli_id (h : RefI F C) {n : Int} {s : CliM} (hs : C.cli n = some s) : s.id = n := by
 unfold CluM.cli at hs
 split at hs
 ·cases hs
 ·have := h.ids _ s hs
  omega
theorem node_in {n : Int} {r : RepM} (hn : C.node n = some r) : some r ∈ C.nodes ∧ 0 ≤ n ∧ n < C.nodes.length := by
 unfold CluM.node at hn
 split at hn
 ·cases hn
 ·cases hx : C.nodes[n.toNat]? with
  | none => rw [hx] at hn; cases hn
  | some x =>
   rw [hx] at hn
   obtain rfl : x = some r := hn
   have := (List.getElem?_eq_some_iff.1 hx).1
   exact ⟨ME hx, by omega, by omega⟩
theorem tickN (h : RefI F C) (h6 : C.nodes.length ≤ 6) (n : Nat) : RefI F (C.tickN n) ∧ (C.tickN n).nodes.length = C.nodes.length := by
 unfold CluM.tickN
 split
 ·exact ⟨h, rfl⟩
 ·rename_i r hr
  have hm : some r ∈ C.nodes ∧ n < C.nodes.length := by
   cases hx : C.nodes[n]? with
   | none => rw [hx] at hr; cases hr
   | some x => rw [hx] at hr; obtain rfl : x = some r := hr; exact ⟨ME hx, (List.getElem?_eq_some_iff.1 hx).1⟩
  exact ⟨(h.node1 n (h.inv r hm.1).tick).postN ye _, by show (C.nodes.set _ _).length = _; rw [List.length_set]⟩
theorem tickC (h : RefI F C) (n : Nat) : RefI F (C.tickC n) := by
 unfold CluM.tickC
 split
 ·exact h
 ·rename_i s hs
  have hc : C.cli (n : Int) = some s := by unfold CluM.cli; rw [if_neg ye, Int.toNat_natCast]; exact hs
  have hk := ctick_c s C.now
  have hid := h.cli_id hc
  have hin := h.cli_in hc
  refine (h.setCli hc hk.1).postC ye ?_
  rw [show (32 + (n : Int)) - 32 = s.id by omega]
  exact hk.2
theorem tickNs (h : RefI F C) (h6 : C.nodes.length ≤ 6) (l : List Nat) : RefI F (l.foldl CluM.tickN C) := by
 induction l generalizing C with
 | nil => exact h
 | cons x l ih => exact ih (h.tickN h6 x).1 (by rw [(h.tickN h6 x).2]; exact h6)
theorem tickCs (h : RefI F C) (l : List Nat) : RefI F (l.foldl CluM.tickC C) := by
 induction l generalizing C with
 | nil => exact h
 | cons x l ih => exact ih (h.tickC x)
theorem tick (h : RefI F C) (h6 : C.nodes.length ≤ 6) : RefI F C.tick := by
 have h' : RefI F ({ C with now := min (C.now + 1) 1099511627776 } : CluM) := ⟨h.cf, h.cap, h.mail, h.inv, h.ids, h.len⟩
 exact (h'.tickNs h6 _).tickCs _
theorem takes (h : RefI F C) (h6 : C.nodes.length ≤ 6) (from_ to : Int) (f : FrameM) (ms : List MemM) : RefI F (C.takes from_ to f ms) := by
 unfold CluM.takes
 split
 ·rename_i e
  exact (h.master _).postN ye _
 split
 ·rename_i r hr
  obtain ⟨hm, h0, h1⟩ := node_in hr
  exact (h.node1 _ ((h.inv r hm).take _ _ _ _)).postN ye _
 split
 ·rename_i s hs
  have hk := ctake_c s f ms C.now
  have hid := h.cli_id hs
  have hin := h.cli_in hs
  refine (h.setCli hs hk.1).postC ye ?_
  rw [← hid]; exact hk.2
 ·exact h
theorem got (h : RefI F C) (h6 : C.nodes.length ≤ 6) (from_ to : Int) (t : ByteArray) : RefI F (C.got from_ to t) := by
 unfold CluM.got
 split
 ·exact h.takes h6 _ _ _ _
 ·exact h
theorem deliver (h : RefI F C) (h6 : C.nodes.length ≤ 6) (p : PrM) (i : Int) : RefI F (C.deliver p i).1 := by
 unfold CluM.deliver
 split
 ·exact h
 ·exact (h.links (without_cap ..) (h.mail.without p i)).got h6 _ _ _
theorem back (h : RefI F C) (h6 : C.nodes.length ≤ 6) (n : Int) : RefI F (C.back n) := by
 unfold CluM.back
 split
 ·rename_i hu
  have hi : NdC F (newR C.conf n true) := by rw [h.cf]; exact NdC.new F n true
  have hn : n < C.nodes.length := by
   unfold CluM.upE at hu
   split at hu
   ·cases hu
   ·omega
  exact RefI.postN (n := n) (h.node1 _ (hi.take _ _ _ _)) ye _
 ·exact h
theorem join (h : RefI F C) (h6 : C.nodes.length ≤ 6) (n : Int) : RefI F (C.join n).1 := by
 unfold CluM.join
 dsimp only
 split
 ·exact h
 ·exact RefI.postN (n := 16) ((h.master (C.mas.join n C.now).1).back h6 n) ye _
theorem call (h : RefI F C) (s : StpM) : RefI F (C.call s).1 := by
 unfold CluM.call
 split
 ·exact h
 ·rename_i x hx
  split
  ·exact h
  ·have hk := ccall_c x s.op s.b (C.dead s.c) C.now
   have hid := h.cli_id hx
   have h' := h.setCli hx hk.1
   have h2 : RefI F ({ C.setCli s.a (x.call s.op s.b (C.dead s.c) C.now).1 with his := C.his.call s.a (x.call s.op s.b (C.dead s.c) C.now).1.seq s.op } : CluM) := ⟨h'.cf, h'.cap, h'.mail, h'.inv, h'.ids, h'.len⟩
   have hin := h.cli_in hx
   refine h2.postC ye ?_
   rw [show 32 + s.a - 32 = x.id by omega]
   exact hk.2
theorem step (h : RefI F C) (h6 : C.nodes.length ≤ 6) (s : StpM) : RefI F (C.step s).1 := by
 by_cases k1 : s.kind = 1
 ·rw [st_1 C k1]; exact h.call s
 by_cases k2 : s.kind = 2
 ·rw [st_2 C k2]
  cases hr : C.node s.a with
  | none => exact h
  | some r =>
   obtain ⟨hm, h0, h1⟩ := node_in hr
   exact (h.node1 _ ((h.inv r hm).step C.now)).postN ye _
 by_cases k3 : s.kind = 3
 ·rw [st_3 C k3]; exact h.tick h6
 by_cases k4 : s.kind = 4
 ·rw [st_4 C k4]; exact h.deliver h6 _ _
 by_cases k5 : s.kind = 5
 ·rw [st_5 C k5]; exact h.links (drop_cap ..) (h.mail.drop _ _)
 by_cases k6 : s.kind = 6
 ·rw [st_6 C k6]; exact h.links (double_cap ..) (h.mail.double _ _)
 by_cases k7 : s.kind = 7
 ·rw [st_7 C k7]
  split
  ·exact h
  ·exact h.setNode _ fun r e => by cases e
 by_cases k8 : s.kind = 8
 ·rw [st_8 C k8]; exact (h.master _).postN ye _
 by_cases k9 : s.kind = 9
 ·rw [st_9 C k9]; exact h.join h6 s.a
 by_cases k10 : s.kind = 10
 ·rw [st_10 C k10]; exact (h.master _).postN ye _
 by_cases k11 : s.kind = 11
 ·rw [st_11 C k11]; exact (h.master _).postN ye _
 ·rw [st_no C fun j h1 h2 => by
   rcases (by omega : j = 1 ∨ j = 2 ∨ j = 3 ∨ j = 4 ∨ j = 5 ∨ j = 6 ∨ j = 7 ∨ j = 8 ∨ j = 9 ∨ j = 10 ∨ j = 11) with rfl | rfl | rfl | rfl | rfl | rfl | rfl | rfl | rfl | rfl | rfl <;> assumption]
  exact h
theorem do_ (h : RefI F C) {b e : Nat} (ok : C.Ok b e) (s : StpM) : RefI F (C.do_ s).1 := by
 have h' := h.step ok.nods s
 exact ⟨h'.cf, h'.cap, h'.mail, h'.inv, h'.ids, h'.len⟩
theorem new (hF : F = fitM F) : RefI F (newC F) := ⟨rfl, rfl, fun x hx => absurd hx List.not_mem_nil, fun r hr => by
 obtain ⟨n, _, e⟩ := List.mem_map.1 hr
 cases e; exact NdC.new F _ _, fun i s hs => by
 have hs : ((List.range F.clients.toNat).map fun (n : Nat) => newCl F n)[i]? = some s := hs
 rw [List.getElem?_map] at hs
 cases hx : (List.range F.clients.toNat)[i]? with
 | none => rw [hx] at hs; cases hs
 | some n =>
  rw [hx] at hs
  cases hs
  obtain ⟨h1, h2⟩ := List.getElem?_eq_some_iff.1 hx
  rw [List.getElem_range] at h2
  rw [← h2]; rfl, by
 have := conf_bounds hF
 show ((((List.range F.clients.toNat).map fun (n : Nat) => newCl F n).length : Nat) : Int) ≤ _
 rw [List.length_map, List.length_range]; omega⟩
end RefI
end Cl
namespace Cl
open Go Vg T Api Ch Rep Conf Lg Rd
theorem send_list {S : LnkM} {p q : PrM} (h : p ≠ q) (t : ByteArray) : (S.send p t).list q = S.list q := by
 unfold LnkM.send
 split
 ·rfl
 ·show (mGet (mPut S.mail p _) q).getD [] = _
  rw [mGet_put, if_neg h]; rfl
theorem post_list {from_ k : Int} (h : from_ ≠ k) (y : Int) (X : List SdM) (S : LnkM) : (postL from_ S X).list (k, y) = S.list (k, y) := by
 unfold postL
 induction X generalizing S with
 | nil => rfl
 | cons x X ih =>
  rw [List.foldl_cons, ih]
  unfold post1
  split
  ·rfl
  ·exact send_list (fun e => h (by cases e; rfl)) _
theorem perm_mget {l m : List (PrM × List ByteArray)} (h : m.Perm l) (hn : (l.map Prod.fst).Nodup) (p : PrM) : mGet m p = mGet l p := by
 have hm : (m.map Prod.fst).Nodup := (h.map Prod.fst).nodup_iff.2 hn
 cases hg : mGet l p with
 | some v => exact mGet_of_mem hm (h.mem_iff.2 (mGet_mem hg))
 | none =>
  rw [mGet_none_iff] at hg ⊢
  exact fun x hx => hg x (h.mem_iff.1 hx)
section
variable {C : CluM} {b e : Nat} {k : Int}
theorem set_node_same {n : Int} {x : Option RepM} (h : C.upE n ≠ 4) : (C.setNode n x).node n = x := by
 unfold CluM.upE at h
 split at h
 ·exact absurd rfl h
 ·rename_i h1
  unfold CluM.node CluM.setNode
  dsimp only
  rw [if_neg ye, List.getElem?_set_self ye]
  rfl
end
end Cl
namespace Cl
open Go Vg T Api Ch Rep Conf Lg Rd Nd
theorem without_ne {S : LnkM} (ok : S.Ok) {p q : PrM} (h : p ≠ q) (i : Int) : (S.without p i).list q = S.list q := by
 have e1 : mGet (mPut S.mail p ((S.list p).eraseIdx i.toNat)) q = mGet S.mail q := by rw [mGet_put, if_neg h]
 unfold LnkM.without
 split
 ·show (mGet (mDel (mPut S.mail p _) p) q).getD [] = _
  rw [mDel_put, mGet_del ok.nd, if_neg h]; rfl
 ·show (mGet (mPut S.mail p _) q).getD [] = _
  rw [e1]; rfl
theorem without_len {S : LnkM} (ok : S.Ok) {p : PrM} {i : Int} {t : ByteArray} (h : S.find p i = some t) : ((S.without p i).list p).length + 1 = (S.list p).length := by
 obtain ⟨k, rfl, hk, -⟩ := find_is h
 have he : ((S.list p).eraseIdx k).length = (S.list p).length - 1 := List.length_eraseIdx_of_lt hk
 unfold LnkM.without
 rw [Int.toNat_natCast]
 split
 ·rename_i h0
  show ((mGet (mDel (mPut S.mail p _) p) p).getD []).length + 1 = _
  rw [mDel_put, mGet_del ok.nd, if_pos rfl]
  show 0 + 1 = _
  omega
 ·show ((mGet (mPut S.mail p _) p).getD []).length + 1 = _
  rw [mGet_put, if_pos rfl]
  show ((S.list p).eraseIdx k).length + 1 = _
  omega
theorem post_16 {n a : Int} (h : a ≠ 16) {X : List SndM} (hX : ∀ s ∈ X, s.1 = 16) (S : LnkM) : (postL n S (ofS X)).list (n, a) = S.list (n, a) := by
 unfold postL ofS
 induction X generalizing S with
 | nil => rfl
 | cons x X ih =>
  rw [List.map_cons, List.foldl_cons, ih fun s hs => hX s (List.mem_cons_of_mem _ hs)]
  have := hX x (List.mem_cons_self ..)
  unfold post1
  split
  ·rfl
  ·exact send_list (fun e => h (by have := congrArg Prod.snd e; dsimp only at this; omega)) _
theorem post_1 {n a : Int} (ha : adrB n = true) (hb : adrB a = true) (hne : n ≠ a) {fr : FrameM} (hp : Puts fr) (S : LnkM) :
  (((S.list (n, a)).length : Int) < S.cap → ((postL n S (ofS [(a, fr)])).list (n, a)).length = (S.list (n, a)).length + 1) ∧ (¬ ((S.list (n, a)).length : Int) < S.cap → ((postL n S (ofS [(a, fr)])).list (n, a)).length = (S.list (n, a)).length) := by
 obtain ⟨t, ht, hl⟩ := hp
 have e1 : postL n S (ofS [(a, fr)]) = S.send (n, a) (bT t) := by
  show post1 n S (a, fr, []) = _
  unfold post1
  show (match putM fr [] with | none => S | some t => S.send (n, a) (bT t)) = _
  rw [ht]
 have e2 : S.sendE (n, a) (bT t) = if S.cap ≤ (S.list (n, a)).length then 60 else 0 := by
  unfold LnkM.sendE
  have h0 : ¬ (adrB n = false ∨ adrB a = false ∨ n = a) := by
   rw [ha, hb]
   rintro (h | h | h)
   ·cases h
   ·cases h
   ·exact hne h
  rw [if_neg h0, if_neg (by rw [bT_size]; omega)]
 rw [e1]
 unfold LnkM.send
 rw [e2]
 constructor
 ·intro h
  rw [if_neg (show ¬ S.cap ≤ ((S.list (n, a)).length : Int) by omega), if_neg yn]
  show ((mGet (mPut S.mail (n, a) _) (n, a)).getD []).length = _
  rw [mGet_put, if_pos rfl]
  show (S.list (n, a) ++ [bT t]).length = _
  rw [List.length_append]; rfl
 ·intro h
  rw [if_pos (show S.cap ≤ ((S.list (n, a)).length : Int) by omega), if_pos yn]
structure Told (F : ConfM) (C : CluM) (a b : Int) (r : RepM) (D : CluM × Int) : Prop where
 no : D.2 ≠ 0 → D.1.lnk.list (a, b) = C.lnk.list (a, b)
 ok : D.2 = 0 → (∃ q, D.1.node b = some q ∧ (((C.lnk.list (b, a)).length : Int) < F.link → ((D.1.lnk.list (b, a)).length : Int) - (C.lnk.list (b, a)).length + waitsN q 4 - waitsN r 4 = 1)) ∧ (D.1.lnk.list (a, b)).length + 1 = (C.lnk.list (a, b)).length ∧
  (C.lnk.list (b, a)).length ≤ (D.1.lnk.list (b, a)).length ∧ (D.1.lnk.list (b, a)).length ≤ (C.lnk.list (b, a)).length + 1 ∧ (¬ ((C.lnk.list (b, a)).length : Int) < F.link → (D.1.lnk.list (b, a)).length = (C.lnk.list (b, a)).length)
theorem told_do {F : ConfM} {C : CluM} {n e : Nat} (ok : C.Ok n e) (I : RefI F C) {s : StpM} (h4 : s.kind = 4) (ha : 32 ≤ s.a) {r : RepM} (hn : C.node s.b = some r) : Told F C s.a s.b r (C.do_ s) := by
 obtain ⟨hm, h0, hlen⟩ := RefI.node_in hn
 have h6 := ok.nods
 have hir := I.inv r hm
 have key : Told F C s.a s.b r (C.step s) := by
  rw [st_4 C h4]
  cases hf : C.lnk.find (s.a, s.b) s.c with
  | none =>
   have e0 : C.deliver (s.a, s.b) s.c = (C, 4) := by unfold CluM.deliver; rw [hf]
   rw [e0]
   exact ⟨fun _ => rfl, fun h => by cases h⟩
  | some t =>
   have hadr := ok.adr.found hf
   dsimp only at hadr
   obtain ⟨hcl, g, g1, g2, g3, g4, g5, g6⟩ := I.mail.found hf ha yba
   dsimp only at hcl g3
   have hd : C.node s.b = ({ C with lnk := C.lnk.without (s.a, s.b) s.c } : CluM).node s.b := rfl
   rw [hd] at hn
   have hcap : (C.lnk.without (s.a, s.b) s.c).cap = F.link := (without_cap ..).trans I.cap
   have l1 := without_len ok.lnk hf
   have l2 := without_ne ok.lnk (p := (s.a, s.b)) (q := (s.b, s.a)) (fun e => by have := congrArg Prod.fst e; dsimp only at this; omega) s.c
   have hup : ({ C with lnk := C.lnk.without (s.a, s.b) s.c } : CluM).upE s.b ≠ 4 := by
    unfold CluM.upE
    rw [if_neg (by show ¬ (s.b < 0 ∨ (C.nodes.length : Int) ≤ s.b); omega)]
    split <;> decide
   have hgot : ({ C with lnk := C.lnk.without (s.a, s.b) s.c } : CluM).got s.a s.b t = (({ C with lnk := C.lnk.without (s.a, s.b) s.c } : CluM).setNode s.b (some (takeR r s.a g [] C.now).1)).post s.b (ofS (takeR r s.a g [] C.now).2) := by
    unfold CluM.got
    rw [g1]
    show CluM.takes _ _ _ _ _ = _
    unfold CluM.takes
    rw [if_neg ye, hn]
   have hout : OutB r g.client (takeR r s.a g [] C.now) := call_b (ok.fit r hm) hir s.a g2 ye (by rw [← hir.cl]; omega) g4 g5 g6 [] C.now
   unfold OutB at hout
   rw [show 32 + g.client = s.a by omega] at hout
   have e0 : C.deliver (s.a, s.b) s.c = ((({ C with lnk := C.lnk.without (s.a, s.b) s.c } : CluM).setNode s.b (some (takeR r s.a g [] C.now).1)).post s.b (ofS (takeR r s.a g [] C.now).2), 0) := by
    unfold CluM.deliver
    rw [hf]
    show (CluM.got _ _ _ _, (0 : Int)) = _
    rw [hgot]
   rw [e0]
   refine ⟨fun h => absurd rfl h, fun _ => ?_⟩
   have hnode : ((({ C with lnk := C.lnk.without (s.a, s.b) s.c } : CluM).setNode s.b (some (takeR r s.a g [] C.now).1)).post s.b (ofS (takeR r s.a g [] C.now).2)).node s.b = some (takeR r s.a g [] C.now).1 := set_node_same hup
   have hlk : ((({ C with lnk := C.lnk.without (s.a, s.b) s.c } : CluM).setNode s.b (some (takeR r s.a g [] C.now).1)).post s.b (ofS (takeR r s.a g [] C.now).2)).lnk = postL s.b (C.lnk.without (s.a, s.b) s.c) (ofS (takeR r s.a g [] C.now).2) := rfl
   dsimp only
   rw [hlk]
   have l3 := post_list (from_ := s.b) (k := s.a) ye s.b (ofS (takeR r s.a g [] C.now).2) (C.lnk.without (s.a, s.b) s.c)
   rw [l3]
   rcases hout with ⟨fr, hp, hs, hw⟩ | ⟨hs, hw⟩
   ·have hp1 := post_1 hadr.2 hadr.1 ye hp (C.lnk.without (s.a, s.b) s.c)
    rw [← hs, l2, hcap] at hp1
    by_cases hroom : ((C.lnk.list (s.b, s.a)).length : Int) < F.link
    ·have e1 := hp1.1 hroom
     exact ⟨⟨_, hnode, fun _ => by rw [e1, hw]; push_cast; omega⟩, l1, by omega, by omega, fun h => absurd hroom h⟩
    ·have e1 := hp1.2 hroom
     exact ⟨⟨_, hnode, fun h => absurd h hroom⟩, l1, by omega, by omega, fun _ => e1⟩
   ·have e1 := post_16 (n := s.b) (a := s.a) ye hs (C.lnk.without (s.a, s.b) s.c)
    rw [l2] at e1
    rw [e1]
    exact ⟨⟨_, hnode, fun _ => by rw [hw]; omega⟩, l1, NR _, by omega, fun _ => rfl⟩
 exact ⟨key.no, key.ok⟩
end Cl
namespace Cl
open Go Vg T Api Ch Rep Conf Lg Rd
attribute [local irreducible] VO VC VA
instance chDec : DecidableEq ChM := fun a b => decidable_of_iff (a.epoch = b.epoch ∧ a.ms = b.ms ∧ a.drain = b.drain) ⟨fun ⟨h1, h2, h3⟩ => by cases a; cases b; simp_all, fun h => by subst h; exact ⟨rfl, rfl, rfl⟩⟩
end Cl
end Go.Proofs.YtjmahknbffdadaaGreat
namespace Go.Proofs
open Go.Shelf
def Tryz.sortP_ren : Go.Shelf.Ren := ⟨fun | 6 => 57 | 15 => 95 | 14 => 94 | 28 => 145 | 29 => 146 | 20 => 137 | 21 => 138 | 22 => 139 | 23 => 140 | 24 => 141 | 25 => 142 | 26 => 143 | 27 => 144 | 46 => 210 | 47 => 211 | 48 => 212 | 49 => 213 | 50 => 214 | 57 => 256 | n => n, fun | 22 => 69 | 24 => 71 | 25 => 124 | 3 => 3 | 39 => 162 | 0 => 0 | 53 => 225 | 55 => 227 | 4 => 4 | 46 => 219 | 45 => 218 | 50 => 64 | 5 => 5 | 9 => 9 | 66 => 290 | 70 => 235 | 76 => 330 | 77 => 331 | n => n, fun | n => n⟩
theorem Tryz.sortP : Go.Proofs.SlLaysF0.n6 Tryz.prog Tryz.sortP_ren := {
  mixed := by kernel_rfl
  f6 := ⟨Tryz.f57.name, by decide, Tryz.func57.trans (congrArg some (by kernel_rfl))⟩
  f14 := ⟨Tryz.f94.name, by decide, Tryz.func94.trans (congrArg some (by kernel_rfl))⟩
  f15 := Tryz.func95.trans (congrArg some (by kernel_rfl))
  f20 := ⟨Tryz.f137.name, by decide, Tryz.func137.trans (congrArg some (by kernel_rfl))⟩
  f21 := ⟨Tryz.f138.name, by decide, Tryz.func138.trans (congrArg some (by kernel_rfl))⟩
  f22 := ⟨Tryz.f139.name, by decide, Tryz.func139.trans (congrArg some (by kernel_rfl))⟩
  f23 := ⟨Tryz.f140.name, by decide, Tryz.func140.trans (congrArg some (by kernel_rfl))⟩
  f24 := ⟨Tryz.f141.name, by decide, Tryz.func141.trans (congrArg some (by kernel_rfl))⟩
  f25 := ⟨Tryz.f142.name, by decide, Tryz.func142.trans (congrArg some (by kernel_rfl))⟩
  f26 := ⟨Tryz.f143.name, by decide, Tryz.func143.trans (congrArg some (by kernel_rfl))⟩
  f27 := ⟨Tryz.f144.name, by decide, Tryz.func144.trans (congrArg some (by kernel_rfl))⟩
  f28 := Tryz.func145.trans (congrArg some (by kernel_rfl))
  f29 := Tryz.func146.trans (congrArg some (by kernel_rfl))
  f46 := ⟨Tryz.f210.name, by decide, Tryz.func210.trans (congrArg some (by kernel_rfl))⟩
  f47 := Tryz.func211.trans (congrArg some (by kernel_rfl))
  f48 := Tryz.func212.trans (congrArg some (by kernel_rfl))
  f49 := ⟨Tryz.f213.name, by decide, Tryz.func213.trans (congrArg some (by kernel_rfl))⟩
  f50 := ⟨Tryz.f214.name, by decide, Tryz.func214.trans (congrArg some (by kernel_rfl))⟩
  f57 := ⟨Tryz.f256.name, by decide, Tryz.func256.trans (congrArg some (by kernel_rfl))⟩
  t0 := Tryz.underlying0
  a0 := Tryz.isAgg0
  z0 := Tryz.sizeOf0
  v0 := Tryz.zeroValue0
  t3 := Tryz.underlying3
  a3 := Tryz.isAgg3
  z3 := Tryz.sizeOf3
  v3 := Tryz.zeroValue3
  t4 := Tryz.underlying4
  a4 := Tryz.isAgg4
  z4 := Tryz.sizeOf4
  v4 := Tryz.zeroValue4
  t5 := Tryz.underlying5
  a5 := Tryz.isAgg5
  z5 := Tryz.sizeOf5
  v5 := Tryz.zeroValue5
  t9 := Tryz.underlying9
  a9 := Tryz.isAgg9
  z9 := Tryz.sizeOf9
  v9 := Tryz.zeroValue9
  t22 := Tryz.underlying69
  a22 := Tryz.isAgg69
  z22 := Tryz.sizeOf69
  v22 := Tryz.zeroValue69
  t25 := Tryz.underlying124
  a25 := Tryz.isAgg124
  z25 := Tryz.sizeOf124
  v25 := Tryz.zeroValue124
  t39 := Tryz.underlying162
  a39 := Tryz.isAgg162
  z39 := Tryz.sizeOf162
  v39 := Tryz.zeroValue162
  t45 := Tryz.underlying218
  a45 := Tryz.isAgg218
  z45 := Tryz.sizeOf218
  v45 := Tryz.zeroValue218
  t46 := Tryz.underlying219
  a46 := Tryz.isAgg219
  z46 := Tryz.sizeOf219
  v46 := Tryz.zeroValue219
  t50 := Tryz.underlying64
  a50 := Tryz.isAgg64
  z50 := Tryz.sizeOf64
  v50 := Tryz.zeroValue64
  t53 := Tryz.underlying225
  a53 := Tryz.isAgg225
  z53 := Tryz.sizeOf225
  v53 := Tryz.zeroValue225
  t55 := Tryz.underlying227
  a55 := Tryz.isAgg227
  z55 := Tryz.sizeOf227
  v55 := Tryz.zeroValue227
  t66 := Tryz.underlying290
  a66 := Tryz.isAgg290
  z66 := Tryz.sizeOf290
  v66 := Tryz.zeroValue290
  t70 := Tryz.underlying235
  a70 := Tryz.isAgg235
  z70 := Tryz.sizeOf235
  v70 := Tryz.zeroValue235
  t76 := Tryz.underlying330
  a76 := Tryz.isAgg330
  z76 := Tryz.sizeOf330
  v76 := Tryz.zeroValue330
  t77 := Tryz.underlying331
  a77 := Tryz.isAgg331
  z77 := Tryz.sizeOf331
  v77 := Tryz.zeroValue331 }
end Go.Proofs
namespace Go.Proofs.YtjmahknbffdadaaGreat
variable (Fr : Nat → Prop) (w : World)
namespace Cl
open Go Vg T Api Ch Rep Conf Lg Rd
section
variable {C : CluM} {b e : Nat} {k : Int}
def CluM.run (C : CluM) (l : List StpM) : CluM := l.foldl (fun C s => (C.do_ s).1) C
theorem run_snoc (C : CluM) {l : List StpM} {i : Nat} {s : StpM} (h : l[i]? = some s) : C.run (l.take (i + 1)) = ((C.run (l.take i)).do_ s).1 := by
 unfold CluM.run
 rw [List.take_add_one, h, List.foldl_append]
 rfl
theorem copy_list {S : LnkM} (ok : S.Ok) {m : List (PrM × List ByteArray)} (h : m.Perm S.mail) (p : PrM) : (⟨S.cap, m⟩ : LnkM).list p = S.list p := by
 unfold LnkM.list
 rw [perm_mget h ok.nd]
end
end Cl
namespace Cl
open Go Vg T Api Ch Rep Conf Lg Rd
attribute [local irreducible] VO VC VA
section
variable {p : Nat} {C : CluM} {y : CluS} {b e : Nat}
theorem made_in (h : SatIn Fr [cluH p C] w) : Tri Tryz.prog 33 [.pointer (some ⟨p, 0, none⟩)] Fr w [] (fun v L => v = .bool true ∧ L = []) := by
 obtain ⟨y, fit, hy⟩ := clu_in h
 exact umade_spec Fr w (hy.blk 0 rfl)
theorem udo_spec (ok : C.Ok b e) (hb : b < 100000) (he : e < 900000) (s : StpM) : Tri Tryz.prog 8 [.pointer (some ⟨p, 0, none⟩), .agg s.cells.toArray] Fr w [cluH p C]
  (fun v L => v = .int .i64 (C.do_ s).2 ∧ L = [cluH p (C.do_ s).1]) := by
 have ok2 := ok.step hb ye s
 refine TF 15 Tryz.func8 rfl yl tabOk rfl rfl ?_
 refine CS (CG (VG (VB (vs := s.cells) rfl fun sb => ?_)))
 refine xjg ?_
 refine VG (VV (fun Fr w hF hw hS => made_in Fr w (hS.at_ 1 rfl)) rfl ?_)
 refine zoh ?_
 refine xnd ?_
 refine VG (VQ 1 rfl (fun Fr w hF hs hS => ustep_spec Fr w ok hb ye s) rfl (ψ := fun v H => v = .int .i64 (C.step s).2 ∧ H = cluH p (C.step s).1) yx ?_)
 rintro _ _ ⟨rfl, rfl⟩
 refine xjg ?_
 refine VG (VQ 1 rfl (fun Fr w hF hs hS => ubehind_spec Fr w ok2 ye) rfl (ψ := fun v H => v = .tuple #[] ∧ H = cluH p (C.step s).1.behind) yx ?_)
 rintro _ _ ⟨rfl, rfl⟩
 refine xjg ?_
 exact CR (Ret.tmp 4 rfl rfl (Imp.tail (H := pt sb _ doT) (L := [cluH p (C.do_ s).1])).ent ⟨rfl, rfl⟩)
theorem uhistory_spec (hb : Blk Fr w p (cluC C y)) : Tri Tryz.prog 14 [.pointer (some ⟨p, 0, none⟩)] Fr w [] (fun v L => v = .pointer (some ⟨y.hp, 0, none⟩) ∧ L = []) := by
 refine TF 10 Tryz.func14 rfl yl tabOk rfl rfl ?_
 refine xjh ?_
 refine xni ?_
 refine zod ?_
 refine xhs ?_
 exact xep
theorem lnkH_in {Fr : Nat → Prop} {w : World} {q : Nat} {S : LnkM} (h : SatIn Fr [lnkH q S] w) : ∃ b X, erX X = S.mail ∧ SatIn Fr (lnkL q S b X) w := by
 obtain ⟨⟨b, X⟩, hx⟩ := h.ex
 have hs := hx.sep
 exact ⟨b, X, hs.pure 0 rfl, hs.tail⟩
theorem ulinks_spec (ok : C.lnk.Ok) (hb : Blk Fr w p (cluC C y)) (hl : SatIn Fr [lnkH y.lp C.lnk] w) : Tri Tryz.prog 13 [.pointer (some ⟨p, 0, none⟩)] Fr w [] (fun v L => ∃ q m, m.Perm C.lnk.mail ∧ v = .pointer (some ⟨q, 0, none⟩) ∧ L = [lnkH q ⟨C.lnk.cap, m⟩]) := by
 obtain ⟨lb, X, hX, hs⟩ := lnkH_in hl
 have h1 := hs.blk 0 rfl
 have h2 := hs.mapBlk 1 rfl
 have h3 := lk_rows (A := [_, _]) hs
 refine TF 11 Tryz.func13 rfl yl tabOk rfl rfl ?_
 refine xjh ?_
 refine xni ?_
 refine zod ?_
 refine xhs ?_
 refine VG (VK (Lc := []) (fun Fr w hF hw _ => lcopy_spec Fr w ok (h1.of hF hw) ⟨hF _ h2.fr, h2.at_.loc (hw.keep.block _ h2.fr)⟩ (fun z hz => (h3 z hz).of hF hw) hX) rfl rfl ?_)
 rintro _ _ ⟨q, m, hm, rfl, rfl⟩
 refine xjh ?_
 exact CR (Ret.tmp 2 rfl rfl ER ⟨q, m, hm, rfl, rfl⟩)
theorem unode_spec (fit : CluFit C y) (hb : Blk Fr w p (cluC C y)) (hr : Blk Fr w y.nb (flat nodC y.nr ++ y.nx)) {n : Int} : Tri Tryz.prog 10 [.pointer (some ⟨p, 0, none⟩), .int .i64 n] Fr w []
  (fun v L => (match C.node n with
   | none => v = .pointer none
   | some r => ∃ k q, n = (k : Nat) ∧ y.nr[k]? = some (some (q, r)) ∧ v = .pointer (some ⟨q, 0, none⟩)) ∧ L = []) := by
 refine TF 21 Tryz.func10 rfl yl tabOk rfl rfl ?_
 refine xjh ?_
 refine xni ?_
 refine xjh ?_
 refine VG (VY 8 false rfl rfl ?_)
 refine xjh ?_
 refine VG (VV (fun Fr w hF hs _ => up_spec Fr w fit (hb.of hF hs) (hr.of hF hs) n) rfl ?_)
 refine xjh ?_
 refine VC.condNE rfl (fun k1 => ?_) (fun k1 => CK ?_)
 ·refine xjh ?_
  exact CR (Ret.tmp 4 rfl rfl ER ⟨by rw [up_ne k1], rfl⟩)
 obtain ⟨k, r, rfl, hkr, hnr⟩ := up_0 (C := C) (n := n) ycd
 obtain ⟨q, hx⟩ := node_of fit hkr
 have hkl := (List.getElem?_eq_some_iff.1 hx).1
 refine xhs ?_
 refine xmq ?_
 refine VG (VD rfl rfl (RdL.blk hr (nod_cell hx)) ?_)
 refine xjh ?_
 exact CR (Ret.tmp 4 rfl rfl ER ⟨by rw [hnr]; exact ⟨k, q, rfl, hx, rfl⟩, rfl⟩)
theorem udone_spec (hl : C.done.length ≤ 4096) (h : SatIn Fr [cluH p C] w) : Tri Tryz.prog 15 [.pointer (some ⟨p, 0, none⟩)] Fr w [] (fun v L => ∃ a c, v = .slice a C.done.length c ∧ L = [slH entT 7 a C.done.length c (flat entC C.done)]) := by
 obtain ⟨y, fit, hy⟩ := clu_in h
 have hb := hy.blk 0 rfl
 have hd : RwIn entC 7 Fr w y.da C.done := RwIn.slH entC_len (hy.at_ 7 rfl)
 refine TF 11 Tryz.func15 rfl yl tabOk rfl rfl ?_
 refine xjh ?_
 refine xni ?_
 refine zod ?_
 refine xhs ?_
 refine VO.ent (L' := [slH entT 7 none 0 0 []]) (Imp.slNil Imp.nil).ent ?_
 refine VG (VO.append (m := C.done.length) (news := flat entC C.done) 0 rfl rfl rfl rfl rfl rfl rfl (RwIn.row entC_len hd) (flat_all entC_one _) (few_bytes (k := 5000) ye yn) ye fun a' c' _ => ?_)
 rw [Nat.zero_add, List.nil_append]
 refine xjh ?_
 exact xfg
end
section
variable {u : Value}
end
end Cl
namespace Cl
open Go Vg T Api Ch Rep Conf Lg Rd Sched
attribute [local irreducible] VO VC VA
theorem ints_row {X : Cx} {L : List HP} {a : Option Addr} {cap : Nat} {qs : List Int} (hq : IntsIn X.Fr X.w0 a qs) (hne : qs ≠ []) : RdRow X L (.slice a qs.length cap) 1 qs.length (intCs qs) := by
 obtain ⟨b, off, rfl, h2, h3⟩ := hq.at_ hne
 refine ⟨by simp [intCs], .inr ⟨b, off, cap, rfl, fun w' hw' j v hv => ?_⟩⟩
 rw [intCs, List.getElem?_map] at hv
 cases hj : qs[j]? with
 | none => rw [hj] at hv; cases hv
 | some x =>
  rw [hj] at hv
  obtain rfl := Option.some.inj hv
  exact cell_of_keep (hw'.keep.block b h2) (h3 j x hj)
theorem many_snoc {α : Type} {f : α → HP} {l : List α} {x : α} {A : List HP} : Imp (f x :: hsep (l.map f) :: A) (hsep ((l ++ [x]).map f) :: A) := by
 refine Imp.sep (Imp.trans (M := hsep (l.map f) :: f x :: A) (Imp.perm (.swap _ _ _)) (Imp.unsep (Imp.of_eq ?_)))
 simp
abbrev conT : TypeId := 24
def cluK (c : ConfM) (qa : Option Addr) (qc m : Nat) (nv cv lv : Value) (h : Nat) : List Value := c.cells qa qc ++ [.int .i64 0, .pointer (some ⟨m, 0, none⟩), nv, cv, lv, .pointer (some ⟨h, 0, none⟩), .slice none 0 0]
theorem unew_spec (c : ConfM) {qa : Option Addr} {qc : Nat} (hq : IntsIn Fr w qa c.qs) (hqc : c.qs.length ≤ qc) :
  Tri Tryz.prog 16 [.agg (c.cells qa qc).toArray] Fr w [] (fun v L => if c = fitM c then ∃ p, v = .tuple #[.pointer (some ⟨p, 0, none⟩), .int .i64 0] ∧ L = [cluH p (newC c)] else v = .tuple #[.pointer none, .int .i64 2] ∧ L = []) := by
 refine TF 83 Tryz.func16 rfl yl tabOk rfl rfl ?_
 refine CS (CG (VG (VB (vs := c.cells qa qc) rfl fun b1 => VG (VN ?_))))
 refine xjg ?_
 refine xkx ?_
 refine VG (VK (Lc := []) (fun Fr w hF hs _ => mnew_spec Fr w c (ints_of hq hF hs) trivial hqc) rfl rfl ?_)
 intro v L1 hv
 by_cases hf : c = fitM c
 rotate_left
 ·rw [if_neg hf] at hv
  obtain ⟨rfl, rfl⟩ := hv
  refine zpr ?_
  exact CR (Ret.tmp2 2 3 rfl rfl rfl Imp.nil.ent ybr)
 rw [if_pos hf] at hv
 obtain ⟨m, rfl, rfl⟩ := hv
 have hb := conf_bounds hf
 have hb2 := conf_bounds2 hf
 refine zpe ?_
 refine xdh ?_
 refine VO.ent (L' := slH 3 1 none 0 0 [] :: [masH m (newM c), pt b1 (c.cells qa qc) conT]) (Imp.slNil Imp.refl).ent ?_
 refine VG (VO.append (m := c.qs.length) (news := intCs c.qs) 0 rfl rfl rfl rfl rfl rfl rfl (ints_row hq (by intro h0; rw [h0] at hb2; exact absurd hb2.2.2.2.2.2.1 yn)) (by unfold intCs; rw [List.all_map]; exact List.all_eq_true.2 fun _ _ => rfl) (few_bytes (k := 100) ye yn) ye fun qa2 qc2 hqc2 => ?_)
 rw [Nat.zero_add, List.nil_append] at *
 refine xjg ?_
 refine VG (VO.st 2 (cs' := c.cells qa2 qc2) rfl rfl rfl rfl yak rfl rfl ?_)
 refine xdv ?_
 show VC _ _ _ [intH qa2 qc2 c.qs, masH m (newM c), pt b1 (c.cells qa2 qc2) conT] _
 refine CS ?_
 refine CD (ts 0 2 (.only 2 (.take 3 (.only 4 (.take 5 .nil))))) yl yq ?_
 refine AG (VA.ldA 2 (c.cells qa2 qc2) rfl rfl rfl rfl rfl ?_)
 refine xku ?_
 refine AG (AO (OC (Lc := []) rfl (.refl _) (fun Fr w _ _ _ => hnew_spec Fr w)) rfl (fun v L' g => by obtain ⟨_, ⟨h, rfl, rfl⟩, rfl⟩ := g; exact (by (try refine Pd.st ?_);(repeat (first|exact Pd.nil|exact Pd.fnil|refine Pd.inner ?_|refine Pd.skip yq ?_|refine zf (zo 0 rfl rfl) ?_|refine zf (zo 1 rfl rfl) ?_|refine zf (zo 2 rfl rfl) ?_|refine zf (zo 3 rfl rfl) ?_|refine zf (zm 0 rfl rfl) ?_|refine zf (zm 1 rfl rfl) ?_|refine zf (zm 2 rfl rfl) ?_|refine zf (zm 3 rfl rfl) ?_|refine zf (RdL.blk (RdL.many 3 rfl rfl) rfl) ?_|refine zf ((RdL.many 3 rfl rfl)) ?_|refine zc (zo 0 rfl rfl) ?_|refine zc (zo 1 rfl rfl) ?_|refine zc (zo 2 rfl rfl) ?_|refine zc (zo 3 rfl rfl) ?_|refine zc (zm 0 rfl rfl) ?_|refine zc (zm 1 rfl rfl) ?_|refine zc (zm 2 rfl rfl) ?_|refine zc (zm 3 rfl rfl) ?_|refine zc (RdL.blk (RdL.many 3 rfl rfl) rfl) ?_|refine zc ((RdL.many 3 rfl rfl)) ?_)))) ?_)
 rintro v L' ⟨_, ⟨h, rfl, rfl⟩, rfl⟩
 refine AG (AI rfl (LB (pv := [(0, .agg (c.cells qa2 qc2).toArray), (2, pV m), (6, pV h)]) (cluK c qa2 qc2 m (.slice none 0 0) (.slice none 0 0) (.pointer none) h) rfl rfl rfl yl rfl) ?_)
 refine AG (AO (OpT.box (vs := cluK c qa2 qc2 m (.slice none 0 0) (.slice none 0 0) (.pointer none) h) rfl rfl) rfl (fun v L' g => by obtain ⟨p, rfl, rfl⟩ := g; exact (by (try refine Pd.st ?_);(repeat (first|exact Pd.nil|exact Pd.fnil|refine Pd.inner ?_|refine Pd.skip yq ?_|refine zf (zo 0 rfl rfl) ?_|refine zf (zo 1 rfl rfl) ?_|refine zf (zo 2 rfl rfl) ?_|refine zf (zo 3 rfl rfl) ?_|refine zf (zo 4 rfl rfl) ?_|refine zf (zm 0 rfl rfl) ?_|refine zf (zm 1 rfl rfl) ?_|refine zf (zm 2 rfl rfl) ?_|refine zf (zm 3 rfl rfl) ?_|refine zf (zm 4 rfl rfl) ?_|refine zf (RdL.blk (RdL.many 4 rfl rfl) rfl) ?_|refine zf ((RdL.many 4 rfl rfl)) ?_|refine zc (zo 0 rfl rfl) ?_|refine zc (zo 1 rfl rfl) ?_|refine zc (zo 2 rfl rfl) ?_|refine zc (zo 3 rfl rfl) ?_|refine zc (zo 4 rfl rfl) ?_|refine zc (zm 0 rfl rfl) ?_|refine zc (zm 1 rfl rfl) ?_|refine zc (zm 2 rfl rfl) ?_|refine zc (zm 3 rfl rfl) ?_|refine zc (zm 4 rfl rfl) ?_|refine zc (RdL.blk (RdL.many 4 rfl rfl) rfl) ?_|refine zc ((RdL.many 4 rfl rfl)) ?_)))) ?_)
 rintro v L' ⟨p, rfl, rfl⟩
 refine xku ?_
 refine xew ?_
 refine VG (VK (Lc := []) (fun Fr w _ _ _ => lnew_spec Fr w (n := c.link) ye ye) rfl rfl ?_)
 rintro _ _ ⟨l, rfl, rfl⟩
 refine xjg ?_
 refine VG (VO.st 1 (cs' := cluK c qa2 qc2 m (.slice none 0 0) (.slice none 0 0) (.pointer (some ⟨l, 0, none⟩)) h) rfl rfl rfl rfl (by show 16 < 19; omega) rfl rfl ?_)
 refine xdv ?_
 refine CN (L' := [pt p (cluK c qa2 qc2 m (.slice none 0 0) (.slice none 0 0) (.pointer (some ⟨l, 0, none⟩)) h) cluT, pt b1 (c.cells qa2 qc2) conT, intH qa2 qc2 c.qs, lnkH l ⟨c.link, []⟩, hisH h newH, masH m (newM c)]) (pkZ [1, 4, 2, 0, 0, 0]).ent ?_
 refine xjg ?_
 refine VC.loop (σ := List NdG × Option Addr × Nat) (fun s => [(1, pV b1), (6, pV p), (7, .int .i64 s.1.length)])
  (fun s => [pt p (cluK c qa2 qc2 m (.slice s.2.1 s.1.length s.2.2) (.slice none 0 0) (.pointer (some ⟨l, 0, none⟩)) h) cluT, pt b1 (c.cells qa2 qc2) conT, intH qa2 qc2 c.qs, lnkH l ⟨c.link, []⟩, hisH h newH, masH m (newM c), slH rpT 1 s.2.1 s.1.length s.2.2 (flat nodC s.1), hsep (s.1.map nodP)])
  (fun s => s.1.length ≤ c.nodes.toNat ∧ s.1.map (Option.map Prod.snd) = (List.range s.1.length).map fun (n : Nat) => some (newR c n false)) (fun s => c.nodes.toNat - s.1.length) ([], none, 0)
  ⟨Nat.zero_le _, rfl⟩ sbZ (IP 0 rfl (IP 0 rfl (IP 0 rfl (IP 0 rfl (IP 0 rfl (IP 0 rfl (Imp.slNil (Imp.sep Imp.nil)))))))).ent ?_
 rintro ⟨nr, na, nc⟩ ⟨hn1, hn2⟩
 dsimp only at hn1 hn2 ⊢
 refine xdh ?_
 refine CP (p := (nr.length : Int) < c.nodes) rfl (fun h1 => CK ?_) (fun h1 => CX ?_)
 ·refine CS (VC.block (CS (CG ?_)))
  refine VG (VL 1 (c.cells qa2 qc2) rfl rfl rfl rfl ?_)
  refine xjg ?_
  refine VG (VK (Lc := []) (fun Fr w hF hs hS => Rep.new_spec Fr w c qa2 qc2 (ints_sl (hS.at_ 2 rfl)) trivial hqc2 nr.length false) rfl rfl ?_)
  rintro v L1 g
  rw [if_pos (show newOkB c (nr.length : Int) from ⟨hf, by omega, h1⟩)] at g
  obtain ⟨r, rfl, rfl⟩ := g
  refine xjg ?_
  refine xdi ?_
  refine VG (VO.buildSlice (n := 1) (pv := [(0, pV r)]) [.pointer (some ⟨r, 0, none⟩)] rfl rfl rfl rfl yn (fill_one rfl rfl rfl) fun nb => ?_)
  refine VG (VO.append (m := 1) (news := [.pointer (some ⟨r, 0, none⟩)]) 8 rfl rfl rfl rfl rfl rfl rfl (RdRow.pt 0 rfl rfl rfl) rfl (few_bytes (k := 100) ye yn) ye fun na2 nc2 hnc => ?_)
  refine xjg ?_
  refine VG (VO.st 3 (cs' := cluK c qa2 qc2 m (.slice na2 (nr.length + 1) nc2) (.slice none 0 0) (.pointer (some ⟨l, 0, none⟩)) h) rfl rfl rfl rfl (by show 14 < 19; omega) rfl rfl ?_)
  refine znx ?_
  have hlen : (nr ++ [some (r, newR c nr.length false)]).length = nr.length + 1 := by simp
  refine ⟨(nr ++ [some (r, newR c nr.length false)], na2, nc2), ⟨by dsimp only; omega, ?_⟩, by dsimp only; omega, SC rfl (SC rfl (Sub.int rfl yba (SN _))), ?_⟩
  ·dsimp only
   rw [hlen, List.range_succ, List.map_append, List.map_append, hn2]; rfl
  ·dsimp only
   rw [hlen, flat_append]
   refine Imp.ent ?_
   refine IP 3 rfl (IP 3 rfl (IP 3 rfl (IP 3 rfl (IP 3 rfl (IP 3 rfl (IP 0 rfl ?_))))))
   exact Imp.trans Imp.tail (many_snoc (f := nodP) (x := some (r, newR c nr.length false)))
 have hnl : nr.length = c.nodes.toNat := by omega
 refine xjg ?_
 refine VC.loop (σ := List CiG × Option Addr × Nat) (fun s => [(1, pV b1), (6, pV p), (10, .int .i64 s.1.length)])
  (fun s => [pt p (cluK c qa2 qc2 m (.slice na nr.length nc) (.slice s.2.1 s.1.length s.2.2) (.pointer (some ⟨l, 0, none⟩)) h) cluT, pt b1 (c.cells qa2 qc2) conT, intH qa2 qc2 c.qs, lnkH l ⟨c.link, []⟩, hisH h newH, masH m (newM c), slH rpT 1 na nr.length nc (flat nodC nr), hsep (nr.map nodP), slH cpT 1 s.2.1 s.1.length s.2.2 (flat cliV s.1), hsep (s.1.map cliP)])
  (fun s => s.1.length ≤ c.clients.toNat ∧ s.1.map Prod.snd = (List.range s.1.length).map fun (n : Nat) => newCl c n) (fun s => c.clients.toNat - s.1.length) ([], none, 0)
  ⟨Nat.zero_le _, rfl⟩ sbZ (IP 0 rfl (IP 0 rfl (IP 0 rfl (IP 0 rfl (IP 0 rfl (IP 0 rfl (IP 0 rfl (IP 0 rfl (Imp.slNil (Imp.sep Imp.nil)))))))))).ent ?_
 rintro ⟨cr, ca, cc⟩ ⟨hm1, hm2⟩
 dsimp only at hm1 hm2 ⊢
 refine xdh ?_
 refine CP (p := (cr.length : Int) < c.clients) rfl (fun h1 => CK ?_) (fun h1 => CX ?_)
 ·refine CS (VC.block (CS (CG ?_)))
  refine VG (VL 1 (c.cells qa2 qc2) rfl rfl rfl rfl ?_)
  refine xjg ?_
  refine VG (VK (Lc := []) (fun Fr w hF hs hS => cnew_spec Fr w c (ints_sl (hS.at_ 2 rfl)) trivial hqc2 cr.length) rfl rfl ?_)
  rintro v L1 g
  rw [if_pos (show newClE c (cr.length : Int) = 0 from by unfold newClE; rw [if_pos ⟨hf, by omega, h1⟩])] at g
  obtain ⟨r, rfl, rfl⟩ := g
  refine xjg ?_
  refine xdi ?_
  refine VG (VO.buildSlice (n := 1) (pv := [(0, pV r)]) [.pointer (some ⟨r, 0, none⟩)] rfl rfl rfl rfl yn (fill_one rfl rfl rfl) fun nb => ?_)
  refine VG (VO.append (m := 1) (news := [.pointer (some ⟨r, 0, none⟩)]) 10 rfl rfl rfl rfl rfl rfl rfl (RdRow.pt 0 rfl rfl rfl) rfl (few_bytes (k := 100) ye yn) ye fun ca2 cc2 hcc => ?_)
  refine xjg ?_
  refine VG (VO.st 3 (cs' := cluK c qa2 qc2 m (.slice na nr.length nc) (.slice ca2 (cr.length + 1) cc2) (.pointer (some ⟨l, 0, none⟩)) h) rfl rfl rfl rfl (by show 15 < 19; omega) rfl rfl ?_)
  refine znx ?_
  have hlen : (cr ++ [(r, newCl c cr.length)]).length = cr.length + 1 := by simp
  refine ⟨(cr ++ [(r, newCl c cr.length)], ca2, cc2), ⟨by dsimp only; omega, ?_⟩, by dsimp only; omega, SC rfl (SC rfl (Sub.int rfl yba (SN _))), ?_⟩
  ·dsimp only
   rw [hlen, List.range_succ, List.map_append, List.map_append, hm2]; rfl
  ·dsimp only
   rw [hlen, flat_append]
   refine Imp.ent ?_
   refine IP 3 rfl (IP 3 rfl (IP 3 rfl (IP 3 rfl (IP 3 rfl (IP 3 rfl (IP 3 rfl (IP 3 rfl (IP 0 rfl ?_))))))))
   exact Imp.trans Imp.tail (many_snoc (f := cliP) (x := (r, newCl c cr.length)))
 have hml : cr.length = c.clients.toNat := by omega
 refine VC.opn 6 rfl (HOpn.sl rpT 1 na nr.length nc (flat nodC nr)) ?_
 rintro (_ | ⟨nb, nx⟩) ⟨-, -, hn⟩
 ·exact absurd hn.2.1 ye
 obtain ⟨rfl, hnx⟩ := hn
 refine VC.opn 8 rfl (HOpn.sl cpT 1 ca cr.length cc (flat cliV cr)) ?_
 rintro (_ | ⟨cb, cx⟩) ⟨-, -, hc⟩
 ·exact absurd hc.2.1 ye
 obtain ⟨rfl, hcx⟩ := hc
 refine xjg ?_
 refine CR (Ret.tmp2 2 3 rfl rfl rfl (L' := [cluH p (newC c)]) (Imp.clu (K := []) ⟨qa2, qc2, m, nb, nc, nx, nr, cb, cc, cx, cr, l, h, none, 0⟩ ⟨by rw [hn2, hnl]; rfl, by rw [hm2, hml]; rfl, hqc2⟩ ?_).ent (by rw [if_pos hf]; exact ⟨p, rfl, rfl⟩))
 exact IP 2 rfl (IP 3 rfl (IP 5 rfl (IP 1 rfl (IP 0 rfl (IP 1 rfl (IP 1 rfl (Imp.slNil (pkZ [1, 1]))))))))
end Cl
namespace Cl
open Go Vg T Api Ch Rep Conf Lg Rd
attribute [local irreducible] VO VC VA
section
variable {p : Nat} {C : CluM} {y : CluS} {b e : Nat}
theorem look_node (h : SatIn Fr [cluH p C] w) (n : Int) : Tri Tryz.prog 10 [.pointer (some ⟨p, 0, none⟩), .int .i64 n] Fr w []
  (fun v L => (if (C.node n).isSome = true then ∃ q, v = .pointer (some ⟨q, 0, none⟩) else v = .pointer none) ∧ L = []) := by
 obtain ⟨y, fit, hy⟩ := clu_in h
 refine Ring.Tri.drop (unode_spec Fr w fit (hy.blk 0 rfl) (hy.blk 3 rfl)) fun v L h => ⟨L, ⟨?_, h.2⟩, Imp.refl⟩
 have h := h.1
 cases hn : C.node n with
 | none => rw [hn] at h; exact h
 | some r =>
  rw [hn] at h
  obtain ⟨k, q, _, _, hv⟩ := h
  exact ⟨q, hv⟩
theorem look_links (ok : C.lnk.Ok) (h : SatIn Fr [cluH p C] w) : Tri Tryz.prog 13 [.pointer (some ⟨p, 0, none⟩)] Fr w [] (fun v L => ∃ q m, m.Perm C.lnk.mail ∧ v = .pointer (some ⟨q, 0, none⟩) ∧ L = [lnkH q ⟨C.lnk.cap, m⟩]) := by
 obtain ⟨y, fit, hy⟩ := clu_in h
 exact ulinks_spec Fr w ok (hy.blk 0 rfl) (hy.at_ 5 rfl)
theorem look_count {q : Nat} {S : LnkM} (h : SatIn Fr [lnkH q S] w) (x z : Int) : Tri Tryz.prog 20 [.pointer (some ⟨q, 0, none⟩), .int .i64 x, .int .i64 z] Fr w [] (fun v L => v = .int .i64 (S.list (x, z)).length ∧ L = []) := by
 obtain ⟨lb, X, hX, hs⟩ := lnkH_in h
 exact lcount_spec Fr w (hs.blk 0 rfl) (hs.mapBlk 1 rfl) hX x z
end
end Cl
namespace Cl
open Go Vg T Api Ch Rep Conf Lg Rd Sched
def zC : ConfM := ⟨0, 0, 0, [], 0, 0, 0, 0, 0, 0, 0, 0⟩
def doneL : List StpM := [putS 0, ⟨4, 32, 16, 0, opZe⟩, ⟨4, 16, 32, 0, opZe⟩, ⟨4, 32, 0, 0, opZe⟩, ⟨2, 0, 0, 0, opZe⟩, ⟨4, 0, 32, 0, opZe⟩]
def doneK (k : Nat) : CluM := (doneL.take k).foldl (fun C s => (C.do_ s).1) (newC (fitM zC))
theorem done_fit : fitM zC = fitM (fitM zC) := by decide +kernel
theorem done_0 : ((List.range 6).all fun k => decide (((doneK k).do_ (doneL.getD k (putS 0))).2 = 0)) = true := by decide +kernel
theorem done_1 : (doneK 6).done.length = 1 ∧ (doneK 6).his.recs.length = 1 ∧ ((doneK 6).his.recs.map fun r => (r.out.kind, r.out.res.version)) = [(1, 1)] := by decide +kernel
theorem done_at {k : Nat} {s : StpM} (h : doneL[k]? = some s) : ((doneK k).do_ s).2 = 0 ∧ ((doneK k).do_ s).1 = doneK (k + 1) := by
 have hk : k < 6 := (List.getElem?_eq_some_iff.1 h).1
 have h0 := List.all_eq_true.1 done_0 k (List.mem_range.2 hk)
 rw [List.getD_eq_getElem?_getD, h] at h0
 refine ⟨by simpa using h0, ?_⟩
 show _ = (doneL.take (k + 1)).foldl _ _
 rw [List.take_add_one, h, List.foldl_append]
 rfl
theorem doneK_ok : ∀ k : Nat, k ≤ 6 → (doneK k).Ok k (7 * k)
 | 0, _ => newC_ok done_fit
 | k + 1, hk => by
  have h : doneL[k]? = some doneL[k] := GE (show k < 6 by omega)
  rw [← (done_at h).2]
  have := (doneK_ok k ye).do_ ye ye doneL[k]
  exact this.mono (NR _) ye
def greatB (l : List StpM) (most : Int) : Bool := l.any (fun s => decide (200 < s.op.key.size) || decide (200 < s.op.value.size)) || decide (most < l.length)
theorem StpM.clen (s : StpM) : s.cells.length = 8 := rfl
attribute [local irreducible] VO VC VA
theorem great_spec {a : Option Addr} {cap : Nat} {l : List StpM} (h : RwIn StpM.cells 8 Fr w a l) (hl : l.length ≤ 9223372036854775807) (most : Int) : Tri Tryz.prog 6 [.slice a l.length cap, .int .i64 most] Fr w [] (fun v L => v = .bool (greatB l most) ∧ L = []) := by
 refine TF 34 Tryz.func6 rfl yl tabOk rfl rfl ?_
 refine xjg ?_
 refine VC.loop (σ := Nat) (fun k => [(0, .slice a l.length cap), (1, .int .i64 most), (5, .int .i64 (k : Int))]) (fun _ => []) (fun k => k ≤ l.length ∧ (l.take k).any (fun s => decide (200 < s.op.key.size) || decide (200 < s.op.value.size)) = false) (fun k => l.length - k) 0
  ⟨Nat.zero_le _, rfl⟩ sbZ ER ?_
 rintro k ⟨hk, hno⟩
 refine xjg ?_
 refine CP (p := (k : Int) < l.length) rfl (fun h1 => CK ?_) (fun h1 => CX ?_)
 rotate_left
 ·obtain rfl : k = l.length := by omega
  rw [List.take_length] at hno
  refine xjg ?_
  exact CR (Ret.bool 4 rfl rfl (by unfold greatB; rw [hno, Bool.false_or]) ER ⟨rfl, rfl⟩)
 have hkl : k < l.length := by omega
 have hx : l[k]? = some l[k] := GE hkl
 generalize l[k] = s at hx
 obtain ⟨xb, xo, rfl, ra, rc⟩ := RwIn.rd (X := ⟨Tryz.prog, tab, tabOk, 34, Fr, w⟩) h hx
 have hnx : (l.take (k + 1)).any (fun s => decide (200 < s.op.key.size) || decide (200 < s.op.value.size)) = (decide (200 < s.op.key.size) || decide (200 < s.op.value.size)) := by
  rw [List.take_add_one, hx, List.any_append, hno]; simp
 have hall : (decide (200 < s.op.key.size) || decide (200 < s.op.value.size)) = true → greatB l most = true := fun g => by
  unfold greatB
  rw [List.any_eq_true.2 ⟨s, ME hx, g⟩]; rfl
 refine xjg ?_
 refine xmq ?_
 refine xjg ?_
 refine VG (VD rfl rfl (rc _ _ 5 (.string s.op.key) rfl rfl) ?_)
 refine xjg ?_
 by_cases k1 : 200 < s.op.key.size
 ·refine VG (VY 20 true rfl (DT ye) ?_)
  refine zoi ?_
  exact CR (Ret.tmp 4 rfl rfl ER ⟨by rw [hall (by simp [k1])], rfl⟩)
 refine VG (VY 20 false rfl (DF ye) ?_)
 refine xjg ?_
 refine xmq ?_
 refine xjg ?_
 refine VG (VD rfl rfl (rc _ _ 6 (.string s.op.value) rfl rfl) ?_)
 refine xjg ?_
 refine CP (p := (200 : Int) < s.op.value.size) rfl (fun k2 => ?_) (fun k2 => CK ?_)
 ·refine xjg ?_
  exact CR (Ret.tmp 4 rfl rfl ER ⟨by rw [hall yf], rfl⟩)
 refine znx ?_
 exact ⟨k + 1, ⟨by omega, by rw [hnx]; simp; omega⟩, by dsimp only; omega, SC rfl (SC rfl (Sub.int rfl ye (SN _))), ER⟩
theorem putS_spec (c : Int) : Tri Tryz.prog 31 [.int .i64 c] Fr w [] (fun v L => v = .agg (putS c).cells.toArray ∧ L = []) := by
 refine TF 6 Tryz.func31 rfl yl tabOk rfl rfl ?_
 refine CS (CG (VG (VO.alloc rfl fun b => ?_)))
 refine xjg ?_
 refine VG (VI (LB (pv := [(0, .int .i64 2), (1, .string ⟨#[107]⟩), (2, .string ⟨#[118]⟩)]) ((putS c).op.cells) rfl rfl rfl yl rfl) ?_)
 refine VG (VI (LB (pv := [(0, .int .i64 1), (1, .int .i64 c), (3, .int .i64 100), (4, .agg ((putS c).op.cells).toArray)]) ((putS c).cells) rfl rfl rfl yl rfl) ?_)
 refine VG (VT (vs := (putS c).cells) (cs' := (putS c).cells) 0 rfl rfl rfl rfl (NR _) rfl rfl rfl ?_)
 refine xjg ?_
 exact CR (Ret.cell 2 rfl rfl rfl (RdL.many 0 rfl rfl) Imp.nil.ent ⟨rfl, rfl⟩)
theorem his_in_ {Fr : Nat → Prop} {w : World} {q : Nat} {H : HisM} (h : SatIn Fr [hisH q H] w) : ∃ a c, Blk Fr w q (hisC H a c) ∧ RwIn recC 14 Fr w a H.recs := by
 obtain ⟨y, hy⟩ := h.ex
 have hs := hy.sep
 exact ⟨y.1, y.2, hs.blk 0 rfl, RwIn.slH recC_len (hs.at_ 1 rfl)⟩
theorem vrecords_spec {q : Nat} {H : HisM} (ok : H.Ok) (h : SatIn Fr [hisH q H] w) : Tri Tryz.prog 32 [.pointer (some ⟨q, 0, none⟩)] Fr w []
  (fun v L => ∃ a' c', v = .slice a' H.recs.length c' ∧ L = [slH rcdT 14 a' H.recs.length c' (flat recC H.recs)]) := by
 obtain ⟨a, c, h1, h2⟩ := his_in_ h
 exact records_spec Fr w ok h1 h2
theorem done_spec : Tri Tryz.prog 7 [] Fr w [] (fun v L => v = .bool true ∧ L = []) := by
 refine TF 69 Tryz.func7 rfl yl tabOk rfl rfl ?_
 refine xjg ?_
 refine VG (VI (LB (pv := []) (zC.cells none 0) rfl rfl rfl rfl rfl) ?_)
 refine VG (VK (Lc := []) (fun Fr w _ _ _ => rfit_spec Fr w zC none 0 ⟨fun h => absurd rfl h⟩) rfl rfl ?_)
 rintro _ _ ⟨a, cap, ha, hcap, rfl, rfl⟩
 refine VG (VK (Lc := []) (fun Fr w _ _ h2 => unew_spec Fr w (fitM zC) (ints_sl (h2.at_ 0 rfl)) hcap) rfl rfl ?_)
 intro v L1 g
 rw [if_pos done_fit] at g
 obtain ⟨p, rfl, rfl⟩ := g
 refine zoh ?_
 refine VG (VV (fun Fr w _ _ _ => putS_spec Fr w 0) rfl ?_)
 refine VG (VI (LB (pv := [(0, .int .i64 4), (1, .int .i64 32), (2, .int .i64 16)]) ((⟨4, 32, 16, 0, opZe⟩ : StpM).cells) rfl rfl rfl yl rfl) ?_)
 refine VG (VI (LB (pv := [(0, .int .i64 4), (1, .int .i64 16), (2, .int .i64 32)]) ((⟨4, 16, 32, 0, opZe⟩ : StpM).cells) rfl rfl rfl yl rfl) ?_)
 refine VG (VI (LB (pv := [(0, .int .i64 4), (1, .int .i64 32)]) ((⟨4, 32, 0, 0, opZe⟩ : StpM).cells) rfl rfl rfl yl rfl) ?_)
 refine VG (VI (LB (pv := [(0, .int .i64 2)]) ((⟨2, 0, 0, 0, opZe⟩ : StpM).cells) rfl rfl rfl yl rfl) ?_)
 refine VG (VI (LB (pv := [(0, .int .i64 4), (2, .int .i64 32)]) ((⟨4, 0, 32, 0, opZe⟩ : StpM).cells) rfl rfl rfl yl rfl) ?_)
 refine VG (VO.buildSlice (n := 6) (pv := [(0, .agg (putS 0).cells.toArray), (1, .agg (⟨4, 32, 16, 0, opZe⟩ : StpM).cells.toArray), (2, .agg (⟨4, 16, 32, 0, opZe⟩ : StpM).cells.toArray), (3, .agg (⟨4, 32, 0, 0, opZe⟩ : StpM).cells.toArray), (4, .agg (⟨2, 0, 0, 0, opZe⟩ : StpM).cells.toArray), (5, .agg (⟨4, 0, 32, 0, opZe⟩ : StpM).cells.toArray)]) (flat StpM.cells doneL) rfl rfl rfl rfl yn yl fun sb => ?_)
 refine xjg ?_
 refine VC.loop (σ := Nat) (fun k => [(1, pV p), (3, .slice (some ⟨sb, 0, none⟩) 6 6), (4, .int .i64 (k : Int))]) (fun k => [pt sb (flat StpM.cells doneL) doT, cluH p (doneK k)]) (fun k => k ≤ 6) (fun k => 6 - k) 0
  (Nat.zero_le _) sbZ (pkZ [0, 0]).ent ?_
 rintro k hk
 have okk := doneK_ok k hk
 refine xjg ?_
 refine CP (p := (k : Int) < 6) rfl (fun h1 => CK ?_) (fun h1 => CX ?_)
 ·have hkl : k < 6 := by omega
  have hx : doneL[k]? = some doneL[k] := GE hkl
  generalize doneL[k] = s at hx
  obtain ⟨hd1, hd2⟩ := done_at hx
  have hrow : ((flat StpM.cells doneL).drop (0 + k * 8)).take 8 = s.cells := by
   rw [Nat.zero_add]
   have := flat_row StpM.clen hx []
   rwa [List.append_nil] at this
  refine xjg ?_
  refine xmq ?_
  refine VG (VL 0 s.cells rfl rfl rfl hrow ?_)
  refine VG (VQ 1 rfl (fun Fr w hF hs hS => udo_spec Fr w okk ye ye s) rfl (ψ := fun v H => v = .int .i64 ((doneK k).do_ s).2 ∧ H = cluH p ((doneK k).do_ s).1) yx ?_)
  rintro _ _ ⟨rfl, rfl⟩
  rw [hd1, hd2]
  refine zpe ?_
  refine znx ?_
  exact ⟨k + 1, by omega, by dsimp only; omega, SC rfl (SC rfl (Sub.int rfl ye (SN _))), ER⟩
 obtain rfl : k = 6 := by omega
 clear hk h1
 have hd := done_1
 have hdl := okk.dn
 generalize doneK 6 = C at okk hd hdl
 obtain ⟨hd1, hd2, hd3⟩ := hd
 refine VC.opn 1 rfl (HOpn.clu p C) ?_
 rintro y fit
 refine xjg ?_
 refine VG (VV (fun Fr w hF hw hS => uhistory_spec Fr w (y := y) (C := C) (hS.blk 0 rfl)) rfl ?_)
 refine VG (VK (Lc := []) (fun Fr w hF hw hS => vrecords_spec Fr w okk.his (hS.at_ 6 rfl)) rfl rfl ?_)
 rintro _ _ ⟨ra, rc, rfl, rfl⟩
 rw [hd2]
 refine xjg ?_
 refine VO.ent (L' := [slH rcdT 14 ra C.his.recs.length rc (flat recC C.his.recs), cluH p C]) (by
  rw [hd2]
  exact (Imp.cons (clu_shut (p := p) (C := C) (R := [pt sb (flat StpM.cells doneL) doT]) fit)).ent) ?_
 refine VG (VK (Lc := []) (fun Fr w hF hw hS => udone_spec Fr w hdl (hS.at_ 1 rfl)) rfl rfl ?_)
 rintro _ _ ⟨da, dc, rfl, rfl⟩
 rw [hd1]
 refine xjg ?_
 obtain ⟨r0, hr0, hk0, hv0⟩ : ∃ r0, C.his.recs = [r0] ∧ r0.out.kind = 1 ∧ r0.out.res.version = 1 := by
  match hl : C.his.recs, hd2 with
  | [r0], _ => rw [hl] at hd3; simp at hd3; exact ⟨r0, rfl, hd3.1, hd3.2⟩
 refine VO.opn 1 rfl (HOpn.rl rcdT ra rc C.his.recs recC_len) ?_
 rintro ⟨xa, xc, xb, xcs, xs⟩ ⟨rok, rv, rx⟩
 dsimp only at rx
 subst rx
 injection rv with e1 _ e3
 subst e1 e3
 obtain ⟨tb, tof, htb, hta, hrd⟩ := RL.Ok.ld (t := rcdT) (k := 0) (x := r0) rok (by dsimp only; rw [hr0]; rfl) (recC_len r0)
 dsimp only at hta
 subst hta
 refine VG (VY 41 true rfl rfl ?_)
 refine xjh ?_
 refine VG (VY 46 true rfl rfl ?_)
 refine xjh ?_
 refine VG (VI (light_idx 0 rfl rfl rfl rfl rfl rfl yn) ?_)
 refine xjh ?_
 refine VG (VD rfl rfl ((hrd 0 rfl).2 _ 8 (.int .i64 r0.out.kind) rfl rfl) ?_)
 rw [hk0]
 refine xjh ?_
 refine VG (VY 54 true rfl rfl ?_)
 refine xjh ?_
 refine VG (VI (light_idx 0 rfl rfl rfl rfl rfl rfl yn) ?_)
 refine xjh ?_
 refine VG (VD rfl rfl ((hrd 0 rfl).2 _ 12 (.int .i64 r0.out.res.version) rfl rfl) ?_)
 rw [hv0]
 refine xjh ?_
 refine VG (VY 63 true rfl rfl ?_)
 refine xjh ?_
 refine VG (VI (LB (pv := [(0, .int .i64 99)]) ((⟨99, 0, 0, 0, opZe⟩ : StpM).cells) rfl rfl rfl yl rfl) ?_)
 refine VG (VQ 2 rfl (fun Fr w hF hs hS => udo_spec Fr w okk yn yn ⟨99, 0, 0, 0, opZe⟩) rfl (ψ := fun v H => v = .int .i64 (C.do_ ⟨99, 0, 0, 0, opZe⟩).2 ∧ H = cluH p (C.do_ ⟨99, 0, 0, 0, opZe⟩).1) yx ?_)
 rintro _ _ ⟨rfl, rfl⟩
 rw [show (C.do_ ⟨99, 0, 0, 0, opZe⟩).2 = 2 from by
  show (C.step _).2 = 2
  rw [st_no C (fun k k1 k2 => by show (99 : Int) ≠ k; omega)]]
 refine xjh ?_
 exact CR (Ret.tmp 0 rfl rfl Imp.nil.ent ⟨rfl, rfl⟩)
end Cl
namespace Cl
open Go Vg T Api Ch Rep Conf Lg Rd Sched Nd
attribute [local irreducible] VO VC VA
theorem waitsF_le {R : RepM} (i : R.Fit) (k : Nat) (hk : k ≤ 4) : 0 ≤ waitsN R k ∧ waitsN R k ≤ 1000 := by
 have h0 : (R.rds.l.length : Int) ≤ 16 := by have := i.ok.rl; have := i.ok.rc1; omega
 have h : ∀ k, 0 ≤ waitsN R k ∧ waitsN R k ≤ R.rds.l.length + 64 * k := fun k => by
  induction k with
  | zero => unfold waitsN; simp
  | succ k ih =>
   rw [waitsN_succ]
   have := len_le i.ok.wf.sch k
   push_cast; omega
 have := h k
 omega
theorem waits25_spec {p : Nat} {C : CluM} {r : RepM} (i : r.Fit) {n : Int} (hn : C.node n = some r) (h : SatIn Fr [cluH p C] w) :
  Tri Tryz.prog 19 [.pointer (some ⟨p, 0, none⟩), .int .i64 n] Fr w [] (fun v L => v = .int .i64 (waitsN r 4) ∧ L = []) := by
 obtain ⟨y, fit, hy⟩ := clu_in h
 refine TF 23 Tryz.func19 rfl yl tabOk rfl rfl ?_
 refine xcv ?_
 refine VG (VO.callP (fun Fr w hF hw hS => unode_spec Fr w fit ((hy.blk 0 rfl).of hF hw) ((hy.blk 3 rfl).of hF hw) (n := n)) rfl ?_)
 intro v hv
 rw [hn] at hv
 obtain ⟨k, q, rfl, hq, rfl⟩ := hv
 have hcp : (y.nr.map nodP)[k]? = some (repH q r) := by rw [List.getElem?_map, hq]; rfl
 have h : SatIn Fr [repH q r] w := ((hy.at_ 8 rfl).sep).at_ k hcp
 refine xcv ?_
 refine VG (VV (fun Fr w hF hs _ => Rep.reading_spec Fr w i.ok (h.of hF hs)) rfl ?_)
 refine xcv ?_
 refine VC.loop (σ := Nat) (fun k => [(5, pV q), (6, .int .i64 (waitsN r k)), (7, .int .i64 k)]) (fun _ => []) (fun k => k ≤ 4) (fun k => 4 - k) 0 (Nat.zero_le _) (SC rfl (SC (by rw [show waitsN r 0 = r.rds.l.length by unfold waitsN; simp]; rfl) sbZ)) ER ?_
 rintro k hk
 refine xcv ?_
 refine CP (p := (k : Int) < 4) rfl (fun h1 => CK ?_) (fun h1 => CX ?_)
 ·have hb := waitsF_le i k hk
  have hb2 := waitsF_le i (k + 1) ye
  rw [waitsN_succ] at hb2
  refine xcv ?_
  refine VG (VV (fun Fr w hF hs _ => Rep.waiting_spec Fr w (h.of hF hs) k) rfl ?_)
  refine xdb ?_
  refine zoa ?_
  exact ⟨k + 1, by omega, by dsimp only; omega, SC rfl (SC (by rw [waitsN_succ]; rfl) sbZ), ER⟩
 ·obtain rfl : k = 4 := by omega
  refine xcv ?_
  exact xgy
def rfC (F : ConfM) (l : List StpM) (i : Nat) : CluM := (newC F).run (l.take i)
theorem rf_ok {F : ConfM} (hF : F = fitM F) (l : List StpM) : ∀ i : Nat, i ≤ l.length → i ≤ 1000 → (rfC F l i).Ok i (7 * i) ∧ RefI F (rfC F l i)
 | 0, _, _ => ⟨newC_ok hF, RefI.new hF⟩
 | i + 1, h, h2 => by
  have hx : l[i]? = some l[i] := GE ye
  have ih := rf_ok hF l i ye ye
  unfold rfC
  rw [run_snoc _ hx]
  exact ⟨(ih.1.do_ ye ye _).mono (NR _) ye, ih.2.do_ ih.1 _⟩
end Cl
namespace Cl
open Go Vg T Api Ch Rep Conf Lg Rd Sched Nd
attribute [local irreducible] VO VC VA
theorem crefuses_spec (c : ConfM) (ca : Option Addr) (cc : Nat) (hq : IntsIn Fr w ca c.qs) (hcc : c.qs.length ≤ cc) {a : Option Addr} {ap1 : Nat} {l : List StpM} (hr : RwIn StpM.cells 8 Fr w a l) (hll : l.length ≤ 9223372036854775807) :
  Tri Tryz.prog 4 [.agg (c.cells ca cc).toArray, .slice a l.length ap1] Fr w [] (fun v L => v = .bool true ∧ L = []) := by
 refine TF 153 Tryz.func4 rfl yl tabOk rfl rfl ?_
 refine CS (CG (VG (VB (vs := c.cells ca cc) rfl fun b3 => ?_)))
 have fin : ∀ {L : List HP}, Ent ⟨Tryz.prog, tab, tabOk, 153, Fr, w⟩ L [] := Imp.nil.ent
 refine xcv ?_
 by_cases h20 : (20 : Int) < c.qs.length
 ·refine VG (VY 19 true rfl (DT h20) ?_)
  refine zoi ?_
  refine xnj ?_
  refine xjg ?_
  exact xnk
 refine VG (VY 19 false rfl (DF h20) ?_)
 refine xjg ?_
 refine VG (VV (fun Fr w hF hw hS => great_spec Fr w (hr.of hF hw) hll 80) rfl ?_)
 refine xjg ?_
 refine CC rfl (fun hg => ?_) (fun hg => CK ?_)
 ·refine xjg ?_
  refine xnj ?_
  refine xjg ?_
  exact xnk
 have hl80 : l.length ≤ 80 := by
  unfold greatB at hg
  simp only [Bool.or_eq_false_iff, decide_eq_false_iff_not] at hg
  omega
 refine xjg ?_
 refine VG (VL 0 (c.cells ca cc) rfl rfl rfl rfl ?_)
 refine VG (VK (Lc := []) (fun Fr w hF hw hS => rfit_spec Fr w c ca cc (ints_of hq hF hw)) rfl rfl ?_)
 rintro _ _ ⟨fa, fc, -, hfc, rfl, rfl⟩
 have hF := Adm.fit_idem c
 generalize fitM c = F at hF hfc
 have hcb := conf_bounds hF
 refine VG (VT (vs := F.cells fa fc) (cs' := F.cells fa fc) 1 rfl rfl rfl rfl (NR _) rfl rfl rfl ?_)
 refine xjg ?_
 refine VG (VL 1 (F.cells fa fc) rfl rfl rfl rfl ?_)
 refine VG (VK (Lc := []) (fun Fr w hF' hw hS => unew_spec Fr w F (ints_sl (hS.at_ 0 rfl)) hfc) rfl rfl ?_)
 intro v L1 g
 rw [if_pos hF] at g
 obtain ⟨p, rfl, rfl⟩ := g
 refine zoh ?_
 refine VC.loop (σ := Nat) (fun i => [(1, .slice a l.length ap1), (2, pV b3), (5, pV p), (7, .int .i64 (i : Int))]) (fun i => [pt b3 (F.cells fa fc) conT, cluH p (rfC F l i)]) (fun i => i ≤ l.length) (fun i => l.length - i) 0
  (Nat.zero_le _) sbZ (pkZ [2, 0]).ent ?_
 rintro i hi
 have hRC := rf_ok hF l i hi ye
 have hnx : ∀ {s : StpM}, l[i]? = some s → rfC F l (i + 1) = ((rfC F l i).do_ s).1 := fun h => run_snoc _ h
 refine xjg ?_
 refine CP (p := (i : Int) < l.length) rfl (fun h1 => CK ?_) (fun h1 => CX ?_)
 rotate_left
 ·refine xjg ?_
  refine xnj ?_
  refine xjg ?_
  exact xnk
 have hil : i < l.length := by omega
 have hx : l[i]? = some l[i] := GE hil
 generalize l[i] = s at hx
 have hnx := hnx hx
 generalize rfC F l i = C at hRC hnx
 obtain ⟨sb, so, rfl, ra, rc⟩ := RwIn.rd (X := ⟨Tryz.prog, tab, tabOk, 153, Fr, w⟩) hr hx
 have ok := hRC.1
 have hI := hRC.2
 have okD := hRC.1.do_ ye ye s
 refine CS (VC.block ?_)
 refine xjg ?_
 refine VG (VI (light_idx i rfl rfl rfl rfl rfl rfl hil) ?_)
 refine xda ?_
 refine VG (VO.alloc rfl fun kb => ?_)
 refine VG (VT (vs := s.cells) (cs' := s.cells) 0 rfl rfl rfl rfl (NR _) rfl rfl rfl ?_)
 have go : ∀ {E : Env} {L : List HP}, Vg.look E 1 = some (.slice (some ⟨sb, so, none⟩) l.length ap1) → True := fun _ => trivial
 refine xcv ?_
 by_cases h4 : s.kind = 4
 rotate_left
 ·refine VG (VY 46 true rfl (by simp [h4]) ?_)
  refine xdd ?_
  refine VG (VY 51 true rfl rfl ?_)
  refine xdd ?_
  refine zoe ?_
  refine xnd ?_
  refine xnl ?_
  rintro _ _ ⟨rfl, rfl⟩
  refine xjg ?_
  refine CX ?_
  refine znx ?_
  exact xnm
 refine VG (VY 46 false rfl (by simp [h4]) ?_)
 refine xdd ?_
 by_cases ha : s.a < 32
 ·refine VG (VY 51 true rfl (DT ha) ?_)
  refine xdd ?_
  refine zoe ?_
  refine xnd ?_
  refine xnl ?_
  rintro _ _ ⟨rfl, rfl⟩
  refine xjg ?_
  refine CX ?_
  refine znx ?_
  exact xnm
 refine VG (VY 51 false rfl (DF ha) ?_)
 refine xdd ?_
 refine VG (VO.callP (fun Fr w hF' hw hS => look_node Fr w (hS.at_ 2 rfl) s.b) rfl ?_)
 intro v hv
 cases hn : C.node s.b with
 | none =>
  rw [hn] at hv
  obtain rfl : v = .pointer none := hv
  refine xdd ?_
  refine zoe ?_
  refine xnd ?_
  refine xnl ?_
  rintro _ _ ⟨rfl, rfl⟩
  refine xjg ?_
  refine CX ?_
  refine znx ?_
  exact xnm
 | some r =>
 rw [hn] at hv
 obtain ⟨q0, rfl⟩ : ∃ q, v = .pointer (some ⟨q, 0, none⟩) := hv
 have T := told_do ok hI h4 ye hn
 obtain ⟨hnm, hn0, hnl⟩ := RefI.node_in hn
 have hir := ok.fit r hnm
 have hwr := waitsF_le hir 4 ye
 have hll1 := list_len ok.lnk (s.b, s.a)
 have hll2 := list_len ok.lnk (s.a, s.b)
 have hI2 := hI.do_ ok s
 refine zom ?_
 refine CS (CD (ts 0 3 (ts 4 1 (ts 6 4 (ts 11 2 (.only 3 (.only 5 (.only 10 (ts 13 3 .nil)))))))) yl yq ?_)
 refine xkt ?_
 refine AG (AR (fun Fr w hF' hw hS => waits25_spec Fr w hir hn (hS.at_ 2 rfl)) rfl rfl yr ?_)
 refine xkt ?_
 refine xnn ?_
 rintro _ _ ⟨_, ⟨lq1, m1, hm1, rfl, rfl⟩, rfl⟩
 refine xno ?_
 refine xnp ?_
 rw [copy_list ok.lnk hm1]
 refine xno ?_
 clear hm1
 refine CN (L' := [pt kb s.cells doT, pt b3 (F.cells fa fc) conT, cluH p C]) (pkZ [1, 1, 1]).ent ?_
 refine CS (CD (ts 0 1 (ts 2 4 (ts 7 1 (ts 9 4 (.only 1 (.only 6 (.only 8 (.only 13 (ts 14 2 .nil))))))))) yl yq ?_)
 refine xkt ?_
 refine xnn ?_
 rintro _ _ ⟨_, ⟨lq1, m1, hm1, rfl, rfl⟩, rfl⟩
 refine xno ?_
 refine xnp ?_
 rw [copy_list ok.lnk hm1]
 refine xno ?_
 refine AG (AO (OC (Lc := []) rfl (.refl _) (fun Fr w hF' hw hS => look_links Fr w ok.lnk (hS.at_ 3 rfl))) rfl (fun v L' g => by obtain ⟨_, ⟨lq2, m2, hm2, rfl, rfl⟩, rfl⟩ := g; exact yr) ?_)
 rintro _ _ ⟨_, ⟨lq2, m2, hm2, rfl, rfl⟩, rfl⟩
 refine xnq ?_
 refine xnr ?_
 rw [copy_list ok.lnk hm2]
 refine xnq ?_
 clear hm1 hm2
 refine CN (L' := [pt kb s.cells doT, pt b3 (F.cells fa fc) conT, cluH p C]) (pkZ [2, 2, 2]).ent ?_
 refine xjg ?_
 refine xnd ?_
 refine xnl ?_
 rintro _ _ ⟨rfl, rfl⟩
 generalize C.do_ s = D at T hnx okD hI2
 obtain ⟨D, f⟩ := D
 dsimp only at T hnx okD hI2 ⊢
 refine xjg ?_
 refine VC.condNE rfl (fun hf => ?_) (fun hf => CK ?_)
 ·have hsame := T.no hf
  dsimp only at hsame
  refine CS (CS (CD (ts 0 1 (ts 2 4 (ts 7 1 (.only 1 (.only 6 (ts 8 1 .nil)))))) yl yq ?_))
  refine xkt ?_
  refine xns ?_
  rintro _ _ ⟨_, ⟨lq1, m1, hm1, rfl, rfl⟩, rfl⟩
  refine xno ?_
  refine xnr ?_
  rw [copy_list okD.lnk hm1]
  rw [hsame]
  refine xno ?_
  refine VC.condNE rfl (fun h => absurd rfl h) (fun _ => CK ?_)
  refine CX ?_
  refine znx ?_
  exact xnt
 obtain ⟨⟨q, hqn, hqr⟩, hlen, hle, hlt, hno⟩ := T.ok hf
 dsimp only at hqn hqr hlen hle hlt hno
 obtain ⟨hqm, -, -⟩ := RefI.node_in hqn
 have hiq := okD.fit q hqm
 have hwq := waitsF_le hiq 4 ye
 refine CS (CD (ts 0 1 (ts 2 4 (ts 7 1 (.only 1 (.only 6 (ts 8 2 .nil)))))) yl yq ?_)
 refine xkt ?_
 refine xns ?_
 rintro _ _ ⟨_, ⟨lq1, m1, hm1, rfl, rfl⟩, rfl⟩
 refine xno ?_
 refine xnp ?_
 rw [copy_list okD.lnk hm1]
 refine xno ?_
 refine xdx ?_
 refine xno ?_
 clear hm1
 refine CN (L' := [pt kb s.cells doT, pt b3 (F.cells fa fc) conT, cluH p D]) (pkZ [1, 1, 1]).ent ?_
 by_cases hroom : ((C.lnk.list (s.b, s.a)).length : Int) < F.link
 ·have hqr := hqr hroom
  refine CS (CD (ts 0 1 (ts 2 4 (ts 7 2 (.only 1 (.only 6 (ts 9 16 (ts 27 1 (.only 25 (ts 26 1 (ts 28 12 .nil)))))))))) yl yq ?_)
  refine xkt ?_
  refine xdx ?_
  refine xkt ?_
  refine xns ?_
  rintro _ _ ⟨_, ⟨lq1, m1, hm1, rfl, rfl⟩, rfl⟩
  refine xno ?_
  refine xnr ?_
  rw [copy_list okD.lnk hm1]
  refine xno ?_
  refine AG (AY 122 false rfl yf ?_)
  refine xno ?_
  refine AG (AY 126 false rfl (DF ye) ?_)
  refine xno ?_
  refine AG (AY 130 false rfl (DF ye) ?_)
  refine xno ?_
  refine AG (AY 132 true rfl (DT hroom) ?_)
  refine xno ?_
  refine AG (AR (fun Fr w hF' hw hS => waits25_spec Fr w hiq hqn (hS.at_ 3 rfl)) rfl rfl yr ?_)
  refine xno ?_
  refine xed ?_
  refine xno ?_
  refine xdx ?_
  refine xno ?_
  refine AG (AY 144 false rfl yf ?_)
  refine xno ?_
  refine AG (AY 147 false rfl (by simp [hroom]) ?_)
  refine xno ?_
  refine xdn ?_
  refine znx ?_
  exact xnt
 ·have hno := hno hroom
  refine CS (CD (ts 0 1 (ts 2 4 (ts 7 2 (.only 1 (.only 6 (ts 9 31 .nil)))))) yl yq ?_)
  refine xkt ?_
  refine xdx ?_
  refine xkt ?_
  refine xns ?_
  rintro _ _ ⟨_, ⟨lq1, m1, hm1, rfl, rfl⟩, rfl⟩
  refine xno ?_
  refine xnr ?_
  rw [copy_list okD.lnk hm1]
  refine xno ?_
  refine AG (AY 122 false rfl yf ?_)
  refine xno ?_
  refine AG (AY 126 false rfl (DF ye) ?_)
  refine xno ?_
  refine AG (AY 130 false rfl (DF ye) ?_)
  refine xno ?_
  refine AG (AY 132 false rfl (DF hroom) ?_)
  refine xno ?_
  refine AG (AY 144 false rfl rfl ?_)
  refine xno ?_
  refine AG (AY 147 true rfl (by simp [hroom]) ?_)
  refine xno ?_
  refine VC.condNE rfl (fun h => absurd ye h) (fun _ => CK ?_)
  refine znx ?_
  exact xnt
end Cl
namespace Cl
open Go Vg Go.ChangeShapes Go.WideShapes Go.ChangeAt Go.RowKit Sched Conf Adm Api
def doTs : List TypeId := [3, 3, 3, 3, 3, 9, 9, 3]
theorem doFlat : flatT Tryz.prog 5 28 = some doTs := by kernel_rfl
section
variable {H : Type} {enc : TypeId × Value → H} {w : World} {base : Nat} {spare : Nat → Bool} {held : Bool}
theorem leaf_do {cs : List Value} (hl : cs.length = 8)
  (h3 : ∀ (i : Nat) (v : Value) (u : TypeId), cs[i]? = some v → doTs[i]? = some u → Leaf enc Tryz.prog w base spare held u v) : ∃ x : StpM, cs = x.cells ∧ True := by
 match cs, hl, h3 with
 | [c1, c2, c3, c4, c5, c6, c7, c8], _, h3 =>
 obtain ⟨n1, rfl, _⟩ := (h3 0 c1 _ rfl rfl).int Tryz.underlying3
 obtain ⟨n2, rfl, _⟩ := (h3 1 c2 _ rfl rfl).int Tryz.underlying3
 obtain ⟨n3, rfl, _⟩ := (h3 2 c3 _ rfl rfl).int Tryz.underlying3
 obtain ⟨n4, rfl, _⟩ := (h3 3 c4 _ rfl rfl).int Tryz.underlying3
 obtain ⟨n5, rfl, _⟩ := (h3 4 c5 _ rfl rfl).int Tryz.underlying3
 obtain ⟨s6, rfl, _⟩ := (h3 5 c6 _ rfl rfl).str Tryz.underlying9
 obtain ⟨s7, rfl, _⟩ := (h3 6 c7 _ rfl rfl).str Tryz.underlying9
 obtain ⟨n8, rfl, _⟩ := (h3 7 c8 _ rfl rfl).int Tryz.underlying3
 exact ⟨⟨n1, n2, n3, n4, ⟨n5, s6, s7, n8⟩⟩, rfl, trivial⟩
theorem open_dos {base0 : Nat} {v : Value} {d : DataW H} {ps : List MemPlace} (hval : Value.okWide Tryz.prog w .any base0 30 v) (h : DataW.Trod enc Tryz.prog w base spare held 30 v d ps) :
  ∃ (a : Option Addr) (tc : Nat) (l : List StpM), v = .slice a l.length tc ∧ l.length ≤ 9223372036854775807 ∧ RwIn StpM.cells 8 (fun b => b < w.heap.size) w a l := by
 obtain ⟨a0, n0, c0, rfl⟩ := okWide_slice Tryz.underlying30 hval
 obtain ⟨fuel, hf⟩ := h
 obtain ⟨a, tc, l, e, h1, h2, h3⟩ := open_rows (α := StpM) StpM.cells (fun _ => True) Tryz.underlying30 doFlat yl yn (fun cs hl hc => leaf_do hl hc) hf
 have hm : maxLen ≤ 9223372036854775807 := by decide
 exact ⟨a, tc, l, e, by omega, ⟨h3⟩⟩
end
end Cl
end Go.Proofs.YtjmahknbffdadaaGreat
