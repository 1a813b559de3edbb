/- draw.New of nothing; keyspace.New. -/
import Derived.Test.YthmbhkgllfngmaaGreatDoorKsI
import Derived.Test.YthmbhkgllfngmaaGreatDoorKsH
import Derived.Shelf.RegionOpen
import Derived.OwnWalkIn
import Derived.TacticsInMore
import Derived.LoopNIn
import Derived.LoopIn
import Derived.Test.YthmbhkgllfngmaaGreatDoorShelfB
import Derived.Carry
/- ontexts: Do, verb by verb. (Printed by mkO17.py.) -/
namespace Go.Proofs.YthmbhkgllfngmaaGreatDoor.ks
open Go.ChangeShapes Go.WideShapes Go.RowKit
set_option linter.unusedVariables false
set_option linter.unusedSimpArgs false
/-- The words that a command comes with, in memory. -/
structure Said (w : World) (sp wb off cap : Nat) (S : SS) (ws : List ByteArray) : Prop where
  at_ : WordsAt w wb off ws
  f : wb ∉ foot S sp
  n : 0 < ws.length ∧ ws.length ≤ 1024
  cap : ws.length ≤ cap ∧ cap ≤ maxLen
  s : ∀ s ∈ ws, s.size ≤ 1048576
  t : total ws ≤ 4194304
/-- The first word is a command's, and there are as many words as it wants. -/
structure Verb (ws : List ByteArray) (v : ByteArray) : Prop where
  w0 : ∃ s r, ws[0]? = some s ∧ upS s = v ∧ verbOf v.data.toList = some r ∧ (0 < r.arity → (ws.length : Int) = r.arity) ∧ -r.arity ≤ (ws.length : Int)
/-- Behind the words of Do that all commands share. -/
structure Pro (w W : World) (sp wb off cap : Nat) (S : SS) (ws : List ByteArray) (n cb cx wx rb : Nat) : Prop where
  k : Keeps [] w W
  at_ : At W sp S n
  cmd : CmdIs W cb sp (.slice (some ⟨wb, off, none⟩) ws.length cap) ByteArray.empty ByteArray.empty false
  wd : Words W sp cb wb off cap S ws
  hcx : W.heap[cx]? = some (.cells #[dp cb] 82 (0, 0))
  hwx : W.heap[wx]? = some (.cells #[.slice (some ⟨wb, off, none⟩) ws.length cap] 48 (0, 0))
  hrb : W.heap[rb]? = some (.cells zero5 51 (0, 0))
  n1 : w.heap.size ≤ cb
  n2 : w.heap.size ≤ cx
  n3 : w.heap.size ≤ wx
  n4 : w.heap.size ≤ rb
  d1 : cx ≠ cb ∧ wx ≠ cb ∧ rb ≠ cb ∧ cx ≠ rb ∧ wx ≠ rb
theorem Pro.fresh {w W : World} {sp wb off cap : Nat} {S : SS} {ws : List ByteArray} {n cb cx wx rb : Nat} (h : Pro w W sp wb off cap S ws n cb cx wx rb) (hm : MemIs w sp S) {b : Nat} (hb : w.heap.size ≤ b) : b ∉ foot S sp := fun h2 => by have := hm.flt _ h2; omega
/-- Behind a command: the result is stored. -/
theorem pro_end {w W W2 : World} {sp wb off cap : Nat} {S S2 : SS} {ws : List ByteArray} {n m cb cx wx rb : Nat} (h : Pro w W sp wb off cap S ws n cb cx wx rb) (hm : MemIs w sp S) (ha : At W2 sp S2 m) (hn : NextC cb sp W S W2 S2) (hz : 20 ≤ w.heap.size) (v0 v1 v2 v3 v4 : Value) :
    At (five W2 rb v0 v1 v2 v3 v4) sp S2 m ∧ Next sp w S (five W2 rb v0 v1 v2 v3 v4) S2 := by
  have hrb : rb ∉ foot S2 sp := hn.fresh (hlt h.hrb) (h.fresh hm h.n4)
  have hk : Keeps [rb] W2 (five W2 rb v0 v1 v2 v3 v4) := (((((Keeps.refl _ W2).setCell (p := ⟨rb, 0, none⟩) (.inl (by simp)) _).setCell (p := ⟨rb, 1, none⟩) (.inl (by simp)) _).setCell (p := ⟨rb, 2, none⟩) (.inl (by simp)) _).setCell (p := ⟨rb, 3, none⟩) (.inl (by simp)) _).setCell (p := ⟨rb, 4, none⟩) (.inl (by simp)) _
  refine ⟨ha.keeps hk (fun c hc => by simp at hc; subst hc; exact ⟨hrb, by have := h.n4; omega⟩), ⟨?_, fun b hb => ?_⟩⟩
  · refine (((h.k.mono (by simp)).step hn.k (fun b hb => ?_)).step hk (fun b hb => ?_) : Keeps (foot S sp) w _)
    · rcases List.mem_cons.1 hb with h1 | h1
      · exact .inr (h1 ▸ h.n1)
      · exact .inl h1
    · simp at hb; subst hb; exact .inr h.n4
  · rcases hn.b b hb with h1 | h1
    · exact .inl h1
    · right; have := h.k.size; omega
/-- The result's block behind a command. -/
theorem pro_rb {w W W2 : World} {sp wb off cap : Nat} {S S2 : SS} {ws : List ByteArray} {n cb cx wx rb : Nat} (h : Pro w W sp wb off cap S ws n cb cx wx rb) (hm : MemIs w sp S) (hn : NextC cb sp W S W2 S2) : W2.heap[rb]? = some (.cells zero5 51 (0, 0)) :=
  (hn.k.block rb (hlt h.hrb) (by simp; exact ⟨h.d1.2.2.1, h.fresh hm h.n4⟩)).trans h.hrb
theorem pro_cx {w W W2 : World} {sp wb off cap : Nat} {S S2 : SS} {ws : List ByteArray} {n cb cx wx rb : Nat} (h : Pro w W sp wb off cap S ws n cb cx wx rb) (hm : MemIs w sp S) (hn : NextC cb sp W S W2 S2) : W2.cell? ⟨cx, 0, none⟩ = some (dp cb) ∧ W2.cell? ⟨wx, 0, none⟩ = some (.slice (some ⟨wb, off, none⟩) ws.length cap) :=
  ⟨cell_far hn.k (hlt h.hcx) (by simp; exact ⟨h.d1.1, h.fresh hm h.n2⟩) (by rw [cell_at h.hcx]; rfl), cell_far hn.k (hlt h.hwx) (by simp; exact ⟨h.d1.2.1, h.fresh hm h.n3⟩) (by rw [cell_at h.hwx]; rfl)⟩
/-- The laying of Do's blocks. -/
theorem pro_start {w w1 W : World} {sp wb off cap : Nat} {S : SS} {ws : List ByteArray} {n : Nat} {vv : Array Value} (ha : At w sp S n) (hs : Said w sp wb off cap S ws)
    (k1 : Keeps [] ((w.alloc (.cells #[.slice (some ⟨wb, off, none⟩) ws.length cap] 48)).alloc (.cells zero5 51)) w1)
    (hW : W = ((w1.alloc (.cells vv 79)).alloc (.cells #[dp sp, .slice (some ⟨wb, off, none⟩) ws.length cap, .string ByteArray.empty, .string ByteArray.empty, .bool false] 84)).alloc (.cells #[dp (w1.heap.size + 1)] 82)) :
    Pro w W sp wb off cap S ws n (w1.heap.size + 1) (w1.heap.size + 2) w.heap.size (w.heap.size + 1) := by
  have z1 := k1.size
  rw [World.size_alloc, World.size_alloc] at z1
  have kw : Keeps [] w1 W := by rw [hW]; exact (((Keeps.refl _ _).alloc _).alloc _).alloc _
  have k : Keeps [] w W := ((((Keeps.refl [] w).alloc _).alloc _).trans k1).trans kw
  have hwb := words_lt hs.at_ hs.n.1
  have hb0 : w1.heap[w.heap.size]? = _ := k1.get (alloc_old _ (alloc_new w _)) (by simp)
  have hb1 : w1.heap[w.heap.size + 1]? = some (.cells zero5 51 (0, 0)) := by
    have := alloc_new (w.alloc (.cells #[.slice (some ⟨wb, off, none⟩) ws.length cap] 48)) (.cells zero5 51)
    rw [World.size_alloc] at this
    exact k1.get this (by simp)
  refine ⟨k, ha.keeps0 k, ?_, ⟨words_keep hs.at_ (k.block wb hwb (by simp)), hs.f, by omega, hs.n, hs.cap, hs.s, fun hm => by have := ha.mem.flt _ hm; omega, by have := ha.hz; omega⟩, ?_, kw.get hb0 (by simp), kw.get hb1 (by simp), by omega, by omega, by omega, by omega, by omega⟩
  · unfold CmdIs
    rw [hW]
    refine alloc_old _ ?_
    have := alloc_new (w1.alloc (.cells vv 79)) (.cells #[dp sp, .slice (some ⟨wb, off, none⟩) ws.length cap, .string ByteArray.empty, .string ByteArray.empty, .bool false] 84)
    rwa [World.size_alloc] at this
  · rw [hW]
    have := alloc_new ((w1.alloc (.cells vv 79)).alloc (.cells #[dp sp, .slice (some ⟨wb, off, none⟩) ws.length cap, .string ByteArray.empty, .string ByteArray.empty, .bool false] 84)) (.cells #[dp (w1.heap.size + 1)] 82)
    rwa [World.size_alloc, World.size_alloc] at this
theorem bulkV_eq (t : ByteArray) (b : Bool) : bulkV t b = repV (if b = true then 4 else 5) (if b = true then t else ByteArray.empty) 0 := by cases b <;> rfl
set_option maxHeartbeats 800000 in
theorem getF (cb sp cx : Nat) (wv v : Value) (key text : ByteArray) (there : Bool) (W : World) (h : CmdIs W cb sp wv key text there) (hc : W.cell? ⟨cx, 0, none⟩ = some (dp cb)) :
    Calls Tryz.prog 33 #[v, dp cx] W fun r w' => r = .returned (repV (if there = true then 4 else 5) (if there = true then text else ByteArray.empty) 0) ∧ Keeps [] W w' := by
  have hl : cx < W.heap.size := World.block_lt_of_cell? W _ hc
  have HB := khid (fun (W0 : World) (hk : Keeps [] W W0) => bulkC cb sp wv key text there W0 (cmd_keep h (hk.block cb (cmd_lt h) (by simp))))
  clear h
  cases there
  all_goals
    unfold dp at hc HB ⊢
    go_enter Tryz.func33, Tryz.ntmps33
    go_wp2_with fail
    generalize hw0 : W.alloc _ = w0
    have h0 : w0.heap[W.heap.size]? = some (.cells #[.int .i64 0, .string ByteArray.empty, .int .i64 0, .slice none 0 0] 28 (0, 0)) := by rw [← hw0]; exact alloc_new _ _
    have k0 : Keeps [] W w0 := by rw [← hw0]; exact (Keeps.refl _ _).alloc _
    have K0 := khid k0
    have H0 := khid h0
    clear hw0 k0 h0
    refine (HB.out w0 K0.out).mono ?_
    rintro r w1 ⟨rfl, k1⟩
    have hx := k1.get H0.out (by simp)
    have K1 := khid (K0.out.trans k1)
    obtain ⟨⟨c0, c1, c2, c3⟩, f0, f1, f2, f3⟩ := four_facts hx
    clear k1 hx
    unfold bulkV
    first | rw [if_pos rfl] | rw [if_neg (by simp)]
    unfold repV
    go_wp2_with fail
    first
      | (refine bodyPost_ret (v := repV 4 text 0) (by simp [results, Tryz.results33, go_sem]; go_simp; try rfl) rfl ?_
         exact ⟨rfl, four_keeps K1.out (Nat.le_refl _) _ _ _ _⟩)
      | (refine bodyPost_ret (v := repV 5 ByteArray.empty 0) (by simp [results, Tryz.results33, go_sem]; go_simp; try rfl) rfl ?_
         exact ⟨rfl, four_keeps K1.out (Nat.le_refl _) _ _ _ _⟩)
theorem Pro.keeps {w W W' : World} {sp wb off cap : Nat} {S : SS} {ws : List ByteArray} {n cb cx wx rb : Nat} (h : Pro w W sp wb off cap S ws n cb cx wx rb) (hk : Keeps [] W W') : Pro w W' sp wb off cap S ws n cb cx wx rb :=
  ⟨h.k.trans hk, h.at_.keeps0 hk, cmd_keep h.cmd (hk.block cb (cmd_lt h.cmd) (by simp)), h.wd.keeps hk, hk.get h.hcx (by simp), hk.get h.hwx (by simp), hk.get h.hrb (by simp), h.n1, h.n2, h.n3, h.n4, h.d1⟩
def kwGet : ByteArray := ⟨#[71, 69, 84]⟩
def kwSet : ByteArray := ⟨#[83, 69, 84]⟩
def kwGetset : ByteArray := ⟨#[71, 69, 84, 83, 69, 84]⟩
def kwAppend : ByteArray := ⟨#[65, 80, 80, 69, 78, 68]⟩
def kwSetrange : ByteArray := ⟨#[83, 69, 84, 82, 65, 78, 71, 69]⟩
def kwSetbit : ByteArray := ⟨#[83, 69, 84, 66, 73, 84]⟩
def kwIncr : ByteArray := ⟨#[73, 78, 67, 82]⟩
def kwIncrby : ByteArray := ⟨#[73, 78, 67, 82, 66, 89]⟩
def kwDecr : ByteArray := ⟨#[68, 69, 67, 82]⟩
def kwDecrby : ByteArray := ⟨#[68, 69, 67, 82, 66, 89]⟩
def kwLpush : ByteArray := ⟨#[76, 80, 85, 83, 72]⟩
set_option maxRecDepth 100000 in
set_option maxHeartbeats 4000000 in
theorem doGet (sp wb off cap : Nat) (src : Value) (ws : List ByteArray) (S : SS) (n : Nat) (w : World) (ha : At w sp S (n + 6)) (hs : Said w sp wb off cap S ws) (hverb : Verb ws kwGet) (k : ByteArray) (h1 : ws[1]? = some k) (hn : ws.length = 2) :
    Calls Tryz.prog 17 #[dp sp, src, .slice (some ⟨wb, off, none⟩) ws.length cap] w fun r w' => ∃ S' o, MetR S k S' o ∧ r = .returned (.tuple #[okV (lookOk S' o) (if o.isSome = true then 4 else 5) 0 (if o.isSome = true then lookT S' o else ByteArray.empty), .bool true]) ∧ At w' sp S' n ∧ Next sp w S w' S' := by
  have HN := khid hn
  have H1 := khid h1
  clear hn h1
  obtain ⟨s0, vr, h0, hu, hv, hr1, hr2⟩ := hverb.w0
  have HCH := khid (fun (W : World) (hk : Keeps [] w W) => checkC ws s0 vr wb off cap W h0 (words_keep hs.at_ (hk.block wb (words_lt hs.at_ hs.n.1) (by simp))) hs.n.2 hs.s hs.t (by rw [hu]; exact hv) hr1 hr2)
  have HUP := khid (fun W : World => upperC s0 W (hs.s s0 (List.mem_of_getElem? h0)))
  rw [hu] at HUP
  unfold kwGet at HUP
  have HS := khid hs
  have HA := khid ha
  have HW0 := khid h0
  have hlen := hs.n.1
  have HB := khid (fun (w1 W : World) (vv : Array Value) k1 hW => pro_start (w1 := w1) (W := W) (vv := vv) ha hs k1 hW)
  unfold zero5 at HB
  rw [show ByteArray.empty = ⟨#[]⟩ from rfl] at HB
  clear ha hs hverb h0 hu hv hr1 hr2
  obtain ⟨nm, ar, fl, fi, la, ju⟩ := vr
  unfold VRow.val VRow.cells at HCH
  unfold dp at HB ⊢
  go_enter Tryz.func17, Tryz.ntmps17
  go_wp2_with fail
  refine (HCH.out _ (((Keeps.refl [] w).alloc _).alloc _)).mono ?_
  rintro r w1 ⟨rfl, k1⟩
  have HK1 := khid k1
  have hx1 := k1.get (alloc_old _ (alloc_new w _)) (by simp)
  have x0 : w1.cell? ⟨w.heap.size, 0, none⟩ = some (.slice (some ⟨wb, off, none⟩) ws.length cap) := by rw [cell_at hx1]; rfl
  have hxl : w.heap.size < w1.heap.size := hlt hx1
  have hwl : wb < w1.heap.size := Nat.lt_trans (words_lt HS.out.at_ HS.out.n.1) hxl
  clear k1 hx1
  go_upto_region 5 with (fail)
  obtain ⟨W, hW⟩ : ∃ W, W = ((w1.alloc (.cells #[.string ⟨nm.toArray⟩, .int .i64 ar, .int .i64 fl, .int .i64 fi, .int .i64 la, .int .i64 ju] 79)).alloc (.cells #[.pointer (some ⟨sp, 0, none⟩), .slice (some ⟨wb, off, none⟩) ws.length cap, .string ⟨#[]⟩, .string ⟨#[]⟩, .bool false] 84)).alloc (.cells #[.pointer (some ⟨w1.heap.size + 1, 0, none⟩)] 82) := ⟨_, rfl⟩
  have HP := khid (HB.out w1 W _ HK1.out hW)
  rw [← hW]
  have hpw := (pro_cx HP.out HA.out.mem (NextC.keeps0 (Keeps.refl [] W))).2
  have xw : W.cell? ⟨wb, off, none⟩ = some (.string s0) := by
    have := HP.out.wd.at_ 0 s0 HW0.out
    rwa [Nat.add_zero] at this
  clear hW x0 HB HK1 hxl hwl
  go_wp2_with fail
  clear hpw xw
  refine (HUP.out W).mono ?_
  rintro r W1 ⟨rfl, k1⟩
  have HP := khid (HP.out.keeps k1)
  have HPM := khid HA.out.mem
  have HZ := khid HA.out.hz
  obtain ⟨CB, hCB⟩ : ∃ CB, CB = w1.heap.size + 1 := ⟨_, rfl⟩
  obtain ⟨CX, hCX⟩ : ∃ CX, CX = w1.heap.size + 2 := ⟨_, rfl⟩
  obtain ⟨RB, hRB⟩ : ∃ RB, RB = w.heap.size + 1 := ⟨_, rfl⟩
  rw [← hCB, ← hCX, ← hRB] at HP
  have e1 : w1.heap.size + 1 + 1 = CX := by omega
  try rw [e1]
  try rw [← hCX]
  try rw [← hRB]
  try rw [← hCB]
  have j0 := (pro_cx HP.out HPM.out (NextC.keeps0 (Keeps.refl [] W1))).1
  have j1 := (pro_cx HP.out HPM.out (NextC.keeps0 (Keeps.refl [] W1))).2
  unfold dp at j0
  clear k1 hCB hCX hRB e1
  have HRD := khid (readC CB sp wb off cap ws _ _ _ S (n + 5) 33 #[dp CX] k W1 (enters_of (c := _) Tryz.func33 (by kernel_rfl) rfl) HP.out.at_ HP.out.cmd HP.out.wd (by have := HN.out; omega) H1.out (fun _ b => if b = true then 4 else 5) (fun t b => if b = true then t else ByteArray.empty) (fun _ _ => 0) [] (by rw [List.drop_of_length_le (by have := HN.out; omega)]; rfl) (fun W2 S' t b v _ hc2 hn2 _ => getF CB sp CX _ v _ t b W2 hc2 (pro_cx HP.out HPM.out hn2).1))
  unfold dp at HRD
  go_wp2_with fail
  refine HRD.out.mono ?_
  rintro r w6 ⟨S1, o, rfl, hm, a6, h6, n6⟩
  have HM := khid hm
  have A6 := khid a6
  have N6 := khid n6
  clear hm a6 h6 n6 j0 j1 HRD
  obtain ⟨kk, hkk⟩ : ∃ kk : Int, kk = if o.isSome = true then 4 else 5 := ⟨_, rfl⟩
  obtain ⟨tt, htt⟩ : ∃ tt : ByteArray, tt = if o.isSome = true then lookT S1 o else ByteArray.empty := ⟨_, rfl⟩
  rw [← hkk, ← htt]
  have HKK := khid hkk
  have HTT := khid htt
  obtain ⟨ok, hok⟩ : ∃ ok, ok = lookOk S1 o := ⟨_, rfl⟩
  rw [← hok]
  have HOK := khid hok
  clear hkk htt hok
  have hfive := pro_rb HP.out HPM.out N6.out
  obtain ⟨⟨z0, z1, z2, z3, z4⟩, y0, y1, y2, y3, y4⟩ := five_facts hfive
  clear hfive
  cases ok with
  | true =>
    rw [show okV true kk 0 tt = resV kk tt 0 (.slice none 0 0) (.slice none 0 0) from rfl]
    unfold resV
    go_wp2_with fail
    refine bodyPost_ret (v := .tuple #[resV kk tt 0 (.slice none 0 0) (.slice none 0 0), .bool true]) (by rw [results_cell_tmp rfl]; go_simp; try rfl) rfl ?_
    have hfin := pro_end HP.out HPM.out A6.out N6.out HZ.out (.int .i64 kk) (.string tt) (.int .i64 0) (.slice none 0 0) (.slice none 0 0)
    unfold five at hfin
    exact ⟨S1, o, HM.out, by rw [← HOK.out, ← HKK.out, ← HTT.out]; rfl, hfin.1.mono (by omega), hfin.2⟩
  | false =>
    rw [show okV false kk 0 tt = resV 2 txKind 0 (.slice none 0 0) (.slice none 0 0) from rfl]
    unfold resV
    go_wp2_with fail
    refine bodyPost_ret (v := .tuple #[resV 2 txKind 0 (.slice none 0 0) (.slice none 0 0), .bool true]) (by rw [results_cell_tmp rfl]; go_simp; try rfl) rfl ?_
    have hfin := pro_end HP.out HPM.out A6.out N6.out HZ.out (.int .i64 2) (.string txKind) (.int .i64 0) (.slice none 0 0) (.slice none 0 0)
    unfold five at hfin
    exact ⟨S1, o, HM.out, by rw [← HOK.out, ← HKK.out, ← HTT.out]; rfl, hfin.1.mono (by omega), hfin.2⟩
set_option maxRecDepth 100000 in
set_option maxHeartbeats 4000000 in
theorem doSet0 (sp wb off cap : Nat) (src : Value) (ws : List ByteArray) (S : SS) (n : Nat) (w : World) (ha : At w sp S (n + 6)) (hs : Said w sp wb off cap S ws) (hverb : Verb ws kwSet) (k t : ByteArray) (h1 : ws[1]? = some k) (h2 : ws[2]? = some t) (hn : ws.length = 3) :
    Calls Tryz.prog 17 #[dp sp, src, .slice (some ⟨wb, off, none⟩) ws.length cap] w fun r w' => ∃ S1 o S' eff, MetR S k S1 o ∧ (∃ vb, PutR S1 k vb (Val.text t) S') ∧ r = .returned (.tuple #[resV 1 kwOK 0 (.slice none 0 0) eff, .bool true]) ∧ EffAt w.heap.size w' eff [ws] ∧ At w' sp S' n ∧ Next sp w S w' S' := by
  have HN := khid hn
  have H1 := khid h1
  have H2 := khid h2
  clear hn h1 h2
  obtain ⟨s0, vr, h0, hu, hv, hr1, hr2⟩ := hverb.w0
  have HCH := khid (fun (W : World) (hk : Keeps [] w W) => checkC ws s0 vr wb off cap W h0 (words_keep hs.at_ (hk.block wb (words_lt hs.at_ hs.n.1) (by simp))) hs.n.2 hs.s hs.t (by rw [hu]; exact hv) hr1 hr2)
  have HUP := khid (fun W : World => upperC s0 W (hs.s s0 (List.mem_of_getElem? h0)))
  rw [hu] at HUP
  unfold kwSet at HUP
  have HS := khid hs
  have HA := khid ha
  have HW0 := khid h0
  have hlen := hs.n.1
  have HB := khid (fun (w1 W : World) (vv : Array Value) k1 hW => pro_start (w1 := w1) (W := W) (vv := vv) ha hs k1 hW)
  unfold zero5 at HB
  rw [show ByteArray.empty = ⟨#[]⟩ from rfl] at HB
  clear ha hs hverb h0 hu hv hr1 hr2
  obtain ⟨nm, ar, fl, fi, la, ju⟩ := vr
  unfold VRow.val VRow.cells at HCH
  unfold dp at HB ⊢
  go_enter Tryz.func17, Tryz.ntmps17
  go_wp2_with fail
  refine (HCH.out _ (((Keeps.refl [] w).alloc _).alloc _)).mono ?_
  rintro r w1 ⟨rfl, k1⟩
  have HK1 := khid k1
  have hx1 := k1.get (alloc_old _ (alloc_new w _)) (by simp)
  have x0 : w1.cell? ⟨w.heap.size, 0, none⟩ = some (.slice (some ⟨wb, off, none⟩) ws.length cap) := by rw [cell_at hx1]; rfl
  have hxl : w.heap.size < w1.heap.size := hlt hx1
  have hwl : wb < w1.heap.size := Nat.lt_trans (words_lt HS.out.at_ HS.out.n.1) hxl
  clear k1 hx1
  go_upto_region 5 with (fail)
  obtain ⟨W, hW⟩ : ∃ W, W = ((w1.alloc (.cells #[.string ⟨nm.toArray⟩, .int .i64 ar, .int .i64 fl, .int .i64 fi, .int .i64 la, .int .i64 ju] 79)).alloc (.cells #[.pointer (some ⟨sp, 0, none⟩), .slice (some ⟨wb, off, none⟩) ws.length cap, .string ⟨#[]⟩, .string ⟨#[]⟩, .bool false] 84)).alloc (.cells #[.pointer (some ⟨w1.heap.size + 1, 0, none⟩)] 82) := ⟨_, rfl⟩
  have HP := khid (HB.out w1 W _ HK1.out hW)
  rw [← hW]
  have hpw := (pro_cx HP.out HA.out.mem (NextC.keeps0 (Keeps.refl [] W))).2
  have xw : W.cell? ⟨wb, off, none⟩ = some (.string s0) := by
    have := HP.out.wd.at_ 0 s0 HW0.out
    rwa [Nat.add_zero] at this
  clear hW x0 HB HK1 hxl hwl
  go_wp2_with fail
  clear hpw xw
  refine (HUP.out W).mono ?_
  rintro r W1 ⟨rfl, k1⟩
  have HP := khid (HP.out.keeps k1)
  have HPM := khid HA.out.mem
  have HZ := khid HA.out.hz
  obtain ⟨CB, hCB⟩ : ∃ CB, CB = w1.heap.size + 1 := ⟨_, rfl⟩
  obtain ⟨CX, hCX⟩ : ∃ CX, CX = w1.heap.size + 2 := ⟨_, rfl⟩
  obtain ⟨RB, hRB⟩ : ∃ RB, RB = w.heap.size + 1 := ⟨_, rfl⟩
  rw [← hCB, ← hCX, ← hRB] at HP
  have e1 : w1.heap.size + 1 + 1 = CX := by omega
  try rw [e1]
  try rw [← hCX]
  try rw [← hRB]
  try rw [← hCB]
  have j0 := (pro_cx HP.out HPM.out (NextC.keeps0 (Keeps.refl [] W1))).1
  have j1 := (pro_cx HP.out HPM.out (NextC.keeps0 (Keeps.refl [] W1))).2
  unfold dp at j0
  clear k1 hCB hCX hRB e1
  have HRD := khid (set0C CB sp wb off cap ws _ _ _ S n k t W1 HP.out.at_ HP.out.cmd HP.out.wd H1.out H2.out HN.out)
  unfold dp at HRD
  go_wp2_with fail
  refine HRD.out.mono ?_
  rintro r w6 ⟨S1, o, S2, eff, hm, hp, rfl, heff, a6, n6⟩
  have HM := khid hm
  have HPP := khid hp
  have A6 := khid a6
  have N6 := khid n6
  clear hm hp a6 n6 j0 j1 HRD
  have hfive := pro_rb HP.out HPM.out N6.out
  obtain ⟨⟨z0, z1, z2, z3, z4⟩, y0, y1, y2, y3, y4⟩ := five_facts hfive
  clear hfive
  have h61 := khid (show RB < W1.heap.size from hlt HP.out.hrb)
  obtain ⟨ge, ce, rfl⟩ := eff_shape heff
  have HEFF := khid heff
  clear heff
  unfold resV
  go_wp2_with fail
  refine bodyPost_ret (v := .tuple #[resV 1 kwOK 0 (.slice none 0 0) (.slice (some ⟨ge, 0, none⟩) 1 ce), .bool true]) (by rw [results_cell_tmp rfl]; go_simp; try rfl) rfl ?_
  have hfin := pro_end HP.out HPM.out A6.out N6.out HZ.out (.int .i64 1) (.string kwOK) (.int .i64 0) (.slice none 0 0) (.slice (some ⟨ge, 0, none⟩) 1 ce)
  unfold five at hfin
  have hef := Fr.eff (W := w6) (rb := RB) (v0 := .int .i64 1) (v1 := .string kwOK) (v2 := .int .i64 0) (v3 := .slice none 0 0) (v4 := (.slice (some ⟨ge, 0, none⟩) 1 ce)) HEFF.out h61.out
  unfold five at hef
  have hef2 := eff_mono (show w.heap.size ≤ W1.heap.size from HP.out.k.size) hef
  exact ⟨S1, o, S2, _, HM.out, HPP.out, rfl, hef2, hfin.1, hfin.2⟩
set_option maxRecDepth 100000 in
set_option maxHeartbeats 4000000 in
theorem doSetKeep (sp wb off cap : Nat) (src : Value) (ws : List ByteArray) (S : SS) (n : Nat) (w : World) (ha : At w sp S (n + 6)) (hs : Said w sp wb off cap S ws) (hverb : Verb ws kwSet) (k t x : ByteArray) (h1 : ws[1]? = some k) (h2 : ws[2]? = some t) (h3 : ws[3]? = some x) (hx : upS x = kwKeep) (hn : ws.length = 4) :
    Calls Tryz.prog 17 #[dp sp, src, .slice (some ⟨wb, off, none⟩) ws.length cap] w fun r w' => ∃ S1 o S' eff, MetR S k S1 o ∧ OverR S1 k t S' ∧ r = .returned (.tuple #[resV 1 kwOK 0 (.slice none 0 0) eff, .bool true]) ∧ EffAt w.heap.size w' eff [ws] ∧ At w' sp S' n ∧ Next sp w S w' S' := by
  have HN := khid hn
  have H1 := khid h1
  have H2 := khid h2
  clear hn h1 h2
  have H3 := khid h3
  have HX := khid hx
  clear h3 hx
  obtain ⟨s0, vr, h0, hu, hv, hr1, hr2⟩ := hverb.w0
  have HCH := khid (fun (W : World) (hk : Keeps [] w W) => checkC ws s0 vr wb off cap W h0 (words_keep hs.at_ (hk.block wb (words_lt hs.at_ hs.n.1) (by simp))) hs.n.2 hs.s hs.t (by rw [hu]; exact hv) hr1 hr2)
  have HUP := khid (fun W : World => upperC s0 W (hs.s s0 (List.mem_of_getElem? h0)))
  rw [hu] at HUP
  unfold kwSet at HUP
  have HS := khid hs
  have HA := khid ha
  have HW0 := khid h0
  have hlen := hs.n.1
  have HB := khid (fun (w1 W : World) (vv : Array Value) k1 hW => pro_start (w1 := w1) (W := W) (vv := vv) ha hs k1 hW)
  unfold zero5 at HB
  rw [show ByteArray.empty = ⟨#[]⟩ from rfl] at HB
  clear ha hs hverb h0 hu hv hr1 hr2
  obtain ⟨nm, ar, fl, fi, la, ju⟩ := vr
  unfold VRow.val VRow.cells at HCH
  unfold dp at HB ⊢
  go_enter Tryz.func17, Tryz.ntmps17
  go_wp2_with fail
  refine (HCH.out _ (((Keeps.refl [] w).alloc _).alloc _)).mono ?_
  rintro r w1 ⟨rfl, k1⟩
  have HK1 := khid k1
  have hx1 := k1.get (alloc_old _ (alloc_new w _)) (by simp)
  have x0 : w1.cell? ⟨w.heap.size, 0, none⟩ = some (.slice (some ⟨wb, off, none⟩) ws.length cap) := by rw [cell_at hx1]; rfl
  have hxl : w.heap.size < w1.heap.size := hlt hx1
  have hwl : wb < w1.heap.size := Nat.lt_trans (words_lt HS.out.at_ HS.out.n.1) hxl
  clear k1 hx1
  go_upto_region 5 with (fail)
  obtain ⟨W, hW⟩ : ∃ W, W = ((w1.alloc (.cells #[.string ⟨nm.toArray⟩, .int .i64 ar, .int .i64 fl, .int .i64 fi, .int .i64 la, .int .i64 ju] 79)).alloc (.cells #[.pointer (some ⟨sp, 0, none⟩), .slice (some ⟨wb, off, none⟩) ws.length cap, .string ⟨#[]⟩, .string ⟨#[]⟩, .bool false] 84)).alloc (.cells #[.pointer (some ⟨w1.heap.size + 1, 0, none⟩)] 82) := ⟨_, rfl⟩
  have HP := khid (HB.out w1 W _ HK1.out hW)
  rw [← hW]
  have hpw := (pro_cx HP.out HA.out.mem (NextC.keeps0 (Keeps.refl [] W))).2
  have xw : W.cell? ⟨wb, off, none⟩ = some (.string s0) := by
    have := HP.out.wd.at_ 0 s0 HW0.out
    rwa [Nat.add_zero] at this
  clear hW x0 HB HK1 hxl hwl
  go_wp2_with fail
  clear hpw xw
  refine (HUP.out W).mono ?_
  rintro r W1 ⟨rfl, k1⟩
  have HP := khid (HP.out.keeps k1)
  have HPM := khid HA.out.mem
  have HZ := khid HA.out.hz
  obtain ⟨CB, hCB⟩ : ∃ CB, CB = w1.heap.size + 1 := ⟨_, rfl⟩
  obtain ⟨CX, hCX⟩ : ∃ CX, CX = w1.heap.size + 2 := ⟨_, rfl⟩
  obtain ⟨RB, hRB⟩ : ∃ RB, RB = w.heap.size + 1 := ⟨_, rfl⟩
  rw [← hCB, ← hCX, ← hRB] at HP
  have e1 : w1.heap.size + 1 + 1 = CX := by omega
  try rw [e1]
  try rw [← hCX]
  try rw [← hRB]
  try rw [← hCB]
  have j0 := (pro_cx HP.out HPM.out (NextC.keeps0 (Keeps.refl [] W1))).1
  have j1 := (pro_cx HP.out HPM.out (NextC.keeps0 (Keeps.refl [] W1))).2
  unfold dp at j0
  clear k1 hCB hCX hRB e1
  have HRD := khid (setKeepC CB sp wb off cap ws _ _ _ S n k t W1 HP.out.at_ HP.out.cmd HP.out.wd H1.out H2.out x H3.out HX.out (HP.out.wd.s x (List.mem_of_getElem? H3.out)) HN.out)
  unfold dp at HRD
  go_wp2_with fail
  refine HRD.out.mono ?_
  rintro r w6 ⟨S1, o, S2, eff, hm, hp, rfl, heff, a6, n6⟩
  have HM := khid hm
  have HPP := khid hp
  have A6 := khid a6
  have N6 := khid n6
  clear hm hp a6 n6 j0 j1 HRD
  have hfive := pro_rb HP.out HPM.out N6.out
  obtain ⟨⟨z0, z1, z2, z3, z4⟩, y0, y1, y2, y3, y4⟩ := five_facts hfive
  clear hfive
  have h61 := khid (show RB < W1.heap.size from hlt HP.out.hrb)
  obtain ⟨ge, ce, rfl⟩ := eff_shape heff
  have HEFF := khid heff
  clear heff
  unfold resV
  go_wp2_with fail
  refine bodyPost_ret (v := .tuple #[resV 1 kwOK 0 (.slice none 0 0) (.slice (some ⟨ge, 0, none⟩) 1 ce), .bool true]) (by rw [results_cell_tmp rfl]; go_simp; try rfl) rfl ?_
  have hfin := pro_end HP.out HPM.out A6.out N6.out HZ.out (.int .i64 1) (.string kwOK) (.int .i64 0) (.slice none 0 0) (.slice (some ⟨ge, 0, none⟩) 1 ce)
  unfold five at hfin
  have hef := Fr.eff (W := w6) (rb := RB) (v0 := .int .i64 1) (v1 := .string kwOK) (v2 := .int .i64 0) (v3 := .slice none 0 0) (v4 := (.slice (some ⟨ge, 0, none⟩) 1 ce)) HEFF.out h61.out
  unfold five at hef
  have hef2 := eff_mono (show w.heap.size ≤ W1.heap.size from HP.out.k.size) hef
  exact ⟨S1, o, S2, _, HM.out, HPP.out, rfl, hef2, hfin.1, hfin.2⟩
set_option maxRecDepth 100000 in
set_option maxHeartbeats 4000000 in
theorem doAppend (sp wb off cap : Nat) (src : Value) (ws : List ByteArray) (S : SS) (n : Nat) (w : World) (ha : At w sp S (n + 6)) (hs : Said w sp wb off cap S ws) (hverb : Verb ws kwAppend) (k x : ByteArray) (h1 : ws[1]? = some k) (h2 : ws[2]? = some x) (hn : ws.length = 3) :
    Calls Tryz.prog 17 #[dp sp, src, .slice (some ⟨wb, off, none⟩) ws.length cap] w fun r w' => ∃ v S1 o S', MetR S k S1 o ∧ r = .returned (.tuple #[v, .bool true]) ∧ PatchPost w.heap.size ws k S1 (fun t => (t.size : Int)) (patchE (lookOk S1 o) o.isSome (lookT S1 o) (fun t _ => joinV t x)) (.returned v) w' S' ∧ At w' sp S' n ∧ Next sp w S w' S' := by
  have HN := khid hn
  have H1 := khid h1
  have H2 := khid h2
  clear hn h1 h2
  obtain ⟨s0, vr, h0, hu, hv, hr1, hr2⟩ := hverb.w0
  have HCH := khid (fun (W : World) (hk : Keeps [] w W) => checkC ws s0 vr wb off cap W h0 (words_keep hs.at_ (hk.block wb (words_lt hs.at_ hs.n.1) (by simp))) hs.n.2 hs.s hs.t (by rw [hu]; exact hv) hr1 hr2)
  have HUP := khid (fun W : World => upperC s0 W (hs.s s0 (List.mem_of_getElem? h0)))
  rw [hu] at HUP
  unfold kwAppend at HUP
  have HS := khid hs
  have HA := khid ha
  have HW0 := khid h0
  have hlen := hs.n.1
  have HB := khid (fun (w1 W : World) (vv : Array Value) k1 hW => pro_start (w1 := w1) (W := W) (vv := vv) ha hs k1 hW)
  unfold zero5 at HB
  rw [show ByteArray.empty = ⟨#[]⟩ from rfl] at HB
  clear ha hs hverb h0 hu hv hr1 hr2
  obtain ⟨nm, ar, fl, fi, la, ju⟩ := vr
  unfold VRow.val VRow.cells at HCH
  unfold dp at HB ⊢
  go_enter Tryz.func17, Tryz.ntmps17
  go_wp2_with fail
  refine (HCH.out _ (((Keeps.refl [] w).alloc _).alloc _)).mono ?_
  rintro r w1 ⟨rfl, k1⟩
  have HK1 := khid k1
  have hx1 := k1.get (alloc_old _ (alloc_new w _)) (by simp)
  have x0 : w1.cell? ⟨w.heap.size, 0, none⟩ = some (.slice (some ⟨wb, off, none⟩) ws.length cap) := by rw [cell_at hx1]; rfl
  have hxl : w.heap.size < w1.heap.size := hlt hx1
  have hwl : wb < w1.heap.size := Nat.lt_trans (words_lt HS.out.at_ HS.out.n.1) hxl
  clear k1 hx1
  go_upto_region 5 with (fail)
  obtain ⟨W, hW⟩ : ∃ W, W = ((w1.alloc (.cells #[.string ⟨nm.toArray⟩, .int .i64 ar, .int .i64 fl, .int .i64 fi, .int .i64 la, .int .i64 ju] 79)).alloc (.cells #[.pointer (some ⟨sp, 0, none⟩), .slice (some ⟨wb, off, none⟩) ws.length cap, .string ⟨#[]⟩, .string ⟨#[]⟩, .bool false] 84)).alloc (.cells #[.pointer (some ⟨w1.heap.size + 1, 0, none⟩)] 82) := ⟨_, rfl⟩
  have HP := khid (HB.out w1 W _ HK1.out hW)
  rw [← hW]
  have hpw := (pro_cx HP.out HA.out.mem (NextC.keeps0 (Keeps.refl [] W))).2
  have xw : W.cell? ⟨wb, off, none⟩ = some (.string s0) := by
    have := HP.out.wd.at_ 0 s0 HW0.out
    rwa [Nat.add_zero] at this
  clear hW x0 HB HK1 hxl hwl
  go_wp2_with fail
  clear hpw xw
  refine (HUP.out W).mono ?_
  rintro r W1 ⟨rfl, k1⟩
  have HP := khid (HP.out.keeps k1)
  have HPM := khid HA.out.mem
  have HZ := khid HA.out.hz
  obtain ⟨CB, hCB⟩ : ∃ CB, CB = w1.heap.size + 1 := ⟨_, rfl⟩
  obtain ⟨CX, hCX⟩ : ∃ CX, CX = w1.heap.size + 2 := ⟨_, rfl⟩
  obtain ⟨RB, hRB⟩ : ∃ RB, RB = w.heap.size + 1 := ⟨_, rfl⟩
  rw [← hCB, ← hCX, ← hRB] at HP
  have e1 : w1.heap.size + 1 + 1 = CX := by omega
  try rw [e1]
  try rw [← hCX]
  try rw [← hRB]
  try rw [← hCB]
  have j0 := (pro_cx HP.out HPM.out (NextC.keeps0 (Keeps.refl [] W1))).1
  have j1 := (pro_cx HP.out HPM.out (NextC.keeps0 (Keeps.refl [] W1))).2
  unfold dp at j0
  clear k1 hCB hCX hRB e1
  have HRD := khid (patchedC CB sp wb off cap ws _ _ _ S n 55 #[dp CX, dp w.heap.size] k W1 (enters_of (c := _) Tryz.func55 (by kernel_rfl) rfl) HP.out.at_ HP.out.cmd HP.out.wd (by have := HN.out; omega) H1.out (fun t _ => joinV t x) (fun W2 S' t b ha2 hc2 hn2 ht2 => appendF CB sp wb off cap _ _ ws _ _ _ x W2 hc2 (HP.out.wd.next hn2 (cmd_lt HP.out.cmd)).at_ (by have := HN.out; omega) H2.out (by have := HP.out.wd.s x (List.mem_of_getElem? H2.out); omega) ht2 (pro_cx HP.out HPM.out hn2).1 (pro_cx HP.out HPM.out hn2).2) (fun t b h => joinV_ok h))
  unfold dp at HRD
  go_wp2_with fail
  refine HRD.out.mono ?_
  rintro r w6 ⟨S1, o, S2, hm, hp, a6, _, n6⟩
  have HM := khid hm
  have A6 := khid a6
  have N6 := khid n6
  clear hm a6 n6 j0 j1 HRD
  have hfive := pro_rb HP.out HPM.out N6.out
  obtain ⟨⟨z0, z1, z2, z3, z4⟩, y0, y1, y2, y3, y4⟩ := five_facts hfive
  clear hfive
  obtain ⟨e, he⟩ : ∃ e, e = patchE (lookOk S1 o) o.isSome (lookT S1 o) (fun t _ => joinV t x) := ⟨_, rfl⟩
  rw [← he] at hp
  have HEE := khid he
  clear he
  cases e with
  | inr tx =>
    obtain ⟨rfl, rfl⟩ := hp
    unfold resV
    go_wp2_with fail
    refine bodyPost_ret (v := .tuple #[resV 2 tx 0 (.slice none 0 0) (.slice none 0 0), .bool true]) (by rw [results_cell_tmp rfl]; go_simp; try rfl) rfl ?_
    have hfin := pro_end HP.out HPM.out A6.out N6.out HZ.out (.int .i64 2) (.string tx) (.int .i64 0) (.slice none 0 0) (.slice none 0 0)
    unfold five at hfin
    exact ⟨_, S2, o, S2, HM.out, rfl, by rw [← HEE.out]; exact ⟨rfl, rfl⟩, hfin.1, hfin.2⟩
  | inl nt =>
    obtain ⟨eff, rfl, heff, hov⟩ := hp
    have HOV := khid hov
    clear hov
    have h61 := khid (show RB < W1.heap.size from hlt HP.out.hrb)
    obtain ⟨ge, ce, rfl⟩ := eff_shape heff
    have HEFF := khid heff
    clear heff
    obtain ⟨VV, hVV⟩ : ∃ VV : Int, VV = (fun t => (t.size : Int)) nt := ⟨_, rfl⟩
    have HVV := khid hVV
    rw [show resV 3 ByteArray.empty ((fun t => (t.size : Int)) nt) (.slice none 0 0) (.slice (some ⟨ge, 0, none⟩) 1 ce) = resV 3 ByteArray.empty VV (.slice none 0 0) (.slice (some ⟨ge, 0, none⟩) 1 ce) by rw [hVV]]
    clear hVV
    unfold resV
    go_wp2_with fail
    refine bodyPost_ret (v := .tuple #[resV 3 ByteArray.empty VV (.slice none 0 0) (.slice (some ⟨ge, 0, none⟩) 1 ce), .bool true]) (by rw [results_cell_tmp rfl]; go_simp; try rfl) rfl ?_
    have hfin := pro_end HP.out HPM.out A6.out N6.out HZ.out (.int .i64 3) (.string ByteArray.empty) (.int .i64 VV) (.slice none 0 0) (.slice (some ⟨ge, 0, none⟩) 1 ce)
    unfold five at hfin
    have hef := Fr.eff (W := w6) (rb := RB) (v0 := .int .i64 3) (v1 := .string ByteArray.empty) (v2 := .int .i64 VV) (v3 := .slice none 0 0) (v4 := (.slice (some ⟨ge, 0, none⟩) 1 ce)) HEFF.out h61.out
    unfold five at hef
    have hef2 := eff_mono (show w.heap.size ≤ W1.heap.size from HP.out.k.size) hef
    exact ⟨_, S1, o, S2, HM.out, rfl, by rw [← HEE.out]; exact ⟨_, by rw [HVV.out], hef2, HOV.out⟩, hfin.1, hfin.2⟩
set_option maxRecDepth 100000 in
set_option maxHeartbeats 4000000 in
theorem doSetrange (sp wb off cap : Nat) (src : Value) (ws : List ByteArray) (S : SS) (n : Nat) (w : World) (ha : At w sp S (n + 6)) (hs : Said w sp wb off cap S ws) (hverb : Verb ws kwSetrange) (k x y : ByteArray) (h1 : ws[1]? = some k) (h2 : ws[2]? = some x) (h3 : ws[3]? = some y) (a : Nat) (hx : intV x = ((a : Int), 0)) (hab : a ≤ 9223372036854775807) (hy : y.size ≠ 0) (hn : ws.length = 4) :
    Calls Tryz.prog 17 #[dp sp, src, .slice (some ⟨wb, off, none⟩) ws.length cap] w fun r w' => ∃ v S1 o S', MetR S k S1 o ∧ r = .returned (.tuple #[v, .bool true]) ∧ PatchPost w.heap.size ws k S1 (fun t => (t.size : Int)) (patchE (lookOk S1 o) o.isSome (lookT S1 o) (fun t _ => overlayV t a y)) (.returned v) w' S' ∧ At w' sp S' n ∧ Next sp w S w' S' := by
  have HN := khid hn
  have H1 := khid h1
  have H2 := khid h2
  clear hn h1 h2
  have H3 := khid h3
  have HX := khid hx
  have HY := khid hy
  have HAB := khid hab
  clear h3 hx hy hab
  obtain ⟨s0, vr, h0, hu, hv, hr1, hr2⟩ := hverb.w0
  have HCH := khid (fun (W : World) (hk : Keeps [] w W) => checkC ws s0 vr wb off cap W h0 (words_keep hs.at_ (hk.block wb (words_lt hs.at_ hs.n.1) (by simp))) hs.n.2 hs.s hs.t (by rw [hu]; exact hv) hr1 hr2)
  have HUP := khid (fun W : World => upperC s0 W (hs.s s0 (List.mem_of_getElem? h0)))
  rw [hu] at HUP
  unfold kwSetrange at HUP
  have HS := khid hs
  have HA := khid ha
  have HW0 := khid h0
  have hlen := hs.n.1
  have HB := khid (fun (w1 W : World) (vv : Array Value) k1 hW => pro_start (w1 := w1) (W := W) (vv := vv) ha hs k1 hW)
  unfold zero5 at HB
  rw [show ByteArray.empty = ⟨#[]⟩ from rfl] at HB
  clear ha hs hverb h0 hu hv hr1 hr2
  obtain ⟨nm, ar, fl, fi, la, ju⟩ := vr
  unfold VRow.val VRow.cells at HCH
  unfold dp at HB ⊢
  go_enter Tryz.func17, Tryz.ntmps17
  go_wp2_with fail
  refine (HCH.out _ (((Keeps.refl [] w).alloc _).alloc _)).mono ?_
  rintro r w1 ⟨rfl, k1⟩
  have HK1 := khid k1
  have hx1 := k1.get (alloc_old _ (alloc_new w _)) (by simp)
  have x0 : w1.cell? ⟨w.heap.size, 0, none⟩ = some (.slice (some ⟨wb, off, none⟩) ws.length cap) := by rw [cell_at hx1]; rfl
  have hxl : w.heap.size < w1.heap.size := hlt hx1
  have hwl : wb < w1.heap.size := Nat.lt_trans (words_lt HS.out.at_ HS.out.n.1) hxl
  clear k1 hx1
  go_upto_region 5 with (fail)
  obtain ⟨W, hW⟩ : ∃ W, W = ((w1.alloc (.cells #[.string ⟨nm.toArray⟩, .int .i64 ar, .int .i64 fl, .int .i64 fi, .int .i64 la, .int .i64 ju] 79)).alloc (.cells #[.pointer (some ⟨sp, 0, none⟩), .slice (some ⟨wb, off, none⟩) ws.length cap, .string ⟨#[]⟩, .string ⟨#[]⟩, .bool false] 84)).alloc (.cells #[.pointer (some ⟨w1.heap.size + 1, 0, none⟩)] 82) := ⟨_, rfl⟩
  have HP := khid (HB.out w1 W _ HK1.out hW)
  rw [← hW]
  have hpw := (pro_cx HP.out HA.out.mem (NextC.keeps0 (Keeps.refl [] W))).2
  have xw : W.cell? ⟨wb, off, none⟩ = some (.string s0) := by
    have := HP.out.wd.at_ 0 s0 HW0.out
    rwa [Nat.add_zero] at this
  clear hW x0 HB HK1 hxl hwl
  go_wp2_with fail
  clear hpw xw
  refine (HUP.out W).mono ?_
  rintro r W1 ⟨rfl, k1⟩
  have HP := khid (HP.out.keeps k1)
  have HPM := khid HA.out.mem
  have HZ := khid HA.out.hz
  obtain ⟨CB, hCB⟩ : ∃ CB, CB = w1.heap.size + 1 := ⟨_, rfl⟩
  obtain ⟨CX, hCX⟩ : ∃ CX, CX = w1.heap.size + 2 := ⟨_, rfl⟩
  obtain ⟨RB, hRB⟩ : ∃ RB, RB = w.heap.size + 1 := ⟨_, rfl⟩
  rw [← hCB, ← hCX, ← hRB] at HP
  have e1 : w1.heap.size + 1 + 1 = CX := by omega
  try rw [e1]
  try rw [← hCX]
  try rw [← hRB]
  try rw [← hCB]
  have j0 := (pro_cx HP.out HPM.out (NextC.keeps0 (Keeps.refl [] W1))).1
  have j1 := (pro_cx HP.out HPM.out (NextC.keeps0 (Keeps.refl [] W1))).2
  unfold dp at j0
  clear k1 hCB hCX hRB e1
  have HRD := khid (setrangeC CB sp wb off cap ws _ _ _ S n k x y W1 HP.out.at_ HP.out.cmd HP.out.wd HN.out H1.out H2.out H3.out a HX.out HAB.out HY.out)
  unfold dp at HRD
  go_wp2_with fail
  refine HRD.out.mono ?_
  rintro r w6 ⟨S1, o, S2, hm, hp, a6, n6⟩
  have HM := khid hm
  have A6 := khid a6
  have N6 := khid n6
  clear hm a6 n6 j0 j1 HRD
  have hfive := pro_rb HP.out HPM.out N6.out
  obtain ⟨⟨z0, z1, z2, z3, z4⟩, y0, y1, y2, y3, y4⟩ := five_facts hfive
  clear hfive
  obtain ⟨e, he⟩ : ∃ e, e = patchE (lookOk S1 o) o.isSome (lookT S1 o) (fun t _ => overlayV t a y) := ⟨_, rfl⟩
  rw [← he] at hp
  have HEE := khid he
  clear he
  cases e with
  | inr tx =>
    obtain ⟨rfl, rfl⟩ := hp
    unfold resV
    go_wp2_with fail
    refine bodyPost_ret (v := .tuple #[resV 2 tx 0 (.slice none 0 0) (.slice none 0 0), .bool true]) (by rw [results_cell_tmp rfl]; go_simp; try rfl) rfl ?_
    have hfin := pro_end HP.out HPM.out A6.out N6.out HZ.out (.int .i64 2) (.string tx) (.int .i64 0) (.slice none 0 0) (.slice none 0 0)
    unfold five at hfin
    exact ⟨_, S2, o, S2, HM.out, rfl, by rw [← HEE.out]; exact ⟨rfl, rfl⟩, hfin.1, hfin.2⟩
  | inl nt =>
    obtain ⟨eff, rfl, heff, hov⟩ := hp
    have HOV := khid hov
    clear hov
    have h61 := khid (show RB < W1.heap.size from hlt HP.out.hrb)
    obtain ⟨ge, ce, rfl⟩ := eff_shape heff
    have HEFF := khid heff
    clear heff
    obtain ⟨VV, hVV⟩ : ∃ VV : Int, VV = (fun t => (t.size : Int)) nt := ⟨_, rfl⟩
    have HVV := khid hVV
    rw [show resV 3 ByteArray.empty ((fun t => (t.size : Int)) nt) (.slice none 0 0) (.slice (some ⟨ge, 0, none⟩) 1 ce) = resV 3 ByteArray.empty VV (.slice none 0 0) (.slice (some ⟨ge, 0, none⟩) 1 ce) by rw [hVV]]
    clear hVV
    unfold resV
    go_wp2_with fail
    refine bodyPost_ret (v := .tuple #[resV 3 ByteArray.empty VV (.slice none 0 0) (.slice (some ⟨ge, 0, none⟩) 1 ce), .bool true]) (by rw [results_cell_tmp rfl]; go_simp; try rfl) rfl ?_
    have hfin := pro_end HP.out HPM.out A6.out N6.out HZ.out (.int .i64 3) (.string ByteArray.empty) (.int .i64 VV) (.slice none 0 0) (.slice (some ⟨ge, 0, none⟩) 1 ce)
    unfold five at hfin
    have hef := Fr.eff (W := w6) (rb := RB) (v0 := .int .i64 3) (v1 := .string ByteArray.empty) (v2 := .int .i64 VV) (v3 := .slice none 0 0) (v4 := (.slice (some ⟨ge, 0, none⟩) 1 ce)) HEFF.out h61.out
    unfold five at hef
    have hef2 := eff_mono (show w.heap.size ≤ W1.heap.size from HP.out.k.size) hef
    exact ⟨_, S1, o, S2, HM.out, rfl, by rw [← HEE.out]; exact ⟨_, by rw [HVV.out], hef2, HOV.out⟩, hfin.1, hfin.2⟩
set_option maxRecDepth 100000 in
set_option maxHeartbeats 4000000 in
theorem doSetbit (sp wb off cap : Nat) (src : Value) (ws : List ByteArray) (S : SS) (n : Nat) (w : World) (ha : At w sp S (n + 6)) (hs : Said w sp wb off cap S ws) (hverb : Verb ws kwSetbit) (k : ByteArray) (h1 : ws[1]? = some k) (a b : Int) (hxs : numsOf (ws.drop 2) = some [a, b]) (hab : 0 ≤ a ∧ a < 1073741824) (hbb : 0 ≤ b ∧ b ≤ 1) (hn : 2 ≤ ws.length) :
    Calls Tryz.prog 17 #[dp sp, src, .slice (some ⟨wb, off, none⟩) ws.length cap] w fun r w' => ∃ v S1 o S', MetR S k S1 o ∧ r = .returned (.tuple #[v, .bool true]) ∧ PatchPost w.heap.size ws k S1 (fun _ => (setBitV (lookT S1 o) a b).2.1) (patchE (lookOk S1 o) o.isSome (lookT S1 o) (fun t _ => ((setBitV t a b).1, (setBitV t a b).2.2))) (.returned v) w' S' ∧ At w' sp S' n ∧ Next sp w S w' S' := by
  have HN := khid hn
  have H1 := khid h1
  have HXS := khid hxs
  have HAB := khid hab
  have HBB := khid hbb
  clear hn h1 hxs hab hbb
  obtain ⟨s0, vr, h0, hu, hv, hr1, hr2⟩ := hverb.w0
  have HCH := khid (fun (W : World) (hk : Keeps [] w W) => checkC ws s0 vr wb off cap W h0 (words_keep hs.at_ (hk.block wb (words_lt hs.at_ hs.n.1) (by simp))) hs.n.2 hs.s hs.t (by rw [hu]; exact hv) hr1 hr2)
  have HUP := khid (fun W : World => upperC s0 W (hs.s s0 (List.mem_of_getElem? h0)))
  rw [hu] at HUP
  unfold kwSetbit at HUP
  have HS := khid hs
  have HA := khid ha
  have HW0 := khid h0
  have hlen := hs.n.1
  have HB := khid (fun (w1 W : World) (vv : Array Value) k1 hW => pro_start (w1 := w1) (W := W) (vv := vv) ha hs k1 hW)
  unfold zero5 at HB
  rw [show ByteArray.empty = ⟨#[]⟩ from rfl] at HB
  clear ha hs hverb h0 hu hv hr1 hr2
  obtain ⟨nm, ar, fl, fi, la, ju⟩ := vr
  unfold VRow.val VRow.cells at HCH
  unfold dp at HB ⊢
  go_enter Tryz.func17, Tryz.ntmps17
  go_wp2_with fail
  refine (HCH.out _ (((Keeps.refl [] w).alloc _).alloc _)).mono ?_
  rintro r w1 ⟨rfl, k1⟩
  have HK1 := khid k1
  have hx1 := k1.get (alloc_old _ (alloc_new w _)) (by simp)
  have x0 : w1.cell? ⟨w.heap.size, 0, none⟩ = some (.slice (some ⟨wb, off, none⟩) ws.length cap) := by rw [cell_at hx1]; rfl
  have hxl : w.heap.size < w1.heap.size := hlt hx1
  have hwl : wb < w1.heap.size := Nat.lt_trans (words_lt HS.out.at_ HS.out.n.1) hxl
  clear k1 hx1
  go_upto_region 5 with (fail)
  obtain ⟨W, hW⟩ : ∃ W, W = ((w1.alloc (.cells #[.string ⟨nm.toArray⟩, .int .i64 ar, .int .i64 fl, .int .i64 fi, .int .i64 la, .int .i64 ju] 79)).alloc (.cells #[.pointer (some ⟨sp, 0, none⟩), .slice (some ⟨wb, off, none⟩) ws.length cap, .string ⟨#[]⟩, .string ⟨#[]⟩, .bool false] 84)).alloc (.cells #[.pointer (some ⟨w1.heap.size + 1, 0, none⟩)] 82) := ⟨_, rfl⟩
  have HP := khid (HB.out w1 W _ HK1.out hW)
  rw [← hW]
  have hpw := (pro_cx HP.out HA.out.mem (NextC.keeps0 (Keeps.refl [] W))).2
  have xw : W.cell? ⟨wb, off, none⟩ = some (.string s0) := by
    have := HP.out.wd.at_ 0 s0 HW0.out
    rwa [Nat.add_zero] at this
  clear hW x0 HB HK1 hxl hwl
  go_wp2_with fail
  clear hpw xw
  refine (HUP.out W).mono ?_
  rintro r W1 ⟨rfl, k1⟩
  have HP := khid (HP.out.keeps k1)
  have HPM := khid HA.out.mem
  have HZ := khid HA.out.hz
  obtain ⟨CB, hCB⟩ : ∃ CB, CB = w1.heap.size + 1 := ⟨_, rfl⟩
  obtain ⟨CX, hCX⟩ : ∃ CX, CX = w1.heap.size + 2 := ⟨_, rfl⟩
  obtain ⟨RB, hRB⟩ : ∃ RB, RB = w.heap.size + 1 := ⟨_, rfl⟩
  rw [← hCB, ← hCX, ← hRB] at HP
  have e1 : w1.heap.size + 1 + 1 = CX := by omega
  try rw [e1]
  try rw [← hCX]
  try rw [← hRB]
  try rw [← hCB]
  have j0 := (pro_cx HP.out HPM.out (NextC.keeps0 (Keeps.refl [] W1))).1
  have j1 := (pro_cx HP.out HPM.out (NextC.keeps0 (Keeps.refl [] W1))).2
  unfold dp at j0
  clear k1 hCB hCX hRB e1
  have HRD := khid (setbitC CB sp wb off cap ws _ _ _ S n k W1 HP.out.at_ HP.out.cmd HP.out.wd HN.out H1.out a b HXS.out HAB.out HBB.out)
  unfold dp at HRD
  go_wp2_with fail
  refine HRD.out.mono ?_
  rintro r w6 ⟨S1, o, S2, hm, hp, a6, n6⟩
  have HM := khid hm
  have A6 := khid a6
  have N6 := khid n6
  clear hm a6 n6 j0 j1 HRD
  have hfive := pro_rb HP.out HPM.out N6.out
  obtain ⟨⟨z0, z1, z2, z3, z4⟩, y0, y1, y2, y3, y4⟩ := five_facts hfive
  clear hfive
  obtain ⟨e, he⟩ : ∃ e, e = patchE (lookOk S1 o) o.isSome (lookT S1 o) (fun t _ => ((setBitV t a b).1, (setBitV t a b).2.2)) := ⟨_, rfl⟩
  rw [← he] at hp
  have HEE := khid he
  clear he
  cases e with
  | inr tx =>
    obtain ⟨rfl, rfl⟩ := hp
    unfold resV
    go_wp2_with fail
    refine bodyPost_ret (v := .tuple #[resV 2 tx 0 (.slice none 0 0) (.slice none 0 0), .bool true]) (by rw [results_cell_tmp rfl]; go_simp; try rfl) rfl ?_
    have hfin := pro_end HP.out HPM.out A6.out N6.out HZ.out (.int .i64 2) (.string tx) (.int .i64 0) (.slice none 0 0) (.slice none 0 0)
    unfold five at hfin
    exact ⟨_, S2, o, S2, HM.out, rfl, by rw [← HEE.out]; exact ⟨rfl, rfl⟩, hfin.1, hfin.2⟩
  | inl nt =>
    obtain ⟨eff, rfl, heff, hov⟩ := hp
    have HOV := khid hov
    clear hov
    have h61 := khid (show RB < W1.heap.size from hlt HP.out.hrb)
    obtain ⟨ge, ce, rfl⟩ := eff_shape heff
    have HEFF := khid heff
    clear heff
    obtain ⟨VV, hVV⟩ : ∃ VV : Int, VV = (fun _ => (setBitV (lookT S1 o) a b).2.1) nt := ⟨_, rfl⟩
    have HVV := khid hVV
    rw [show resV 3 ByteArray.empty ((fun _ => (setBitV (lookT S1 o) a b).2.1) nt) (.slice none 0 0) (.slice (some ⟨ge, 0, none⟩) 1 ce) = resV 3 ByteArray.empty VV (.slice none 0 0) (.slice (some ⟨ge, 0, none⟩) 1 ce) by rw [hVV]]
    clear hVV
    unfold resV
    go_wp2_with fail
    refine bodyPost_ret (v := .tuple #[resV 3 ByteArray.empty VV (.slice none 0 0) (.slice (some ⟨ge, 0, none⟩) 1 ce), .bool true]) (by rw [results_cell_tmp rfl]; go_simp; try rfl) rfl ?_
    have hfin := pro_end HP.out HPM.out A6.out N6.out HZ.out (.int .i64 3) (.string ByteArray.empty) (.int .i64 VV) (.slice none 0 0) (.slice (some ⟨ge, 0, none⟩) 1 ce)
    unfold five at hfin
    have hef := Fr.eff (W := w6) (rb := RB) (v0 := .int .i64 3) (v1 := .string ByteArray.empty) (v2 := .int .i64 VV) (v3 := .slice none 0 0) (v4 := (.slice (some ⟨ge, 0, none⟩) 1 ce)) HEFF.out h61.out
    unfold five at hef
    have hef2 := eff_mono (show w.heap.size ≤ W1.heap.size from HP.out.k.size) hef
    exact ⟨_, S1, o, S2, HM.out, rfl, by rw [← HEE.out]; exact ⟨_, by rw [HVV.out], hef2, HOV.out⟩, hfin.1, hfin.2⟩
theorem addV_bd (a b : Int) (ha : -9223372036854775808 ≤ a ∧ a ≤ 9223372036854775807) (hb : -9223372036854775808 ≤ b ∧ b ≤ 9223372036854775807) : -9223372036854775808 ≤ (addV a b).1 ∧ (addV a b).1 ≤ 9223372036854775807 := by
  unfold addV
  split
  · assumption
  · simp
theorem lessV_bd (a b : Int) (ha : -9223372036854775808 ≤ a ∧ a ≤ 9223372036854775807) (hb : -9223372036854775808 ≤ b ∧ b ≤ 9223372036854775807) : -9223372036854775808 ≤ (lessV a b).1 ∧ (lessV a b).1 ≤ 9223372036854775807 := by
  unfold lessV
  by_cases h : b ≠ -9223372036854775808
  · rw [if_pos h]; exact addV_bd a (-b) ha (by omega)
  · rw [if_neg h]
    by_cases h2 : 0 ≤ a
    · rw [if_pos h2]; simp
    · rw [if_neg h2]; show -9223372036854775808 ≤ a - b ∧ a - b ≤ 9223372036854775807; omega
set_option maxRecDepth 100000 in
set_option maxHeartbeats 4000000 in
theorem doIncr (sp wb off cap : Nat) (src : Value) (ws : List ByteArray) (S : SS) (n : Nat) (w : World) (ha : At w sp S (n + 6)) (hs : Said w sp wb off cap S ws) (hverb : Verb ws kwIncr) (k : ByteArray) (h1 : ws[1]? = some k) (xs ys : List Int) (st : Int) (hxs : numsOf (ws.drop 2) = some xs) (hst : xs ++ [1] = st :: ys) (hsb : -9223372036854775808 ≤ st ∧ st ≤ 9223372036854775807) (hn : 2 ≤ ws.length) :
    Calls Tryz.prog 17 #[dp sp, src, .slice (some ⟨wb, off, none⟩) ws.length cap] w fun r w' => ∃ v S1 o S', MetR S k S1 o ∧ r = .returned (.tuple #[v, .bool true]) ∧ CountPost w.heap.size ws k S1 (countE (lookOk S1 o) o.isSome (lookT S1 o) addV st) (.returned v) w' S' ∧ At w' sp S' n ∧ Next sp w S w' S' := by
  have HN := khid hn
  have H1 := khid h1
  have HXS := khid hxs
  have HST := khid hst
  have HSB := khid hsb
  clear hn h1 hxs hst hsb
  obtain ⟨s0, vr, h0, hu, hv, hr1, hr2⟩ := hverb.w0
  have HCH := khid (fun (W : World) (hk : Keeps [] w W) => checkC ws s0 vr wb off cap W h0 (words_keep hs.at_ (hk.block wb (words_lt hs.at_ hs.n.1) (by simp))) hs.n.2 hs.s hs.t (by rw [hu]; exact hv) hr1 hr2)
  have HUP := khid (fun W : World => upperC s0 W (hs.s s0 (List.mem_of_getElem? h0)))
  rw [hu] at HUP
  unfold kwIncr at HUP
  have HS := khid hs
  have HA := khid ha
  have HW0 := khid h0
  have hlen := hs.n.1
  have HB := khid (fun (w1 W : World) (vv : Array Value) k1 hW => pro_start (w1 := w1) (W := W) (vv := vv) ha hs k1 hW)
  unfold zero5 at HB
  rw [show ByteArray.empty = ⟨#[]⟩ from rfl] at HB
  clear ha hs hverb h0 hu hv hr1 hr2
  obtain ⟨nm, ar, fl, fi, la, ju⟩ := vr
  unfold VRow.val VRow.cells at HCH
  unfold dp at HB ⊢
  go_enter Tryz.func17, Tryz.ntmps17
  go_wp2_with fail
  refine (HCH.out _ (((Keeps.refl [] w).alloc _).alloc _)).mono ?_
  rintro r w1 ⟨rfl, k1⟩
  have HK1 := khid k1
  have hx1 := k1.get (alloc_old _ (alloc_new w _)) (by simp)
  have x0 : w1.cell? ⟨w.heap.size, 0, none⟩ = some (.slice (some ⟨wb, off, none⟩) ws.length cap) := by rw [cell_at hx1]; rfl
  have hxl : w.heap.size < w1.heap.size := hlt hx1
  have hwl : wb < w1.heap.size := Nat.lt_trans (words_lt HS.out.at_ HS.out.n.1) hxl
  clear k1 hx1
  go_upto_region 5 with (fail)
  obtain ⟨W, hW⟩ : ∃ W, W = ((w1.alloc (.cells #[.string ⟨nm.toArray⟩, .int .i64 ar, .int .i64 fl, .int .i64 fi, .int .i64 la, .int .i64 ju] 79)).alloc (.cells #[.pointer (some ⟨sp, 0, none⟩), .slice (some ⟨wb, off, none⟩) ws.length cap, .string ⟨#[]⟩, .string ⟨#[]⟩, .bool false] 84)).alloc (.cells #[.pointer (some ⟨w1.heap.size + 1, 0, none⟩)] 82) := ⟨_, rfl⟩
  have HP := khid (HB.out w1 W _ HK1.out hW)
  rw [← hW]
  have hpw := (pro_cx HP.out HA.out.mem (NextC.keeps0 (Keeps.refl [] W))).2
  have xw : W.cell? ⟨wb, off, none⟩ = some (.string s0) := by
    have := HP.out.wd.at_ 0 s0 HW0.out
    rwa [Nat.add_zero] at this
  clear hW x0 HB HK1 hxl hwl
  go_wp2_with fail
  clear hpw xw
  refine (HUP.out W).mono ?_
  rintro r W1 ⟨rfl, k1⟩
  have HP := khid (HP.out.keeps k1)
  have HPM := khid HA.out.mem
  have HZ := khid HA.out.hz
  obtain ⟨CB, hCB⟩ : ∃ CB, CB = w1.heap.size + 1 := ⟨_, rfl⟩
  obtain ⟨CX, hCX⟩ : ∃ CX, CX = w1.heap.size + 2 := ⟨_, rfl⟩
  obtain ⟨RB, hRB⟩ : ∃ RB, RB = w.heap.size + 1 := ⟨_, rfl⟩
  rw [← hCB, ← hCX, ← hRB] at HP
  have e1 : w1.heap.size + 1 + 1 = CX := by omega
  try rw [e1]
  try rw [← hCX]
  try rw [← hRB]
  try rw [← hCB]
  have j0 := (pro_cx HP.out HPM.out (NextC.keeps0 (Keeps.refl [] W1))).1
  have j1 := (pro_cx HP.out HPM.out (NextC.keeps0 (Keeps.refl [] W1))).2
  unfold dp at j0
  clear k1 hCB hCX hRB e1
  have HRD := khid (countC CB sp wb off cap ws _ _ _ S n 12 k W1 (enters_of (c := _) Tryz.func12 (by kernel_rfl) rfl) HP.out.at_ HP.out.cmd HP.out.wd HN.out H1.out addV xs HXS.out st ys HST.out HSB.out (fun a b W ha hb => addC a b W ha hb) addV_bd)
  unfold dp at HRD
  go_wp2_with fail
  refine HRD.out.mono ?_
  rintro r w6 ⟨S1, o, S2, hm, hp, a6, _, n6⟩
  have HM := khid hm
  have A6 := khid a6
  have N6 := khid n6
  clear hm a6 n6 j0 j1 HRD
  have hfive := pro_rb HP.out HPM.out N6.out
  obtain ⟨⟨z0, z1, z2, z3, z4⟩, y0, y1, y2, y3, y4⟩ := five_facts hfive
  clear hfive
  obtain ⟨e, he⟩ : ∃ e, e = countE (lookOk S1 o) o.isSome (lookT S1 o) addV st := ⟨_, rfl⟩
  rw [← he] at hp
  have HEE := khid he
  clear he
  cases e with
  | inr tx =>
    obtain ⟨rfl, rfl⟩ := hp
    unfold resV
    go_wp2_with fail
    refine bodyPost_ret (v := .tuple #[resV 2 tx 0 (.slice none 0 0) (.slice none 0 0), .bool true]) (by rw [results_cell_tmp rfl]; go_simp; try rfl) rfl ?_
    have hfin := pro_end HP.out HPM.out A6.out N6.out HZ.out (.int .i64 2) (.string tx) (.int .i64 0) (.slice none 0 0) (.slice none 0 0)
    unfold five at hfin
    exact ⟨_, S2, o, S2, HM.out, rfl, by rw [← HEE.out]; exact ⟨rfl, rfl⟩, hfin.1, hfin.2⟩
  | inl sm =>
    obtain ⟨eff, rfl, heff, hov⟩ := hp
    have HOV := khid hov
    clear hov
    have h61 := khid (show RB < W1.heap.size from hlt HP.out.hrb)
    obtain ⟨ge, ce, rfl⟩ := eff_shape heff
    have HEFF := khid heff
    clear heff
    unfold resV
    go_wp2_with fail
    refine bodyPost_ret (v := .tuple #[resV 3 ByteArray.empty sm (.slice none 0 0) (.slice (some ⟨ge, 0, none⟩) 1 ce), .bool true]) (by rw [results_cell_tmp rfl]; go_simp; try rfl) rfl ?_
    have hfin := pro_end HP.out HPM.out A6.out N6.out HZ.out (.int .i64 3) (.string ByteArray.empty) (.int .i64 sm) (.slice none 0 0) (.slice (some ⟨ge, 0, none⟩) 1 ce)
    unfold five at hfin
    have hef := Fr.eff (W := w6) (rb := RB) (v0 := .int .i64 3) (v1 := .string ByteArray.empty) (v2 := .int .i64 sm) (v3 := .slice none 0 0) (v4 := (.slice (some ⟨ge, 0, none⟩) 1 ce)) HEFF.out h61.out
    unfold five at hef
    have hef2 := eff_mono (show w.heap.size ≤ W1.heap.size from HP.out.k.size) hef
    exact ⟨_, S1, o, S2, HM.out, rfl, by rw [← HEE.out]; exact ⟨_, by rfl, hef2, HOV.out⟩, hfin.1, hfin.2⟩
set_option maxRecDepth 100000 in
set_option maxHeartbeats 4000000 in
theorem doIncrby (sp wb off cap : Nat) (src : Value) (ws : List ByteArray) (S : SS) (n : Nat) (w : World) (ha : At w sp S (n + 6)) (hs : Said w sp wb off cap S ws) (hverb : Verb ws kwIncrby) (k : ByteArray) (h1 : ws[1]? = some k) (xs ys : List Int) (st : Int) (hxs : numsOf (ws.drop 2) = some xs) (hst : xs ++ [1] = st :: ys) (hsb : -9223372036854775808 ≤ st ∧ st ≤ 9223372036854775807) (hn : 2 ≤ ws.length) :
    Calls Tryz.prog 17 #[dp sp, src, .slice (some ⟨wb, off, none⟩) ws.length cap] w fun r w' => ∃ v S1 o S', MetR S k S1 o ∧ r = .returned (.tuple #[v, .bool true]) ∧ CountPost w.heap.size ws k S1 (countE (lookOk S1 o) o.isSome (lookT S1 o) addV st) (.returned v) w' S' ∧ At w' sp S' n ∧ Next sp w S w' S' := by
  have HN := khid hn
  have H1 := khid h1
  have HXS := khid hxs
  have HST := khid hst
  have HSB := khid hsb
  clear hn h1 hxs hst hsb
  obtain ⟨s0, vr, h0, hu, hv, hr1, hr2⟩ := hverb.w0
  have HCH := khid (fun (W : World) (hk : Keeps [] w W) => checkC ws s0 vr wb off cap W h0 (words_keep hs.at_ (hk.block wb (words_lt hs.at_ hs.n.1) (by simp))) hs.n.2 hs.s hs.t (by rw [hu]; exact hv) hr1 hr2)
  have HUP := khid (fun W : World => upperC s0 W (hs.s s0 (List.mem_of_getElem? h0)))
  rw [hu] at HUP
  unfold kwIncrby at HUP
  have HS := khid hs
  have HA := khid ha
  have HW0 := khid h0
  have hlen := hs.n.1
  have HB := khid (fun (w1 W : World) (vv : Array Value) k1 hW => pro_start (w1 := w1) (W := W) (vv := vv) ha hs k1 hW)
  unfold zero5 at HB
  rw [show ByteArray.empty = ⟨#[]⟩ from rfl] at HB
  clear ha hs hverb h0 hu hv hr1 hr2
  obtain ⟨nm, ar, fl, fi, la, ju⟩ := vr
  unfold VRow.val VRow.cells at HCH
  unfold dp at HB ⊢
  go_enter Tryz.func17, Tryz.ntmps17
  go_wp2_with fail
  refine (HCH.out _ (((Keeps.refl [] w).alloc _).alloc _)).mono ?_
  rintro r w1 ⟨rfl, k1⟩
  have HK1 := khid k1
  have hx1 := k1.get (alloc_old _ (alloc_new w _)) (by simp)
  have x0 : w1.cell? ⟨w.heap.size, 0, none⟩ = some (.slice (some ⟨wb, off, none⟩) ws.length cap) := by rw [cell_at hx1]; rfl
  have hxl : w.heap.size < w1.heap.size := hlt hx1
  have hwl : wb < w1.heap.size := Nat.lt_trans (words_lt HS.out.at_ HS.out.n.1) hxl
  clear k1 hx1
  go_upto_region 5 with (fail)
  obtain ⟨W, hW⟩ : ∃ W, W = ((w1.alloc (.cells #[.string ⟨nm.toArray⟩, .int .i64 ar, .int .i64 fl, .int .i64 fi, .int .i64 la, .int .i64 ju] 79)).alloc (.cells #[.pointer (some ⟨sp, 0, none⟩), .slice (some ⟨wb, off, none⟩) ws.length cap, .string ⟨#[]⟩, .string ⟨#[]⟩, .bool false] 84)).alloc (.cells #[.pointer (some ⟨w1.heap.size + 1, 0, none⟩)] 82) := ⟨_, rfl⟩
  have HP := khid (HB.out w1 W _ HK1.out hW)
  rw [← hW]
  have hpw := (pro_cx HP.out HA.out.mem (NextC.keeps0 (Keeps.refl [] W))).2
  have xw : W.cell? ⟨wb, off, none⟩ = some (.string s0) := by
    have := HP.out.wd.at_ 0 s0 HW0.out
    rwa [Nat.add_zero] at this
  clear hW x0 HB HK1 hxl hwl
  go_wp2_with fail
  clear hpw xw
  refine (HUP.out W).mono ?_
  rintro r W1 ⟨rfl, k1⟩
  have HP := khid (HP.out.keeps k1)
  have HPM := khid HA.out.mem
  have HZ := khid HA.out.hz
  obtain ⟨CB, hCB⟩ : ∃ CB, CB = w1.heap.size + 1 := ⟨_, rfl⟩
  obtain ⟨CX, hCX⟩ : ∃ CX, CX = w1.heap.size + 2 := ⟨_, rfl⟩
  obtain ⟨RB, hRB⟩ : ∃ RB, RB = w.heap.size + 1 := ⟨_, rfl⟩
  rw [← hCB, ← hCX, ← hRB] at HP
  have e1 : w1.heap.size + 1 + 1 = CX := by omega
  try rw [e1]
  try rw [← hCX]
  try rw [← hRB]
  try rw [← hCB]
  have j0 := (pro_cx HP.out HPM.out (NextC.keeps0 (Keeps.refl [] W1))).1
  have j1 := (pro_cx HP.out HPM.out (NextC.keeps0 (Keeps.refl [] W1))).2
  unfold dp at j0
  clear k1 hCB hCX hRB e1
  have HRD := khid (countC CB sp wb off cap ws _ _ _ S n 12 k W1 (enters_of (c := _) Tryz.func12 (by kernel_rfl) rfl) HP.out.at_ HP.out.cmd HP.out.wd HN.out H1.out addV xs HXS.out st ys HST.out HSB.out (fun a b W ha hb => addC a b W ha hb) addV_bd)
  unfold dp at HRD
  go_wp2_with fail
  refine HRD.out.mono ?_
  rintro r w6 ⟨S1, o, S2, hm, hp, a6, _, n6⟩
  have HM := khid hm
  have A6 := khid a6
  have N6 := khid n6
  clear hm a6 n6 j0 j1 HRD
  have hfive := pro_rb HP.out HPM.out N6.out
  obtain ⟨⟨z0, z1, z2, z3, z4⟩, y0, y1, y2, y3, y4⟩ := five_facts hfive
  clear hfive
  obtain ⟨e, he⟩ : ∃ e, e = countE (lookOk S1 o) o.isSome (lookT S1 o) addV st := ⟨_, rfl⟩
  rw [← he] at hp
  have HEE := khid he
  clear he
  cases e with
  | inr tx =>
    obtain ⟨rfl, rfl⟩ := hp
    unfold resV
    go_wp2_with fail
    refine bodyPost_ret (v := .tuple #[resV 2 tx 0 (.slice none 0 0) (.slice none 0 0), .bool true]) (by rw [results_cell_tmp rfl]; go_simp; try rfl) rfl ?_
    have hfin := pro_end HP.out HPM.out A6.out N6.out HZ.out (.int .i64 2) (.string tx) (.int .i64 0) (.slice none 0 0) (.slice none 0 0)
    unfold five at hfin
    exact ⟨_, S2, o, S2, HM.out, rfl, by rw [← HEE.out]; exact ⟨rfl, rfl⟩, hfin.1, hfin.2⟩
  | inl sm =>
    obtain ⟨eff, rfl, heff, hov⟩ := hp
    have HOV := khid hov
    clear hov
    have h61 := khid (show RB < W1.heap.size from hlt HP.out.hrb)
    obtain ⟨ge, ce, rfl⟩ := eff_shape heff
    have HEFF := khid heff
    clear heff
    unfold resV
    go_wp2_with fail
    refine bodyPost_ret (v := .tuple #[resV 3 ByteArray.empty sm (.slice none 0 0) (.slice (some ⟨ge, 0, none⟩) 1 ce), .bool true]) (by rw [results_cell_tmp rfl]; go_simp; try rfl) rfl ?_
    have hfin := pro_end HP.out HPM.out A6.out N6.out HZ.out (.int .i64 3) (.string ByteArray.empty) (.int .i64 sm) (.slice none 0 0) (.slice (some ⟨ge, 0, none⟩) 1 ce)
    unfold five at hfin
    have hef := Fr.eff (W := w6) (rb := RB) (v0 := .int .i64 3) (v1 := .string ByteArray.empty) (v2 := .int .i64 sm) (v3 := .slice none 0 0) (v4 := (.slice (some ⟨ge, 0, none⟩) 1 ce)) HEFF.out h61.out
    unfold five at hef
    have hef2 := eff_mono (show w.heap.size ≤ W1.heap.size from HP.out.k.size) hef
    exact ⟨_, S1, o, S2, HM.out, rfl, by rw [← HEE.out]; exact ⟨_, by rfl, hef2, HOV.out⟩, hfin.1, hfin.2⟩
set_option maxRecDepth 100000 in
set_option maxHeartbeats 4000000 in
theorem doDecr (sp wb off cap : Nat) (src : Value) (ws : List ByteArray) (S : SS) (n : Nat) (w : World) (ha : At w sp S (n + 6)) (hs : Said w sp wb off cap S ws) (hverb : Verb ws kwDecr) (k : ByteArray) (h1 : ws[1]? = some k) (xs ys : List Int) (st : Int) (hxs : numsOf (ws.drop 2) = some xs) (hst : xs ++ [1] = st :: ys) (hsb : -9223372036854775808 ≤ st ∧ st ≤ 9223372036854775807) (hn : 2 ≤ ws.length) :
    Calls Tryz.prog 17 #[dp sp, src, .slice (some ⟨wb, off, none⟩) ws.length cap] w fun r w' => ∃ v S1 o S', MetR S k S1 o ∧ r = .returned (.tuple #[v, .bool true]) ∧ CountPost w.heap.size ws k S1 (countE (lookOk S1 o) o.isSome (lookT S1 o) lessV st) (.returned v) w' S' ∧ At w' sp S' n ∧ Next sp w S w' S' := by
  have HN := khid hn
  have H1 := khid h1
  have HXS := khid hxs
  have HST := khid hst
  have HSB := khid hsb
  clear hn h1 hxs hst hsb
  obtain ⟨s0, vr, h0, hu, hv, hr1, hr2⟩ := hverb.w0
  have HCH := khid (fun (W : World) (hk : Keeps [] w W) => checkC ws s0 vr wb off cap W h0 (words_keep hs.at_ (hk.block wb (words_lt hs.at_ hs.n.1) (by simp))) hs.n.2 hs.s hs.t (by rw [hu]; exact hv) hr1 hr2)
  have HUP := khid (fun W : World => upperC s0 W (hs.s s0 (List.mem_of_getElem? h0)))
  rw [hu] at HUP
  unfold kwDecr at HUP
  have HS := khid hs
  have HA := khid ha
  have HW0 := khid h0
  have hlen := hs.n.1
  have HB := khid (fun (w1 W : World) (vv : Array Value) k1 hW => pro_start (w1 := w1) (W := W) (vv := vv) ha hs k1 hW)
  unfold zero5 at HB
  rw [show ByteArray.empty = ⟨#[]⟩ from rfl] at HB
  clear ha hs hverb h0 hu hv hr1 hr2
  obtain ⟨nm, ar, fl, fi, la, ju⟩ := vr
  unfold VRow.val VRow.cells at HCH
  unfold dp at HB ⊢
  go_enter Tryz.func17, Tryz.ntmps17
  go_wp2_with fail
  refine (HCH.out _ (((Keeps.refl [] w).alloc _).alloc _)).mono ?_
  rintro r w1 ⟨rfl, k1⟩
  have HK1 := khid k1
  have hx1 := k1.get (alloc_old _ (alloc_new w _)) (by simp)
  have x0 : w1.cell? ⟨w.heap.size, 0, none⟩ = some (.slice (some ⟨wb, off, none⟩) ws.length cap) := by rw [cell_at hx1]; rfl
  have hxl : w.heap.size < w1.heap.size := hlt hx1
  have hwl : wb < w1.heap.size := Nat.lt_trans (words_lt HS.out.at_ HS.out.n.1) hxl
  clear k1 hx1
  go_upto_region 5 with (fail)
  obtain ⟨W, hW⟩ : ∃ W, W = ((w1.alloc (.cells #[.string ⟨nm.toArray⟩, .int .i64 ar, .int .i64 fl, .int .i64 fi, .int .i64 la, .int .i64 ju] 79)).alloc (.cells #[.pointer (some ⟨sp, 0, none⟩), .slice (some ⟨wb, off, none⟩) ws.length cap, .string ⟨#[]⟩, .string ⟨#[]⟩, .bool false] 84)).alloc (.cells #[.pointer (some ⟨w1.heap.size + 1, 0, none⟩)] 82) := ⟨_, rfl⟩
  have HP := khid (HB.out w1 W _ HK1.out hW)
  rw [← hW]
  have hpw := (pro_cx HP.out HA.out.mem (NextC.keeps0 (Keeps.refl [] W))).2
  have xw : W.cell? ⟨wb, off, none⟩ = some (.string s0) := by
    have := HP.out.wd.at_ 0 s0 HW0.out
    rwa [Nat.add_zero] at this
  clear hW x0 HB HK1 hxl hwl
  go_wp2_with fail
  clear hpw xw
  refine (HUP.out W).mono ?_
  rintro r W1 ⟨rfl, k1⟩
  have HP := khid (HP.out.keeps k1)
  have HPM := khid HA.out.mem
  have HZ := khid HA.out.hz
  obtain ⟨CB, hCB⟩ : ∃ CB, CB = w1.heap.size + 1 := ⟨_, rfl⟩
  obtain ⟨CX, hCX⟩ : ∃ CX, CX = w1.heap.size + 2 := ⟨_, rfl⟩
  obtain ⟨RB, hRB⟩ : ∃ RB, RB = w.heap.size + 1 := ⟨_, rfl⟩
  rw [← hCB, ← hCX, ← hRB] at HP
  have e1 : w1.heap.size + 1 + 1 = CX := by omega
  try rw [e1]
  try rw [← hCX]
  try rw [← hRB]
  try rw [← hCB]
  have j0 := (pro_cx HP.out HPM.out (NextC.keeps0 (Keeps.refl [] W1))).1
  have j1 := (pro_cx HP.out HPM.out (NextC.keeps0 (Keeps.refl [] W1))).2
  unfold dp at j0
  clear k1 hCB hCX hRB e1
  have HRD := khid (countC CB sp wb off cap ws _ _ _ S n 60 k W1 (enters_of (c := _) Tryz.func60 (by kernel_rfl) rfl) HP.out.at_ HP.out.cmd HP.out.wd HN.out H1.out lessV xs HXS.out st ys HST.out HSB.out (fun a b W ha hb => lessC a b W ha hb) lessV_bd)
  unfold dp at HRD
  go_wp2_with fail
  refine HRD.out.mono ?_
  rintro r w6 ⟨S1, o, S2, hm, hp, a6, _, n6⟩
  have HM := khid hm
  have A6 := khid a6
  have N6 := khid n6
  clear hm a6 n6 j0 j1 HRD
  have hfive := pro_rb HP.out HPM.out N6.out
  obtain ⟨⟨z0, z1, z2, z3, z4⟩, y0, y1, y2, y3, y4⟩ := five_facts hfive
  clear hfive
  obtain ⟨e, he⟩ : ∃ e, e = countE (lookOk S1 o) o.isSome (lookT S1 o) lessV st := ⟨_, rfl⟩
  rw [← he] at hp
  have HEE := khid he
  clear he
  cases e with
  | inr tx =>
    obtain ⟨rfl, rfl⟩ := hp
    unfold resV
    go_wp2_with fail
    refine bodyPost_ret (v := .tuple #[resV 2 tx 0 (.slice none 0 0) (.slice none 0 0), .bool true]) (by rw [results_cell_tmp rfl]; go_simp; try rfl) rfl ?_
    have hfin := pro_end HP.out HPM.out A6.out N6.out HZ.out (.int .i64 2) (.string tx) (.int .i64 0) (.slice none 0 0) (.slice none 0 0)
    unfold five at hfin
    exact ⟨_, S2, o, S2, HM.out, rfl, by rw [← HEE.out]; exact ⟨rfl, rfl⟩, hfin.1, hfin.2⟩
  | inl sm =>
    obtain ⟨eff, rfl, heff, hov⟩ := hp
    have HOV := khid hov
    clear hov
    have h61 := khid (show RB < W1.heap.size from hlt HP.out.hrb)
    obtain ⟨ge, ce, rfl⟩ := eff_shape heff
    have HEFF := khid heff
    clear heff
    unfold resV
    go_wp2_with fail
    refine bodyPost_ret (v := .tuple #[resV 3 ByteArray.empty sm (.slice none 0 0) (.slice (some ⟨ge, 0, none⟩) 1 ce), .bool true]) (by rw [results_cell_tmp rfl]; go_simp; try rfl) rfl ?_
    have hfin := pro_end HP.out HPM.out A6.out N6.out HZ.out (.int .i64 3) (.string ByteArray.empty) (.int .i64 sm) (.slice none 0 0) (.slice (some ⟨ge, 0, none⟩) 1 ce)
    unfold five at hfin
    have hef := Fr.eff (W := w6) (rb := RB) (v0 := .int .i64 3) (v1 := .string ByteArray.empty) (v2 := .int .i64 sm) (v3 := .slice none 0 0) (v4 := (.slice (some ⟨ge, 0, none⟩) 1 ce)) HEFF.out h61.out
    unfold five at hef
    have hef2 := eff_mono (show w.heap.size ≤ W1.heap.size from HP.out.k.size) hef
    exact ⟨_, S1, o, S2, HM.out, rfl, by rw [← HEE.out]; exact ⟨_, by rfl, hef2, HOV.out⟩, hfin.1, hfin.2⟩
set_option maxRecDepth 100000 in
set_option maxHeartbeats 4000000 in
theorem doDecrby (sp wb off cap : Nat) (src : Value) (ws : List ByteArray) (S : SS) (n : Nat) (w : World) (ha : At w sp S (n + 6)) (hs : Said w sp wb off cap S ws) (hverb : Verb ws kwDecrby) (k : ByteArray) (h1 : ws[1]? = some k) (xs ys : List Int) (st : Int) (hxs : numsOf (ws.drop 2) = some xs) (hst : xs ++ [1] = st :: ys) (hsb : -9223372036854775808 ≤ st ∧ st ≤ 9223372036854775807) (hn : 2 ≤ ws.length) :
    Calls Tryz.prog 17 #[dp sp, src, .slice (some ⟨wb, off, none⟩) ws.length cap] w fun r w' => ∃ v S1 o S', MetR S k S1 o ∧ r = .returned (.tuple #[v, .bool true]) ∧ CountPost w.heap.size ws k S1 (countE (lookOk S1 o) o.isSome (lookT S1 o) lessV st) (.returned v) w' S' ∧ At w' sp S' n ∧ Next sp w S w' S' := by
  have HN := khid hn
  have H1 := khid h1
  have HXS := khid hxs
  have HST := khid hst
  have HSB := khid hsb
  clear hn h1 hxs hst hsb
  obtain ⟨s0, vr, h0, hu, hv, hr1, hr2⟩ := hverb.w0
  have HCH := khid (fun (W : World) (hk : Keeps [] w W) => checkC ws s0 vr wb off cap W h0 (words_keep hs.at_ (hk.block wb (words_lt hs.at_ hs.n.1) (by simp))) hs.n.2 hs.s hs.t (by rw [hu]; exact hv) hr1 hr2)
  have HUP := khid (fun W : World => upperC s0 W (hs.s s0 (List.mem_of_getElem? h0)))
  rw [hu] at HUP
  unfold kwDecrby at HUP
  have HS := khid hs
  have HA := khid ha
  have HW0 := khid h0
  have hlen := hs.n.1
  have HB := khid (fun (w1 W : World) (vv : Array Value) k1 hW => pro_start (w1 := w1) (W := W) (vv := vv) ha hs k1 hW)
  unfold zero5 at HB
  rw [show ByteArray.empty = ⟨#[]⟩ from rfl] at HB
  clear ha hs hverb h0 hu hv hr1 hr2
  obtain ⟨nm, ar, fl, fi, la, ju⟩ := vr
  unfold VRow.val VRow.cells at HCH
  unfold dp at HB ⊢
  go_enter Tryz.func17, Tryz.ntmps17
  go_wp2_with fail
  refine (HCH.out _ (((Keeps.refl [] w).alloc _).alloc _)).mono ?_
  rintro r w1 ⟨rfl, k1⟩
  have HK1 := khid k1
  have hx1 := k1.get (alloc_old _ (alloc_new w _)) (by simp)
  have x0 : w1.cell? ⟨w.heap.size, 0, none⟩ = some (.slice (some ⟨wb, off, none⟩) ws.length cap) := by rw [cell_at hx1]; rfl
  have hxl : w.heap.size < w1.heap.size := hlt hx1
  have hwl : wb < w1.heap.size := Nat.lt_trans (words_lt HS.out.at_ HS.out.n.1) hxl
  clear k1 hx1
  go_upto_region 5 with (fail)
  obtain ⟨W, hW⟩ : ∃ W, W = ((w1.alloc (.cells #[.string ⟨nm.toArray⟩, .int .i64 ar, .int .i64 fl, .int .i64 fi, .int .i64 la, .int .i64 ju] 79)).alloc (.cells #[.pointer (some ⟨sp, 0, none⟩), .slice (some ⟨wb, off, none⟩) ws.length cap, .string ⟨#[]⟩, .string ⟨#[]⟩, .bool false] 84)).alloc (.cells #[.pointer (some ⟨w1.heap.size + 1, 0, none⟩)] 82) := ⟨_, rfl⟩
  have HP := khid (HB.out w1 W _ HK1.out hW)
  rw [← hW]
  have hpw := (pro_cx HP.out HA.out.mem (NextC.keeps0 (Keeps.refl [] W))).2
  have xw : W.cell? ⟨wb, off, none⟩ = some (.string s0) := by
    have := HP.out.wd.at_ 0 s0 HW0.out
    rwa [Nat.add_zero] at this
  clear hW x0 HB HK1 hxl hwl
  go_wp2_with fail
  clear hpw xw
  refine (HUP.out W).mono ?_
  rintro r W1 ⟨rfl, k1⟩
  have HP := khid (HP.out.keeps k1)
  have HPM := khid HA.out.mem
  have HZ := khid HA.out.hz
  obtain ⟨CB, hCB⟩ : ∃ CB, CB = w1.heap.size + 1 := ⟨_, rfl⟩
  obtain ⟨CX, hCX⟩ : ∃ CX, CX = w1.heap.size + 2 := ⟨_, rfl⟩
  obtain ⟨RB, hRB⟩ : ∃ RB, RB = w.heap.size + 1 := ⟨_, rfl⟩
  rw [← hCB, ← hCX, ← hRB] at HP
  have e1 : w1.heap.size + 1 + 1 = CX := by omega
  try rw [e1]
  try rw [← hCX]
  try rw [← hRB]
  try rw [← hCB]
  have j0 := (pro_cx HP.out HPM.out (NextC.keeps0 (Keeps.refl [] W1))).1
  have j1 := (pro_cx HP.out HPM.out (NextC.keeps0 (Keeps.refl [] W1))).2
  unfold dp at j0
  clear k1 hCB hCX hRB e1
  have HRD := khid (countC CB sp wb off cap ws _ _ _ S n 60 k W1 (enters_of (c := _) Tryz.func60 (by kernel_rfl) rfl) HP.out.at_ HP.out.cmd HP.out.wd HN.out H1.out lessV xs HXS.out st ys HST.out HSB.out (fun a b W ha hb => lessC a b W ha hb) lessV_bd)
  unfold dp at HRD
  go_wp2_with fail
  refine HRD.out.mono ?_
  rintro r w6 ⟨S1, o, S2, hm, hp, a6, _, n6⟩
  have HM := khid hm
  have A6 := khid a6
  have N6 := khid n6
  clear hm a6 n6 j0 j1 HRD
  have hfive := pro_rb HP.out HPM.out N6.out
  obtain ⟨⟨z0, z1, z2, z3, z4⟩, y0, y1, y2, y3, y4⟩ := five_facts hfive
  clear hfive
  obtain ⟨e, he⟩ : ∃ e, e = countE (lookOk S1 o) o.isSome (lookT S1 o) lessV st := ⟨_, rfl⟩
  rw [← he] at hp
  have HEE := khid he
  clear he
  cases e with
  | inr tx =>
    obtain ⟨rfl, rfl⟩ := hp
    unfold resV
    go_wp2_with fail
    refine bodyPost_ret (v := .tuple #[resV 2 tx 0 (.slice none 0 0) (.slice none 0 0), .bool true]) (by rw [results_cell_tmp rfl]; go_simp; try rfl) rfl ?_
    have hfin := pro_end HP.out HPM.out A6.out N6.out HZ.out (.int .i64 2) (.string tx) (.int .i64 0) (.slice none 0 0) (.slice none 0 0)
    unfold five at hfin
    exact ⟨_, S2, o, S2, HM.out, rfl, by rw [← HEE.out]; exact ⟨rfl, rfl⟩, hfin.1, hfin.2⟩
  | inl sm =>
    obtain ⟨eff, rfl, heff, hov⟩ := hp
    have HOV := khid hov
    clear hov
    have h61 := khid (show RB < W1.heap.size from hlt HP.out.hrb)
    obtain ⟨ge, ce, rfl⟩ := eff_shape heff
    have HEFF := khid heff
    clear heff
    unfold resV
    go_wp2_with fail
    refine bodyPost_ret (v := .tuple #[resV 3 ByteArray.empty sm (.slice none 0 0) (.slice (some ⟨ge, 0, none⟩) 1 ce), .bool true]) (by rw [results_cell_tmp rfl]; go_simp; try rfl) rfl ?_
    have hfin := pro_end HP.out HPM.out A6.out N6.out HZ.out (.int .i64 3) (.string ByteArray.empty) (.int .i64 sm) (.slice none 0 0) (.slice (some ⟨ge, 0, none⟩) 1 ce)
    unfold five at hfin
    have hef := Fr.eff (W := w6) (rb := RB) (v0 := .int .i64 3) (v1 := .string ByteArray.empty) (v2 := .int .i64 sm) (v3 := .slice none 0 0) (v4 := (.slice (some ⟨ge, 0, none⟩) 1 ce)) HEFF.out h61.out
    unfold five at hef
    have hef2 := eff_mono (show w.heap.size ≤ W1.heap.size from HP.out.k.size) hef
    exact ⟨_, S1, o, S2, HM.out, rfl, by rw [← HEE.out]; exact ⟨_, by rfl, hef2, HOV.out⟩, hfin.1, hfin.2⟩
end Go.Proofs.YthmbhkgllfngmaaGreatDoor.ks
/- ontexts: Do: GETSET; a command of another layer. (Printed by mkO18.py.) -/
namespace Go.Proofs.YthmbhkgllfngmaaGreatDoor.ks
open Go.ChangeShapes Go.WideShapes Go.RowKit
set_option linter.unusedVariables false
set_option linter.unusedSimpArgs false
/-- In this program all values are texts. -/
theorem look_true {w : World} {sp : Nat} {S0 S : SS} {n : Nat} {k : ByteArray} {o : Option Nat} (inv : S0.Inv) (ha : At w sp S n) (hm : MetR S0 k S o) : lookOk S o = true := by
  cases o with
  | none => rfl
  | some b =>
    obtain ⟨he, _⟩ := met_ent inv hm ha.mem
    obtain ⟨s, hv, hs, _⟩ := he.v
    show ((S.ents b).val.txt).isSome = true
    rw [hv]; rfl
theorem cell_set5 {w : World} {b o a : Nat} {v v0 v1 v2 v3 v4 : Value} (hne : b ≠ a) (h : w.cell? ⟨b, o, none⟩ = some v) :
    (((((w.setCell ⟨a, 0, none⟩ v0).setCell ⟨a, 1, none⟩ v1).setCell ⟨a, 2, none⟩ v2).setCell ⟨a, 3, none⟩ v3).setCell ⟨a, 4, none⟩ v4).cell? ⟨b, o, none⟩ = some v :=
  cell_set1 hne (cell_set1 hne (cell_set1 hne (cell_set1 hne (cell_set1 hne h))))
set_option maxRecDepth 100000 in
set_option maxHeartbeats 4000000 in
theorem doLpush (sp wb off cap : Nat) (src : Value) (ws : List ByteArray) (S : SS) (n : Nat) (w : World) (ha : At w sp S (n + 6)) (hs : Said w sp wb off cap S ws) (hverb : Verb ws kwLpush)  :
    Calls Tryz.prog 17 #[dp sp, src, .slice (some ⟨wb, off, none⟩) ws.length cap] w fun r w' => r = .returned (.tuple #[resV 0 ByteArray.empty 0 (.slice none 0 0) (.slice none 0 0), .bool false]) ∧ At w' sp S (n + 6) ∧ Next sp w S w' S := by
  obtain ⟨s0, vr, h0, hu, hv, hr1, hr2⟩ := hverb.w0
  have HCH := khid (fun (W : World) (hk : Keeps [] w W) => checkC ws s0 vr wb off cap W h0 (words_keep hs.at_ (hk.block wb (words_lt hs.at_ hs.n.1) (by simp))) hs.n.2 hs.s hs.t (by rw [hu]; exact hv) hr1 hr2)
  have HUP := khid (fun W : World => upperC s0 W (hs.s s0 (List.mem_of_getElem? h0)))
  rw [hu] at HUP
  unfold kwLpush at HUP
  have HS := khid hs
  have HA := khid ha
  have HW0 := khid h0
  have hlen := hs.n.1
  have HB := khid (fun (w1 W : World) (vv : Array Value) k1 hW => pro_start (w1 := w1) (W := W) (vv := vv) ha hs k1 hW)
  unfold zero5 at HB
  rw [show ByteArray.empty = ⟨#[]⟩ from rfl] at HB
  clear ha hs hverb h0 hu hv hr1 hr2
  obtain ⟨nm, ar, fl, fi, la, ju⟩ := vr
  unfold VRow.val VRow.cells at HCH
  unfold dp at HB ⊢
  go_enter Tryz.func17, Tryz.ntmps17
  go_wp2_with fail
  refine (HCH.out _ (((Keeps.refl [] w).alloc _).alloc _)).mono ?_
  rintro r w1 ⟨rfl, k1⟩
  have HK1 := khid k1
  have hx1 := k1.get (alloc_old _ (alloc_new w _)) (by simp)
  have x0 : w1.cell? ⟨w.heap.size, 0, none⟩ = some (.slice (some ⟨wb, off, none⟩) ws.length cap) := by rw [cell_at hx1]; rfl
  have hxl : w.heap.size < w1.heap.size := hlt hx1
  have hwl : wb < w1.heap.size := Nat.lt_trans (words_lt HS.out.at_ HS.out.n.1) hxl
  clear k1 hx1
  go_upto_region 5 with (fail)
  obtain ⟨W, hW⟩ : ∃ W, W = ((w1.alloc (.cells #[.string ⟨nm.toArray⟩, .int .i64 ar, .int .i64 fl, .int .i64 fi, .int .i64 la, .int .i64 ju] 79)).alloc (.cells #[.pointer (some ⟨sp, 0, none⟩), .slice (some ⟨wb, off, none⟩) ws.length cap, .string ⟨#[]⟩, .string ⟨#[]⟩, .bool false] 84)).alloc (.cells #[.pointer (some ⟨w1.heap.size + 1, 0, none⟩)] 82) := ⟨_, rfl⟩
  have HP := khid (HB.out w1 W _ HK1.out hW)
  rw [← hW]
  have hpw := (pro_cx HP.out HA.out.mem (NextC.keeps0 (Keeps.refl [] W))).2
  have xw : W.cell? ⟨wb, off, none⟩ = some (.string s0) := by
    have := HP.out.wd.at_ 0 s0 HW0.out
    rwa [Nat.add_zero] at this
  clear hW x0 HB HK1 hxl hwl
  go_wp2_with fail
  clear hpw xw
  refine (HUP.out W).mono ?_
  rintro r W1 ⟨rfl, k1⟩
  have HP := khid (HP.out.keeps k1)
  have HPM := khid HA.out.mem
  have HZ := khid HA.out.hz
  obtain ⟨CB, hCB⟩ : ∃ CB, CB = w1.heap.size + 1 := ⟨_, rfl⟩
  obtain ⟨CX, hCX⟩ : ∃ CX, CX = w1.heap.size + 2 := ⟨_, rfl⟩
  obtain ⟨RB, hRB⟩ : ∃ RB, RB = w.heap.size + 1 := ⟨_, rfl⟩
  rw [← hCB, ← hCX, ← hRB] at HP
  have e1 : w1.heap.size + 1 + 1 = CX := by omega
  try rw [e1]
  try rw [← hCX]
  try rw [← hRB]
  try rw [← hCB]
  have j0 := (pro_cx HP.out HPM.out (NextC.keeps0 (Keeps.refl [] W1))).1
  have j1 := (pro_cx HP.out HPM.out (NextC.keeps0 (Keeps.refl [] W1))).2
  unfold dp at j0
  clear k1 hCB hCX hRB e1
  have hfive := HP.out.hrb
  obtain ⟨⟨z0, z1, z2, z3, z4⟩, y0, y1, y2, y3, y4⟩ := five_facts hfive
  clear hfive j0 j1
  go_wp2_with fail
  refine bodyPost_ret (v := .tuple #[resV 0 ByteArray.empty 0 (.slice none 0 0) (.slice none 0 0), .bool false]) (by rw [results_cell_tmp rfl]; go_simp; try rfl) rfl ?_
  have hfin := pro_end HP.out HPM.out HP.out.at_ (NextC.keeps0 (Keeps.refl [] W1)) HZ.out (.int .i64 0) (.string ByteArray.empty) (.int .i64 0) (.slice none 0 0) (.slice none 0 0)
  unfold five at hfin
  exact ⟨rfl, hfin.1, hfin.2⟩
set_option maxRecDepth 100000 in
set_option maxHeartbeats 4000000 in
theorem doGetset (sp wb off cap : Nat) (src : Value) (ws : List ByteArray) (S : SS) (n : Nat) (w : World) (ha : At w sp S (n + 6)) (hs : Said w sp wb off cap S ws) (hverb : Verb ws kwGetset) (k t : ByteArray) (h1 : ws[1]? = some k) (h2 : ws[2]? = some t) (hn : ws.length = 3) :
    Calls Tryz.prog 17 #[dp sp, src, .slice (some ⟨wb, off, none⟩) ws.length cap] w fun r w' => ∃ kk tt ge ce S1 o S', MetR S k S1 o ∧ r = .returned (.tuple #[resV kk tt 0 (.slice none 0 0) (.slice (some ⟨ge, 0, none⟩) 1 ce), .bool true]) ∧ (∃ vb, PutR S1 k vb (Val.text t) S') ∧ At w' sp S' n ∧ Next sp w S w' S' := by
  have HN := khid hn
  have H1 := khid h1
  have H2 := khid h2
  clear hn h1 h2
  obtain ⟨s0, vr, h0, hu, hv, hr1, hr2⟩ := hverb.w0
  have HCH := khid (fun (W : World) (hk : Keeps [] w W) => checkC ws s0 vr wb off cap W h0 (words_keep hs.at_ (hk.block wb (words_lt hs.at_ hs.n.1) (by simp))) hs.n.2 hs.s hs.t (by rw [hu]; exact hv) hr1 hr2)
  have HUP := khid (fun W : World => upperC s0 W (hs.s s0 (List.mem_of_getElem? h0)))
  rw [hu] at HUP
  unfold kwGetset at HUP
  have HS := khid hs
  have HA := khid ha
  have HW0 := khid h0
  have hlen := hs.n.1
  have HB := khid (fun (w1 W : World) (vv : Array Value) k1 hW => pro_start (w1 := w1) (W := W) (vv := vv) ha hs k1 hW)
  unfold zero5 at HB
  rw [show ByteArray.empty = ⟨#[]⟩ from rfl] at HB
  clear ha hs hverb h0 hu hv hr1 hr2
  obtain ⟨nm, ar, fl, fi, la, ju⟩ := vr
  unfold VRow.val VRow.cells at HCH
  unfold dp at HB ⊢
  go_enter Tryz.func17, Tryz.ntmps17
  go_wp2_with fail
  refine (HCH.out _ (((Keeps.refl [] w).alloc _).alloc _)).mono ?_
  rintro r w1 ⟨rfl, k1⟩
  have HK1 := khid k1
  have hx1 := k1.get (alloc_old _ (alloc_new w _)) (by simp)
  have x0 : w1.cell? ⟨w.heap.size, 0, none⟩ = some (.slice (some ⟨wb, off, none⟩) ws.length cap) := by rw [cell_at hx1]; rfl
  have hxl : w.heap.size < w1.heap.size := hlt hx1
  have hwl : wb < w1.heap.size := Nat.lt_trans (words_lt HS.out.at_ HS.out.n.1) hxl
  clear k1 hx1
  go_upto_region 5 with (fail)
  obtain ⟨W, hW⟩ : ∃ W, W = ((w1.alloc (.cells #[.string ⟨nm.toArray⟩, .int .i64 ar, .int .i64 fl, .int .i64 fi, .int .i64 la, .int .i64 ju] 79)).alloc (.cells #[.pointer (some ⟨sp, 0, none⟩), .slice (some ⟨wb, off, none⟩) ws.length cap, .string ⟨#[]⟩, .string ⟨#[]⟩, .bool false] 84)).alloc (.cells #[.pointer (some ⟨w1.heap.size + 1, 0, none⟩)] 82) := ⟨_, rfl⟩
  have HP := khid (HB.out w1 W _ HK1.out hW)
  rw [← hW]
  have hpw := (pro_cx HP.out HA.out.mem (NextC.keeps0 (Keeps.refl [] W))).2
  have xw : W.cell? ⟨wb, off, none⟩ = some (.string s0) := by
    have := HP.out.wd.at_ 0 s0 HW0.out
    rwa [Nat.add_zero] at this
  clear hW x0 HB HK1 hxl hwl
  go_wp2_with fail
  clear hpw xw
  refine (HUP.out W).mono ?_
  rintro r W1 ⟨rfl, k1⟩
  have HP := khid (HP.out.keeps k1)
  have HPM := khid HA.out.mem
  have HZ := khid HA.out.hz
  obtain ⟨CB, hCB⟩ : ∃ CB, CB = w1.heap.size + 1 := ⟨_, rfl⟩
  obtain ⟨CX, hCX⟩ : ∃ CX, CX = w1.heap.size + 2 := ⟨_, rfl⟩
  obtain ⟨RB, hRB⟩ : ∃ RB, RB = w.heap.size + 1 := ⟨_, rfl⟩
  rw [← hCB, ← hCX, ← hRB] at HP
  have e1 : w1.heap.size + 1 + 1 = CX := by omega
  try rw [e1]
  try rw [← hCX]
  try rw [← hRB]
  try rw [← hCB]
  have j0 := (pro_cx HP.out HPM.out (NextC.keeps0 (Keeps.refl [] W1))).1
  have j1 := (pro_cx HP.out HPM.out (NextC.keeps0 (Keeps.refl [] W1))).2
  unfold dp at j0
  clear k1 hCB hCX hRB e1
  have hd1 := HP.out.d1
  have h61 := khid (show RB < W1.heap.size from hlt HP.out.hrb)
  have hks : k.size ≤ maxLen := by have := HP.out.wd.s k (List.mem_of_getElem? H1.out); unfold maxLen; omega
  have hks2 := HP.out.wd.s k (List.mem_of_getElem? H1.out)
  have hts2 := HP.out.wd.s t (List.mem_of_getElem? H2.out)
  have e1 := HP.out.wd.at_ 1 k H1.out
  have i1 : (0 : Int) ≤ 1 := by decide
  have i2 : (1 : Int) < (ws.length : Int) := by have := HN.out; omega
  have i3 : (0 : Int) ≤ 2 := by decide
  have i4 : (2 : Int) < (ws.length : Int) := by have := HN.out; omega
  have hcb1 := cmd_lt HP.out.cmd
  have HLK := khid (lookCmdC CB sp _ _ _ _ S (n + 5) k W1.drew (HP.out.keeps ((Keeps.refl _ W1).drew)).at_ (cmd_keep HP.out.cmd rfl) HP.out.wd.cf HP.out.wd.c20 hks)
  unfold dp at HLK
  go_wp2_with fail
  go_region_held3 (fun W => W.cell? ⟨CX, 0, none⟩ = some (.pointer (some ⟨CB, 0, none⟩)) ∧ W.cell? ⟨w.heap.size, 0, none⟩ = some (.slice (some ⟨wb, off, none⟩) ws.length cap) ∧ W.cell? ⟨wb, off + 1, none⟩ = some (.string k))
    (first | (go_keep; done) | (go_split_ands; (try dsimp only); (repeat' apply And.intro) <;> first | (with_reducible exact cell_alloc1 (by assumption)) | (with_reducible exact cell_set1 (by assumption) (by assumption)) | (with_reducible exact cell_keep1 hk0 (by assumption)) | (go_keep; done) | assumption))
    ((go_at_call 43; refine HLK.out.mono ?_; rintro e w3 ⟨S1, o, rfl, hm, a3, h3, n3⟩; have n3 := (NextC.keeps0 ((Keeps.refl _ W1).drew)).trans n3; have x0 := (pro_cx HP.out HPM.out n3).1; have x1 := (pro_cx HP.out HPM.out n3).2; unfold dp at x0; have x2 := (HP.out.wd.next n3 hcb1).at_ 1 k H1.out))
  have hok := look_true HA.out.inv a3 hm
  have hr := (show lookOk S1 o = true from hok)
  rw [hr]
  have HM := khid hm
  have N3 := khid n3
  have hp3 : Pro w w3 sp wb off cap S ws (n + 6) CB CX w.heap.size RB → True := fun _ => trivial
  have h3r := (HP.out.wd.next n3 hcb1)
  have x3 := h3r.at_ 2 t H2.out
  have HPT := khid (putTextC sp S1 (n + 3) k t w3.drew (a3.keeps0 ((Keeps.refl _ w3).drew)) hks2 hts2)
  obtain ⟨_, _, q2, _⟩ := cmd_cells h3
  have H3 := khid h3
  have H3W := khid h3r
  have hcb3 := cmd_lt h3
  have hcf3 := h3r.cf
  have hcx3 : CX < w3.heap.size := World.block_lt_of_cell? w3 _ x0
  have hwx3 : w.heap.size < w3.heap.size := World.block_lt_of_cell? w3 _ x1
  have hwb3 : wb < w3.heap.size := World.block_lt_of_cell? w3 _ x2
  have hcxf : CX ∉ foot S1 sp := n3.fresh (hlt HP.out.hcx) (HP.out.fresh HPM.out HP.out.n2)
  have hwxf : w.heap.size ∉ foot S1 sp := n3.fresh (hlt HP.out.hwx) (HP.out.fresh HPM.out HP.out.n3)
  have hwbf := h3r.f
  have HCX3 := khid (show CX ∉ foot S1 sp ∧ w.heap.size ∉ foot S1 sp ∧ wb ∉ foot S1 sp ∧ CB ∉ foot S1 sp from ⟨hcxf, hwxf, hwbf, hcf3⟩)
  unfold dp at HPT
  clear hm a3 n3 hok hr h3 h3r hcf3 hcxf hwxf hwbf j0 j1 e1 hp3
  go_wp2_with fail
  go_region_held3 (fun W => W.cell? ⟨CX, 0, none⟩ = some (.pointer (some ⟨CB, 0, none⟩)) ∧ W.cell? ⟨w.heap.size, 0, none⟩ = some (.slice (some ⟨wb, off, none⟩) ws.length cap) ∧ W.cell? ⟨wb, off + 2, none⟩ = some (.string t) ∧ W.cell? ⟨CB, 2, none⟩ = some (.string k))
    (first | (go_keep; done) | (go_split_ands; (try dsimp only); (repeat' apply And.intro) <;> first | (with_reducible exact cell_alloc1 (by assumption)) | (with_reducible exact cell_set1 (by assumption) (by assumption)) | (with_reducible exact cell_keep1 hk0 (by assumption)) | (go_keep; done) | assumption))
    (first | (go_at_call 47; refine (textC _ _).mono ?_; rintro e w9 ⟨rfl, rfl⟩; unfold dp) | (go_at_call 46; refine HPT.out.mono ?_; rintro e w4 ⟨S2, vb, rfl, hp, a4, n4⟩; have u0 : w4.cell? ⟨CX, 0, none⟩ = some (.pointer (some ⟨CB, 0, none⟩)) := cell_far n4.k hcx3 HCX3.out.1 x0; have u1 : w4.cell? ⟨w.heap.size, 0, none⟩ = some (.slice (some ⟨wb, off, none⟩) ws.length cap) := cell_far n4.k hwx3 HCX3.out.2.1 x1; have u2 : w4.cell? ⟨wb, off + 2, none⟩ = some (.string t) := cell_far n4.k hwb3 HCX3.out.2.2.1 x3; have u3 : w4.cell? ⟨CB, 2, none⟩ = some (.string k) := cell_far n4.k hcb3 HCX3.out.2.2.2 q2))
  have n4 := Next.after ((Keeps.refl _ w3).drew) n4
  have N4 := khid (N3.out.trans (NextC.of n4))
  have h4 := cmd_keep H3.out (n4.k.block CB hcb3 HCX3.out.2.2.2)
  have HPP := khid hp
  have A4 := khid a4
  have H4 := khid h4
  have W4 := khid (HP.out.wd.next N4.out hcb1)
  have HBK := khid (fun (W : World) (hk : Keeps [] w4 W) => bulkC CB sp _ k (lookT S1 o) o.isSome W (cmd_keep h4 (hk.block CB (cmd_lt h4) (by simp))))
  have HDD := khid (fun (kk : Int) (tt : ByteArray) (W : World) (hk : Keeps [] w4 W) => didC CB sp wb off cap ws k (lookT S1 o) o.isSome kk 0 tt none 0 0 W (cmd_keep h4 (hk.block CB (cmd_lt h4) (by simp))) (by have := W4.out.n.2; omega) (W4.out.keeps hk).at_ W4.out.n.1)
  have hrb4 := pro_rb HP.out HPM.out N4.out
  have HRB4 := khid hrb4
  have hcxr : CX ≠ RB := HP.out.d1.2.2.2.1
  clear hp a4 n4 h4 x0 x1 x2 x3 q2 u1 u2 u3 hrb4 HPT HLK
  obtain ⟨kk, hkk⟩ : ∃ kk : Int, kk = if o.isSome = true then 4 else 5 := ⟨_, rfl⟩
  obtain ⟨tt, htt⟩ : ∃ tt : ByteArray, tt = if o.isSome = true then lookT S1 o else ByteArray.empty := ⟨_, rfl⟩
  rw [bulkV_eq, ← hkk, ← htt] at HBK
  clear hkk htt
  unfold repV dp at HBK
  unfold dp at HDD
  go_wp2_with fail
  go_region_held3 (fun W => W.cell? ⟨CX, 0, none⟩ = some (.pointer (some ⟨CB, 0, none⟩)))
    (first | (go_keep; done) | (with_reducible exact cell_keep1 hk0 (by assumption)) | (with_reducible exact cell_set5 (by assumption) (by assumption)) | assumption)
    (first | (go_at_call 34; (with_reducible refine (HBK.out _ ((Keeps.refl _ _).drew)).mono ?_); rintro e w5 ⟨rfl, hk0⟩) | (go_at_call 48; (with_reducible refine (HDD.out kk tt _ ((Keeps.refl _ _).drew.trans hk0)).mono ?_); rintro e w6 ⟨eff, rfl, heff, hk1⟩; obtain ⟨ge, ce, rfl⟩ := eff_shape heff; clear heff; have hx6 := ((Keeps.refl [] w4).drew.trans (hk0.trans hk1)).get HRB4.out (by simp); have K6 := khid ((Keeps.refl [] w4).drew.trans (hk0.trans hk1)); have hk0 := hk1; obtain ⟨⟨z0, z1, z2, z3, z4⟩, y0, y1, y2, y3, y4⟩ := five_facts hx6; clear hx6; unfold resV))
  go_wp2_with fail
  refine bodyPost_ret (v := .tuple #[resV kk tt 0 (.slice none 0 0) (.slice (some ⟨ge, 0, none⟩) 1 ce), .bool true]) (by rw [results_cell_tmp rfl]; go_simp; try rfl) rfl ?_
  have hfin := pro_end HP.out HPM.out (A4.out.keeps0 K6.out) (N4.out.trans (NextC.keeps0 K6.out)) HZ.out (.int .i64 kk) (.string tt) (.int .i64 0) (.slice none 0 0) (.slice (some ⟨ge, 0, none⟩) 1 ce)
  unfold five at hfin
  exact ⟨kk, tt, ge, ce, S1, o, S2, HM.out, rfl, ⟨vb, HPP.out⟩, hfin.1.mono (by omega), hfin.2⟩
end Go.Proofs.YthmbhkgllfngmaaGreatDoor.ks
/- keyspace: Len where no key has a deadline: the iterators over an empty table. -/
namespace Go.Proofs.YthmbhkgllfngmaaGreatDoor.ks
open Go.ChangeShapes Go.WideShapes Go.RowKit Go.Shelf
attribute [local go_sem] Oper.semAt_some
set_option linter.unusedVariables false
set_option linter.unusedSimpArgs false
/-- A dict in memory that has no buckets. -/
structure Bare (w : World) (db : Nat) : Prop where
  c1 : w.cell? ⟨db, 1, none⟩ = some (.slice none 0 0)
  c2 : w.cell? ⟨db, 2, none⟩ = some (.slice none 0 0)
  c3 : w.cell? ⟨db, 3, none⟩ = some (.int .i64 0)
theorem Bare.keep {w w' : World} {db : Nat} (h : Bare w db) (hk : w'.heap[db]? = w.heap[db]?) : Bare w' db := by
  obtain ⟨h1, h2, h3⟩ := h
  unfold World.cell? at h1 h2 h3
  refine ⟨?_, ?_, ?_⟩ <;> (unfold World.cell?; simp only [hk]; assumption)
set_option maxRecDepth 8000 in
set_option maxHeartbeats 800000 in
theorem all0C (l cx db : Nat) (W : World) (hc : W.cell? ⟨cx, 0, none⟩ = some (dp db)) (hb : Bare W db) :
    Calls Tryz.prog 185 #[.func (.yield l) #[] #[], dp cx] W fun r w' => r = .returned (.tuple #[]) ∧ Keeps [] W w' := by
  obtain ⟨c1, c2, c3⟩ := hb
  unfold dp at hc ⊢
  go_enter Tryz.func185, Tryz.ntmps185
  go_wp2_with fail
  go_quiet (fail)
  go_wp2_with fail
  go_loopw [17] (fun i wr => i = .int .i64 0 ∧ Hid (Keeps [] W wr)) (fun _ _ => 0)
  case atStart => exact ⟨rfl, khid ((Keeps.refl _ _).drewN _)⟩
  case round =>
    obtain ⟨rfl, HK⟩ := hrel
    have d0 := cell_keep1 HK.out hc
    have d2 := cell_keep1 HK.out c2
    clear hc c1 c2 c3
    go_wp2_with fail
    go_loopw [31] (fun i wr2 => i = .int .i64 0 ∧ Hid (Keeps [] W wr2)) (fun _ _ => 0)
    case atStart => exact ⟨rfl, HK⟩
    case round =>
      obtain ⟨rfl, HK2⟩ := hrel
      clear d0 d2
      go_wp2_with fail
      go_end0
      exact ⟨rfl, HK2.out⟩
set_option maxHeartbeats 400000 in
theorem allMakeC (db : Nat) (W : World) :
    Calls Tryz.prog 155 #[dp db] W fun r w' => r = .returned (.func (.func 185) #[] #[dp W.heap.size]) ∧ w' = W.alloc (.cells #[dp db] 59) := by
  unfold dp
  go_enter Tryz.func155, Tryz.ntmps155
  go_wp2_with fail
  go_ret
  exact ⟨rfl, rfl⟩
set_option maxHeartbeats 400000 in
theorem eachMakeC (db : Nat) (W : World) :
    Calls Tryz.prog 114 #[dp db] W fun r w' => r = .returned (.func (.func 154) #[] #[dp W.heap.size]) ∧ w' = W.alloc (.cells #[dp db] 59) := by
  unfold dp
  go_enter Tryz.func114, Tryz.ntmps114
  go_wp2_with fail
  go_ret
  exact ⟨rfl, rfl⟩
theorem cell_kp {w w' : World} {b o : Nat} {v : Value} (k : KP (fun _ => True) w w') (h : w.cell? ⟨b, o, none⟩ = some v) : w'.cell? ⟨b, o, none⟩ = some v := by
  have hl := World.block_lt_of_cell? w _ h
  unfold World.cell? at h ⊢
  simp only [k.block b hl trivial]
  exact h
/-- The buckets of an empty table: none. -/
theorem all0G (n cx db : Nat) (W : World) (hc : W.cell? ⟨cx, 0, none⟩ = some (dp db)) (hb : Bare W db) :
    Gives (α := Value) Fence.wide n Tryz.prog 185 #[dp cx] (fun v => #[v]) [] (fun _ => False) W := by
  intro l J G0 H0 hJ hY h0 hG hH
  refine callsIn_wide.2 ((all0C l cx db W hc hb).mono ?_)
  rintro r w' ⟨rfl, hk⟩
  exact ⟨⟨_, rfl⟩, G0, H0, hJ _ _ _ _ _ h0 (KP.ofKeeps hk (fun _ _ _ => by simp)), fun b hb => .inl hb, KP.ofKeeps hk (fun _ _ _ => by simp)⟩
set_option maxRecDepth 8000 in
set_option maxHeartbeats 1600000 in
theorem each0G (n cx db : Nat) (W : World) (hn : 3 ≤ n) (hc : W.cell? ⟨cx, 0, none⟩ = some (dp db)) (hb : Bare W db) :
    Gives (α := Value × Value) Fence.wide n Tryz.prog 154 #[dp cx] (fun v => #[v.1, v.2]) [] (fun _ => False) W := by
  intro l J G0 H0 hJ hY h0 hG hH
  have h1 : 1 ≤ n := by omega
  have hcl : cx < W.heap.size := World.block_lt_of_cell? W _ hc
  have hdl : db < W.heap.size := World.block_lt_of_cell? W _ hb.c1
  have HJ := khid h0
  have HB := khid hb
  clear hb h0 hY
  unfold dp at hc ⊢
  refine callsIn_of_wp_marks Tryz.func154 rfl trivial ?_ rfl
  simp only [Tryz.ntmps154, List.size_toArray, List.length_cons, List.length_nil, Nat.reduceAdd, Nat.reduceSub, Array.replicate_succ, Array.replicate_zero, List.push_toArray, List.append_toArray, List.nil_append, List.cons_append]
  gi_wp2_with (refine ⟨trivial, ?_⟩; gi_at_call 155; refine (callsIn_wide.2 (allMakeC db _)).mono ?_; rintro e w' ⟨rfl, rfl⟩)
  obtain ⟨W2, hW2⟩ : ∃ W2, W2 = ((W.alloc (.cells #[.slice none 0 0] 48)).alloc (.cells #[.slice none 0 0] 224)).alloc (.cells #[dp db] 59) := ⟨_, rfl⟩
  have k2 : Keeps [] W W2 := by rw [hW2]; exact (((Keeps.refl _ _).alloc _).alloc _).alloc _
  have hk1 : W2.heap[W.heap.size]? = some (.cells #[.slice none 0 0] 48 (0, 0)) := by rw [hW2]; exact alloc_old _ (alloc_old _ (alloc_new _ _))
  have hk2 : W2.heap[W.heap.size + 1]? = some (.cells #[.slice none 0 0] 224 (0, 0)) := by
    rw [hW2]
    have := alloc_new (W.alloc (.cells #[.slice none 0 0] 48)) (.cells #[.slice none 0 0] 224)
    rw [World.size_alloc] at this
    exact alloc_old _ this
  have hk3 : W2.cell? ⟨W.heap.size + 1 + 1, 0, none⟩ = some (dp db) := by
    rw [hW2]
    have := alloc_new ((W.alloc (.cells #[.slice none 0 0] 48)).alloc (.cells #[.slice none 0 0] 224)) (.cells #[dp db] 59)
    rw [World.size_alloc, World.size_alloc] at this
    rw [cell_at this]; rfl
  have hz2 : W2.heap.size = W.heap.size + 3 := by rw [hW2]; simp
  have K2 := khid k2
  have hj2 : J [] G0 H0 W2 := hJ _ _ _ _ _ HJ.out (KP.ofKeeps k2 (fun _ _ _ => by simp))
  have hb2 := HB.out.keep (k2.block db hdl (by simp))
  have HK1 := khid hk1
  have HK2 := khid hk2
  rw [← hW2]
  have HZ2 := khid hz2
  clear hW2 hz2 k2
  refine wpIn_range_all (α := Value) (xs := []) (Rd := fun _ => False) (encs := fun v => #[v]) rfl h1 (gf := 185) (lb := #[dp (W.heap.size + 1 + 1)]) rfl trivial (enters_of (c := _) Tryz.func185 (by kernel_rfl) rfl)
    (fun W' hk => all0G (n - 1) _ db W' (cell_kp hk hk3) (hb2.keep (hk.block db (by have := HZ2.out; omega) trivial))) (fun _ => rfl)
    (fun _ G _ X => (∀ b, (G0 b ∨ b = W.heap.size ∨ b = W.heap.size + 1) → G b) ∧ J [] G0 H0 X ∧ X.heap[W.heap.size]? = some (.cells #[.slice none 0 0] 48 (0, 0)) ∧ X.heap[W.heap.size + 1]? = some (.cells #[.slice none 0 0] 224 (0, 0)))
    (fun b => G0 b ∨ b = W.heap.size ∨ b = W.heap.size + 1) (fun _ => False) ?hI ⟨fun b h => h, hj2, hk1, hk2⟩ ?hG ?hH ?a1 ?assign ?body ?done
  case assign =>
    intro l x X K hK
    gi_wp2
    exact hK
  case hI =>
    rintro pre G H A B ⟨h1, h2, h3, h4⟩ hk
    refine ⟨h1, hJ _ _ _ _ _ h2 (hk.mono (fun b _ hb => h1 b (.inl hb))), (hk.block _ (hlt h3) (h1 _ (.inr (.inl rfl)))).trans h3, (hk.block _ (hlt h4) (h1 _ (.inr (.inr rfl)))).trans h4⟩
  case hG =>
    intro b hb
    have := HZ2.out
    rcases hb with hb | hb | hb
    · have := hG b hb; omega
    · omega
    · omega
  case hH =>
    exact fun b h => h.elim
  case body =>
    intro l pre x rest G H X hx
    simp at hx
  case done =>
    rintro D G H X hD ⟨hsub, hj, e1, e2⟩ hH hk hd
    have c1 : X.cell? ⟨W.heap.size, 0, none⟩ = some (.slice none 0 0) := by rw [cell_at e1]; rfl
    have c2 : X.cell? ⟨W.heap.size + 1, 0, none⟩ = some (.slice none 0 0) := by rw [cell_at e2]; rfl
    have HJX := khid hj
    have HKX := khid hk
    have HDD := khid hd
    have HZZ := khid hD
    clear hsub hj e1 e2 hH hk hd hD
    gi_wp2
    gi_loop [35] (fun i => i = .int .i64 0) (fun _ => 0)
    case atStart => rfl
    case round =>
      obtain rfl := hrel
      gi_wp2
      refine ⟨by simp, .inl ⟨_, _, rfl, run_takeDeferred HDD.out, ?_⟩⟩
      refine ⟨_, results_none rfl _ _ _, ⟨_, rfl⟩, G0, H0, ?_, fun b hb => .inl hb, ?_⟩
      · exact hJ _ _ _ _ _ HJX.out ((KP.refl _ _).putObj (fun h => by have := hG D h.2; have := HZZ.out; have := HZ2.out; omega) _)
      · exact (((KP.ofKeeps K2.out (fun _ _ _ => by simp)).then_ HKX.out (fun _ _ _ h => h)).putObj (fun h => by have := HZZ.out; have := HZ2.out; omega) _)
end Go.Proofs.YthmbhkgllfngmaaGreatDoor.ks
/- keyspace: Len where no key has a deadline. -/
namespace Go.Proofs.YthmbhkgllfngmaaGreatDoor.ks
open Go.ChangeShapes Go.WideShapes Go.RowKit Go.Shelf
attribute [local go_sem] Oper.semAt_some
set_option linter.unusedVariables false
set_option linter.unusedSimpArgs false
set_option maxRecDepth 8000 in
set_option maxHeartbeats 800000 in
theorem insNilC (f : Value) (w : World) :
    Calls Tryz.prog 186 #[.slice none 0 0, .int .i64 0, .int .i64 0, f] w fun r w' => r = .returned (.tuple #[]) ∧ Keeps [] w w' := by
  go_enter Tryz.func186, Tryz.ntmps186
  go_wp2_with fail
  go_loop [8] (fun i => i = .int .i64 1) (fun _ => 0)
  case atStart => rfl
  case round =>
    obtain rfl := hrel
    go_wp2_with fail
    go_end0
    exact ⟨rfl, Keeps.refl _ _⟩
set_option maxRecDepth 100000 in
set_option maxHeartbeats 800000 in
theorem pdqNilC (f : Value) (w : World) :
    Calls Tryz.prog 156 #[.slice none 0 0, .int .i64 0, .int .i64 0, .int .i64 0, f] w fun r w' => r = .returned (.tuple #[]) ∧ Keeps [] w w' := by
  go_enter Tryz.func156, Tryz.ntmps156
  go_wp2_with fail
  refine wp_loop_rounds 1 ?_
  rw [rounds_succ]
  go_wp2_with fail
  refine (insNilC f _).mono ?_
  rintro r w' ⟨rfl, hk⟩
  go_wp2_with fail
  refine bodyPost_ret (results_none rfl _ _ _) rfl ?_
  exact ⟨rfl, hk⟩
set_option maxRecDepth 8000 in
set_option maxHeartbeats 800000 in
theorem sortNilC (f : Value) (w : World) :
    Calls Tryz.prog 115 #[.slice none 0 0, f] w fun r w' => r = .returned (.tuple #[]) ∧ Keeps [] w w' := by
  go_enter Tryz.func115, Tryz.ntmps115
  go_wp2_with fail
  refine (Tryz.bits_Len 0 _ (by decide) (by decide)).mono ?_
  rintro r w' ⟨rfl, rfl⟩
  rw [show Lib.bitLen (0 : Int).toNat = 0 from rfl]
  go_wp2_with fail
  refine (pdqNilC f _).mono ?_
  rintro r w' ⟨rfl, hk⟩
  go_wp2_with fail
  go_end0
  exact ⟨rfl, hk⟩
set_option maxRecDepth 8000 in
set_option maxHeartbeats 1600000 in
theorem sweep0C (sp lb : Nat) (W : World) (hc : W.cell? ⟨sp, 5 + 3, none⟩ = some (dp lb)) (hb : Bare W lb) :
    Calls Tryz.prog 74 #[dp sp, .int .i64 9223372036854775807] W fun r w' => r = .returned (.int .i64 0) ∧ Keeps [] W w' := by
  refine (callsIn_wide (n := 5)).1 ?_
  have hsl : sp < W.heap.size := World.block_lt_of_cell? W _ hc
  have hdl : lb < W.heap.size := World.block_lt_of_cell? W _ hb.c1
  have HB := khid hb
  have h1 : 1 ≤ 5 := by decide
  clear hb
  unfold dp at hc ⊢
  refine callsIn_of_wp_marks Tryz.func74 rfl trivial ?_ rfl
  simp only [Tryz.ntmps74, List.size_toArray, List.length_cons, List.length_nil, Nat.reduceAdd, Nat.reduceSub, Array.replicate_succ, Array.replicate_zero, List.push_toArray, List.append_toArray, List.nil_append, List.cons_append]
  gi_wp2_with (refine ⟨trivial, ?_⟩; gi_at_call 114; refine (callsIn_wide.2 (eachMakeC lb _)).mono ?_; rintro e w' ⟨rfl, rfl⟩)
  obtain ⟨W2, hW2⟩ : ∃ W2, W2 = ((W.alloc (.cells #[.pointer (some ⟨sp, 0, none⟩)] 23)).alloc (.cells #[.slice none 0 0] 176)).alloc (.cells #[dp lb] 59) := ⟨_, rfl⟩
  have k2 : Keeps [] W W2 := by rw [hW2]; exact (((Keeps.refl _ _).alloc _).alloc _).alloc _
  have hk1 : W2.heap[W.heap.size]? = some (.cells #[.pointer (some ⟨sp, 0, none⟩)] 23 (0, 0)) := by rw [hW2]; exact alloc_old _ (alloc_old _ (alloc_new _ _))
  have hk2 : W2.heap[W.heap.size + 1]? = some (.cells #[.slice none 0 0] 176 (0, 0)) := by
    rw [hW2]
    have := alloc_new (W.alloc (.cells #[.pointer (some ⟨sp, 0, none⟩)] 23)) (.cells #[.slice none 0 0] 176)
    rw [World.size_alloc] at this
    exact alloc_old _ this
  have hk3 : W2.cell? ⟨W.heap.size + 1 + 1, 0, none⟩ = some (dp lb) := by
    rw [hW2]
    have := alloc_new ((W.alloc (.cells #[.pointer (some ⟨sp, 0, none⟩)] 23)).alloc (.cells #[.slice none 0 0] 176)) (.cells #[dp lb] 59)
    rw [World.size_alloc, World.size_alloc] at this
    rw [cell_at this]; rfl
  have hz2 : W2.heap.size = W.heap.size + 3 := by rw [hW2]; simp
  have K2 := khid k2
  have hb2 := HB.out.keep (k2.block lb hdl (by simp))
  rw [← hW2]
  have HZ2 := khid hz2
  clear hW2 hz2 k2
  refine wpIn_range_all (α := Value × Value) (xs := []) (Rd := fun _ => False) (encs := fun v => #[v.1, v.2]) rfl h1 (gf := 154) (lb := #[dp (W.heap.size + 1 + 1)]) rfl trivial (enters_of (c := _) Tryz.func154 (by kernel_rfl) rfl)
    (fun W' hk => each0G (5 - 1) _ lb W' (by decide) (cell_kp hk hk3) (hb2.keep (hk.block lb (by have := HZ2.out; omega) trivial))) (fun _ => rfl)
    (fun _ G _ X => (∀ b, (b = W.heap.size ∨ b = W.heap.size + 1) → G b) ∧ X.heap[W.heap.size]? = some (.cells #[.pointer (some ⟨sp, 0, none⟩)] 23 (0, 0)) ∧ X.heap[W.heap.size + 1]? = some (.cells #[.slice none 0 0] 176 (0, 0)))
    (fun b => b = W.heap.size ∨ b = W.heap.size + 1) (fun _ => False) ?hI ⟨fun b h => h, hk1, hk2⟩ ?hG ?hH ?a1 ?assign ?body ?done
  case assign =>
    intro l x X K hK
    gi_wp2
    exact hK
  case hI =>
    rintro pre G H A B ⟨h1, h3, h4⟩ hk
    exact ⟨h1, (hk.block _ (hlt h3) (h1 _ (.inl rfl))).trans h3, (hk.block _ (hlt h4) (h1 _ (.inr rfl))).trans h4⟩
  case hG =>
    intro b hb
    have := HZ2.out
    rcases hb with hb | hb <;> omega
  case hH =>
    exact fun b h => h.elim
  case body =>
    intro l pre x rest G H X hx
    simp at hx
  case done =>
    rintro D G H X hD ⟨hsub, e1, e2⟩ hH hk hd
    have c1 : X.cell? ⟨W.heap.size, 0, none⟩ = some (.pointer (some ⟨sp, 0, none⟩)) := by rw [cell_at e1]; rfl
    have c2 : X.cell? ⟨W.heap.size + 1, 0, none⟩ = some (.slice none 0 0) := by rw [cell_at e2]; rfl
    have HKX := khid hk
    have HDD := khid hd
    have HZZ := khid hD
    have HE2 := khid e2
    clear hsub e1 hH hk hd hD e2
    gi_wp2_with (refine ⟨trivial, ?_⟩; gi_at_call 115; refine (callsIn_wide.2 (sortNilC _ _)).mono ?_; rintro e w' ⟨rfl, hk5⟩; have h5 := hk5.get HE2.out (by simp); have z5 : w'.cell? ⟨W.heap.size + 1, 0, none⟩ = some (.slice none 0 0) := cell_at h5 0; have y5 : w'.frozen? ⟨W.heap.size + 1, 0, none⟩ = false := free_at h5 0; have HK5 := khid hk5; clear hk5 h5)
    have HD5 := khid (HK5.out.get HDD.out (by simp))
    have HDL := khid (show D < X.heap.size from hlt HDD.out)
    gi_loop [45] (fun i => i = .int .i64 0) (fun _ => 0)
    case atStart => rfl
    case round =>
      obtain rfl := hrel
      gi_wp2
      refine ⟨by simp, .inl ⟨_, _, rfl, run_takeDeferred ((set_other _ (by have := HZZ.out; have := HZ2.out; show D ≠ W.heap.size + 1; omega)).trans HD5.out), ?_⟩⟩
      refine ⟨_, results_tmp rfl _ _ _, rfl, ?_⟩
      have kk : KP (fun _ => True) W w' := ((KP.ofKeeps K2.out (fun _ _ _ => by simp)).then_ HKX.out (fun _ _ _ hf => hf)).trans (KP.ofKeeps HK5.out (fun _ _ _ => by simp))
      exact ((kk.setCell (p := ⟨W.heap.size + 1, 0, none⟩) (fun h => by have h2 : W.heap.size + 1 < W.heap.size := h.1; omega) _).putObj (fun h => by have := HZZ.out; have := HZ2.out; omega) _).keeps (fun _ _ _ => trivial)
set_option maxHeartbeats 800000 in
theorem allSC (sp lb : Nat) (W : World) (hc : W.cell? ⟨sp, 8, none⟩ = some (dp lb)) (hb : Bare W lb) :
    Calls Tryz.prog 27 #[dp sp] W fun r w' => r = .returned (.bool true) ∧ Keeps [] W w' := by
  have HS := khid (sweep0C sp lb W hc hb)
  clear hc hb
  unfold dp at HS ⊢
  go_enter Tryz.func27, Tryz.ntmps27
  go_wp2_with fail
  refine HS.out.mono ?_
  rintro r w' ⟨rfl, hk⟩
  go_wp2_with fail
  go_ret
  exact ⟨rfl, hk⟩
set_option maxHeartbeats 800000 in
theorem len0C (sp : Nat) (S : SS) (W : World) (h : MemIs W sp S) (h1 : S.late.old = []) (h2 : S.late.young = []) (h3 : S.late.cur = 0) :
    Calls Tryz.prog 15 #[dp sp] W fun r w' => r = .returned (.int .i64 S.main.n) ∧ Keeps [] W w' := by
  have c7 : W.cell? ⟨sp, 7, none⟩ = some (dp S.mb) := by rw [cell_at h.hd]; rfl
  have c8 : W.cell? ⟨sp, 8, none⟩ = some (dp S.lb) := by rw [cell_at h.hd]; rfl
  have hl := h.l.hd
  have hb : Bare W S.lb := by
    unfold dObj at hl
    rw [h1, h2, h3] at hl
    exact ⟨by rw [cell_at hl]; rfl, by rw [cell_at hl]; rfl, by rw [cell_at hl]; rfl⟩
  have HS := khid (allSC sp S.lb W c8 hb)
  have HL := khid (fun (W' : World) (hk : Keeps [] W W') => lenC S.mb S.main W' (h.m.keep (fun b hb => hk.block b (h.lt 2 b hb) (by simp))))
  have H7 := khid (fun (W' : World) (hk : Keeps [] W W') => cell_keep1 hk c7)
  clear hl hb h c7 c8
  unfold dp at HS ⊢
  go_enter Tryz.func15, Tryz.ntmps15
  go_wp2_with fail
  refine HS.out.mono ?_
  rintro r w1 ⟨rfl, hk⟩
  have d7 := H7.out w1 hk
  have HL1 := khid (HL.out w1 hk)
  have HK := khid hk
  clear hk
  unfold dp at d7 HL1
  go_wp2_with fail
  refine HL1.out.mono ?_
  rintro r w2 ⟨rfl, rfl⟩
  go_wp2_with fail
  go_ret
  exact ⟨rfl, HK.out⟩
end Go.Proofs.YthmbhkgllfngmaaGreatDoor.ks
/- draw.New of nothing; keyspace.New. -/
namespace Go.Proofs.YthmbhkgllfngmaaGreatDoor.ks
open Go.ChangeShapes Go.WideShapes Go.RowKit
set_option linter.unusedVariables false
set_option linter.unusedSimpArgs false
set_option maxRecDepth 8000 in
set_option maxHeartbeats 400000 in
theorem clone64C (w : World) : Calls Tryz.prog 62 #[.slice none 0 0] w fun r w' => r = .returned (.slice none 0 0) ∧ Keeps [] w w' := by
  have hnil : ∀ W : World, (binOp .eql 105 (.slice none 0 0) (.slice none 0 0)).run Tryz.prog W = .ok (.bool true) W := fun W => by kernel_rfl
  go_enter Tryz.func62, Tryz.ntmps62
  go_wp2_with fail
  go_ret
  exact ⟨rfl, Keeps.refl _ _⟩
set_option maxRecDepth 8000 in
set_option maxHeartbeats 400000 in
theorem drawNewC (w : World) : Calls Tryz.prog 18 #[.slice none 0 0] w fun r w' => ∃ p, r = .returned (.pointer p) ∧ Keeps [] w w' := by
  go_enter Tryz.func18, Tryz.ntmps18
  go_wp2_with fail
  refine (clone64C w).mono ?_
  rintro r w' ⟨rfl, hk⟩
  have HK := khid hk
  clear hk
  go_wp2_with fail
  go_ret
  exact ⟨_, rfl, HK.out.alloc _⟩
/-- A new space. -/
def newS (seed : Nat) (mb lb tb : Nat) : SS := ⟨seed, 0, 0, 0, 0, 0, 0, mb, DM.new seed, lb, DM.new (seed + 1), fun _ => ⟨0, Val.text ByteArray.empty, 0, 0, 0⟩, tb, [], .slice none 0 0, []⟩
theorem new_look (seed : Nat) (k : ByteArray) : (DM.new seed : DM Nat).look k = none := by
  cases h : (DM.new seed : DM Nat).look k with
  | none => rfl
  | some v =>
    obtain ⟨e, he, _⟩ := DM.look_some h
    simp [DM.all, DM.new] at he
theorem newWF (seed : Nat) : (DM.new seed : DM Nat).WF :=
  ⟨by simp [DM.all, DM.new], fun i l h => by simp [DM.new] at h, fun i l h => by simp [DM.new] at h, fun i h => by simp [DM.new] at h, fun _ => rfl, fun _ => rfl, rfl, fun h => by simp [DM.new] at h⟩
theorem newS_inv (seed mb lb tb : Nat) : (newS seed mb lb tb).Inv := by
  refine ⟨newWF _, newWF _, fun k => ?_, by simp [newS, DM.all, DM.new], fun e he => by simp [newS, DM.all, DM.new] at he, ⟨Int.le_refl _, by show (0 : Int) ≤ 9007199254740992; decide⟩⟩
  show (DM.new (seed + 1) : DM Nat).look k = ((DM.new seed : DM Nat).look k).filter _
  rw [new_look, new_look]; rfl
theorem newS_room (seed mb lb tb : Nat) : Room (newS seed mb lb tb) 1000000 := ⟨by simp [newS], by simp [newS], by simp [newS, DM.new], by simp [newS, DM.new]⟩
theorem newS_al (seed mb lb tb : Nat) (k : ByteArray) : (newS seed mb lb tb).al k = none := by
  show ((DM.new seed : DM Nat).look k).bind _ = none
  rw [new_look]; rfl
theorem heap5 (w : World) (cfg o1 o2 o3 s : Obj) :
    (((((w.alloc cfg).alloc o1).alloc o2).alloc o3).alloc s).heap[w.heap.size + 1]? = some o1 ∧ (((((w.alloc cfg).alloc o1).alloc o2).alloc o3).alloc s).heap[w.heap.size + 2]? = some o2 ∧
    (((((w.alloc cfg).alloc o1).alloc o2).alloc o3).alloc s).heap[w.heap.size + 3]? = some o3 ∧ (((((w.alloc cfg).alloc o1).alloc o2).alloc o3).alloc s).heap[w.heap.size + 4]? = some s := by
  have a1 := alloc_new (w.alloc cfg) o1
  have a2 := alloc_new ((w.alloc cfg).alloc o1) o2
  have a3 := alloc_new (((w.alloc cfg).alloc o1).alloc o2) o3
  have a4 := alloc_new ((((w.alloc cfg).alloc o1).alloc o2).alloc o3) s
  rw [World.size_alloc] at a1
  rw [World.size_alloc, World.size_alloc] at a2
  rw [World.size_alloc, World.size_alloc, World.size_alloc] at a3
  rw [World.size_alloc, World.size_alloc, World.size_alloc, World.size_alloc] at a4
  exact ⟨alloc_old _ (alloc_old _ (alloc_old _ a1)), alloc_old _ (alloc_old _ a2), alloc_old _ a3, a4⟩
theorem newS_mem {seed sp mb lb tb : Nat} {W : World} (hs : seed < 1000000) (hsp : W.heap[sp]? = some (spObj (newS seed mb lb tb))) (h1 : W.heap[mb]? = some (dObj dty (DM.new seed))) (h2 : W.heap[lb]? = some (dObj dty (DM.new (seed + 1)))) (h3 : W.heap[tb]? = some (.map #[] 0))
    (hd : sp ≠ mb ∧ sp ≠ lb ∧ sp ≠ tb ∧ mb ≠ lb ∧ mb ≠ tb ∧ lb ≠ tb) : MemIs W sp (newS seed mb lb tb) := by
  have key : ∀ {d sd : Nat}, W.heap[d]? = some (dObj dty (DM.new sd : DM Nat)) → sd < 18446744073709551616 → DictIs dty W d (DM.new sd : DM Nat) := fun h hsd =>
    ⟨h, TabIs.nil _ _, TabIs.nil _ _, by simp [DM.blocks, DM.new, tblocks], hsd, fun e he => by simp [DM.all, DM.new] at he, by simp [DM.new], by simp [DM.new], by simp [DM.new]⟩
  refine ⟨hsp, key h1 (by omega), key h2 (by omega), fun x hx => by simp [newS, DM.all, DM.new] at hx, ⟨#[], 0, h3, ⟨by simp, MapKept.stamped_empty 0, by simp⟩, Nat.le_refl _, rfl⟩, World.ownsRow_nil _ _ _ _, ?_, fun x hx => by simp [newS, DM.all, DM.new] at hx⟩
  · intro i j b hi hj
    match i, j, hi, hj with
    | 0, 0, _, _ => rfl
    | 1, 1, _, _ => rfl
    | 2, 2, _, _ => rfl
    | 3, 3, _, _ => rfl
    | 0, 1, hi, hj => simp [grp, newS] at hi hj; omega
    | 0, 2, hi, hj => simp [grp, newS, DM.blocks, DM.new, tblocks] at hi hj; omega
    | 0, 3, hi, hj => simp [grp, newS, DM.blocks, DM.new, tblocks] at hi hj; omega
    | 1, 0, hi, hj => simp [grp, newS] at hi hj; omega
    | 1, 2, hi, hj => simp [grp, newS, DM.blocks, DM.new, tblocks] at hi hj; omega
    | 1, 3, hi, hj => simp [grp, newS, DM.blocks, DM.new, tblocks] at hi hj; omega
    | 2, 0, hi, hj => simp [grp, newS, DM.blocks, DM.new, tblocks] at hi hj; omega
    | 2, 1, hi, hj => simp [grp, newS, DM.blocks, DM.new, tblocks] at hi hj; omega
    | 2, 3, hi, hj => simp [grp, newS, DM.blocks, DM.new, tblocks] at hi hj; omega
    | 3, 0, hi, hj => simp [grp, newS, DM.blocks, DM.new, tblocks] at hi hj; omega
    | 3, 1, hi, hj => simp [grp, newS, DM.blocks, DM.new, tblocks] at hi hj; omega
    | 3, 2, hi, hj => simp [grp, newS, DM.blocks, DM.new, tblocks] at hi hj; omega
    | n + 4, _, hi, _ =>
      exfalso
      match n, hi with
      | 0, hi => simp [grp, newS, DM.all, DM.new] at hi
      | 1, hi => simp [grp, newS, DM.all, DM.new] at hi
      | 2, hi => simp [grp, newS, Value.ownBlock] at hi
      | n + 3, hi => simp [grp] at hi
    | _, n + 4, _, hj =>
      exfalso
      match n, hj with
      | 0, hi => simp [grp, newS, DM.all, DM.new] at hi
      | 1, hi => simp [grp, newS, DM.all, DM.new] at hi
      | 2, hi => simp [grp, newS, Value.ownBlock] at hi
      | n + 3, hi => simp [grp] at hi
theorem newS_foot {n0 seed sp mb lb tb : Nat} (h : n0 ≤ sp ∧ n0 ≤ mb ∧ n0 ≤ lb ∧ n0 ≤ tb) : ∀ b ∈ foot (newS seed mb lb tb) sp, n0 ≤ b := by
  intro b hb
  unfold foot at hb
  simp [grp, newS, DM.blocks, DM.new, tblocks, DM.all, Value.ownBlock] at hb
  omega
theorem newS_at {seed sp mb lb tb : Nat} {w W : World} (hs : seed < 1000000) (he : Env w) (hz : 20 ≤ w.heap.size) (hk : Keeps [] w W) (hsp : W.heap[sp]? = some (spObj (newS seed mb lb tb))) (h1 : W.heap[mb]? = some (dObj dty (DM.new seed))) (h2 : W.heap[lb]? = some (dObj dty (DM.new (seed + 1)))) (h3 : W.heap[tb]? = some (.map #[] 0))
    (hd : sp ≠ mb ∧ sp ≠ lb ∧ sp ≠ tb ∧ mb ≠ lb ∧ mb ≠ tb ∧ lb ≠ tb) (hn : w.heap.size ≤ sp ∧ w.heap.size ≤ mb ∧ w.heap.size ≤ lb ∧ w.heap.size ≤ tb) :
    At W sp (newS seed mb lb tb) 1000000 ∧ Keeps [] w W ∧ w.heap.size ≤ sp ∧ (∀ b ∈ foot (newS seed mb lb tb) sp, w.heap.size ≤ b) :=
  ⟨⟨newS_mem hs hsp h1 h2 h3 hd, newS_inv _ _ _ _, newS_room _ _ _ _, he.keeps hk (by simp) hz, fun b hb => by have := newS_foot hn b hb; omega, by have := hk.size; omega⟩, hk, hn.1, newS_foot hn⟩
set_option maxRecDepth 8000 in
set_option maxHeartbeats 1600000 in
theorem spaceNewC (seed : Nat) (w : World) (hs : seed < 1000000) (he : Env w) (hz : 20 ≤ w.heap.size) :
    Calls Tryz.prog 16 #[.agg #[.int .u64 seed, .int .i64 0, .int .i64 0, .int .i64 0]] w fun r w' => ∃ sp mb lb tb, r = .returned (.tuple #[dp sp, .int .i64 0]) ∧ At w' sp (newS seed mb lb tb) 1000000 ∧ Keeps [] w w' ∧ w.heap.size ≤ sp ∧ (∀ b ∈ foot (newS seed mb lb tb) sp, w.heap.size ≤ b) := by
  have hmm := @run_makeMap Tryz.prog
  obtain ⟨J, hJ⟩ : ∃ J, J = seed + 1 := ⟨_, rfl⟩
  have hsd : IntKind.u64.wrap ((seed : Int) + 1) = (J : Int) := by rw [hJ]; simp [IntKind.wrap, IntKind.signed, IntKind.bits]; omega
  have hsd2 : (seed : Int) + 1 = (J : Int) := by omega
  have hJm : J % 18446744073709551616 = J := by omega
  have HJ := khid hJ
  have HS := khid hs
  have HE := khid he
  have HZ := khid hz
  clear hJ hs he hz
  go_enter Tryz.func16, Tryz.ntmps16
  go_wp2_with fail
  go_region_held3 (fun W => W.cell? ⟨w.heap.size, 0, none⟩ = some (.int .u64 seed) ∧ W.cell? ⟨w.heap.size, 1, none⟩ = some (.int .i64 0) ∧ W.cell? ⟨w.heap.size, 2, none⟩ = some (.int .i64 0) ∧ W.cell? ⟨w.heap.size, 3, none⟩ = some (.int .i64 0))
    (first | (go_keep; done) | (go_split_ands; (try dsimp only); (repeat' apply And.intro) <;> first | (with_reducible exact cell_alloc1 (by assumption)) | exact (cell_at (fz := (0, 0)) (alloc_old _ (alloc_old _ (alloc_old _ (alloc_old _ (alloc_new w _))))) _).trans rfl | (go_keep; done) | assumption))
    ((go_at_call 29; refine (newC _ _).mono ?_; rintro e w9 ⟨rfl, rfl⟩; unfold dp))
  go_wp2_with fail
  all_goals
    go_ret2
    first
      | exact ⟨w.heap.size + 4, w.heap.size + 1, w.heap.size + 2, w.heap.size + 3, rfl, newS_at HS.out HE.out HZ.out ((((((Keeps.refl _ _).alloc _).alloc _).alloc _).alloc _).alloc _).drew (heap5 w _ _ _ _ _).2.2.2 (heap5 w _ _ _ _ _).1 (by rw [← HJ.out]; exact (heap5 w _ _ _ _ _).2.1) (heap5 w _ _ _ _ _).2.2.1 (by omega) (by omega)⟩
      | exact ⟨w.heap.size + 4, w.heap.size + 1, w.heap.size + 3, w.heap.size + 2, rfl, newS_at HS.out HE.out HZ.out ((((((Keeps.refl _ _).alloc _).alloc _).alloc _).alloc _).alloc _).drew (heap5 w _ _ _ _ _).2.2.2 (heap5 w _ _ _ _ _).1 (by rw [← HJ.out]; exact (heap5 w _ _ _ _ _).2.2.1) (heap5 w _ _ _ _ _).2.1 (by omega) (by omega)⟩
      | exact ⟨w.heap.size + 4, w.heap.size + 2, w.heap.size + 3, w.heap.size + 1, rfl, newS_at HS.out HE.out HZ.out ((((((Keeps.refl _ _).alloc _).alloc _).alloc _).alloc _).alloc _).drew (heap5 w _ _ _ _ _).2.2.2 (heap5 w _ _ _ _ _).2.1 (by rw [← HJ.out]; exact (heap5 w _ _ _ _ _).2.2.1) (heap5 w _ _ _ _ _).1 (by omega) (by omega)⟩
end Go.Proofs.YthmbhkgllfngmaaGreatDoor.ks
