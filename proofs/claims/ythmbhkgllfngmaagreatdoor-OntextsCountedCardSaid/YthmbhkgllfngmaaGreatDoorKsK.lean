/- the law's wakes. (Printed by mkO23.py.) -/
import Derived.Test.YthmbhkgllfngmaaGreatDoorKsJ
/- ontexts: what commands make of a space, key by key; no program in sight. -/
namespace Go.Proofs.YthmbhkgllfngmaaGreatDoor.ks
open Go.ChangeShapes Go.WideShapes Go.RowKit
set_option linter.unusedVariables false
set_option linter.unusedSimpArgs false
def txtOf (x : Option (Val × Int)) : ByteArray := match x with | some (v, _) => v.txt.getD ByteArray.empty | none => ByteArray.empty
def dl_ (x : Option (Val × Int)) : Int := match x with | some (_, d) => d | none => 0
/-- No key has a deadline, nor ever had. -/
structure NL (S : SS) : Prop where
  o : S.late.old = []
  y : S.late.young = []
  c : S.late.cur = 0
theorem NL.none {S : SS} (h : NL S) (inv : S.Inv) {k : ByteArray} {b : Nat} (hb : S.main.look k = some b) : (S.ents b).dl = 0 := by
  have h1 : S.late.look k = .none := by
    cases hl : S.late.look k with
    | none => rfl
    | some v =>
      obtain ⟨e, he, _⟩ := DM.look_some hl
      unfold DM.all at he
      rw [h.o, h.y] at he
      simp at he
  have h2 := inv.lt k
  rw [h1, hb] at h2
  obtain ⟨x, hx, _, hv⟩ := DM.look_some hb
  have h3 := inv.dl x hx
  rw [hv] at h3
  by_cases h4 : 0 < (S.ents b).dl
  · simp [Option.filter, h4] at h2
  · omega
/-- One key's meaning is another; all others' are the same. -/
structure AlTo (S S' : SS) (k : ByteArray) (x : Option (Val × Int)) : Prop where
  al : ∀ q, S'.al q = if q = k then x else S.al q
  same : SS.Same S S'
  nl : NL S → NL S'
theorem met_nl {S S' : SS} {k : ByteArray} {o : Option Nat} (inv : S.Inv) (h : MetR S k S' o) (hn : NL S) : NL S' := by
  rcases h with ⟨_, _, rfl⟩ | ⟨b, f, u, sv, hl, hp, _, rfl⟩ | ⟨b, _, _, _, rfl⟩
  · exact ⟨hn.o, hn.y, hn.c⟩
  · have h0 := hn.none inv hl
    unfold SS.past at hp
    omega
  · exact ⟨hn.o, hn.y, hn.c⟩
theorem met_al {S S' : SS} {k : ByteArray} {o : Option Nat} (inv : S.Inv) (h : MetR S k S' o) : lookT S' o = txtOf (S.al k) ∧ o.isSome = (S.al k).isSome ∧ dlOf S' o = dl_ (S.al k) := by
  have mf := met_facts inv h
  cases o with
  | none => rw [(mf.none rfl).1]; exact ⟨rfl, rfl, rfl⟩
  | some b => rw [(mf.some b rfl).2]; exact ⟨rfl, rfl, rfl⟩
theorem met_to {S S' : SS} {k : ByteArray} {o : Option Nat} (inv : S.Inv) (h : MetR S k S' o) (q : ByteArray) : AlTo S S' q (S.al q) := by
  have mf := met_facts inv h
  refine ⟨fun p => ?_, mf.same, met_nl inv h⟩
  rw [mf.al]
  split
  · rename_i e; rw [e]
  · rfl
theorem put_nl {S S' : SS} {k : ByteArray} {vb : Nat} {v : Val} (inv : S.Inv) (h : PutR S k vb v S') (hn : NL S) : NL S' := by
  obtain ⟨S1, o, hm, h⟩ := h
  have mf := met_facts inv hm
  have h1 := met_nl inv hm hn
  rcases h with ⟨_, ⟨rfl, rfl⟩ | ⟨b, f, u, rfl, rfl⟩⟩ | ⟨_, ⟨rfl, b, f, u, hb, rfl⟩ | ⟨b0, b, f, u, u2, rfl, hb, rfl⟩⟩
  · exact h1
  · have h0 := h1.none mf.inv (mf.some b rfl).1
    have hne : ¬ 0 < (S1.ents b).dl := by omega
    have e : (S1.gone k b f u).late = S1.late := if_neg hne
    exact ⟨by rw [e]; exact h1.o, by rw [e]; exact h1.y, by rw [e]; exact h1.c⟩
  · exact ⟨h1.o, h1.y, h1.c⟩
  · have h0 := h1.none mf.inv (mf.some b0 rfl).1
    have hne : ¬ 0 < (S1.ents b0).dl := by omega
    have e : (((S1.early k b0 f u).stored k b (newEnt S1 vb v) f u2).touch k).late = S1.late := if_neg hne
    exact ⟨by rw [e]; exact h1.o, by rw [e]; exact h1.y, by rw [e]; exact h1.c⟩
theorem put_to {S S' : SS} {k : ByteArray} {vb : Nat} {t : ByteArray} (inv : S.Inv) (h : PutR S k vb (Val.text t) S') : AlTo S S' k (some (Val.text t, 0)) := by
  have := put_facts inv h
  exact ⟨this.al, this.same, put_nl inv h⟩
theorem AlTo.trans {A B C : SS} {k : ByteArray} {x y : Option (Val × Int)} (h : AlTo A B k x) (h2 : AlTo B C k y) : AlTo A C k y :=
  ⟨fun q => by
    rw [h2.al, h.al]
    split <;> rfl, h.same.trans h2.same, fun hn => h2.nl (h.nl hn)⟩
theorem over_to {S S' : SS} {k t : ByteArray} (inv : S.Inv) (h : OverR S k t S') : AlTo S S' k (some (Val.text t, dl_ (S.al k))) := by
  obtain ⟨S1, o, vb, S2, hm, hp, h⟩ := h
  have mf := met_facts inv hm
  obtain ⟨_, _, hd⟩ := met_al inv hm
  have t1 := (met_to inv hm k).trans (put_to mf.inv hp)
  rw [hd] at h
  rcases h with ⟨h0, rfl⟩ | ⟨h0, r, hr⟩
  · rw [h0]; exact t1
  · have pf := put_facts mf.inv hp
    have hal : S2.al k = some (Val.text t, 0) := by rw [t1.al, if_pos rfl]
    have hdl := dl_facts pf.inv hr
    rw [hal] at hdl
    simp only at hdl
    cases o with
    | none => rw [(mf.none rfl).1] at h0; exact absurd rfl h0
    | some b =>
      obtain ⟨hl, hak⟩ := mf.some b rfl
      have hdd : dl_ (S.al k) = (S1.ents b).dl := by rw [hak]; rfl
      obtain ⟨x, hx, _, hv⟩ := DM.look_some hl
      have hbd := mf.inv.dl x hx
      rw [hv] at hbd
      rw [hdd] at h0 hdl ⊢
      have hlive : ¬ (0 < (S1.ents b).dl ∧ (S1.ents b).dl ≤ S1.now) := by
        intro hp2
        have h3 := mf.al k
        unfold SS.al at h3
        rw [hl] at h3
        simp only [Option.bind_some, SS.live] at h3
        rw [if_pos hp2] at h3
        have : S.al k = none := h3.symm
        rw [hak] at this; cases this
      have hnow : S2.now = S1.now := pf.same.now
      rw [if_neg (by omega), if_neg (by rw [hnow]; omega)] at hdl
      refine ⟨fun q => ?_, t1.same.trans hdl.1.same, fun hn => ?_⟩
      · rw [hdl.1.al, t1.al]
        split <;> rfl
      · exact absurd ((met_nl inv hm hn).none mf.inv hl) h0
end Go.Proofs.YthmbhkgllfngmaaGreatDoor.ks
/- the law's said: a command and its reply. -/
namespace Go.Proofs.YthmbhkgllfngmaaGreatDoor.ks
open Go.ChangeShapes Go.WideShapes Go.RowKit
set_option linter.unusedVariables false
set_option linter.unusedSimpArgs false
theorem said_words {W : World} {sp : Nat} {S : SS} {n : Nat} (ha : At W sp S n) (l : List ByteArray) (hl : 0 < l.length ∧ l.length ≤ 1024) (hs : ∀ s ∈ l, s.size ≤ 1048576) (ht : total l ≤ 4194304) :
    Said (W.alloc (.cells (l.map Value.string).toArray 9)) sp W.heap.size 0 l.length S l :=
  ⟨fun i s hi => by
    rw [cell_at (alloc_new _ _)]
    simp [hi], fun hm => by have := ha.mem.flt _ hm; omega, hl, ⟨Nat.le_refl _, by unfold maxLen; omega⟩, hs, ht⟩
theorem Said.keeps {w w' : World} {sp wb off cap : Nat} {S : SS} {ws : List ByteArray} (h : Said w sp wb off cap S ws) (hk : Keeps [] w w') : Said w' sp wb off cap S ws :=
  ⟨words_keep h.at_ (hk.block wb (words_lt h.at_ h.n.1) (by simp)), h.f, h.n, h.cap, h.s, h.t⟩
/-- What Do leaves, as the law looks at it. -/
def DoPost (sp : Nat) (W : World) (S : SS) (m : Nat) (Q : Int → ByteArray → Int → Bool → SS → Prop) (r : Ending) (w' : World) : Prop :=
  ∃ k t i p a c ok S', r = .returned (.tuple #[resV k t i (.slice none 0 0) (.slice p a c), .bool ok]) ∧ Q k t i ok S' ∧ At w' sp S' m ∧ Next sp W S w' S'
set_option maxRecDepth 8000 in
set_option maxHeartbeats 1600000 in
theorem saidC (sp wb n c : Nat) (S : SS) (m : Nat) (w : World) (hz : 20 ≤ w.heap.size) (hf : ∀ b ∈ foot S sp, b < w.heap.size) (Q : Int → ByteArray → Int → Bool → SS → Prop)
    (hdo : ∀ (W : World) (src : Value), Keeps [] w W → Calls Tryz.prog 17 #[dp sp, src, .slice (some ⟨wb, 0, none⟩) n c] W (DoPost sp W S m Q)) :
    Calls Tryz.prog 7 #[dp sp, .slice (some ⟨wb, 0, none⟩) n c] w fun r w' => ∃ k t i ok S', r = .returned (.tuple #[repV k t i, .bool ok]) ∧ Q k t i ok S' ∧ At w' sp S' m ∧ Next sp w S w' S' := by
  have HDO := khid hdo
  have HF := khid hf
  clear hdo hf
  unfold dp at HDO ⊢
  go_enter Tryz.func7, Tryz.ntmps7
  go_wp2_with fail
  generalize hw0 : w.alloc _ = w0
  have h0 : w0.heap[w.heap.size]? = some (.cells #[.int .i64 0, .string ByteArray.empty, .int .i64 0, .slice none 0 0] 28 (0, 0)) := by rw [← hw0]; exact alloc_new _ _
  have k0 : Keeps [] w w0 := by rw [← hw0]; exact (Keeps.refl _ _).alloc _
  have K0 := khid k0
  have H0 := khid h0
  clear hw0 k0 h0
  refine (drawNewC w0).mono ?_
  rintro r w1 ⟨p, rfl, k1⟩
  have K1 := khid (K0.out.trans k1)
  have H1 := khid (k1.get H0.out (by simp))
  clear k1
  go_wp2_with fail
  refine (HDO.out w1 _ K1.out).mono ?_
  rintro r w2 ⟨k, t, i, q, a, cc, ok, S', rfl, hq, a2, n2⟩
  have hrf : w.heap.size ∉ foot S sp := fun hm => by have := HF.out _ hm; omega
  have h2 := (n2.k.block w.heap.size (hlt H1.out) hrf).trans H1.out
  have hrf2 : w.heap.size ∉ foot S' sp := fun hm => by
    rcases n2.b _ hm with h | h
    · exact hrf h
    · have := hlt H1.out; omega
  obtain ⟨⟨x0, x1, x2, x3⟩, y0, y1, y2, y3⟩ := four_facts h2
  have hl2 : w.heap.size < w2.heap.size := hlt h2
  have HQ := khid hq
  have A2 := khid a2
  have N2 := khid (Next.after K1.out n2)
  have HRF := khid hrf2
  have H2 := khid h2
  clear hq a2 n2 h2 hrf hrf2
  unfold resV
  go_wp2_with fail
  refine bodyPost_ret (v := .tuple #[repV k t i, .bool ok]) (by rw [results_cell_tmp rfl]; go_simp; try rfl) rfl ?_
  have hkx : Keeps [w.heap.size] w2 ((four w2 w.heap.size (.int .i64 k) (.string t) (.int .i64 i) (.slice none 0 0)).alloc (.cells #[.int .i64 k, .string t, .int .i64 i, .slice none 0 0, .slice q a cc] 51)) :=
    (((((Keeps.refl _ w2).setCell (p := ⟨w.heap.size, 0, none⟩) (.inl (by simp)) _).setCell (p := ⟨w.heap.size, 1, none⟩) (.inl (by simp)) _).setCell (p := ⟨w.heap.size, 2, none⟩) (.inl (by simp)) _).setCell (p := ⟨w.heap.size, 3, none⟩) (.inl (by simp)) _).alloc _
  unfold four at hkx
  exact ⟨k, t, i, ok, S', rfl, HQ.out, A2.out.keeps hkx (fun b hb => by simp at hb; subst hb; exact ⟨HRF.out, hz⟩), ⟨N2.out.k.step hkx (fun b hb => by simp at hb; subst hb; exact .inr (Nat.le_refl _)), N2.out.b⟩⟩
end Go.Proofs.YthmbhkgllfngmaaGreatDoor.ks
/- the law's said, verb by verb. (Printed by mkO21.py.) -/
namespace Go.Proofs.YthmbhkgllfngmaaGreatDoor.ks
open Go.ChangeShapes Go.WideShapes Go.RowKit
set_option linter.unusedVariables false
set_option linter.unusedSimpArgs false
theorem verb_mk {ws : List ByteArray} {s0 v : ByteArray} {a : Int} (h0 : ws[0]? = some s0) (hu : upS s0 = v) (hv : (verbOf v.data.toList).map (fun r => r.arity) = some a) (h1 : 0 < a → (ws.length : Int) = a) (h2 : -a ≤ (ws.length : Int)) : Verb ws v := by
  cases h : verbOf v.data.toList with
  | none => rw [h] at hv; cases hv
  | some r =>
    rw [h] at hv
    obtain rfl : r.arity = a := by simpa using hv
    exact ⟨s0, r, h0, hu, h, h1, h2⟩
/-- In this program all values are texts. -/
theorem al_text {w : World} {sp : Nat} {S : SS} {n : Nat} {k : ByteArray} {v : Val} {d : Int} (ha : At w sp S n) (h : S.al k = some (v, d)) : ∃ s, v = Val.text s ∧ s.size ≤ 1048576 := by
  unfold SS.al at h
  cases hl : S.main.look k with
  | none => rw [hl] at h; cases h
  | some b =>
    rw [hl] at h
    simp only [Option.bind_some, SS.live] at h
    obtain ⟨x, hx, _, rfl⟩ := DM.look_some hl
    obtain ⟨s, h1, h2, _⟩ := (ha.mem.e x hx).v
    split at h
    · cases h
    · simp only [Option.some.injEq, Prod.mk.injEq] at h
      exact ⟨s, by rw [← h.1]; exact h1, h2⟩
theorem look_true2 {w : World} {sp : Nat} {S S1 : SS} {n : Nat} {k : ByteArray} {o : Option Nat} (ha : At w sp S n) (hm : MetR S k S1 o) : lookOk S1 o = true := by
  have mf := met_facts ha.inv hm
  cases o with
  | none => rfl
  | some b =>
    obtain ⟨s, hv, _⟩ := al_text ha (mf.some b rfl).2
    show ((S1.ents b).val.txt).isSome = true
    rw [hv]; rfl
theorem total2 (a b : ByteArray) (ha : a.size ≤ 1048576) (hb : b.size ≤ 1048576) : total [a, b] ≤ 4194304 := by simp [total]; omega
theorem total3 (a b c : ByteArray) (ha : a.size ≤ 1048576) (hb : b.size ≤ 1048576) (hc : c.size ≤ 1048576) : total [a, b, c] ≤ 4194304 := by simp [total]; omega
theorem total4 (a b c d : ByteArray) (ha : a.size ≤ 1048576) (hb : b.size ≤ 1048576) (hc : c.size ≤ 1048576) (hd : d.size ≤ 1048576) : total [a, b, c, d] ≤ 4194304 := by simp [total]; omega
theorem row_kwGet : (verbOf kwGet.data.toList).map (fun r => r.arity) = some (2) := by decide +kernel
theorem row_kwSet : (verbOf kwSet.data.toList).map (fun r => r.arity) = some (-3) := by decide +kernel
theorem row_kwGetset : (verbOf kwGetset.data.toList).map (fun r => r.arity) = some (3) := by decide +kernel
theorem row_kwAppend : (verbOf kwAppend.data.toList).map (fun r => r.arity) = some (3) := by decide +kernel
theorem row_kwSetrange : (verbOf kwSetrange.data.toList).map (fun r => r.arity) = some (4) := by decide +kernel
theorem row_kwSetbit : (verbOf kwSetbit.data.toList).map (fun r => r.arity) = some (4) := by decide +kernel
theorem row_kwIncr : (verbOf kwIncr.data.toList).map (fun r => r.arity) = some (2) := by decide +kernel
theorem row_kwIncrby : (verbOf kwIncrby.data.toList).map (fun r => r.arity) = some (3) := by decide +kernel
theorem row_kwDecr : (verbOf kwDecr.data.toList).map (fun r => r.arity) = some (2) := by decide +kernel
theorem row_kwDecrby : (verbOf kwDecrby.data.toList).map (fun r => r.arity) = some (3) := by decide +kernel
theorem row_kwLpush : (verbOf kwLpush.data.toList).map (fun r => r.arity) = some (-3) := by decide +kernel
set_option maxHeartbeats 800000 in
theorem saidGet (sp : Nat) (S : SS) (m : Nat) (v0 q : ByteArray)  (W : World) (ha : At W sp S (m + 6)) (hzv0 : v0.size ≤ 1048576) (hzq : q.size ≤ 1048576) (hu : upS v0 = kwGet)  :
    Calls Tryz.prog 7 #[dp sp, .slice (some ⟨W.heap.size, 0, none⟩) 2 2] (W.alloc (.cells #[.string v0, .string q] 9)) fun r w' => ∃ k t i ok S', r = .returned (.tuple #[repV k t i, .bool ok]) ∧ (k = (if (S.al q).isSome = true then 4 else 5) ∧ t = txtOf (S.al q) ∧ i = 0 ∧ ok = true ∧ AlTo S S' q (S.al q)) ∧ At w' sp S' m ∧ Next sp W S w' S' := by
  have k0 : Keeps [] W (W.alloc (.cells #[.string v0, .string q] 9)) := (Keeps.refl _ _).alloc _
  have a0 := ha.keeps0 k0
  have hs0 := said_words ha [v0, q] ⟨by simp, by simp⟩ (fun s hs => by simp at hs; rcases hs with rfl | rfl <;> assumption) (total2 v0 q hzv0 hzq)
  have hvb : Verb [v0, q] kwGet := verb_mk rfl hu row_kwGet (by simp) (by simp)
  refine (saidC sp W.heap.size 2 2 S m _ a0.hz (fun b hb => a0.mem.flt b hb) (fun k t i ok S' => k = (if (S.al q).isSome = true then 4 else 5) ∧ t = txtOf (S.al q) ∧ i = 0 ∧ ok = true ∧ AlTo S S' q (S.al q)) (fun W2 src hk => ?_)).mono ?_
  · refine (doGet sp W.heap.size 0 2 src [v0, q] S m W2 (a0.keeps0 hk) (hs0.keeps hk) hvb q rfl rfl).mono ?_
    rintro r w' ⟨S', o, hm, rfl, a', n'⟩
    obtain ⟨e1, e2, _⟩ := met_al ha.inv hm
    rw [look_true2 ha hm, e1, e2]
    refine ⟨_, _, _, _, _, _, true, S', rfl, ⟨rfl, ?_, rfl, rfl, met_to ha.inv hm q⟩, a', n'⟩
    cases S.al q <;> rfl
  · rintro r w' ⟨k, t, i, ok, S', rfl, hq, a', n'⟩
    exact ⟨k, t, i, ok, S', rfl, hq, a', Next.after k0 n'⟩
set_option maxHeartbeats 800000 in
theorem saidSet (sp : Nat) (S : SS) (m : Nat) (v0 q x : ByteArray)  (W : World) (ha : At W sp S (m + 6)) (hzv0 : v0.size ≤ 1048576) (hzq : q.size ≤ 1048576) (hzx : x.size ≤ 1048576) (hu : upS v0 = kwSet)  :
    Calls Tryz.prog 7 #[dp sp, .slice (some ⟨W.heap.size, 0, none⟩) 3 3] (W.alloc (.cells #[.string v0, .string q, .string x] 9)) fun r w' => ∃ k t i ok S', r = .returned (.tuple #[repV k t i, .bool ok]) ∧ (k = 1 ∧ t = kwOK ∧ i = 0 ∧ ok = true ∧ AlTo S S' q (some (Val.text x, 0))) ∧ At w' sp S' m ∧ Next sp W S w' S' := by
  have k0 : Keeps [] W (W.alloc (.cells #[.string v0, .string q, .string x] 9)) := (Keeps.refl _ _).alloc _
  have a0 := ha.keeps0 k0
  have hs0 := said_words ha [v0, q, x] ⟨by simp, by simp⟩ (fun s hs => by simp at hs; rcases hs with rfl | rfl | rfl <;> assumption) (total3 v0 q x hzv0 hzq hzx)
  have hvb : Verb [v0, q, x] kwSet := verb_mk rfl hu row_kwSet (by simp) (by simp)
  refine (saidC sp W.heap.size 3 3 S m _ a0.hz (fun b hb => a0.mem.flt b hb) (fun k t i ok S' => k = 1 ∧ t = kwOK ∧ i = 0 ∧ ok = true ∧ AlTo S S' q (some (Val.text x, 0))) (fun W2 src hk => ?_)).mono ?_
  · refine (doSet0 sp W.heap.size 0 3 src [v0, q, x] S m W2 (a0.keeps0 hk) (hs0.keeps hk) hvb q x rfl rfl rfl).mono ?_
    rintro r w' ⟨S1, o, S', eff, hm, ⟨vb, hp⟩, rfl, heff, a', n'⟩
    obtain ⟨ge, ce, rfl⟩ := eff_shape heff
    exact ⟨_, _, _, _, _, _, true, S', rfl, ⟨rfl, rfl, rfl, rfl, (met_to ha.inv hm q).trans (put_to (met_facts ha.inv hm).inv hp)⟩, a', n'⟩
  · rintro r w' ⟨k, t, i, ok, S', rfl, hq, a', n'⟩
    exact ⟨k, t, i, ok, S', rfl, hq, a', Next.after k0 n'⟩
set_option maxHeartbeats 800000 in
theorem saidKeep (sp : Nat) (S : SS) (m : Nat) (v0 q x y : ByteArray)  (W : World) (ha : At W sp S (m + 6)) (hzv0 : v0.size ≤ 1048576) (hzq : q.size ≤ 1048576) (hzx : x.size ≤ 1048576) (hzy : y.size ≤ 1048576) (hu : upS v0 = kwSet) (hy : upS y = kwKeep) :
    Calls Tryz.prog 7 #[dp sp, .slice (some ⟨W.heap.size, 0, none⟩) 4 4] (W.alloc (.cells #[.string v0, .string q, .string x, .string y] 9)) fun r w' => ∃ k t i ok S', r = .returned (.tuple #[repV k t i, .bool ok]) ∧ (k = 1 ∧ t = kwOK ∧ i = 0 ∧ ok = true ∧ AlTo S S' q (some (Val.text x, dl_ (S.al q)))) ∧ At w' sp S' m ∧ Next sp W S w' S' := by
  have k0 : Keeps [] W (W.alloc (.cells #[.string v0, .string q, .string x, .string y] 9)) := (Keeps.refl _ _).alloc _
  have a0 := ha.keeps0 k0
  have hs0 := said_words ha [v0, q, x, y] ⟨by simp, by simp⟩ (fun s hs => by simp at hs; rcases hs with rfl | rfl | rfl | rfl <;> assumption) (total4 v0 q x y hzv0 hzq hzx hzy)
  have hvb : Verb [v0, q, x, y] kwSet := verb_mk rfl hu row_kwSet (by simp) (by simp)
  refine (saidC sp W.heap.size 4 4 S m _ a0.hz (fun b hb => a0.mem.flt b hb) (fun k t i ok S' => k = 1 ∧ t = kwOK ∧ i = 0 ∧ ok = true ∧ AlTo S S' q (some (Val.text x, dl_ (S.al q)))) (fun W2 src hk => ?_)).mono ?_
  · refine (doSetKeep sp W.heap.size 0 4 src [v0, q, x, y] S m W2 (a0.keeps0 hk) (hs0.keeps hk) hvb q x y rfl rfl rfl hy rfl).mono ?_
    rintro r w' ⟨S1, o, S', eff, hm, hp, rfl, heff, a', n'⟩
    obtain ⟨ge, ce, rfl⟩ := eff_shape heff
    refine ⟨_, _, _, _, _, _, true, S', rfl, ⟨rfl, rfl, rfl, rfl, ?_⟩, a', n'⟩
    have h1 := over_to (met_facts ha.inv hm).inv hp
    rw [(met_facts ha.inv hm).al] at h1
    exact (met_to ha.inv hm q).trans h1
  · rintro r w' ⟨k, t, i, ok, S', rfl, hq, a', n'⟩
    exact ⟨k, t, i, ok, S', rfl, hq, a', Next.after k0 n'⟩
set_option maxHeartbeats 800000 in
theorem saidGetset (sp : Nat) (S : SS) (m : Nat) (v0 q x : ByteArray)  (W : World) (ha : At W sp S (m + 6)) (hzv0 : v0.size ≤ 1048576) (hzq : q.size ≤ 1048576) (hzx : x.size ≤ 1048576) (hu : upS v0 = kwGetset)  :
    Calls Tryz.prog 7 #[dp sp, .slice (some ⟨W.heap.size, 0, none⟩) 3 3] (W.alloc (.cells #[.string v0, .string q, .string x] 9)) fun r w' => ∃ k t i ok S', r = .returned (.tuple #[repV k t i, .bool ok]) ∧ (AlTo S S' q (some (Val.text x, 0))) ∧ At w' sp S' m ∧ Next sp W S w' S' := by
  have k0 : Keeps [] W (W.alloc (.cells #[.string v0, .string q, .string x] 9)) := (Keeps.refl _ _).alloc _
  have a0 := ha.keeps0 k0
  have hs0 := said_words ha [v0, q, x] ⟨by simp, by simp⟩ (fun s hs => by simp at hs; rcases hs with rfl | rfl | rfl <;> assumption) (total3 v0 q x hzv0 hzq hzx)
  have hvb : Verb [v0, q, x] kwGetset := verb_mk rfl hu row_kwGetset (by simp) (by simp)
  refine (saidC sp W.heap.size 3 3 S m _ a0.hz (fun b hb => a0.mem.flt b hb) (fun k t i ok S' => AlTo S S' q (some (Val.text x, 0))) (fun W2 src hk => ?_)).mono ?_
  · refine (doGetset sp W.heap.size 0 3 src [v0, q, x] S m W2 (a0.keeps0 hk) (hs0.keeps hk) hvb q x rfl rfl rfl).mono ?_
    rintro r w' ⟨kk, tt, ge, ce, S1, o, S', hm, rfl, ⟨vb, hp⟩, a', n'⟩
    exact ⟨_, _, _, _, _, _, true, S', rfl, (met_to ha.inv hm q).trans (put_to (met_facts ha.inv hm).inv hp), a', n'⟩
  · rintro r w' ⟨k, t, i, ok, S', rfl, hq, a', n'⟩
    exact ⟨k, t, i, ok, S', rfl, hq, a', Next.after k0 n'⟩
set_option maxHeartbeats 800000 in
theorem saidOther (sp : Nat) (S : SS) (m : Nat) (v0 q x : ByteArray)  (W : World) (ha : At W sp S (m + 6)) (hzv0 : v0.size ≤ 1048576) (hzq : q.size ≤ 1048576) (hzx : x.size ≤ 1048576) (hu : upS v0 = kwLpush)  :
    Calls Tryz.prog 7 #[dp sp, .slice (some ⟨W.heap.size, 0, none⟩) 3 3] (W.alloc (.cells #[.string v0, .string q, .string x] 9)) fun r w' => ∃ k t i ok S', r = .returned (.tuple #[repV k t i, .bool ok]) ∧ (ok = false ∧ S' = S) ∧ At w' sp S' m ∧ Next sp W S w' S' := by
  have k0 : Keeps [] W (W.alloc (.cells #[.string v0, .string q, .string x] 9)) := (Keeps.refl _ _).alloc _
  have a0 := ha.keeps0 k0
  have hs0 := said_words ha [v0, q, x] ⟨by simp, by simp⟩ (fun s hs => by simp at hs; rcases hs with rfl | rfl | rfl <;> assumption) (total3 v0 q x hzv0 hzq hzx)
  have hvb : Verb [v0, q, x] kwLpush := verb_mk rfl hu row_kwLpush (by simp) (by simp)
  refine (saidC sp W.heap.size 3 3 S m _ a0.hz (fun b hb => a0.mem.flt b hb) (fun k t i ok S' => ok = false ∧ S' = S) (fun W2 src hk => ?_)).mono ?_
  · refine (doLpush sp W.heap.size 0 3 src [v0, q, x] S m W2 (a0.keeps0 hk) (hs0.keeps hk) hvb).mono ?_
    rintro r w' ⟨rfl, a', n'⟩
    exact ⟨_, _, _, _, _, _, false, S, rfl, ⟨rfl, rfl⟩, a'.mono (by omega), n'⟩
  · rintro r w' ⟨k, t, i, ok, S', rfl, hq, a', n'⟩
    exact ⟨k, t, i, ok, S', rfl, hq, a', Next.after k0 n'⟩
/-- What a command that counts tells, and makes of the key. -/
def CountQ (S : SS) (q : ByteArray) (BY : Int → Int → Int × Int) (st k : Int) (t : ByteArray) (i : Int) (S' : SS) : Prop := match countE true (S.al q).isSome (txtOf (S.al q)) BY st with
  | .inr tx => k = 2 ∧ t = tx ∧ i = 0 ∧ AlTo S S' q (S.al q)
  | .inl sum => k = 3 ∧ t = ByteArray.empty ∧ i = sum ∧ AlTo S S' q (some (Val.text (itoaS sum), dl_ (S.al q)))
set_option maxHeartbeats 800000 in
theorem saidIncr (sp : Nat) (S : SS) (m : Nat) (v0 q : ByteArray)  (W : World) (ha : At W sp S (m + 6)) (hzv0 : v0.size ≤ 1048576) (hzq : q.size ≤ 1048576) (hu : upS v0 = kwIncr)  :
    Calls Tryz.prog 7 #[dp sp, .slice (some ⟨W.heap.size, 0, none⟩) 2 2] (W.alloc (.cells #[.string v0, .string q] 9)) fun r w' => ∃ k t i ok S', r = .returned (.tuple #[repV k t i, .bool ok]) ∧ (ok = true ∧ CountQ S q addV 1 k t i S') ∧ At w' sp S' m ∧ Next sp W S w' S' := by
  have k0 : Keeps [] W (W.alloc (.cells #[.string v0, .string q] 9)) := (Keeps.refl _ _).alloc _
  have a0 := ha.keeps0 k0
  have hs0 := said_words ha [v0, q] ⟨by simp, by simp⟩ (fun s hs => by simp at hs; rcases hs with rfl | rfl <;> assumption) (total2 v0 q hzv0 hzq)
  have hvb : Verb [v0, q] kwIncr := verb_mk rfl hu row_kwIncr (by simp) (by simp)
  refine (saidC sp W.heap.size 2 2 S m _ a0.hz (fun b hb => a0.mem.flt b hb) (fun k t i ok S' => ok = true ∧ CountQ S q addV 1 k t i S') (fun W2 src hk => ?_)).mono ?_
  · refine (doIncr sp W.heap.size 0 2 src [v0, q] S m W2 (a0.keeps0 hk) (hs0.keeps hk) hvb q rfl [] [] 1 rfl rfl (by decide) (by simp)).mono ?_
    rintro r w' ⟨v, S1, o, S', hm, rfl, hp, a', n'⟩
    obtain ⟨e1, e2, _⟩ := met_al ha.inv hm
    rw [look_true2 ha hm, e1, e2] at hp
    have mt := met_to ha.inv hm q
    unfold CountQ
    revert hp
    cases countE true (S.al q).isSome (txtOf (S.al q)) addV 1 with
    | inr tx =>
      rintro ⟨hv, rfl⟩
      obtain rfl : v = _ := by injection hv
      exact ⟨_, _, _, _, _, _, true, _, rfl, ⟨rfl, rfl, rfl, rfl, mt⟩, a', n'⟩
    | inl sum =>
      rintro ⟨eff, hv, heff, hov⟩
      obtain rfl : v = _ := by injection hv
      obtain ⟨ge, ce, rfl⟩ := eff_shape heff
      have h1 := over_to (met_facts ha.inv hm).inv hov
      rw [(met_facts ha.inv hm).al] at h1
      exact ⟨_, _, _, _, _, _, true, _, rfl, ⟨rfl, rfl, rfl, rfl, mt.trans h1⟩, a', n'⟩
  · rintro r w' ⟨k, t, i, ok, S', rfl, hq, a', n'⟩
    exact ⟨k, t, i, ok, S', rfl, hq, a', Next.after k0 n'⟩
set_option maxHeartbeats 800000 in
theorem saidDecr (sp : Nat) (S : SS) (m : Nat) (v0 q : ByteArray)  (W : World) (ha : At W sp S (m + 6)) (hzv0 : v0.size ≤ 1048576) (hzq : q.size ≤ 1048576) (hu : upS v0 = kwDecr)  :
    Calls Tryz.prog 7 #[dp sp, .slice (some ⟨W.heap.size, 0, none⟩) 2 2] (W.alloc (.cells #[.string v0, .string q] 9)) fun r w' => ∃ k t i ok S', r = .returned (.tuple #[repV k t i, .bool ok]) ∧ (ok = true ∧ CountQ S q lessV 1 k t i S') ∧ At w' sp S' m ∧ Next sp W S w' S' := by
  have k0 : Keeps [] W (W.alloc (.cells #[.string v0, .string q] 9)) := (Keeps.refl _ _).alloc _
  have a0 := ha.keeps0 k0
  have hs0 := said_words ha [v0, q] ⟨by simp, by simp⟩ (fun s hs => by simp at hs; rcases hs with rfl | rfl <;> assumption) (total2 v0 q hzv0 hzq)
  have hvb : Verb [v0, q] kwDecr := verb_mk rfl hu row_kwDecr (by simp) (by simp)
  refine (saidC sp W.heap.size 2 2 S m _ a0.hz (fun b hb => a0.mem.flt b hb) (fun k t i ok S' => ok = true ∧ CountQ S q lessV 1 k t i S') (fun W2 src hk => ?_)).mono ?_
  · refine (doDecr sp W.heap.size 0 2 src [v0, q] S m W2 (a0.keeps0 hk) (hs0.keeps hk) hvb q rfl [] [] 1 rfl rfl (by decide) (by simp)).mono ?_
    rintro r w' ⟨v, S1, o, S', hm, rfl, hp, a', n'⟩
    obtain ⟨e1, e2, _⟩ := met_al ha.inv hm
    rw [look_true2 ha hm, e1, e2] at hp
    have mt := met_to ha.inv hm q
    unfold CountQ
    revert hp
    cases countE true (S.al q).isSome (txtOf (S.al q)) lessV 1 with
    | inr tx =>
      rintro ⟨hv, rfl⟩
      obtain rfl : v = _ := by injection hv
      exact ⟨_, _, _, _, _, _, true, _, rfl, ⟨rfl, rfl, rfl, rfl, mt⟩, a', n'⟩
    | inl sum =>
      rintro ⟨eff, hv, heff, hov⟩
      obtain rfl : v = _ := by injection hv
      obtain ⟨ge, ce, rfl⟩ := eff_shape heff
      have h1 := over_to (met_facts ha.inv hm).inv hov
      rw [(met_facts ha.inv hm).al] at h1
      exact ⟨_, _, _, _, _, _, true, _, rfl, ⟨rfl, rfl, rfl, rfl, mt.trans h1⟩, a', n'⟩
  · rintro r w' ⟨k, t, i, ok, S', rfl, hq, a', n'⟩
    exact ⟨k, t, i, ok, S', rfl, hq, a', Next.after k0 n'⟩
set_option maxHeartbeats 800000 in
theorem saidIncrby (sp : Nat) (S : SS) (m : Nat) (v0 q x : ByteArray) (st : Int) (W : World) (ha : At W sp S (m + 6)) (hzv0 : v0.size ≤ 1048576) (hzq : q.size ≤ 1048576) (hzx : x.size ≤ 1048576) (hu : upS v0 = kwIncrby) (hx : intV x = (st, 0)) :
    Calls Tryz.prog 7 #[dp sp, .slice (some ⟨W.heap.size, 0, none⟩) 3 3] (W.alloc (.cells #[.string v0, .string q, .string x] 9)) fun r w' => ∃ k t i ok S', r = .returned (.tuple #[repV k t i, .bool ok]) ∧ (ok = true ∧ CountQ S q addV st k t i S') ∧ At w' sp S' m ∧ Next sp W S w' S' := by
  have k0 : Keeps [] W (W.alloc (.cells #[.string v0, .string q, .string x] 9)) := (Keeps.refl _ _).alloc _
  have a0 := ha.keeps0 k0
  have hs0 := said_words ha [v0, q, x] ⟨by simp, by simp⟩ (fun s hs => by simp at hs; rcases hs with rfl | rfl | rfl <;> assumption) (total3 v0 q x hzv0 hzq hzx)
  have hvb : Verb [v0, q, x] kwIncrby := verb_mk rfl hu row_kwIncrby (by simp) (by simp)
  refine (saidC sp W.heap.size 3 3 S m _ a0.hz (fun b hb => a0.mem.flt b hb) (fun k t i ok S' => ok = true ∧ CountQ S q addV st k t i S') (fun W2 src hk => ?_)).mono ?_
  · refine (doIncrby sp W.heap.size 0 3 src [v0, q, x] S m W2 (a0.keeps0 hk) (hs0.keeps hk) hvb q rfl [st] [1] st (by simp [numsOf, hx]) rfl (by have := intV_bd x; rw [hx] at this; exact this) (by simp)).mono ?_
    rintro r w' ⟨v, S1, o, S', hm, rfl, hp, a', n'⟩
    obtain ⟨e1, e2, _⟩ := met_al ha.inv hm
    rw [look_true2 ha hm, e1, e2] at hp
    have mt := met_to ha.inv hm q
    unfold CountQ
    revert hp
    cases countE true (S.al q).isSome (txtOf (S.al q)) addV st with
    | inr tx =>
      rintro ⟨hv, rfl⟩
      obtain rfl : v = _ := by injection hv
      exact ⟨_, _, _, _, _, _, true, _, rfl, ⟨rfl, rfl, rfl, rfl, mt⟩, a', n'⟩
    | inl sum =>
      rintro ⟨eff, hv, heff, hov⟩
      obtain rfl : v = _ := by injection hv
      obtain ⟨ge, ce, rfl⟩ := eff_shape heff
      have h1 := over_to (met_facts ha.inv hm).inv hov
      rw [(met_facts ha.inv hm).al] at h1
      exact ⟨_, _, _, _, _, _, true, _, rfl, ⟨rfl, rfl, rfl, rfl, mt.trans h1⟩, a', n'⟩
  · rintro r w' ⟨k, t, i, ok, S', rfl, hq, a', n'⟩
    exact ⟨k, t, i, ok, S', rfl, hq, a', Next.after k0 n'⟩
set_option maxHeartbeats 800000 in
theorem saidDecrby (sp : Nat) (S : SS) (m : Nat) (v0 q x : ByteArray) (st : Int) (W : World) (ha : At W sp S (m + 6)) (hzv0 : v0.size ≤ 1048576) (hzq : q.size ≤ 1048576) (hzx : x.size ≤ 1048576) (hu : upS v0 = kwDecrby) (hx : intV x = (st, 0)) :
    Calls Tryz.prog 7 #[dp sp, .slice (some ⟨W.heap.size, 0, none⟩) 3 3] (W.alloc (.cells #[.string v0, .string q, .string x] 9)) fun r w' => ∃ k t i ok S', r = .returned (.tuple #[repV k t i, .bool ok]) ∧ (ok = true ∧ CountQ S q lessV st k t i S') ∧ At w' sp S' m ∧ Next sp W S w' S' := by
  have k0 : Keeps [] W (W.alloc (.cells #[.string v0, .string q, .string x] 9)) := (Keeps.refl _ _).alloc _
  have a0 := ha.keeps0 k0
  have hs0 := said_words ha [v0, q, x] ⟨by simp, by simp⟩ (fun s hs => by simp at hs; rcases hs with rfl | rfl | rfl <;> assumption) (total3 v0 q x hzv0 hzq hzx)
  have hvb : Verb [v0, q, x] kwDecrby := verb_mk rfl hu row_kwDecrby (by simp) (by simp)
  refine (saidC sp W.heap.size 3 3 S m _ a0.hz (fun b hb => a0.mem.flt b hb) (fun k t i ok S' => ok = true ∧ CountQ S q lessV st k t i S') (fun W2 src hk => ?_)).mono ?_
  · refine (doDecrby sp W.heap.size 0 3 src [v0, q, x] S m W2 (a0.keeps0 hk) (hs0.keeps hk) hvb q rfl [st] [1] st (by simp [numsOf, hx]) rfl (by have := intV_bd x; rw [hx] at this; exact this) (by simp)).mono ?_
    rintro r w' ⟨v, S1, o, S', hm, rfl, hp, a', n'⟩
    obtain ⟨e1, e2, _⟩ := met_al ha.inv hm
    rw [look_true2 ha hm, e1, e2] at hp
    have mt := met_to ha.inv hm q
    unfold CountQ
    revert hp
    cases countE true (S.al q).isSome (txtOf (S.al q)) lessV st with
    | inr tx =>
      rintro ⟨hv, rfl⟩
      obtain rfl : v = _ := by injection hv
      exact ⟨_, _, _, _, _, _, true, _, rfl, ⟨rfl, rfl, rfl, rfl, mt⟩, a', n'⟩
    | inl sum =>
      rintro ⟨eff, hv, heff, hov⟩
      obtain rfl : v = _ := by injection hv
      obtain ⟨ge, ce, rfl⟩ := eff_shape heff
      have h1 := over_to (met_facts ha.inv hm).inv hov
      rw [(met_facts ha.inv hm).al] at h1
      exact ⟨_, _, _, _, _, _, true, _, rfl, ⟨rfl, rfl, rfl, rfl, mt.trans h1⟩, a', n'⟩
  · rintro r w' ⟨k, t, i, ok, S', rfl, hq, a', n'⟩
    exact ⟨k, t, i, ok, S', rfl, hq, a', Next.after k0 n'⟩
set_option maxHeartbeats 800000 in
theorem saidAppend (sp : Nat) (S : SS) (m : Nat) (v0 q x : ByteArray) (nt : ByteArray) (W : World) (ha : At W sp S (m + 6)) (hzv0 : v0.size ≤ 1048576) (hzq : q.size ≤ 1048576) (hzx : x.size ≤ 1048576) (hu : upS v0 = kwAppend) (hok : joinV (txtOf (S.al q)) x = (nt, 0)) :
    Calls Tryz.prog 7 #[dp sp, .slice (some ⟨W.heap.size, 0, none⟩) 3 3] (W.alloc (.cells #[.string v0, .string q, .string x] 9)) fun r w' => ∃ k t i ok S', r = .returned (.tuple #[repV k t i, .bool ok]) ∧ (AlTo S S' q (some (Val.text nt, dl_ (S.al q)))) ∧ At w' sp S' m ∧ Next sp W S w' S' := by
  have k0 : Keeps [] W (W.alloc (.cells #[.string v0, .string q, .string x] 9)) := (Keeps.refl _ _).alloc _
  have a0 := ha.keeps0 k0
  have hs0 := said_words ha [v0, q, x] ⟨by simp, by simp⟩ (fun s hs => by simp at hs; rcases hs with rfl | rfl | rfl <;> assumption) (total3 v0 q x hzv0 hzq hzx)
  have hvb : Verb [v0, q, x] kwAppend := verb_mk rfl hu row_kwAppend (by simp) (by simp)
  refine (saidC sp W.heap.size 3 3 S m _ a0.hz (fun b hb => a0.mem.flt b hb) (fun k t i ok S' => AlTo S S' q (some (Val.text nt, dl_ (S.al q)))) (fun W2 src hk => ?_)).mono ?_
  · refine (doAppend sp W.heap.size 0 3 src [v0, q, x] S m W2 (a0.keeps0 hk) (hs0.keeps hk) hvb q x rfl rfl rfl).mono ?_
    rintro r w' ⟨v, S1, o, S', hm, rfl, hp, a', n'⟩
    obtain ⟨e1, e2, _⟩ := met_al ha.inv hm
    rw [look_true2 ha hm, e1, e2] at hp
    have mt := met_to ha.inv hm q
    unfold patchE at hp
    simp only [hok] at hp
    rw [if_neg (by simp), if_neg (by simp)] at hp
    obtain ⟨eff, hv, heff, hov⟩ := hp
    obtain rfl : v = _ := by injection hv
    obtain ⟨ge, ce, rfl⟩ := eff_shape heff
    have h1 := over_to (met_facts ha.inv hm).inv hov
    rw [(met_facts ha.inv hm).al] at h1
    exact ⟨_, _, _, _, _, _, true, _, rfl, mt.trans h1, a', n'⟩
  · rintro r w' ⟨k, t, i, ok, S', rfl, hq, a', n'⟩
    exact ⟨k, t, i, ok, S', rfl, hq, a', Next.after k0 n'⟩
set_option maxHeartbeats 800000 in
theorem saidSetrange (sp : Nat) (S : SS) (m : Nat) (v0 q x y : ByteArray) (nt : ByteArray) (a : Nat) (W : World) (ha : At W sp S (m + 6)) (hzv0 : v0.size ≤ 1048576) (hzq : q.size ≤ 1048576) (hzx : x.size ≤ 1048576) (hzy : y.size ≤ 1048576) (hu : upS v0 = kwSetrange) (hx : intV x = ((a : Int), 0)) (hab : a ≤ 9223372036854775807) (hyz : y.size ≠ 0) (hok : overlayV (txtOf (S.al q)) a y = (nt, 0)) :
    Calls Tryz.prog 7 #[dp sp, .slice (some ⟨W.heap.size, 0, none⟩) 4 4] (W.alloc (.cells #[.string v0, .string q, .string x, .string y] 9)) fun r w' => ∃ k t i ok S', r = .returned (.tuple #[repV k t i, .bool ok]) ∧ (AlTo S S' q (some (Val.text nt, dl_ (S.al q)))) ∧ At w' sp S' m ∧ Next sp W S w' S' := by
  have k0 : Keeps [] W (W.alloc (.cells #[.string v0, .string q, .string x, .string y] 9)) := (Keeps.refl _ _).alloc _
  have a0 := ha.keeps0 k0
  have hs0 := said_words ha [v0, q, x, y] ⟨by simp, by simp⟩ (fun s hs => by simp at hs; rcases hs with rfl | rfl | rfl | rfl <;> assumption) (total4 v0 q x y hzv0 hzq hzx hzy)
  have hvb : Verb [v0, q, x, y] kwSetrange := verb_mk rfl hu row_kwSetrange (by simp) (by simp)
  refine (saidC sp W.heap.size 4 4 S m _ a0.hz (fun b hb => a0.mem.flt b hb) (fun k t i ok S' => AlTo S S' q (some (Val.text nt, dl_ (S.al q)))) (fun W2 src hk => ?_)).mono ?_
  · refine (doSetrange sp W.heap.size 0 4 src [v0, q, x, y] S m W2 (a0.keeps0 hk) (hs0.keeps hk) hvb q x y rfl rfl rfl a hx hab hyz rfl).mono ?_
    rintro r w' ⟨v, S1, o, S', hm, rfl, hp, a', n'⟩
    obtain ⟨e1, e2, _⟩ := met_al ha.inv hm
    rw [look_true2 ha hm, e1, e2] at hp
    have mt := met_to ha.inv hm q
    unfold patchE at hp
    simp only [hok] at hp
    rw [if_neg (by simp), if_neg (by simp)] at hp
    obtain ⟨eff, hv, heff, hov⟩ := hp
    obtain rfl : v = _ := by injection hv
    obtain ⟨ge, ce, rfl⟩ := eff_shape heff
    have h1 := over_to (met_facts ha.inv hm).inv hov
    rw [(met_facts ha.inv hm).al] at h1
    exact ⟨_, _, _, _, _, _, true, _, rfl, mt.trans h1, a', n'⟩
  · rintro r w' ⟨k, t, i, ok, S', rfl, hq, a', n'⟩
    exact ⟨k, t, i, ok, S', rfl, hq, a', Next.after k0 n'⟩
set_option maxHeartbeats 800000 in
theorem saidSetbit (sp : Nat) (S : SS) (m : Nat) (v0 q x y : ByteArray) (nt : ByteArray) (a b was : Int) (W : World) (ha : At W sp S (m + 6)) (hzv0 : v0.size ≤ 1048576) (hzq : q.size ≤ 1048576) (hzx : x.size ≤ 1048576) (hzy : y.size ≤ 1048576) (hu : upS v0 = kwSetbit) (hx : intV x = (a, 0)) (hy : intV y = (b, 0)) (hab : 0 ≤ a ∧ a < 1073741824) (hbb : 0 ≤ b ∧ b ≤ 1) (hok : setBitV (txtOf (S.al q)) a b = (nt, was, 0)) :
    Calls Tryz.prog 7 #[dp sp, .slice (some ⟨W.heap.size, 0, none⟩) 4 4] (W.alloc (.cells #[.string v0, .string q, .string x, .string y] 9)) fun r w' => ∃ k t i ok S', r = .returned (.tuple #[repV k t i, .bool ok]) ∧ (AlTo S S' q (some (Val.text nt, dl_ (S.al q)))) ∧ At w' sp S' m ∧ Next sp W S w' S' := by
  have k0 : Keeps [] W (W.alloc (.cells #[.string v0, .string q, .string x, .string y] 9)) := (Keeps.refl _ _).alloc _
  have a0 := ha.keeps0 k0
  have hs0 := said_words ha [v0, q, x, y] ⟨by simp, by simp⟩ (fun s hs => by simp at hs; rcases hs with rfl | rfl | rfl | rfl <;> assumption) (total4 v0 q x y hzv0 hzq hzx hzy)
  have hvb : Verb [v0, q, x, y] kwSetbit := verb_mk rfl hu row_kwSetbit (by simp) (by simp)
  refine (saidC sp W.heap.size 4 4 S m _ a0.hz (fun b hb => a0.mem.flt b hb) (fun k t i ok S' => AlTo S S' q (some (Val.text nt, dl_ (S.al q)))) (fun W2 src hk => ?_)).mono ?_
  · refine (doSetbit sp W.heap.size 0 4 src [v0, q, x, y] S m W2 (a0.keeps0 hk) (hs0.keeps hk) hvb q rfl a b (by simp [numsOf, hx, hy]) hab hbb (by simp)).mono ?_
    rintro r w' ⟨v, S1, o, S', hm, rfl, hp, a', n'⟩
    obtain ⟨e1, e2, _⟩ := met_al ha.inv hm
    rw [look_true2 ha hm, e1, e2] at hp
    have mt := met_to ha.inv hm q
    unfold patchE at hp
    simp only [hok] at hp
    rw [if_neg (by simp), if_neg (by simp)] at hp
    obtain ⟨eff, hv, heff, hov⟩ := hp
    obtain rfl : v = _ := by injection hv
    obtain ⟨ge, ce, rfl⟩ := eff_shape heff
    have h1 := over_to (met_facts ha.inv hm).inv hov
    rw [(met_facts ha.inv hm).al] at h1
    exact ⟨_, _, _, _, _, _, true, _, rfl, mt.trans h1, a', n'⟩
  · rintro r w' ⟨k, t, i, ok, S', rfl, hq, a', n'⟩
    exact ⟨k, t, i, ok, S', rfl, hq, a', Next.after k0 n'⟩
end Go.Proofs.YthmbhkgllfngmaaGreatDoor.ks
/- the law's small functions: is, err, short, space. -/
namespace Go.Proofs.YthmbhkgllfngmaaGreatDoor.ks
open Go.ChangeShapes Go.WideShapes Go.RowKit
set_option linter.unusedVariables false
set_option linter.unusedSimpArgs false
set_option maxRecDepth 8000 in
set_option maxHeartbeats 800000 in
theorem isTC (k i : Int) (t : ByteArray) (w : World) :
    Calls Tryz.prog 13 #[repV k t i, .int .i64 k, .string t, .int .i64 i] w fun r w' => r = .returned (.bool true) ∧ Keeps [] w w' := by
  have e1 : (t.toList == t.toList) = true := by simp
  have e2 : (k == k) = true := by simp
  have e3 : (i == i) = true := by simp
  unfold repV
  go_enter Tryz.func13, Tryz.ntmps13
  go_wp2_with fail
  go_ret
  exact ⟨rfl, (Keeps.refl _ _).alloc _⟩
set_option maxRecDepth 8000 in
set_option maxHeartbeats 800000 in
theorem errTC (t : ByteArray) (w : World) :
    Calls Tryz.prog 11 #[repV 2 t 0, .string t] w fun r w' => r = .returned (.bool true) ∧ Keeps [] w w' := by
  have HI := khid (fun W : World => isTC 2 0 t W)
  unfold repV at HI ⊢
  go_enter Tryz.func11, Tryz.ntmps11
  go_wp2_with fail
  refine (HI.out _).mono ?_
  rintro r w' ⟨rfl, hk⟩
  have HK := khid (((Keeps.refl [] w).alloc _).trans hk)
  clear hk
  go_wp2_with fail
  go_ret
  exact ⟨rfl, HK.out⟩
set_option maxRecDepth 8000 in
set_option maxHeartbeats 800000 in
theorem shortC (s : ByteArray) (b : Nat) (w : World) (h : w.cell? ⟨b, 0, none⟩ = some (.string s)) (hs : s.size ≤ 9223372036854775807) :
    Calls Tryz.prog 6 #[.slice (some ⟨b, 0, none⟩) 1 1] w fun r w' => r = .returned (.bool (decide (s.size ≤ 1048576))) ∧ w = w' := by
  by_cases hl : s.size ≤ 1048576
  · have HB := khid (show decide (s.size ≤ 1048576) = true by simpa using hl)
    go_enter Tryz.func6, Tryz.ntmps6
    go_wp2_with fail
    go_loop [7] (fun i => i = .int .i64 0 ∨ i = .int .i64 1) (fun i => 1 - (intOf i).toNat)
    case atStart => exact .inl rfl
    case round =>
      rcases hrel with rfl | rfl
      · go_wp2_with fail
        go_round
        case rel => exact .inr rfl
        case measure => simp [intOf]
      · go_wp2_with fail
        go_ret
        exact ⟨rfl, rfl⟩
  · have HB := khid (show decide (s.size ≤ 1048576) = false by simpa using hl)
    have hl2 : 1048576 < s.size := by omega
    go_enter Tryz.func6, Tryz.ntmps6
    go_wp2_with fail
    go_loop [7] (fun i => i = .int .i64 0) (fun i => 0)
    case atStart => rfl
    case round =>
      obtain rfl := hrel
      go_wp2_with fail
      go_ret
      exact ⟨rfl, rfl⟩
set_option maxRecDepth 8000 in
set_option maxHeartbeats 800000 in
theorem spaceC (w : World) (he : Env w) (hz : 20 ≤ w.heap.size) :
    Calls Tryz.prog 5 #[] w fun r w' => ∃ sp mb lb tb, r = .returned (dp sp) ∧ At w' sp (newS 5 mb lb tb) 1000000 ∧ Keeps [] w w' ∧ w.heap.size ≤ sp ∧ (∀ b ∈ foot (newS 5 mb lb tb) sp, w.heap.size ≤ b) := by
  have HN := khid (spaceNewC 5 w (by decide) he hz)
  clear he hz
  go_enter Tryz.func5, Tryz.ntmps5
  go_wp2_with fail
  refine HN.out.mono ?_
  rintro r w' ⟨sp, mb, lb, tb, rfl, h⟩
  have H := khid h
  clear h
  unfold dp
  go_wp2_with fail
  go_ret
  exact ⟨sp, mb, lb, tb, rfl, H.out⟩
end Go.Proofs.YthmbhkgllfngmaaGreatDoor.ks
/- the law's wakes. (Printed by mkO23.py.) -/
namespace Go.Proofs.YthmbhkgllfngmaaGreatDoor.ks
open Go.ChangeShapes Go.WideShapes Go.RowKit
set_option linter.unusedVariables false
set_option linter.unusedSimpArgs false
theorem len_two {S : SS} (inv : S.Inv) (nl : NL S) {a b : ByteArray} {x y : Val × Int} (ha : S.al a = some x) (hb : S.al b = some y) (hab : a ≠ b) (hq : ∀ q, q ≠ a → q ≠ b → S.al q = none) : S.main.n = 2 := by
  have hnone : ∀ q, S.al q = none → S.main.look q = none := by
    intro q h
    cases hl : S.main.look q with
    | none => rfl
    | some c =>
      have h0 := nl.none inv hl
      unfold SS.al at h
      rw [hl] at h
      simp only [Option.bind_some, SS.live] at h
      rw [if_neg (by omega)] at h
      cases h
  have hsome : ∀ q z, S.al q = some z → ∃ c, S.main.look q = some c := by
    intro q z h
    cases hl : S.main.look q with
    | none => unfold SS.al at h; rw [hl] at h; cases h
    | some c => exact ⟨c, rfl⟩
  have hmem : ∀ q, q ∈ S.main.all.map (fun e => e.k) ↔ q ∈ [a, b] := by
    intro q
    constructor
    · intro h
      obtain ⟨e, he, rfl⟩ := List.mem_map.1 h
      by_cases h1 : e.k = a
      · simp [h1]
      · by_cases h2 : e.k = b
        · simp [h2]
        · have := hnone _ (hq _ h1 h2)
          rw [DM.look_of inv.mw he] at this
          cases this
    · intro h
      have key : ∀ q z, S.al q = some z → q ∈ S.main.all.map (fun e => e.k) := by
        intro q z hz
        obtain ⟨c, hc⟩ := hsome q z hz
        obtain ⟨e, he, rfl, _⟩ := DM.look_some hc
        exact List.mem_map.2 ⟨e, he, rfl⟩
      simp at h
      rcases h with rfl | rfl
      · exact key _ _ ha
      · exact key _ _ hb
  have hp := (List.perm_ext_iff_of_nodup inv.mw.keys (by simp [hab])).2 hmem
  have := hp.length_eq
  rw [inv.mw.n]
  simpa using this
/-- A reply that was kept. -/
structure Rep (w : World) (sp : Nat) (S : SS) (b : Nat) (k : Int) (t : ByteArray) (i : Int) : Prop where
  h : w.heap[b]? = some (.cells #[.int .i64 k, .string t, .int .i64 i, .slice none 0 0] 28 (0, 0))
  f : b ∉ foot S sp
theorem Rep.keeps {w w' : World} {sp b : Nat} {S : SS} {k i : Int} {t : ByteArray} (h : Rep w sp S b k t i) (hk : Keeps [] w w') : Rep w' sp S b k t i := ⟨hk.get h.h (by simp), h.f⟩
theorem Rep.next {w w' : World} {sp b : Nat} {S S' : SS} {k i : Int} {t : ByteArray} (h : Rep w sp S b k t i) (hn : Next sp w S w' S') : Rep w' sp S' b k t i :=
  ⟨(hn.k.block b (hlt h.h) h.f).trans h.h, fun hm => by
    rcases hn.b b hm with h1 | h1
    · exact h.f h1
    · have := hlt h.h; omega⟩
theorem Rep.new {w : World} {sp : Nat} {S : SS} {n : Nat} (ha : At w sp S n) (k i : Int) (t : ByteArray) : Rep (w.alloc (.cells #[.int .i64 k, .string t, .int .i64 i, .slice none 0 0] 28)) sp S w.heap.size k t i :=
  ⟨alloc_new _ _, fun hm => by have := ha.mem.flt _ hm; omega⟩
def kK : ByteArray := ⟨#[107]⟩
def kN : ByteArray := ⟨#[110]⟩
theorem AlTo.at_ {S S' : SS} {k : ByteArray} {x : Option (Val × Int)} (h : AlTo S S' k x) : S'.al k = x := by rw [h.al, if_pos rfl]
theorem AlTo.other {S S' : SS} {k q : ByteArray} {x : Option (Val × Int)} (h : AlTo S S' k x) (hq : q ≠ k) : S'.al q = S.al q := by rw [h.al, if_neg hq]
theorem kKN : kK ≠ kN := by decide
theorem countQ_inl {S S' : SS} {q t : ByteArray} {BY : Int → Int → Int × Int} {st k i sum : Int} (h : CountQ S q BY st k t i S') (he : countE true (S.al q).isSome (txtOf (S.al q)) BY st = .inl sum) : k = 3 ∧ t = ByteArray.empty ∧ i = sum ∧ AlTo S S' q (some (Val.text (itoaS sum), dl_ (S.al q))) := by
  unfold CountQ at h
  rw [he] at h
  exact h
theorem countQ_inr {S S' : SS} {q t tx : ByteArray} {BY : Int → Int → Int × Int} {st k i : Int} (h : CountQ S q BY st k t i S') (he : countE true (S.al q).isSome (txtOf (S.al q)) BY st = .inr tx) : k = 2 ∧ t = tx ∧ i = 0 ∧ AlTo S S' q (S.al q) := by
  unfold CountQ at h
  rw [he] at h
  exact h
set_option maxRecDepth 100000 in
set_option maxHeartbeats 4000000 in
theorem wakesC (w : World) (he : Env w) (hz : 20 ≤ w.heap.size) :
    Calls Tryz.prog 4 #[] w fun r w' => r = .returned (.bool true) ∧ Keeps [] w w' := by
  have HSP := khid (spaceC w he hz)
  clear he hz
  go_enter Tryz.func4, Tryz.ntmps4
  go_wp2_with fail
  refine HSP.out.mono ?_
  rintro r w0 ⟨sp, mb, lb, tb, rfl, a0, k0, hsp, hf0⟩
  have A0 := khid a0
  have K0 := khid k0
  have hal0 := newS_al 5 mb lb tb
  have nl0 : NL (newS 5 mb lb tb) := ⟨rfl, rfl, rfl⟩
  obtain ⟨S0, hS0⟩ : ∃ S0, S0 = newS 5 mb lb tb := ⟨_, rfl⟩
  rw [← hS0] at A0 hf0 hal0 nl0
  have HF0 := khid hf0
  have HAL0 := khid hal0
  have NL0 := khid nl0
  clear a0 k0 hsp hf0 hal0 nl0 hS0
  unfold dp
  go_wp2_with fail
  have hc := saidSet sp S0 999000 ⟨#[115, 101, 116]⟩ kK ⟨#[97, 98, 99]⟩ _ (A0.out.mono (by omega)) (by decide) (by decide) (by decide) rfl
  unfold dp at hc
  refine hc.mono ?_
  clear hc
  rintro r w1 ⟨kk, tt, ii, ok, S1, rfl, hq, a', n'⟩
  obtain ⟨rfl, rfl, rfl, rfl, hal⟩ := hq
  have AL1 := khid hal
  clear hal
  have kal : Keeps [] w1 (w1.alloc (.cells #[.int .i64 (1), .string (kwOK), .int .i64 (0), .slice none 0 0] 28)) := (Keeps.refl _ _).alloc _
  have A1 := khid (a'.keeps0 kal)
  have N1 := khid (Next.after (Keeps.refl [] w0) n')
  have KA1 := khid kal
  have R1 := khid (Rep.new a' (1) (0) (kwOK))
  clear kal a' n'
  unfold repV
  go_wp2_with fail
  have hc := saidGet sp S1 998000 ⟨#[71, 69, 84]⟩ kK _ (A1.out.mono (by omega)) (by decide) (by decide) rfl
  rw [World.size_alloc] at hc
  unfold dp at hc
  refine hc.mono ?_
  clear hc
  rintro r w2 ⟨kk, tt, ii, ok, S2, rfl, hq, a', n'⟩
  obtain ⟨h1, h2, h3, rfl, hal⟩ := hq
  rw [AL1.out.at_] at h1 h2
  obtain rfl : kk = 4 := h1
  have h2' : tt = ⟨#[97, 98, 99]⟩ := h2
  clear h2
  subst h2'
  obtain rfl := h3
  have AL2 := khid hal
  clear hal
  have kal : Keeps [] w2 (w2.alloc (.cells #[.int .i64 (4), .string (⟨#[97, 98, 99]⟩), .int .i64 (0), .slice none 0 0] 28)) := (Keeps.refl _ _).alloc _
  have A2 := khid (a'.keeps0 kal)
  have N2 := khid (N1.out.trans (Next.after KA1.out n'))
  have KA2 := khid kal
  have R1 := khid ((R1.out.next n').keeps kal)
  have R2 := khid (Rep.new a' (4) (0) (⟨#[97, 98, 99]⟩))
  clear kal a' n'
  unfold repV
  go_wp2_with fail
  have hc := saidIncrby sp S2 997000 ⟨#[73, 78, 67, 82, 66, 89]⟩ kN ⟨#[53]⟩ 5 _ (A2.out.mono (by omega)) (by decide) (by decide) (by decide) rfl (by decide +kernel)
  rw [World.size_alloc] at hc
  unfold dp at hc
  refine hc.mono ?_
  clear hc
  rintro r w3 ⟨kk, tt, ii, ok, S3, rfl, hq, a', n'⟩
  obtain ⟨rfl, hq⟩ := hq
  have hn2 : S2.al kN = none := by rw [AL2.out.other (by decide), AL1.out.other (by decide)]; exact HAL0.out _
  have hq2 := countQ_inl (sum := 5) hq (by rw [hn2]; rfl)
  rw [hn2] at hq2
  obtain ⟨rfl, rfl, rfl, hal⟩ := hq2
  have AL3 := khid hal
  clear hal hq hn2
  have kal : Keeps [] w3 (w3.alloc (.cells #[.int .i64 (3), .string (ByteArray.empty), .int .i64 (5), .slice none 0 0] 28)) := (Keeps.refl _ _).alloc _
  have A3 := khid (a'.keeps0 kal)
  have N3 := khid (N2.out.trans (Next.after KA2.out n'))
  have KA3 := khid kal
  have R1 := khid ((R1.out.next n').keeps kal)
  have R2 := khid ((R2.out.next n').keeps kal)
  have R3 := khid (Rep.new a' (3) (5) (ByteArray.empty))
  clear kal a' n'
  unfold repV
  go_wp2_with fail
  have hc := saidGet sp S3 996000 ⟨#[71, 69, 84]⟩ kN _ (A3.out.mono (by omega)) (by decide) (by decide) rfl
  rw [World.size_alloc] at hc
  unfold dp at hc
  refine hc.mono ?_
  clear hc
  rintro r w4 ⟨kk, tt, ii, ok, S4, rfl, hq, a', n'⟩
  obtain ⟨h1, h2, h3, rfl, hal⟩ := hq
  rw [AL3.out.at_] at h1 h2
  obtain rfl : kk = 4 := h1
  have h2' : tt = ⟨#[53]⟩ := h2.trans (by decide +kernel)
  clear h2
  subst h2'
  obtain rfl := h3
  have AL4 := khid hal
  clear hal
  have kal : Keeps [] w4 (w4.alloc (.cells #[.int .i64 (4), .string (⟨#[53]⟩), .int .i64 (0), .slice none 0 0] 28)) := (Keeps.refl _ _).alloc _
  have A4 := khid (a'.keeps0 kal)
  have N4 := khid (N3.out.trans (Next.after KA3.out n'))
  have KA4 := khid kal
  have R1 := khid ((R1.out.next n').keeps kal)
  have R2 := khid ((R2.out.next n').keeps kal)
  have R3 := khid ((R3.out.next n').keeps kal)
  have R4 := khid (Rep.new a' (4) (0) (⟨#[53]⟩))
  clear kal a' n'
  unfold repV
  go_wp2_with fail
  have hc := saidOther sp S4 995000 ⟨#[76, 80, 85, 83, 72]⟩ ⟨#[108]⟩ ⟨#[120]⟩ _ (A4.out.mono (by omega)) (by decide) (by decide) (by decide) rfl
  rw [World.size_alloc] at hc
  unfold dp at hc
  refine hc.mono ?_
  clear hc
  rintro r w5 ⟨kk, tt, ii, ok, S5, rfl, hq, a', n'⟩
  obtain ⟨rfl, hSS⟩ := hq
  have kal : Keeps [] w5 (w5.alloc (.cells #[.int .i64 (kk), .string (tt), .int .i64 (ii), .slice none 0 0] 28)) := (Keeps.refl _ _).alloc _
  have A5 := khid (a'.keeps0 kal)
  have N5 := khid (N4.out.trans (Next.after KA4.out n'))
  have KA5 := khid kal
  have R1 := khid ((R1.out.next n').keeps kal)
  have R2 := khid ((R2.out.next n').keeps kal)
  have R3 := khid ((R3.out.next n').keeps kal)
  have R4 := khid ((R4.out.next n').keeps kal)
  have R5 := khid (Rep.new a' (kk) (ii) (tt))
  clear kal a' n'
  unfold repV
  have hr := (R1.out).h
  obtain ⟨⟨x0, x1, x2, x3⟩, _⟩ := four_facts hr
  clear hr
  go_wp2_with fail
  have hi := fun V : World => isTC (1) (0) (kwOK) V
  unfold repV at hi
  refine (hi _).mono ?_
  clear hi x0 x1 x2 x3
  rintro r v1 ⟨rfl, kk1⟩
  have KK1 := khid kk1
  clear kk1
  have hr := (R2.out.keeps KK1.out).h
  obtain ⟨⟨x0, x1, x2, x3⟩, _⟩ := four_facts hr
  clear hr
  go_wp2_with fail
  have hi := fun V : World => isTC (4) (0) (⟨#[97, 98, 99]⟩) V
  unfold repV at hi
  refine (hi _).mono ?_
  clear hi x0 x1 x2 x3
  rintro r v2 ⟨rfl, kk1⟩
  have KK2 := khid (KK1.out.trans kk1)
  clear kk1
  have hr := (R3.out.keeps KK2.out).h
  obtain ⟨⟨x0, x1, x2, x3⟩, _⟩ := four_facts hr
  clear hr
  go_wp2_with fail
  have hi := fun V : World => isTC (3) (5) (ByteArray.empty) V
  unfold repV at hi
  refine (hi _).mono ?_
  clear hi x0 x1 x2 x3
  rintro r v3 ⟨rfl, kk1⟩
  have KK3 := khid (KK2.out.trans kk1)
  clear kk1
  have hr := (R4.out.keeps KK3.out).h
  obtain ⟨⟨x0, x1, x2, x3⟩, _⟩ := four_facts hr
  clear hr
  go_wp2_with fail
  have hi := fun V : World => isTC (4) (0) (⟨#[53]⟩) V
  unfold repV at hi
  refine (hi _).mono ?_
  clear hi x0 x1 x2 x3
  rintro r v4 ⟨rfl, kk1⟩
  have KK4 := khid (KK3.out.trans kk1)
  clear kk1
  have AF := khid (A5.out.keeps0 KK4.out)
  have hn1 : S5.al kK = some (Val.text ⟨#[97, 98, 99]⟩, 0) := by rw [hSS, AL4.out.other (by decide), AL3.out.other (by decide), AL2.out.at_, AL1.out.at_]
  have hn2 : ∃ z, S5.al kN = some z := ⟨_, by rw [hSS, AL4.out.at_, AL3.out.at_]⟩
  obtain ⟨z, hn2⟩ := hn2
  have hn3 : ∀ q, q ≠ kK → q ≠ kN → S5.al q = none := fun q h1 h2 => by rw [hSS, AL4.out.other h2, AL3.out.other h2, AL2.out.other h1, AL1.out.other h1]; exact HAL0.out q
  have hnl : NL S5 := by rw [hSS]; exact AL4.out.nl (AL3.out.nl (AL2.out.nl (AL1.out.nl NL0.out)))
  have hlen := len_two AF.out.inv hnl hn1 hn2 kKN hn3
  have HLE := len0C sp S5 v4 AF.out.mem hnl.o hnl.y hnl.c
  rw [hlen] at HLE
  have HLE := khid HLE
  clear hn1 hn2 hn3 hnl hlen
  unfold dp at HLE
  go_wp2_with fail
  refine HLE.out.mono ?_
  rintro r v5 ⟨rfl, k5⟩
  have K5 := khid k5
  clear k5
  go_wp2_with fail
  go_ret
  refine ⟨rfl, (K0.out.step (N5.out.k) (fun b hb => .inr (HF0.out b hb))).trans ((KA5.out.trans KK4.out).trans K5.out)⟩
end Go.Proofs.YthmbhkgllfngmaaGreatDoor.ks
