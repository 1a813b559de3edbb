/- the law OntextsCounted. (Printed by mkO24.py.) -/
import Derived.Test.YthmbhkgllfngmaaGreatDoorKsK
import Derived.Test.YthmbhkgllfngmaaGreatDoorKsG
import Derived.Deep.CutBlock
import Derived.Deep.DeepCutAuto
/- the law OntextsCounted. (Printed by mkO24.py.) -/
namespace Go.Proofs.YthmbhkgllfngmaaGreatDoor.ks
open Go.ChangeShapes Go.WideShapes Go.RowKit
set_option linter.unusedVariables false
set_option linter.unusedSimpArgs false
theorem countE_bad {t : ByteArray} {BY : Int → Int → Int × Int} {st : Int} (h : (intV t).2 ≠ 0) : countE true true t BY st = .inr txInt := by
  unfold countE; rw [if_neg (by simp), if_pos ⟨rfl, h⟩]
theorem countE_over {t : ByteArray} {BY : Int → Int → Int × Int} {st was : Int} (h : intV t = (was, 0)) (h2 : (BY was st).2 ≠ 0) : countE true true t BY st = .inr txOver := by
  unfold countE; rw [if_neg (by simp), if_neg (by rw [h]; simp), if_pos]
  rw [if_pos rfl, h]; exact h2
theorem countE_ok {t : ByteArray} {BY : Int → Int → Int × Int} {st was sum : Int} (h : intV t = (was, 0)) (h2 : BY was st = (sum, 0)) : countE true true t BY st = .inl sum := by
  unfold countE; rw [if_neg (by simp), if_neg (by rw [h]; simp), if_neg, if_pos rfl, h, h2]
  rw [if_pos rfl, h, h2]; simp
theorem less_back {was n sum : Int} (hw : -9223372036854775808 ≤ was ∧ was ≤ 9223372036854775807) (hn : -9223372036854775808 ≤ n ∧ n ≤ 9223372036854775807) (h : addV was n = (sum, 0)) : lessV sum n = (was, 0) := by
  unfold addV at h
  split at h
  · rename_i hr
    obtain rfl : was + n = sum := by simpa using h
    unfold lessV
    by_cases hm : n ≠ -9223372036854775808
    · rw [if_pos hm]
      unfold addV
      rw [if_pos (by omega)]
      simp; omega
    · rw [if_neg hm, if_neg (by omega)]
      simp
  · simp at h
theorem add_ok {a b : Int} (h : (addV a b).2 = 0) : ∃ s, addV a b = (s, 0) ∧ -9223372036854775808 ≤ s ∧ s ≤ 9223372036854775807 := by
  unfold addV at h ⊢
  split
  · rename_i hr; exact ⟨_, rfl, hr⟩
  · rename_i hr; rw [if_neg hr] at h; simp at h
theorem less_one {a : Int} (h : (addV a 1).2 ≠ 0) (ha : -9223372036854775808 ≤ a ∧ a ≤ 9223372036854775807) : ∃ s, lessV a 1 = (s, 0) ∧ -9223372036854775808 ≤ s ∧ s ≤ 9223372036854775807 := by
  unfold addV at h
  split at h
  · simp at h
  · unfold lessV addV
    rw [if_pos (by decide), if_pos (by omega)]
    exact ⟨_, rfl, by omega⟩
theorem intV_one : intV ⟨#[51]⟩ = (((3 : Nat) : Int), 0) := by decide +kernel
/-- What is held between the law's steps. -/
structure St (w W : World) (sp : Nat) (S : SS) (m : Nat) (N0 : Nat) (z : ByteArray) (D : Int) : Prop where
  a : At W sp S m
  k : Keeps [] w W
  f : ∀ b ∈ foot S sp, N0 ≤ b
  n : w.heap.size ≤ N0
  al : S.al kK = some (Val.text z, D)
  z : N0 ≤ W.heap.size
theorem dlV_al {S S' : SS} {k : ByteArray} {o : Option Nat} {v : Val} {d : Int} (inv : S.Inv) (h : MetR S k S' o) (hal : S.al k = some (v, d)) : dlV S' o = .tuple #[.int .i64 d, .bool (decide (d ≠ 0))] := by
  have mf := met_facts inv h
  cases o with
  | none => rw [(mf.none rfl).1] at hal; cases hal
  | some b =>
    have h2 := (mf.some b rfl).2
    rw [hal] at h2
    simp only [Option.some.injEq, Prod.mk.injEq] at h2
    unfold dlV
    show (if (S'.ents b).dl = 0 then _ else _) = _
    rw [← h2.2]
    by_cases h0 : d = 0
    · rw [if_pos h0, h0]; rfl
    · rw [if_neg h0, show decide (d ≠ 0) = true by simpa using h0]
/-- The three replies that the law holds at once. -/
abbrev Tri (b1 b2 b3 : Nat) (sum was : Int) (t : ByteArray) (W0 W : World) : Prop :=
  (W.cell? ⟨b1, 0, none⟩ = some (.int .i64 3) ∧ W.cell? ⟨b1, 1, none⟩ = some (.string ByteArray.empty) ∧ W.cell? ⟨b1, 2, none⟩ = some (.int .i64 sum) ∧ W.cell? ⟨b1, 3, none⟩ = some (.slice none 0 0)) ∧ (W.cell? ⟨b2, 0, none⟩ = some (.int .i64 3) ∧ W.cell? ⟨b2, 1, none⟩ = some (.string ByteArray.empty) ∧ W.cell? ⟨b2, 2, none⟩ = some (.int .i64 was) ∧ W.cell? ⟨b2, 3, none⟩ = some (.slice none 0 0)) ∧ (W.cell? ⟨b3, 0, none⟩ = some (.int .i64 4) ∧ W.cell? ⟨b3, 1, none⟩ = some (.string t) ∧ W.cell? ⟨b3, 2, none⟩ = some (.int .i64 0) ∧ W.cell? ⟨b3, 3, none⟩ = some (.slice none 0 0)) ∧ Keeps [] W0 W
theorem keep_cell {W w' : World} {b o : Nat} {v : Value} (k : Keeps [] W w') (h : W.cell? ⟨b, o, none⟩ = some v) : w'.cell? ⟨b, o, none⟩ = some v := by
  exact cell_far k (World.block_lt_of_cell? W _ h) (by simp) h
theorem Tri.next {b1 b2 b3 : Nat} {sum was : Int} {t : ByteArray} {W0 W w' : World} (h : Tri b1 b2 b3 sum was t W0 W) (k : Keeps [] W w') : Tri b1 b2 b3 sum was t W0 w' :=
  ⟨⟨keep_cell k h.1.1, keep_cell k h.1.2.1, keep_cell k h.1.2.2.1, keep_cell k h.1.2.2.2⟩, ⟨keep_cell k h.2.1.1, keep_cell k h.2.1.2.1, keep_cell k h.2.1.2.2.1, keep_cell k h.2.1.2.2.2⟩, ⟨keep_cell k h.2.2.1.1, keep_cell k h.2.2.1.2.1, keep_cell k h.2.2.1.2.2.1, keep_cell k h.2.2.1.2.2.2⟩, h.2.2.2.trans k⟩
theorem Tri.k (b1 b2 b3 : Nat) (sum was : Int) (t : ByteArray) (W0 W : World) (h : Tri b1 b2 b3 sum was t W0 W) : Keeps [] W0 W := h.2.2.2
theorem Tri.all {b1 b2 b3 : Nat} {sum was : Int} {t : ByteArray} {W0 W : World} (p0 : W.cell? ⟨b1, 0, none⟩ = some (.int .i64 3)) (p1 : W.cell? ⟨b1, 1, none⟩ = some (.string ByteArray.empty)) (p2 : W.cell? ⟨b1, 2, none⟩ = some (.int .i64 sum)) (p3 : W.cell? ⟨b1, 3, none⟩ = some (.slice none 0 0)) (q0 : W.cell? ⟨b2, 0, none⟩ = some (.int .i64 3)) (q1 : W.cell? ⟨b2, 1, none⟩ = some (.string ByteArray.empty)) (q2 : W.cell? ⟨b2, 2, none⟩ = some (.int .i64 was)) (q3 : W.cell? ⟨b2, 3, none⟩ = some (.slice none 0 0)) (r0 : W.cell? ⟨b3, 0, none⟩ = some (.int .i64 4)) (r1 : W.cell? ⟨b3, 1, none⟩ = some (.string t)) (r2 : W.cell? ⟨b3, 2, none⟩ = some (.int .i64 0)) (r3 : W.cell? ⟨b3, 3, none⟩ = some (.slice none 0 0)) (k : Keeps [] W0 W) : Tri b1 b2 b3 sum was t W0 W := ⟨⟨p0, p1, p2, p3⟩, ⟨q0, q1, q2, q3⟩, ⟨r0, r1, r2, r3⟩, k⟩
theorem Tri.of {b1 b2 b3 : Nat} {sum was : Int} {t : ByteArray} {W0 : World} (h1 : W0.heap[b1]? = some (.cells #[.int .i64 3, .string ByteArray.empty, .int .i64 sum, .slice none 0 0] 28 (0, 0))) (h2 : W0.heap[b2]? = some (.cells #[.int .i64 3, .string ByteArray.empty, .int .i64 was, .slice none 0 0] 28 (0, 0))) (h3 : W0.heap[b3]? = some (.cells #[.int .i64 4, .string t, .int .i64 0, .slice none 0 0] 28 (0, 0))) : Tri b1 b2 b3 sum was t W0 W0 :=
  ⟨(four_facts h1).1, (four_facts h2).1, (four_facts h3).1, Keeps.refl _ _⟩
theorem join_ok {S : SS} {q z : ByteArray} {D : Int} (h : S.al q = some (Val.text z, D)) (hz : z.size ≤ 1048576) : joinV (txtOf (S.al q)) ⟨#[]⟩ = (z ++ ⟨#[]⟩, 0) := by
  rw [h]
  exact if_pos (by show z.size + 0 ≤ 1048576; omega)
theorem over_x : overlayV ⟨#[120]⟩ ((3 : Nat) : Int) ⟨#[121]⟩ = (⟨#[120, 0, 0, 121]⟩, 0) := by decide +kernel
theorem bit_x : setBitV ⟨#[120, 0, 0, 121]⟩ 9 1 = (⟨#[120, 64, 0, 121]⟩, 0, 0) := by decide +kernel
theorem countE_there {S : SS} {q t : ByteArray} {D : Int} {BY : Int → Int → Int × Int} {st : Int} {x : Int ⊕ ByteArray} (h : S.al q = some (Val.text t, D)) (hx : countE true true t BY st = x) : countE true (S.al q).isSome (txtOf (S.al q)) BY st = x := by
  rw [h]; exact hx
theorem countQ_al {S S' : SS} {q t z : ByteArray} {D : Int} {BY : Int → Int → Int × Int} {st k i : Int} (h : CountQ S q BY st k t i S') (hal : S.al q = some (Val.text z, D)) : ∃ z', S'.al q = some (Val.text z', D) := by
  unfold CountQ at h
  split at h
  · exact ⟨z, by rw [h.2.2.2.at_, hal]⟩
  · exact ⟨_, by rw [h.2.2.2.at_, hal]; rfl⟩
theorem St.keeps {w W W' : World} {sp : Nat} {S : SS} {m N0 : Nat} {z : ByteArray} {D : Int} (h : St w W sp S m N0 z D) (hk : Keeps [] W W') : St w W' sp S m N0 z D := ⟨h.a.keeps0 hk, h.k.trans hk, h.f, h.n, h.al, Nat.le_trans h.z hk.size⟩
theorem St.next {w W W' : World} {sp : Nat} {S S' : SS} {m m' N0 : Nat} {z z' : ByteArray} {D D' : Int} (h : St w W sp S m N0 z D) (ha : At W' sp S' m') (hn : Next sp W S W' S') (hal : S'.al kK = some (Val.text z', D')) : St w W' sp S' m' N0 z' D' :=
  ⟨ha, h.k.step hn.k (fun b hb => .inr (Nat.le_trans h.n (h.f b hb))), fun b hb => by
    rcases hn.b b hb with h1 | h1
    · exact h.f b h1
    · have := h.z; omega, h.n, hal, Nat.le_trans h.z hn.k.size⟩
theorem St.sz {w W : World} {sp : Nat} {S : SS} {m N0 : Nat} {z : ByteArray} {D : Int} (h : St w W sp S m N0 z D) : z.size ≤ 1048576 := by
  obtain ⟨s, h1, h2⟩ := al_text h.a h.al
  have h3 := congrArg Val.txt h1
  obtain rfl : z = s := by simpa [Val.text] using h3
  exact h2
set_option maxRecDepth 100000 in
set_option maxHeartbeats 16000000 in
theorem lawC (s : ByteArray) (n at_ : Int) (w : World) (hs : s.size ≤ 9223372036854775807) (hn : -9223372036854775808 ≤ n ∧ n ≤ 9223372036854775807) (hat : -9223372036854775808 ≤ at_ ∧ at_ ≤ 9223372036854775807) (he : Env w) (hz : 20 ≤ w.heap.size) :
    Calls Tryz.prog 3 #[.string s, .int .i64 n, .int .i64 at_] w fun r w' => r = .returned (.bool true) ∧ Keeps [] w w' := by
  have HW := khid (wakesC w he hz)
  have HE := khid he
  have HN := khid hn
  have HAT := khid hat
  obtain ⟨hat1, hat2⟩ := hat
  have HHZ := khid hz
  clear he hz hn
  go_enter Tryz.func3, Tryz.ntmps3
  go_wp2_with fail
  refine HW.out.mono ?_
  rintro r w1 ⟨rfl, k1⟩
  have K1 := khid k1
  have HSP := khid (spaceC w1 (HE.out.keeps k1 (by simp) HHZ.out) (by have := k1.size; have := HHZ.out; omega))
  clear k1
  go_wp2_with fail
  refine HSP.out.mono ?_
  rintro r w2 ⟨sp, mb, lb, tb, rfl, a0, k0, hsp, hf0⟩
  have K2 := khid (K1.out.trans k0)
  have hal0 := newS_al 5 mb lb tb
  have hnow0 : (newS 5 mb lb tb).now = 0 := rfl
  obtain ⟨S0, hS0⟩ : ∃ S0, S0 = newS 5 mb lb tb := ⟨_, rfl⟩
  rw [← hS0] at a0 hf0 hal0 hnow0
  have A0 := khid a0
  have HF0 := khid hf0
  have HAL0 := khid hal0
  have HNOW := khid hnow0
  have HN1 := khid (show w.heap.size ≤ w1.heap.size from K1.out.size)
  have HN2 := khid (show w1.heap.size ≤ w2.heap.size from k0.size)
  clear a0 k0 hsp hf0 hal0 hnow0 hS0
  unfold dp
  go_wp2_with fail
  have hsh := shortC s w2.heap.size (w2.alloc (.cells #[.string s] 9)) (by rw [cell_at (alloc_new _ _)]; rfl) hs
  by_cases hl : s.size ≤ 1048576
  · rw [show decide (s.size ≤ 1048576) = true by simpa using hl] at hsh
    refine hsh.mono ?_
    clear hsh
    rintro r w3 ⟨rfl, rfl⟩
    have kw : Keeps [] w2 (w2.alloc (.cells #[.string s] 9)) := (Keeps.refl _ _).alloc _
    have A1 := khid (A0.out.keeps0 kw)
    have K3 := khid (K2.out.trans kw)
    have HN3 := khid (show w1.heap.size ≤ (w2.alloc (.cells #[.string s] 9)).heap.size by have := HN2.out; simp; omega)
    clear kw
    go_wp2_with fail
    have hc := saidSet sp S0 999000 ⟨#[83, 69, 84]⟩ kK s _ (A1.out.mono (by omega)) (by decide) (by decide) hl rfl
    rw [World.size_alloc] at hc
    unfold dp at hc
    refine hc.mono ?_
    clear hc
    rintro r w4 ⟨kk, tt, ii, ok, S1, rfl, hq, a', n'⟩
    obtain ⟨rfl, rfl, rfl, rfl, hal⟩ := hq
    have Q1 := khid (show St w w4 sp S1 999000 w1.heap.size s 0 from ⟨a', K3.out.step n'.k (fun b hb => .inr (Nat.le_trans HN1.out (HF0.out b hb))), fun b hb => by
      rcases n'.b b hb with h1 | h1
      · exact HF0.out b h1
      · exact Nat.le_trans HN3.out h1, HN1.out, hal.at_, Nat.le_trans HN3.out n'.k.size⟩)
    have HNOW1 := khid (show S1.now = 0 from hal.same.now.trans HNOW.out)
    clear a' n' hal
    unfold repV
    go_upto_region 7 with (fail)
    go_cut [8] (fun t wx => ∃ w5 tm D S2, w5 = wx ∧ t = .bool tm ∧ Hid (St w wx sp S2 998000 w1.heap.size s D ∧ ((tm = true ∧ D = at_ ∧ D ≠ 0) ∨ (tm = false ∧ D = 0))))
    case first => as_aux_lemma =>
      by_cases hd1 : 0 < at_
      · by_cases hd2 : at_ ≤ 9007199254740992
        · have hsd := setDlC sp S1 kK at_ w4 Q1.out.a.mem Q1.out.a.inv (by decide) (Q1.out.a.room.mono (by omega))
          unfold dp at hsd
          go_wp2_with fail
          refine hsd.mono ?_
          clear hsd
          rintro r w5 ⟨S2, bb, rfl, hdl, m2, n2⟩
          have hf := dl_facts Q1.out.a.inv hdl
          rw [Q1.out.al] at hf
          simp only at hf
          rw [if_neg (by omega), if_neg (by rw [HNOW1.out]; omega)] at hf
          obtain ⟨hcf, rfl⟩ := hf
          have hQ : St w w5 sp S2 998000 w1.heap.size s at_ := Q1.out.next (Q1.out.a.next n2 m2 (dl_inv Q1.out.a.inv hdl) (dl_room Q1.out.a.inv hdl (Q1.out.a.room.mono (by omega)))) n2 (by rw [hcf.al, if_pos rfl])
          clear hdl hcf m2 n2
          go_wp2_with fail
          go_meet
          exact ⟨_, true, at_, S2, rfl, rfl, khid ⟨hQ, .inl ⟨rfl, rfl, by omega⟩⟩⟩
        · go_wp2_with fail
          go_meet
          exact ⟨_, false, 0, S1, rfl, rfl, khid ⟨⟨Q1.out.a.mono (by omega), Q1.out.k, Q1.out.f, Q1.out.n, Q1.out.al, Q1.out.z⟩, .inr ⟨rfl, rfl⟩⟩⟩
      · go_wp2_with fail
        go_meet
        exact ⟨_, false, 0, S1, rfl, rfl, khid ⟨⟨Q1.out.a.mono (by omega), Q1.out.k, Q1.out.f, Q1.out.n, Q1.out.al, Q1.out.z⟩, .inr ⟨rfl, rfl⟩⟩⟩
    case rest =>
      obtain ⟨w5, tm, D, S2, rfl, rfl, hQ⟩ := hcut
      have Q2 := khid hQ.out.1
      have HD := khid hQ.out.2
      clear hQ Q1 HNOW1 HNOW
      obtain ⟨was, code, hw⟩ : ∃ was code, intV s = (was, code) := ⟨_, _, rfl⟩
      have HW := khid hw
      have HWB := khid (show -9223372036854775808 ≤ was ∧ was ≤ 9223372036854775807 by have := intV_bd s; rw [hw] at this; exact this)
      have hint := intC s w5 Q2.out.a.env (by have := Q2.out.sz; omega)
      rw [hw] at hint
      clear hw
      go_wp2_with fail
      refine hint.mono ?_
      clear hint
      rintro r w6 ⟨rfl, k6⟩
      have Q3 := khid (Q2.out.keeps k6)
      clear Q2 k6
      go_wp2_with fail
      refine (textNC n w6 HN.out Q3.out.a.env).mono ?_
      rintro r w7 ⟨rfl, k7⟩
      have Q4 := khid (Q3.out.keeps k7)
      clear Q3 k7
      go_wp2_with fail
      have hc := saidIncrby sp S2 997000 ⟨#[73, 78, 67, 82, 66, 89]⟩ kK (itoaS n) n _ (Q4.out.a.mono (by omega)) (by decide) (by decide) (itoaS_le n HN.out) rfl (intV_itoa n HN.out)
      unfold dp at hc
      refine hc.mono ?_
      clear hc
      rintro r w8 ⟨kkw8, ttw8, iiw8, okw8, S3, rfl, hq, a', n'⟩
      obtain ⟨rfl, hq⟩ := hq
      have hal := countQ_al hq Q4.out.al
      obtain ⟨z3, hal⟩ := hal
      have HQ1 := khid hq
      clear hq
      have kal : Keeps [] w8 (w8.alloc (.cells #[.int .i64 (kkw8), .string (ttw8), .int .i64 (iiw8), .slice none 0 0] 28)) := (Keeps.refl _ _).alloc _
      have R1 := khid (Rep.new a' (kkw8) (iiw8) (ttw8))
      have Q5 := khid ((Q4.out.next a' n' hal).keeps kal)
      clear kal a' n' hal
      unfold repV
      by_cases hcode : code ≠ 0
      · go_wp2_with fail
        have hc := saidIncr sp S3 996000 ⟨#[73, 78, 67, 82]⟩ kK _ (Q5.out.a.mono (by omega)) (by decide) (by decide) rfl
        rw [World.size_alloc] at hc
        unfold dp at hc
        refine hc.mono ?_
        clear hc
        rintro r w9 ⟨kkw9, ttw9, iiw9, okw9, S4, rfl, hq, a', n'⟩
        obtain ⟨rfl, hq⟩ := hq
        obtain ⟨rfl, rfl, rfl, h3⟩ := countQ_inr HQ1.out (countE_there Q4.out.al (countE_bad (by rw [HW.out]; exact hcode)))
        have h4 := h3.at_
        rw [Q4.out.al] at h4
        obtain ⟨rfl, rfl, rfl, h5⟩ := countQ_inr hq (countE_there h4 (countE_bad (by rw [HW.out]; exact hcode)))
        obtain ⟨z4, hal⟩ := countQ_al hq Q5.out.al
        clear h3 h4 h5 hq
        have kal : Keeps [] w9 (w9.alloc (.cells #[.int .i64 (2), .string (txInt), .int .i64 (0), .slice none 0 0] 28)) := (Keeps.refl _ _).alloc _
        have R1 := khid ((R1.out.next n').keeps kal)
        have R2 := khid (Rep.new a' (2) (0) (txInt))
        have Q6 := khid ((Q5.out.next a' n' hal).keeps kal)
        clear kal a' n' hal
        unfold repV
        have hr := (R1.out).h
        obtain ⟨⟨x0, x1, x2, x3⟩, _⟩ := four_facts hr
        clear hr
        go_wp2_with fail
        have hi := fun V : World => errTC txInt V
        unfold repV at hi
        refine (hi _).mono ?_
        clear hi x0 x1 x2 x3
        rintro r v1 ⟨rfl, kk1⟩
        have KK1 := khid kk1
        clear kk1
        have hr := (R2.out.keeps KK1.out).h
        obtain ⟨⟨x0, x1, x2, x3⟩, _⟩ := four_facts hr
        clear hr
        go_wp2_with fail
        have hi := fun V : World => errTC txInt V
        unfold repV at hi
        refine (hi _).mono ?_
        clear hi x0 x1 x2 x3
        rintro r v2 ⟨rfl, kk1⟩
        have KK2 := khid (KK1.out.trans kk1)
        clear kk1
        go_wp2_with fail
        go_ret
        exact ⟨rfl, Q6.out.k.trans KK2.out⟩

      · have hcode0 : code = 0 := by simpa using hcode
        subst hcode0
        clear hcode
        have hadd := addC was n (w8.alloc (.cells #[.int .i64 kkw8, .string ttw8, .int .i64 iiw8, .slice none 0 0] 28)) HWB.out HN.out
        obtain ⟨sum, ov, hs⟩ : ∃ sum ov, addV was n = (sum, ov) := ⟨_, _, rfl⟩
        have HS := khid hs
        rw [hs] at hadd
        clear hs
        go_wp2_with fail
        refine hadd.mono ?_
        clear hadd
        rintro r w' ⟨rfl, rfl⟩
        by_cases hov0 : ov ≠ 0
        · have hov : (addV was n).2 ≠ 0 := by rw [HS.out]; exact hov0
          go_wp2_with fail
          have hc := saidGet sp S3 996000 ⟨#[71, 69, 84]⟩ kK _ (Q5.out.a.mono (by omega)) (by decide) (by decide) rfl
          rw [World.size_alloc] at hc
          unfold dp at hc
          refine hc.mono ?_
          clear hc
          rintro r w9 ⟨kkw9, ttw9, iiw9, okw9, S4, rfl, hq, a', n'⟩
          obtain ⟨rfl, rfl, rfl, h3⟩ := countQ_inr HQ1.out (countE_there Q4.out.al (countE_over HW.out hov))
          have h4 := h3.at_
          rw [Q4.out.al] at h4
          obtain ⟨h5, h6, rfl, rfl, h7⟩ := hq
          rw [h4] at h5 h6
          obtain rfl : kkw9 = 4 := h5
          have h6' : ttw9 = s := h6
          clear h6
          subst h6'
          have hal := h7.at_
          rw [Q5.out.al] at hal
          clear h3 h4 h7
          have kal : Keeps [] w9 (w9.alloc (.cells #[.int .i64 (4), .string (ttw9), .int .i64 (0), .slice none 0 0] 28)) := (Keeps.refl _ _).alloc _
          have R1 := khid ((R1.out.next n').keeps kal)
          have R2 := khid (Rep.new a' (4) (0) (ttw9))
          have Q6 := khid ((Q5.out.next a' n' hal).keeps kal)
          clear kal a' n' hal
          unfold repV
          have hr := (R1.out).h
          obtain ⟨⟨x0, x1, x2, x3⟩, _⟩ := four_facts hr
          clear hr
          go_wp2_with fail
          have hi := fun V : World => errTC txOver V
          unfold repV at hi
          refine (hi _).mono ?_
          clear hi x0 x1 x2 x3
          rintro r v1 ⟨rfl, kk1⟩
          have KK1 := khid kk1
          clear kk1
          have hr := (R2.out.keeps KK1.out).h
          obtain ⟨⟨x0, x1, x2, x3⟩, _⟩ := four_facts hr
          clear hr
          go_wp2_with fail
          have hi := fun V : World => isTC 4 0 ttw9 V
          unfold repV at hi
          refine (hi _).mono ?_
          clear hi x0 x1 x2 x3
          rintro r v2 ⟨rfl, kk1⟩
          have KK2 := khid (KK1.out.trans kk1)
          clear kk1
          go_wp2_with fail
          go_ret
          exact ⟨rfl, Q6.out.k.trans KK2.out⟩

        · have hov1 : ov = 0 := by simpa using hov0
          subst hov1
          clear hov0
          go_wp2_with fail
          obtain ⟨h31, h32, h33, h3⟩ := countQ_inl HQ1.out (countE_there Q4.out.al (countE_ok HW.out HS.out))
          subst h31 h32
          obtain rfl : sum = iiw8 := h33.symm
          have h4 := h3.at_
          rw [Q4.out.al] at h4
          have H4 := khid (show S3.al kK = some (Val.text (itoaS sum), D) from h4)
          obtain ⟨s2, hs2, hsb⟩ := add_ok (a := was) (b := n) (by rw [HS.out])
          rw [HS.out] at hs2
          obtain rfl : sum = s2 := by simpa using hs2
          have HSB := khid hsb
          clear h3 h4 hs2 hsb HQ1 Q4 h33
          refine (textNC n _ HN.out Q5.out.a.env).mono ?_
          rintro r w9 ⟨rfl, k9⟩
          have R1 := khid (R1.out.keeps k9)
          have Q5 := khid (Q5.out.keeps k9)
          clear k9
          go_wp2_with fail
          have hc := saidDecrby sp S3 995000 ⟨#[68, 69, 67, 82, 66, 89]⟩ kK (itoaS n) n _ (Q5.out.a.mono (by omega)) (by decide) (by decide) (itoaS_le n HN.out) rfl (intV_itoa n HN.out)
          unfold dp at hc
          refine hc.mono ?_
          clear hc
          rintro r w10 ⟨kkw10, ttw10, iiw10, okw10, S4, rfl, hq, a', n'⟩
          obtain ⟨rfl, hq⟩ := hq
          obtain ⟨h31, h32, h33, h3⟩ := countQ_inl hq (countE_there H4.out (countE_ok (intV_itoa sum HSB.out) (less_back HWB.out HN.out HS.out)))
          subst h31 h32
          obtain rfl : was = iiw10 := h33.symm
          have h4 := h3.at_
          rw [H4.out] at h4
          have hal : S4.al kK = some (Val.text (itoaS was), D) := h4
          clear h3 h4 h33
          have kal : Keeps [] w10 (w10.alloc (.cells #[.int .i64 (3), .string (ByteArray.empty), .int .i64 (was), .slice none 0 0] 28)) := (Keeps.refl _ _).alloc _
          have R1 := khid ((R1.out.next n').keeps kal)
          have R2 := khid (Rep.new a' (3) (was) (ByteArray.empty))
          have Q6 := khid ((Q5.out.next a' n' hal).keeps kal)
          clear kal a' n' hal
          unfold repV
          go_wp2_with fail
          have hc := saidGet sp S4 994000 ⟨#[71, 69, 84]⟩ kK _ (Q6.out.a.mono (by omega)) (by decide) (by decide) rfl
          rw [World.size_alloc] at hc
          unfold dp at hc
          refine hc.mono ?_
          clear hc
          rintro r w11 ⟨kkw11, ttw11, iiw11, okw11, S5, rfl, hq, a', n'⟩
          obtain ⟨h5, h6, rfl, rfl, h7⟩ := hq
          rw [Q6.out.al] at h5 h6
          obtain rfl : kkw11 = 4 := h5
          have h6' : ttw11 = itoaS was := h6
          clear h6
          subst h6'
          have hal := h7.at_
          rw [Q6.out.al] at hal
          clear h7
          have kal : Keeps [] w11 (w11.alloc (.cells #[.int .i64 (4), .string ((itoaS was)), .int .i64 (0), .slice none 0 0] 28)) := (Keeps.refl _ _).alloc _
          have R1 := khid ((R1.out.next n').keeps kal)
          have R2 := khid ((R2.out.next n').keeps kal)
          have R3 := khid (Rep.new a' (4) (0) ((itoaS was)))
          have Q7 := khid ((Q6.out.next a' n' hal).keeps kal)
          clear kal a' n' hal
          unfold repV
          obtain ⟨W0, hW0⟩ : ∃ W0, W0 = w11.alloc (.cells #[.int .i64 (4), .string (itoaS was), .int .i64 (0), .slice none 0 0] 28) := ⟨_, rfl⟩
          rw [← hW0] at R1 R2 R3 Q7
          go_upto_region 19 with (fail)
          rw [← hW0]
          clear hW0
          go_cut [130] (fun t wx => ∃ w12, w12 = wx ∧ t = .bool false ∧ Hid (Keeps [] W0 wx))
          case first J1 K1 hJ1 hK1 => as_aux_lemma =>
            have hS0 : Tri w8.heap.size w10.heap.size w11.heap.size sum was (itoaS was) W0 W0 := Tri.of R1.out.h R2.out.h R3.out.h
            have HI := khid isTC
            have HT := khid (fun W (hk : Keeps [] W0 W) => textNC was W HWB.out (Q7.out.keeps hk).a.env)
            clear R1 R2 R3 Q7 Q6 Q5
            unfold repV at HI
            go_region_held3 (fun W => (W.cell? ⟨w8.heap.size, 0, none⟩ = some (.int .i64 3) ∧ W.cell? ⟨w8.heap.size, 1, none⟩ = some (.string ByteArray.empty) ∧ W.cell? ⟨w8.heap.size, 2, none⟩ = some (.int .i64 sum) ∧ W.cell? ⟨w8.heap.size, 3, none⟩ = some (.slice none 0 0)) ∧ (W.cell? ⟨w10.heap.size, 0, none⟩ = some (.int .i64 3) ∧ W.cell? ⟨w10.heap.size, 1, none⟩ = some (.string ByteArray.empty) ∧ W.cell? ⟨w10.heap.size, 2, none⟩ = some (.int .i64 was) ∧ W.cell? ⟨w10.heap.size, 3, none⟩ = some (.slice none 0 0)) ∧ (W.cell? ⟨w11.heap.size, 0, none⟩ = some (.int .i64 4) ∧ W.cell? ⟨w11.heap.size, 1, none⟩ = some (.string (itoaS was)) ∧ W.cell? ⟨w11.heap.size, 2, none⟩ = some (.int .i64 0) ∧ W.cell? ⟨w11.heap.size, 3, none⟩ = some (.slice none 0 0)) ∧ Keeps [] W0 W)
              (first | assumption | exact hS0 | exact Tri.next hS0 ((Keeps.refl _ _).drew) | (go_keep; done))
              (first | (go_at_call 13; refine (HI.out _ _ _ _).mono ?_; rintro e w9 ⟨rfl, k9⟩; have hS9 : Tri w8.heap.size w10.heap.size w11.heap.size sum was (itoaS was) W0 w9 := Tri.next (by assumption) k9) | (go_at_call 10; refine (HT.out _ (Tri.k w8.heap.size w10.heap.size w11.heap.size sum was (itoaS was) W0 _ (by assumption))).mono ?_; rintro e w9 ⟨rfl, k9⟩; have hS9 : Tri w8.heap.size w10.heap.size w11.heap.size sum was (itoaS was) W0 w9 := Tri.next (by assumption) k9))
            all_goals
              refine hK1 _ _ (Met.intro (hJ1 _ _ ?_))
              (repeat apply Exists.intro)
              refine ⟨⟨_, rfl, rfl, khid (Tri.k w8.heap.size w10.heap.size w11.heap.size sum was (itoaS was) W0 _ (by assumption))⟩, rfl⟩
          case rest =>
            obtain ⟨v4, rfl, rfl, hK⟩ := hcut
            have Q8 := khid (Q7.out.keeps hK.out)
            clear hK Q7 R1 R2 R3 Q6 Q5 HS
            go_wp2_with fail
            have hc := saidIncr sp S5 993000 ⟨#[73, 78, 67, 82]⟩ kK _ (Q8.out.a.mono (by omega)) (by decide) (by decide) rfl
            unfold dp at hc
            refine hc.mono ?_
            clear hc
            rintro r w12 ⟨kkw12, ttw12, iiw12, okw12, S6, rfl, hq, a', n'⟩
            obtain ⟨rfl, hq⟩ := hq
            obtain ⟨z5, hal⟩ := countQ_al hq Q8.out.al
            have HQ2 := khid hq
            have H8 := khid Q8.out.al
            clear hq
            have kal : Keeps [] w12 (w12.alloc (.cells #[.int .i64 (kkw12), .string (ttw12), .int .i64 (iiw12), .slice none 0 0] 28)) := (Keeps.refl _ _).alloc _
            have R4 := khid (Rep.new a' (kkw12) (iiw12) (ttw12))
            have Q9 := khid ((Q8.out.next a' n' hal).keeps kal)
            clear kal a' n' hal
            unfold repV
            go_wp2_with fail
            have hc := saidDecr sp S6 992000 ⟨#[68, 69, 67, 82]⟩ kK _ (Q9.out.a.mono (by omega)) (by decide) (by decide) rfl
            rw [World.size_alloc] at hc
            unfold dp at hc
            refine hc.mono ?_
            clear hc
            rintro r w13 ⟨kkw13, ttw13, iiw13, okw13, S7, rfl, hq, a', n'⟩
            obtain ⟨rfl, hq⟩ := hq
            obtain ⟨z6, hal⟩ := countQ_al hq Q9.out.al
            have HQ3 := khid hq
            clear hq
            have kal : Keeps [] w13 (w13.alloc (.cells #[.int .i64 (kkw13), .string (ttw13), .int .i64 (iiw13), .slice none 0 0] 28)) := (Keeps.refl _ _).alloc _
            have R4 := khid ((R4.out.next n').keeps kal)
            have R5 := khid (Rep.new a' (kkw13) (iiw13) (ttw13))
            have Q10 := khid ((Q9.out.next a' n' hal).keeps kal)
            clear kal a' n' hal
            unfold repV
            go_wp2_with fail
            have hadd := addC was 1 (w13.alloc (.cells #[.int .i64 kkw13, .string ttw13, .int .i64 iiw13, .slice none 0 0] 28)) HWB.out (by omega)
            obtain ⟨more, ov2, hs⟩ : ∃ more ov2, addV was 1 = (more, ov2) := ⟨_, _, rfl⟩
            have HS2 := khid hs
            rw [hs] at hadd
            clear hs
            refine hadd.mono ?_
            clear hadd
            rintro r w' ⟨rfl, rfl⟩
            obtain ⟨W13, hW13⟩ : ∃ W13, W13 = w13.alloc (.cells #[.int .i64 kkw13, .string ttw13, .int .i64 iiw13, .slice none 0 0] 28) := ⟨_, rfl⟩
            rw [← hW13] at R4 R5 Q10
            go_upto_region 24 with (fail)
            rw [← hW13]
            clear hW13
            go_cut [170] (fun t wx => ∃ w14, w14 = wx ∧ t = .bool false ∧ Hid (Keeps [] W13 wx))
            case first => as_aux_lemma =>
              by_cases hov : ov2 ≠ 0
              · obtain ⟨rfl, rfl, rfl, h3⟩ := countQ_inr HQ2.out (countE_there H8.out (countE_over (intV_itoa was HWB.out) (by rw [HS2.out]; exact hov)))
                have hr := (R4.out).h
                obtain ⟨⟨x0, x1, x2, x3⟩, _⟩ := four_facts hr
                clear hr
                go_wp2_with fail
                have hi := fun V : World => errTC txOver V
                unfold repV at hi
                refine (hi _).mono ?_
                clear hi x0 x1 x2 x3
                rintro r v1 ⟨rfl, kk1⟩
                have KK1 := khid kk1
                clear kk1
                go_wp2_with fail
                go_meet
                exact ⟨_, rfl, rfl, khid KK1.out⟩
              · obtain rfl : (0 : Int) = ov2 := by omega
                obtain ⟨h31, h32, h33, h3⟩ := countQ_inl HQ2.out (countE_there H8.out (countE_ok (intV_itoa was HWB.out) HS2.out))
                subst h31 h32
                obtain rfl : more = iiw12 := h33.symm
                have h4 := h3.at_
                rw [H8.out] at h4
                obtain ⟨s2, hs2, hsb⟩ := add_ok (a := was) (b := 1) (by rw [HS2.out])
                rw [HS2.out] at hs2
                obtain rfl : more = s2 := by simpa using hs2
                obtain ⟨h41, h42, h43, h5⟩ := countQ_inl HQ3.out (countE_there h4 (countE_ok (intV_itoa more hsb) (less_back HWB.out (by omega) HS2.out)))
                subst h41 h42
                obtain rfl : was = iiw13 := h43.symm
                clear h3 h4 h5 hs2 h33 h43
                have hr := (R4.out).h
                obtain ⟨⟨x0, x1, x2, x3⟩, _⟩ := four_facts hr
                clear hr
                go_wp2_with fail
                have hi := fun V : World => isTC 3 more ByteArray.empty V
                unfold repV at hi
                refine (hi _).mono ?_
                clear hi x0 x1 x2 x3
                rintro r v1 ⟨rfl, kk1⟩
                have KK1 := khid kk1
                clear kk1
                have hr := (R5.out.keeps KK1.out).h
                obtain ⟨⟨x0, x1, x2, x3⟩, _⟩ := four_facts hr
                clear hr
                go_wp2_with fail
                have hi := fun V : World => isTC 3 was ByteArray.empty V
                unfold repV at hi
                refine (hi _).mono ?_
                clear hi x0 x1 x2 x3
                rintro r v2 ⟨rfl, kk1⟩
                have KK2 := khid (KK1.out.trans kk1)
                clear kk1
                go_wp2_with fail
                go_meet
                exact ⟨_, rfl, rfl, khid KK2.out⟩
            case rest =>
              obtain ⟨w14, rfl, rfl, hK⟩ := hcut
              have Q11 := khid (Q10.out.keeps hK.out)
              clear hK Q10 Q9 Q8 R4 R5 HQ2 HQ3 H8 HS2 H4
              go_wp2_with fail
              have hc := saidAppend sp S7 991000 ⟨#[65, 80, 80, 69, 78, 68]⟩ kK ⟨#[]⟩ _ _ (Q11.out.a.mono (by omega)) (by decide) (by decide) (by decide) rfl (join_ok Q11.out.al Q11.out.sz)
              unfold dp at hc
              refine hc.mono ?_
              clear hc
              rintro r w15 ⟨kkw15, ttw15, iiw15, okw15, S8, rfl, hq, a', n'⟩
              have h := hq.at_
              rw [Q11.out.al] at h
              have hal : S8.al kK = some (Val.text (z6 ++ ⟨#[]⟩), D) := h
              clear hq h
              have Q12 := khid (Q11.out.next a' n' hal)
              clear a' n' hal
              unfold repV
              go_wp2_with fail
              have hc := saidKeep sp S8 990000 ⟨#[83, 69, 84]⟩ kK ⟨#[120]⟩ ⟨#[75, 69, 69, 80, 84, 84, 76]⟩ _ (Q12.out.a.mono (by omega)) (by decide) (by decide) (by decide) (by decide) rfl rfl
              unfold dp at hc
              refine hc.mono ?_
              clear hc
              rintro r w16 ⟨kkw16, ttw16, iiw16, okw16, S9, rfl, hq, a', n'⟩
              have h := hq.2.2.2.2.at_
              rw [Q12.out.al] at h
              have hal : S9.al kK = some (Val.text ⟨#[120]⟩, D) := h
              clear hq h
              have Q13 := khid (Q12.out.next a' n' hal)
              clear a' n' hal
              unfold repV
              go_wp2_with fail
              have hc := saidSetrange sp S9 989000 ⟨#[83, 69, 84, 82, 65, 78, 71, 69]⟩ kK ⟨#[51]⟩ ⟨#[121]⟩ ⟨#[120, 0, 0, 121]⟩ 3 _ (Q13.out.a.mono (by omega)) (by decide) (by decide) (by decide) (by decide) rfl intV_one (by decide) (by decide) (by rw [Q13.out.al]; exact over_x)
              unfold dp at hc
              refine hc.mono ?_
              clear hc
              rintro r w17 ⟨kkw17, ttw17, iiw17, okw17, S10, rfl, hq, a', n'⟩
              have h := hq.at_
              rw [Q13.out.al] at h
              have hal : S10.al kK = some (Val.text ⟨#[120, 0, 0, 121]⟩, D) := h
              clear hq h
              have Q14 := khid (Q13.out.next a' n' hal)
              clear a' n' hal
              unfold repV
              go_wp2_with fail
              have hc := saidSetbit sp S10 988000 ⟨#[83, 69, 84, 66, 73, 84]⟩ kK ⟨#[57]⟩ ⟨#[49]⟩ ⟨#[120, 64, 0, 121]⟩ 9 1 0 _ (Q14.out.a.mono (by omega)) (by decide) (by decide) (by decide) (by decide) rfl (by decide +kernel) (by decide +kernel) (by decide) (by decide) (by rw [Q14.out.al]; exact bit_x)
              unfold dp at hc
              refine hc.mono ?_
              clear hc
              rintro r w18 ⟨kkw18, ttw18, iiw18, okw18, S11, rfl, hq, a', n'⟩
              have h := hq.at_
              rw [Q14.out.al] at h
              have hal : S11.al kK = some (Val.text ⟨#[120, 64, 0, 121]⟩, D) := h
              clear hq h
              have Q15 := khid (Q14.out.next a' n' hal)
              clear a' n' hal
              unfold repV
              go_wp2_with fail
              have hdl := deadlineC sp S11 kK w18 Q15.out.a.mem Q15.out.a.inv (by decide) (Q15.out.a.room.mono (by omega))
              unfold dp at hdl
              refine hdl.mono ?_
              clear hdl
              rintro r w19 ⟨S12, o, rfl, hm, m', nx⟩
              rw [dlV_al Q15.out.a.inv hm Q15.out.al]
              have Q16 := khid (Q15.out.next (Q15.out.a.next nx m' (met_facts Q15.out.a.inv hm).inv (met_room Q15.out.a.inv hm (n := 987000) (Q15.out.a.room.mono (by omega)))) nx (by rw [(met_facts Q15.out.a.inv hm).al]; exact Q15.out.al))
              clear hm m' nx
              rw [show decide (D ≠ 0) = tm by rcases HD.out with ⟨h1, h2, h3⟩ | ⟨h1, h2⟩ <;> rw [h1] <;> simpa using by assumption]
              go_upto_region 31 with (fail)
              go_cut [198] (fun t wx => ∃ w20, w20 = wx ∧ t = .bool false ∧ Hid (Keeps [] w19 wx))
              case first => as_aux_lemma =>
                have KR := khid (Keeps.refl [] w19)
                rcases HD.out with ⟨h1, h2, h3⟩ | ⟨h1, h2⟩
                · clear h3
                  subst h1
                  subst h2
                  go_wp2_with fail
                  go_meet
                  exact ⟨_, rfl, rfl, KR⟩
                · clear h2
                  subst h1
                  go_wp2_with fail
                  go_meet
                  exact ⟨_, rfl, rfl, KR⟩
              case rest =>
                obtain ⟨w20, rfl, rfl, hK⟩ := hcut
                have Q17 := khid (Q16.out.keeps hK.out)
                clear hK Q16 Q15 Q14 Q13 Q12
                go_wp2_with fail
                have hc := saidGetset sp S12 986000 ⟨#[71, 69, 84, 83, 69, 84]⟩ kK ⟨#[122]⟩ _ (Q17.out.a.mono (by omega)) (by decide) (by decide) (by decide) rfl
                unfold dp at hc
                refine hc.mono ?_
                clear hc
                rintro r w21 ⟨kkw21, ttw21, iiw21, okw21, S13, rfl, hq, a', n'⟩
                have hal := hq.at_
                clear hq
                have Q18 := khid (Q17.out.next a' n' hal)
                clear a' n' hal
                unfold repV
                go_wp2_with fail
                have hdl := deadlineC sp S13 kK w21 Q18.out.a.mem Q18.out.a.inv (by decide) (Q18.out.a.room.mono (by omega))
                unfold dp at hdl
                refine hdl.mono ?_
                clear hdl
                rintro r w22 ⟨S14, o, rfl, hm, m', nx⟩
                rw [dlV_al Q18.out.a.inv hm Q18.out.al]
                have Q19 := khid (Q18.out.next (Q18.out.a.next nx m' (met_facts Q18.out.a.inv hm).inv (met_room Q18.out.a.inv hm (n := 985000) (Q18.out.a.room.mono (by omega)))) nx (by rw [(met_facts Q18.out.a.inv hm).al]; exact Q18.out.al))
                clear hm m' nx
                rw [show decide ((0 : Int) ≠ 0) = false from rfl]
                go_wp2_with fail
                go_ret
                exact ⟨rfl, Q19.out.k⟩


  · rw [show decide (s.size ≤ 1048576) = false by simpa using hl] at hsh
    refine hsh.mono ?_
    clear hsh
    rintro r w3 ⟨rfl, rfl⟩
    go_wp2_with fail
    go_ret
    exact ⟨rfl, K2.out.trans ((Keeps.refl _ _).alloc _)⟩
end Go.Proofs.YthmbhkgllfngmaaGreatDoor.ks
