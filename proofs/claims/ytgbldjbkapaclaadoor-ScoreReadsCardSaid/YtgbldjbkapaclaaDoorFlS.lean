/- The walk of strconv's (decimal).floatBits: the nearest float's word. Conditions: at most 64 digits, the tables of the slow road lie as they are laid. -/
import Derived.Test.YtgbldjbkapaclaaDoorFlR
import Derived.Deep.DeepCutAuto
import Derived.Test.YtgbldjbkapaclaaDoorFlE
/- The walks of strconv's shouldRoundUp and (decimal).RoundedInteger. -/
namespace Go.Proofs.YtgbldjbkapaclaaDoor.fl
open Go.ChangeShapes Go.WideShapes Go.ChangeAt Go.RowKit
set_option linter.unusedVariables false
set_option linter.unusedSimpArgs false
/-- Is the number, cut at a digits, rounded up? -/
def upF (f : Nat → Nat) (nd : Nat) (a : Int) : Bool :=
  if a < 0 ∨ (nd : Int) ≤ a then false
  else if f a.toNat = 53 ∧ a + 1 = nd then decide (0 < a) && decide ((f (a.toNat - 1) - 48) % 2 ≠ 0)
  else decide (53 ≤ f a.toNat)
set_option maxHeartbeats 1000000 in
theorem shouldC (b : Nat) (f : Nat → Nat) (nd : Nat) (dp a : Int) (ng : Bool) (w : World) (h : DecIs w b f nd dp ng false) (hd : DigF f nd) (hn : nd ≤ 800) (ha : -100000 ≤ a ∧ a ≤ 100000) :
    Calls Tryd.prog 83 #[.pointer (some ⟨b, 0, none⟩), .int .i64 a] w fun e w' => e = .returned (.bool (upF f nd a)) ∧ w' = w := by
  have k1 := h.nd
  have k2 := h.tr
  have H0 := fhid h
  have HD := fhid hd
  clear h hd
  unfold upF
  by_cases hneg : a < 0
  · rw [if_pos (.inl hneg)]
    go_enter Tryd.func83, Tryd.ntmps83
    go_wp2_with fail
    go_ret
    exact ⟨rfl, rfl⟩
  · by_cases hge : (nd : Int) ≤ a
    · rw [if_pos (.inr hge)]
      go_enter Tryd.func83, Tryd.ntmps83
      go_wp2_with fail
      go_ret
      exact ⟨rfl, rfl⟩
    · rw [if_neg (by omega)]
      obtain ⟨i, rfl⟩ : ∃ i : Nat, a = i := ⟨a.toNat, by omega⟩
      rw [Int.toNat_natCast]
      have hi8 : (i : Int) < 800 := by omega
      have k3 := H0.out.at_ i (by omega)
      have hdi := HD.out i (by omega)
      obtain ⟨d, hdd⟩ : ∃ d, f i = d := ⟨_, rfl⟩
      rw [hdd] at k3 hdi ⊢
      by_cases h5 : d = 53 ∧ (i : Int) + 1 = nd
      · rw [if_pos h5]
        obtain ⟨rfl, h6⟩ := h5
        by_cases hi0 : 0 < i
        · have k4 := H0.out.at_ (i - 1) (by omega)
          have hdj := HD.out (i - 1) (by omega)
          obtain ⟨c, hc⟩ : ∃ c, f (i - 1) = c := ⟨_, rfl⟩
          rw [hc] at k4 hdj ⊢
          obtain ⟨c1, c2⟩ := hdj
          have hi1 : (i : Int) - 1 = ((i - 1 : Nat) : Int) := by omega
          have hi2 : (0 : Int) < (i : Int) := by omega
          have hi3 : ((i - 1 : Nat) : Int) < 800 := by omega
          have h6' : ((i : Int) + 1 == (nd : Int)) = true := by simp; omega
          clear h6
          go_enter Tryd.func83, Tryd.ntmps83
          go_wp2_with fail
          go_ret
          refine ⟨ret_b ?_, rfl⟩
          rw [Bool.eq_iff_iff]
          simp
          omega
        · have hi0' : ¬ (0 : Int) < (i : Int) := by omega
          have h6' : ((i : Int) + 1 == (nd : Int)) = true := by simp; omega
          clear h6
          go_enter Tryd.func83, Tryd.ntmps83
          go_wp2_with fail
          go_ret
          refine ⟨ret_b ?_, rfl⟩
          first | rfl | (rw [Bool.eq_iff_iff]; simp <;> omega)
      · rw [if_neg h5]
        by_cases h53 : d = 53
        · subst h53
          have h6' : ((i : Int) + 1 == (nd : Int)) = false := by simp; omega
          clear h5
          go_enter Tryd.func83, Tryd.ntmps83
          go_wp2_with fail
          go_ret
          exact ⟨ret_b rfl, rfl⟩
        · have h6' : ((d : Int) == 53) = false := by simp; omega
          clear h5
          go_enter Tryd.func83, Tryd.ntmps83
          go_wp2_with fail
          go_ret
          refine ⟨ret_b ?_, rfl⟩
          first | rfl | (rw [Bool.eq_iff_iff]; simp <;> omega)
/-- The whole number that RoundedInteger answers. -/
def intF (f : Nat → Nat) (nd : Nat) (dp : Int) : Nat := dn (pad f nd) dp.toNat + (if upF f nd dp then 1 else 0)
theorem dn_pad_lt {f : Nat → Nat} {nd : Nat} (hd : DigF f nd) (r : Nat) : dn (pad f nd) r < 10 ^ r := dn_lt (pad_dig hd r)
set_option maxRecDepth 100000 in
set_option maxHeartbeats 1000000 in
theorem roundedC (b : Nat) (f : Nat → Nat) (nd : Nat) (dp : Int) (ng : Bool) (w : World) (h : DecIs w b f nd dp ng false) (hd : DigF f nd) (hn : nd ≤ 800) (h1 : -100000 ≤ dp) (h2 : dp ≤ 18) :
    Calls Tryd.prog 77 #[.pointer (some ⟨b, 0, none⟩)] w fun e w' => e = .returned (.int .u64 (intF f nd dp)) ∧ w' = w := by
  have k1 := h.nd
  have k2 := h.dp
  have H0 := fhid h
  have HD := fhid hd
  have cs := fhid (shouldC b f nd dp dp ng w h hd hn ⟨h1, by omega⟩)
  clear h hd
  unfold intF
  go_enter Tryd.func77, Tryd.ntmps77
  obtain ⟨t, ht⟩ : ∃ t, dp.toNat = t := ⟨_, rfl⟩
  rw [ht]
  have hlow : Hid (∀ r, r ≤ 18 → dn (pad f nd) r < 1000000000000000000) := fhid fun r hr => Nat.lt_of_lt_of_le (dn_pad_lt HD.out r) ((by have := Nat.pow_le_pow_right (n := 10) (by decide) hr; exact this))
  have e1 : ¬ (20 : Int) < dp := by omega
  go_upto_block 0 with fail
  go_cut [3, 4] (fun i n wx => ∃ i' : Nat, i = .int .i64 i' ∧ n = .int .u64 (dn (pad f nd) i' : Nat) ∧ i' ≤ t ∧ (i' < t → nd ≤ i') ∧ wx = w)
  case first => as_aux_lemma =>
    go_wp2_with fail
    go_loopw [3, 4] (fun i n wr => ∃ (i' n' : Nat), i = .int .i64 i' ∧ n = .int .u64 n' ∧ Hid (n' = dn (pad f nd) i') ∧ i' ≤ t ∧ i' ≤ nd ∧ wr = w) (fun i _ _ => 1000 - (intOf i).toNat)
    case atStart => exact ⟨0, 0, rfl, rfl, fhid rfl, Nat.zero_le _, by omega, rfl⟩
    case round =>
      obtain ⟨i, n, rfl, rfl, hE, hi, hin, rfl⟩ := hrel
      by_cases hlt : i < t
      · have g1 : (i : Int) < dp := by omega
        by_cases hln : i < nd
        · have g2 : (i : Int) < (nd : Int) := by omega
          have k3 := H0.out.at_ i (by omega)
          have hdi := HD.out i hln
          have hb := hlow.out i (by omega)
          rw [← hE.out] at hb
          have hnx := dn_pad_read (f := f) hln
          rw [← hE.out] at hnx
          obtain ⟨c, hc⟩ : ∃ c, f i = c := ⟨_, rfl⟩
          rw [hc] at k3 hdi hnx
          obtain ⟨c1, c2⟩ := hdi
          obtain ⟨d, hd⟩ : ∃ d, c - 48 = d := ⟨_, rfl⟩
          have hcd : (c : Int) - 48 = (d : Int) := by omega
          have hd9 : d ≤ 9 := by omega
          rw [hd] at hnx
          have HNX := fhid hnx
          have hi8 : (i : Int) < 800 := by omega
          clear hnx hd hc
          go_wp2_with fail
          refine ⟨⟨i + 1, n * 10 + d, by go_num, by go_num, fhid HNX.out.symm, by omega, by omega, by first | trivial | rfl⟩, by simp [intOf]; omega⟩
        · have g2 : ¬ (i : Int) < (nd : Int) := by omega
          go_wp2_with fail
          go_meet
          exact ⟨i, rfl, by rw [hE.out], by omega, fun _ => by omega, rfl⟩
      · have g1 : ¬ (i : Int) < dp := by omega
        go_wp2_with fail
        go_meet
        exact ⟨i, rfl, by rw [hE.out], by omega, fun h => absurd h (by omega), rfl⟩
  case rest =>
    obtain ⟨i0, rfl, rfl, hi0, hi1, rfl⟩ := hcut
    go_wp2_with fail
    go_loopw [3, 4] (fun i n wr => ∃ (i' n' : Nat), i = .int .i64 i' ∧ n = .int .u64 n' ∧ Hid (n' = dn (pad f nd) i') ∧ i' ≤ t ∧ (i' < t → nd ≤ i') ∧ wr = wc) (fun i _ _ => 1000 - (intOf i).toNat)
    case atStart => exact ⟨i0, _, rfl, rfl, fhid rfl, hi0, hi1, rfl⟩
    case round =>
      obtain ⟨i, n, rfl, rfl, hE, hi, hin, rfl⟩ := hrel
      have hb := hlow.out i (by omega)
      rw [← hE.out] at hb
      by_cases hlt : i < t
      · have g1 : (i : Int) < dp := by omega
        have hnx := dn_pad_none (f := f) (hin hlt)
        rw [← hE.out] at hnx
        have HNX := fhid hnx
        have hin' := hin hlt
        clear hnx
        go_wp2_with fail
        refine ⟨⟨i + 1, n * 10, by go_num, by go_num, fhid HNX.out.symm, by omega, fun _ => by omega, by first | trivial | rfl⟩, by simp [intOf]; omega⟩
      · have g1 : ¬ (i : Int) < dp := by omega
        have hit : i = t := by omega
        have HIT := fhid hit
        clear hlt hit
        go_wp2_with fail
        with_reducible refine cs.out.mono ?_
        rintro e w3 ⟨rfl, rfl⟩
        obtain ⟨u, hu⟩ : ∃ u, upF f nd dp = u := ⟨_, rfl⟩
        rw [hu]
        cases u
        · go_wp2_with fail
          all_goals
            go_ret
            refine ⟨?_, rfl⟩
            rw [← HIT.out, ← hE.out]
            rfl
        · go_wp2_with fail
          all_goals
            go_ret
            refine ⟨?_, rfl⟩
            rw [← HIT.out, ← hE.out]
            rfl
end Go.Proofs.YtgbldjbkapaclaaDoor.fl
/- The whole number that RoundedInteger answers is the nearest one, the even one of two. Plain. -/
namespace Go.Proofs.YtgbldjbkapaclaaDoor.fl
set_option linter.unusedVariables false
set_option linter.unusedSimpArgs false
/-- What stands behind the first a digits. -/
theorem dn_tail {f : Nat → Nat} {n : Nat} (hd : DigF f n) (a : Nat) (ha : a ≤ n) : dn f n = dn f a * 10 ^ (n - a) + dn f n % 10 ^ (n - a) := by
  have h := dn_div hd (n - a) (by omega)
  rw [show n - (n - a) = a by omega] at h
  have := Nat.div_add_mod (dn f n) (10 ^ (n - a))
  rw [h, Nat.mul_comm] at this
  exact this.symm
/-- Where the last digit is no nought, something stands behind. -/
theorem tail_pos {f : Nat → Nat} {n : Nat} (hd : DigF f n) (hl : f (n - 1) ≠ 48) : ∀ j, j < n → 0 < dn f n % 10 ^ (n - j) := by
  intro j hj
  have h1 := dn_mod hd (n - 1) (by omega)
  rw [show n - (n - 1 + 1) = 0 by omega, Nat.pow_zero, Nat.mod_one, Nat.mul_one, Nat.add_zero, show n - (n - 1) = 1 by omega] at h1
  have h2 := hd (n - 1) (by omega)
  have h3 : dn f n % 10 ^ (n - j) % 10 ^ 1 = dn f n % 10 ^ 1 := Nat.mod_mod_of_dvd _ (Nat.pow_dvd_pow 10 (by omega))
  rcases Nat.eq_zero_or_pos (dn f n % 10 ^ (n - j)) with h0 | h0
  · rw [h0, h1] at h3
    simp at h3
    omega
  · exact h0
theorem intF_rd {f : Nat → Nat} {nd : Nat} {dp : Int} (hd : DigF f nd) (h1 : 1 ≤ nd) (hl : f (nd - 1) ≠ 48) : intF f nd dp = rd (dn f nd * 10 ^ (dp - nd).toNat) (10 ^ ((nd : Int) - dp).toNat) := by
  unfold intF
  by_cases hneg : dp < 0
  · have hu : upF f nd dp = false := by unfold upF; rw [if_pos (.inl hneg)]
    rw [hu, show dp.toNat = 0 by omega, show (dp - nd).toNat = 0 by omega]
    have hX := dn_lt hd
    have hp := Nat.pow_le_pow_right (n := 10) (by decide) (show nd + 1 ≤ ((nd : Int) - dp).toNat by omega)
    rw [Nat.pow_succ] at hp
    unfold rd
    rw [Nat.pow_zero, Nat.mul_one, Nat.div_eq_of_lt (by omega), Nat.mod_eq_of_lt (by omega), if_neg (by decide), if_neg (by omega)]
    rfl
  · obtain ⟨a, rfl⟩ : ∃ a : Nat, dp = a := ⟨dp.toNat, by omega⟩
    rw [Int.toNat_natCast]
    by_cases hge : nd ≤ a
    · have hu : upF f nd a = false := by unfold upF; rw [if_pos (.inr (by omega))]
      rw [hu, show ((a : Int) - nd).toNat = a - nd by omega, show ((nd : Int) - a).toNat = 0 by omega, dn_pad_ge hge, Nat.pow_zero]
      unfold rd
      rw [Nat.div_one, Nat.mod_one, if_neg (by decide), if_neg (by omega)]
    · rw [show ((a : Int) - nd).toNat = 0 by omega, show ((nd : Int) - a).toNat = nd - a by omega, dn_pad_le (by omega), Nat.pow_zero, Nat.mul_one]
      have hdiv := dn_div hd (nd - a) (by omega)
      rw [show nd - (nd - a) = a by omega] at hdiv
      have hm := dn_mod hd a (by omega)
      have hda := hd a (by omega)
      have hu : upF f nd a = if f a = 53 ∧ (a : Int) + 1 = nd then decide ((0 : Int) < a) && decide ((f (a - 1) - 48) % 2 ≠ 0) else decide (53 ≤ f a) := by
        unfold upF
        rw [if_neg (by omega), Int.toNat_natCast]
      obtain ⟨Q, hQ⟩ : ∃ Q, 10 ^ (nd - (a + 1)) = Q := ⟨_, rfl⟩
      have hp : 10 ^ (nd - a) = 10 * Q := by rw [← hQ, show nd - a = nd - (a + 1) + 1 by omega, Nat.pow_succ, Nat.mul_comm]
      rw [hQ] at hm
      have hQp : 0 < Q := by rw [← hQ]; exact Nat.pow_pos (by decide)
      have hr := Nat.mod_lt (dn f nd) hQp
      unfold rd
      rw [hdiv, hm]
      rw [hp]
      congr 1
      obtain ⟨d, hdd⟩ : ∃ d, f a = d := ⟨_, rfl⟩
      rw [hdd] at hda hu ⊢
      obtain ⟨e, he⟩ : ∃ e, d - 48 = e := ⟨_, rfl⟩
      obtain ⟨t, ht⟩ : ∃ t, dn f nd % Q = t := ⟨_, rfl⟩
      rw [he]
      rw [ht] at hr ⊢
      have fin : ∀ (u : Bool) (P : Prop) [Decidable P], (u = true ↔ P) → (if u = true then 1 else 0) = (if P then 1 else 0 : Nat) := by
        intro u P _ h
        by_cases hP : P
        · rw [if_pos hP, if_pos (h.2 hP)]
        · rw [if_neg hP, if_neg (fun h' => hP (h.1 h'))]
      refine fin _ _ ?_
      rw [hu]
      by_cases h5 : d = 53 ∧ (a : Int) + 1 = nd
      · rw [if_pos h5]
        obtain ⟨rfl, h6⟩ := h5
        have hQ1 : Q = 1 := by rw [← hQ, show nd - (a + 1) = 0 by omega, Nat.pow_zero]
        subst hQ1
        have he5 : e = 5 := by omega
        have ht0 : t = 0 := by omega
        subst he5 ht0
        by_cases ha0 : 0 < a
        · obtain ⟨i, rfl⟩ : ∃ i, a = i + 1 := ⟨a - 1, by omega⟩
          rw [Nat.add_sub_cancel]
          have hdi := hd i (by omega)
          have e1 : dn f (i + 1) = dn f i * 10 + (f i - 48) := rfl
          rw [e1, Bool.and_eq_true, decide_eq_true_eq, decide_eq_true_eq]
          generalize dn f i = z
          generalize f i - 48 = y
          constructor
          · intro h; right; refine ⟨by omega, ?_⟩; have := h.2; omega
          · intro h; refine ⟨by omega, ?_⟩; rcases h with h | h <;> omega
        · obtain rfl : a = 0 := by omega
          have e0 : dn f 0 = 0 := rfl
          rw [e0]
          simp
      · rw [if_neg h5, decide_eq_true_eq]
        have hgt : 53 ≤ d → 10 * Q < 2 * (e * Q + t) := by
          intro h
          rcases Nat.lt_or_ge 53 d with hh | hh
          · have : 6 * Q ≤ e * Q := Nat.mul_le_mul_right Q (by omega)
            omega
          · have hlt : a + 1 < nd := by omega
            have htp := tail_pos hd hl (a + 1) hlt
            rw [hQ, ht] at htp
            have : 5 * Q ≤ e * Q := Nat.mul_le_mul_right Q (by omega)
            omega
        have hle : ¬ 53 ≤ d → 2 * (e * Q + t) < 10 * Q := by
          intro h
          have : e * Q ≤ 4 * Q := Nat.mul_le_mul_right Q (by omega)
          omega
        constructor
        · intro h; exact .inl (hgt h)
        · intro h
          by_cases hh : 53 ≤ d
          · exact hh
          · have := hle hh
            omega
end Go.Proofs.YtgbldjbkapaclaaDoor.fl
/- What floatBits makes of its digits in the end is the nearest rung. Plain. -/
namespace Go.Proofs.YtgbldjbkapaclaaDoor.fl
set_option linter.unusedVariables false
set_option linter.unusedSimpArgs false
theorem rd_wide (n d k : Nat) (hd : 0 < d) (hk : 0 < k) : rd (n * k) (d * k) = rd n d := by
  unfold rd
  rw [Nat.mul_div_mul_right _ _ hk, Nat.mul_mod_mul_right]
  congr 1
  have e1 : d * k < 2 * (n % d * k) ↔ d < 2 * (n % d) := by
    rw [← Nat.mul_assoc]
    exact Nat.mul_lt_mul_right hk
  have e2 : 2 * (n % d * k) = d * k ↔ 2 * (n % d) = d := by
    rw [← Nat.mul_assoc]
    exact ⟨fun h => Nat.eq_of_mul_eq_mul_right hk h, fun h => by rw [h]⟩
  simp only [e1, e2]
theorem rd_same {n d n' d' : Nat} (hd : 0 < d) (hd' : 0 < d') (h : n * d' = n' * d) : rd n d = rd n' d' := by
  rw [← rd_wide n d d' hd hd', ← rd_wide n' d' d hd' hd, h, Nat.mul_comm d d']
theorem valD_pow (p : Int) : valD p = 10 ^ (-p).toNat := by
  unfold valD
  by_cases h : 0 ≤ p
  · rw [if_pos h, show (-p).toNat = 0 by omega, Nat.pow_zero]
  · rw [if_neg h]
theorem valN_pow (X : Nat) (p : Int) : valN X p = X * 10 ^ p.toNat * 2 ^ K74 := by
  unfold valN
  generalize 2 ^ K74 = kk
  by_cases h : 0 ≤ p
  · rw [if_pos h]
  · rw [if_neg h, show p.toNat = 0 by omega, Nat.pow_zero]
/-- The whole number and the rung: value times 2^53, e the rung's binade. -/
theorem rd_rung {Y X0 e : Nat} {p e0 : Int} (h : SameV (Y * 2 ^ e) p (X0 * 2 ^ K74) e0) : rd (Y * 10 ^ p.toNat) (10 ^ (-p).toNat) = rd (valN X0 e0) (valD e0 * 2 ^ e) := by
  have hK : 0 < 2 ^ K74 := Nat.two_pow_pos K74
  refine rd_same (Nat.pow_pos (by decide)) (Nat.mul_pos (valD_pos _) (Nat.two_pow_pos e)) ?_
  unfold SameV at h
  rw [valN_mul, valN_mul, valN_pow Y p, valD_pow p] at h
  generalize 2 ^ K74 = K at h hK
  refine Nat.eq_of_mul_eq_mul_right hK ?_
  have e1 : Y * 10 ^ p.toNat * (valD e0 * 2 ^ e) * K = Y * 10 ^ p.toNat * K * 2 ^ e * valD e0 := by
    rw [Nat.mul_right_comm _ _ K, Nat.mul_assoc _ (2 ^ e), Nat.mul_comm (2 ^ e)]
  rw [e1, h, Nat.mul_right_comm]
/-- The float. -/
theorem fb_near {Y X0 e m : Nat} {p e0 : Int} (h : SameV (Y * 2 ^ e) p (X0 * 2 ^ K74) e0) (hm : rd (Y * 10 ^ p.toNat) (10 ^ (-p).toNat) = m) (hlo : e = 0 ∨ (B ≤ m ∧ (m = B → 2 * B * (valD e0 * 2 ^ e) ≤ 2 * valN X0 e0))) (hhi : m ≤ 2 * B) :
    Near (valN X0 e0) (valD e0) (e * B + m) :=
  near_of_rd (valD_pos _) (by rw [← rd_rung h]; exact hm) hlo hhi
end Go.Proofs.YtgbldjbkapaclaaDoor.fl
/- Plain facts for floatBits: how far the digits reach. -/
namespace Go.Proofs.YtgbldjbkapaclaaDoor.fl
set_option linter.unusedVariables false
set_option linter.unusedSimpArgs false
/-- How often a number below a power of ten can be halved. -/
theorem s_bound {S n : Nat} (h : 2 ^ S < 10 ^ n) : 3 * S < 10 * n := by
  rcases Nat.lt_or_ge (3 * S) (10 * n) with hh | hh
  · exact hh
  · exfalso
    have h1 : (2 ^ S) ^ 3 < (10 ^ n) ^ 3 := Nat.pow_lt_pow_left h (by decide)
    rw [← Nat.pow_mul, ← Nat.pow_mul, Nat.mul_comm S 3, Nat.mul_comm n 3, Nat.pow_mul 10 3 n] at h1
    have h2 : (10 ^ 3) ^ n ≤ (2 ^ 10) ^ n := Nat.pow_le_pow_left (by decide) n
    rw [← Nat.pow_mul 2 10 n] at h2
    have h3 : 2 ^ (10 * n) ≤ 2 ^ (3 * S) := Nat.pow_le_pow_right (by decide) hh
    exact absurd h1 (Nat.not_lt.2 (Nat.le_trans h2 h3))
end Go.Proofs.YtgbldjbkapaclaaDoor.fl
/- Plain laws for the walk of floatBits. -/
namespace Go.Proofs.YtgbldjbkapaclaaDoor.fl
set_option linter.unusedVariables false
set_option linter.unusedSimpArgs false
theorem SameV.nat {X Y i j : Nat} {p q c : Int} (h : SameV X p Y q) (hi : (i : Int) = p + c) (hj : (j : Int) = q + c) : X * 10 ^ i = Y * 10 ^ j := by
  have e1 := SameV.pow X i (-c)
  have e2 := SameV.pow Y j (-c)
  rw [show -c + (i : Int) = p by omega] at e1
  rw [show -c + (j : Int) = q by omega] at e2
  exact ((e1.trans h).trans e2.symm).eq
theorem ten_two (r : Nat) : (10 : Nat) ^ r = 2 ^ r * 5 ^ r := by rw [← Nat.mul_pow]
/-- The digits have room when they are halved k times more. -/
theorem fit2 {X X0 nd S1 S2 k : Nat} {dp E : Int} (h : SameV (X * 2 ^ S1) (dp - nd) (X0 * 2 ^ S2) E) (hb1 : dp - E ≤ 800) (hb2 : (S1 : Int) + k - S2 + dp - E ≤ 800) (hn : nd ≤ 800) : ∃ m, 2 ^ k ∣ X * 10 ^ m ∧ nd + m ≤ 800 := by
  obtain ⟨m, hm⟩ : ∃ m : Nat, (m : Int) = max 0 (max (dp - nd - E) ((S1 : Int) + k - S2 - E + (dp - nd))) := ⟨(max 0 (max (dp - nd - E) ((S1 : Int) + k - S2 - E + (dp - nd)))).toNat, by omega⟩
  obtain ⟨r, hr⟩ : ∃ r : Nat, (r : Int) = E + m - (dp - nd) := ⟨(E + m - (dp - nd)).toNat, by omega⟩
  refine ⟨m, ?_, by omega⟩
  have e4 := h.nat (i := m) (j := r) (c := m - (dp - nd)) (by omega) (by omega)
  have hS : 0 < 2 ^ S1 := Nat.two_pow_pos S1
  have h5 : 2 ^ (S1 + k) ∣ X * 10 ^ m * 2 ^ S1 := by
    rw [Nat.mul_right_comm, e4, ten_two r, Nat.mul_assoc, ← Nat.mul_assoc (2 ^ S2), ← Nat.pow_add]
    exact Nat.dvd_mul_left_of_dvd (Nat.dvd_mul_right_of_dvd (Nat.pow_dvd_pow 2 (by omega)) _) _
  rw [Nat.pow_add, Nat.mul_comm (X * _)] at h5
  exact (Nat.mul_dvd_mul_iff_left hS).1 h5
/-- How many digits there are. -/
theorem nd_le {X X0 nd S1 S2 : Nat} {dp E : Int} (h : SameV (X * 2 ^ S1) (dp - nd) (X0 * 2 ^ S2) E) (hl : X % 10 ≠ 0) : (nd : Int) - dp ≤ max (-E) ((S1 : Int) - S2 - E) := by
  rcases Int.lt_or_le (max (-E) ((S1 : Int) - S2 - E)) ((nd : Int) - dp) with hh | hh
  · exfalso
    obtain ⟨t, ht⟩ : ∃ t : Nat, ((t : Int) + 1) = nd - dp + E := ⟨((nd : Int) - dp + E - 1).toNat, by omega⟩
    obtain ⟨z, hz⟩ : ∃ z : Nat, S2 + t = S1 + z := ⟨S2 + t - S1, by omega⟩
    have e := h.nat (i := 0) (j := t + 1) (c := nd - dp) (by omega) (by omega)
    rw [Nat.pow_zero, Nat.mul_one, Nat.pow_succ, ten_two t, ← Nat.mul_assoc, Nat.mul_assoc X0, ← Nat.mul_assoc (2 ^ S2), ← Nat.pow_add, hz, Nat.pow_add, Nat.mul_comm (2 ^ S1), Nat.mul_right_comm (2 ^ z), ← Nat.mul_assoc X0, Nat.mul_right_comm _ (2 ^ S1)] at e
    have e2 := Nat.eq_of_mul_eq_mul_right (Nat.two_pow_pos S1) e
    omega
  · exact hh
theorem last_dn {f : Nat → Nat} {nd : Nat} (hd : DigF f nd) (h1 : 1 ≤ nd) (hl : f (nd - 1) ≠ 48) : dn f nd % 10 ≠ 0 := by
  obtain ⟨i, rfl⟩ : ∃ i, nd = i + 1 := ⟨nd - 1, by omega⟩
  rw [Nat.add_sub_cancel] at hl
  have := hd i (by omega)
  rw [dn_succ]
  omega
/-- How the points stand. -/
theorem hav {X X0 nd n0 S1 S2 a b : Nat} {dp E c : Int} (h : SameV (X * 2 ^ S1) (dp - nd) (X0 * 2 ^ S2) E) (hX : 10 ^ (nd - 1) ≤ X) (h1 : 1 ≤ nd) (hX0 : X0 < 10 ^ n0) (ha : (a : Int) = dp - 1 + c) (hb : (b : Int) = E + n0 + c) : 2 ^ S1 * 10 ^ a < 2 ^ S2 * 10 ^ b := by
  obtain ⟨q, hq⟩ : ∃ q : Nat, (q : Int) = max 0 (max ((nd : Int) - dp) (-E) - c) := ⟨(max 0 (max ((nd : Int) - dp) (-E) - c)).toNat, by omega⟩
  obtain ⟨i, hi⟩ : ∃ i : Nat, (i : Int) = dp - nd + (c + q) := ⟨(dp - nd + (c + q)).toNat, by omega⟩
  obtain ⟨j, hj⟩ : ∃ j : Nat, (j : Int) = E + (c + q) := ⟨(E + (c + q)).toNat, by omega⟩
  have e := h.nat hi hj
  refine Nat.lt_of_mul_lt_mul_right (a := 10 ^ q) ?_
  have l1 : 2 ^ S1 * 10 ^ a * 10 ^ q ≤ X * 2 ^ S1 * 10 ^ i := by
    have : 10 ^ a * 10 ^ q = 10 ^ (nd - 1) * 10 ^ i := by rw [← Nat.pow_add, ← Nat.pow_add]; congr 1; omega
    rw [Nat.mul_assoc, this, Nat.mul_comm X, Nat.mul_assoc]
    exact Nat.mul_le_mul_left _ (Nat.mul_le_mul_right _ hX)
  have l2 : X0 * 2 ^ S2 * 10 ^ j < 2 ^ S2 * 10 ^ b * 10 ^ q := by
    have : 10 ^ b * 10 ^ q = 10 ^ n0 * 10 ^ j := by rw [← Nat.pow_add, ← Nat.pow_add]; congr 1; omega
    rw [Nat.mul_comm X0, Nat.mul_assoc, Nat.mul_assoc, this]
    exact Nat.mul_lt_mul_of_pos_left (Nat.mul_lt_mul_of_pos_right hX0 (Nat.pow_pos (by decide))) (Nat.two_pow_pos S2)
  rw [e] at l1
  exact Nat.lt_of_le_of_lt l1 l2
theorem s_lin {s a b : Nat} (h : 2 ^ s * 10 ^ a < 10 ^ b) : 3 * s + 10 * a < 10 * b := by
  have h0 : 10 ^ a < 10 ^ b := Nat.lt_of_le_of_lt (Nat.le_mul_of_pos_left _ (Nat.two_pow_pos s)) h
  have hab : a < b := (Nat.pow_lt_pow_iff_right (by decide)).1 h0
  obtain ⟨d, rfl⟩ : ∃ d, b = a + d := ⟨b - a, by omega⟩
  rw [Nat.pow_add, Nat.mul_comm (2 ^ s)] at h
  have := s_bound (Nat.lt_of_mul_lt_mul_left h)
  omega
/-- .. in small numbers. -/
theorem s_lin2 {S1 S2 a b : Nat} (h : 2 ^ S1 * 10 ^ a < 2 ^ S2 * 10 ^ b) (hs : S2 ≤ S1) : 3 * S1 + 10 * a < 10 * b + 3 * S2 := by
  obtain ⟨s, rfl⟩ : ∃ s, S1 = S2 + s := ⟨S1 - S2, by omega⟩
  rw [Nat.pow_add, Nat.mul_assoc] at h
  have := s_lin (Nat.lt_of_mul_lt_mul_left h)
  omega
theorem SameV.unmul {X Y c : Nat} {p q : Int} (h : SameV (X * c) p (Y * c) q) (hc : 0 < c) : SameV X p Y q := by
  unfold SameV at h ⊢
  rw [valN_mul, valN_mul, Nat.mul_right_comm, Nat.mul_right_comm _ c] at h
  exact Nat.eq_of_mul_eq_mul_right hc h
/-- A step to the right. -/
theorem stepR {X X1 X0 S1 S2 n : Nat} {p1 p E : Int} (h : SameV (X * 2 ^ S1) p (X0 * 2 ^ S2) E) (h1 : SameV (X1 * 2 ^ n) p1 X p) : SameV (X1 * 2 ^ (S1 + n)) p1 (X0 * 2 ^ S2) E := by
  have := h1.mul (2 ^ S1)
  rw [Nat.mul_assoc, ← Nat.pow_add, Nat.add_comm n] at this
  exact this.trans h
/-- A step to the left. -/
theorem stepL {X X1 X0 S1 S2 n : Nat} {p1 p E : Int} (h : SameV (X * 2 ^ S1) p (X0 * 2 ^ S2) E) (h1 : SameV X1 p1 (X * 2 ^ n) p) : SameV (X1 * 2 ^ S1) p1 (X0 * 2 ^ (S2 + n)) E := by
  have g1 := h1.mul (2 ^ S1)
  rw [Nat.mul_right_comm X] at g1
  have g2 := h.mul (2 ^ n)
  rw [Nat.mul_assoc X0, ← Nat.pow_add] at g2
  exact g1.trans g2
/-- The point moves no further than .. -/
theorem dp_step {X X0 nd n0 : Nat} {dp E : Int} {k : Int} (h : SameV X (dp - nd) X0 (E - n0)) (hX : 10 ^ (nd - 1) ≤ X) (h1 : 1 ≤ nd) {t : Nat} (hX0 : X0 < 10 ^ t) (ht : (t : Int) = n0 + k) : dp ≤ E + k := by
  have h' : SameV (X * 2 ^ 0) (dp - nd) (X0 * 2 ^ 0) (E - n0) := by rw [Nat.pow_zero, Nat.mul_one, Nat.mul_one]; exact h
  obtain ⟨a, ha⟩ : ∃ a : Nat, (a : Int) = dp - 1 + max (1 - dp) (-(E - n0) - t) := ⟨(dp - 1 + max (1 - dp) (-(E - n0) - t)).toNat, by omega⟩
  obtain ⟨b, hb⟩ : ∃ b : Nat, (b : Int) = E - n0 + t + max (1 - dp) (-(E - n0) - t) := ⟨(E - n0 + t + max (1 - dp) (-(E - n0) - t)).toNat, by omega⟩
  have := hav h' hX h1 hX0 ha hb
  rw [Nat.pow_zero, Nat.one_mul, Nat.one_mul] at this
  have := (Nat.pow_lt_pow_iff_right (by decide)).1 this
  omega
/-- The program's table of powers. -/
def ptab (i : Nat) : Nat := if i < 9 then ([1, 3, 6, 9, 13, 16, 19, 23, 26] : List Nat).getD i 0 else 27
theorem ptab_pos (i : Nat) : 1 ≤ ptab i ∧ ptab i ≤ 27 := by
  rcases Nat.lt_or_ge i 9 with h | h
  · have : ∀ i, i < 9 → 1 ≤ ptab i ∧ ptab i ≤ 27 := by decide
    exact this i h
  · unfold ptab
    rw [if_neg (by omega)]
    omega
theorem ptab_le {i : Nat} (hi : 1 ≤ i) : 2 ^ ptab i ≤ 10 ^ i := by
  rcases Nat.lt_or_ge i 9 with h | h
  · have : ∀ i, i < 9 → 1 ≤ i → 2 ^ ptab i ≤ 10 ^ i := by decide
    exact this i h hi
  · unfold ptab
    rw [if_neg (by omega)]
    exact Nat.le_trans (by decide : 2 ^ 27 ≤ 10 ^ 9) (Nat.pow_le_pow_right (by decide) h)
theorem ptab_fit {i : Nat} (hi : 1 ≤ i) (h : i ≤ 310) : 7 * (310 - i) + 3 * ptab i + 9 ≤ 2205 := by
  rcases Nat.lt_or_ge i 9 with h | h
  · have : ∀ i, i < 9 → 1 ≤ i → 7 * (310 - i) + 3 * ptab i + 9 ≤ 2205 := by decide
    exact this i h hi
  · unfold ptab
    rw [if_neg (by omega)]
    omega
theorem chD_27 : ∀ k, k < 28 → chD k ≤ 9 := by decide
theorem chD_53 : chD 53 = 16 := by decide
/-- What the rung's place says. -/
theorem rung_cross {Y X0 e : Nat} {p e0 : Int} (h : SameV (Y * 2 ^ e) p (X0 * 2 ^ K74) e0) : Y * 10 ^ p.toNat * (valD e0 * 2 ^ e) = valN X0 e0 * 10 ^ (-p).toNat := by
  have hK : 0 < 2 ^ K74 := Nat.two_pow_pos K74
  unfold SameV at h
  rw [valN_mul, valN_mul, valN_pow Y p, valD_pow p] at h
  generalize 2 ^ K74 = K at h hK
  refine Nat.eq_of_mul_eq_mul_right hK ?_
  have e1 : Y * 10 ^ p.toNat * (valD e0 * 2 ^ e) * K = Y * 10 ^ p.toNat * K * 2 ^ e * valD e0 := by
    rw [Nat.mul_right_comm _ _ K, Nat.mul_assoc _ (2 ^ e), Nat.mul_comm (2 ^ e)]
  rw [e1, h, Nat.mul_right_comm]
theorem rd_le {n d k : Nat} (hd : 0 < d) (h : n ≤ k * d) : rd n d ≤ k := by
  have h1 := (rd_spec n d hd).1
  rcases Nat.lt_or_ge k (rd n d) with hh | hh
  · exfalso
    obtain ⟨r, hr⟩ : ∃ r, rd n d = k + 1 + r := ⟨rd n d - (k + 1), by omega⟩
    rw [hr] at h1
    have e1 : (2 * (k + 1 + r) - 1) * d = 2 * (k * d) + d + 2 * (r * d) := by
      rw [show 2 * (k + 1 + r) - 1 = 2 * k + 1 + 2 * r by omega, Nat.add_mul, Nat.add_mul, Nat.one_mul, Nat.mul_assoc, Nat.mul_assoc]
    rw [e1] at h1
    omega
  · exact hh
theorem le_rd {n d k : Nat} (hd : 0 < d) (h : k * d ≤ n) : k ≤ rd n d := by
  have h1 : k ≤ n / d := (Nat.le_div_iff_mul_le hd).2 h
  unfold rd
  omega
/-- The digits behind the last shift: below 2^53. -/
theorem top53 {Y X nd : Nat} {p dp : Int} (h : SameV Y p (X * 2 ^ 53) (dp - nd)) (hX : X < 10 ^ nd) (hdp : dp ≤ 0) : Y * 10 ^ p.toNat ≤ 2 * B * 10 ^ (-p).toNat := by
  obtain ⟨c, hc⟩ : ∃ c : Nat, (c : Int) = max ((nd : Int) - dp) (-p) := ⟨(max ((nd : Int) - dp) (-p)).toNat, by omega⟩
  obtain ⟨i, hi⟩ : ∃ i : Nat, (i : Int) = p + c := ⟨(p + c).toNat, by omega⟩
  obtain ⟨j, hj⟩ : ∃ j : Nat, (j : Int) = dp - nd + c := ⟨(dp - nd + c).toNat, by omega⟩
  have e := h.nat hi hj
  refine Nat.le_of_mul_le_mul_right ?_ (Nat.pow_pos (n := c) (show 0 < 10 by decide))
  have e1 : 10 ^ p.toNat * 10 ^ c = 10 ^ i * 10 ^ (-p).toNat := by rw [← Nat.pow_add, ← Nat.pow_add]; congr 1; omega
  rw [Nat.mul_assoc, e1, ← Nat.mul_assoc, e, Nat.mul_right_comm _ _ (10 ^ c)]
  refine Nat.mul_le_mul_right _ ?_
  have e2 : 10 ^ nd * 10 ^ j ≤ 10 ^ c := by rw [← Nat.pow_add]; exact Nat.pow_le_pow_right (by decide) (by omega)
  have e3 : (2 : Nat) ^ 53 = 2 * B := by decide
  rw [Nat.mul_right_comm, e3, Nat.mul_comm]
  exact Nat.mul_le_mul_left _ (Nat.le_trans (Nat.mul_le_mul_right _ (Nat.le_of_lt hX)) e2)
/-- .. and not below 2^52 where the first digit is 5 or more. -/
theorem half53 {Y X nd : Nat} {p : Int} (h : SameV Y p (X * 2 ^ 53) (0 - nd)) (hX : 10 ^ nd ≤ 2 * X) : B * 10 ^ (-p).toNat ≤ Y * 10 ^ p.toNat := by
  obtain ⟨c, hc⟩ : ∃ c : Nat, (c : Int) = max (nd : Int) (-p) := ⟨(max (nd : Int) (-p)).toNat, by omega⟩
  obtain ⟨i, hi⟩ : ∃ i : Nat, (i : Int) = p + c := ⟨(p + c).toNat, by omega⟩
  obtain ⟨j, hj⟩ : ∃ j : Nat, (j : Int) = 0 - nd + c := ⟨(0 - (nd : Int) + c).toNat, by omega⟩
  have e := h.nat hi hj
  refine Nat.le_of_mul_le_mul_right ?_ (Nat.pow_pos (n := c) (show 0 < 10 by decide))
  have e1 : 10 ^ p.toNat * 10 ^ c = 10 ^ i * 10 ^ (-p).toNat := by rw [← Nat.pow_add, ← Nat.pow_add]; congr 1; omega
  rw [Nat.mul_assoc Y, e1, ← Nat.mul_assoc, e, Nat.mul_right_comm B]
  refine Nat.mul_le_mul_right _ ?_
  have e2 : 10 ^ nd * 10 ^ j = 10 ^ c := by rw [← Nat.pow_add]; congr 1; omega
  have e3 : (2 : Nat) ^ 53 = 2 * B := by decide
  have a1 : X * (2 * B) * 10 ^ j = B * (2 * X * 10 ^ j) := by
    generalize 10 ^ j = J
    generalize B = b'
    simp only [Nat.mul_assoc, Nat.mul_comm, Nat.mul_left_comm]
  rw [← e2, e3, a1]
  exact Nat.mul_le_mul_left _ (Nat.mul_le_mul_right _ hX)
theorem half_dn {f : Nat → Nat} {nd : Nat} (hd : DigF f nd) (h1 : 1 ≤ nd) (h0 : 53 ≤ f 0) : 10 ^ nd ≤ 2 * dn f nd := by
  have h := dn_tail hd 1 h1
  have e : dn f 1 = f 0 - 48 := by show 0 * 10 + (f 0 - 48) = _; omega
  rw [e] at h
  have e2 : 10 ^ nd = 10 * 10 ^ (nd - 1) := by rw [Nat.mul_comm, ← Nat.pow_succ]; congr 1; omega
  have e3 : 5 * 10 ^ (nd - 1) ≤ (f 0 - 48) * 10 ^ (nd - 1) := Nat.mul_le_mul_right _ (by omega)
  omega
theorem half_dn' {f : Nat → Nat} {nd : Nat} (hd : DigF f nd) (h1 : 1 ≤ nd) (h0 : f 0 < 53) : dn f nd * 2 ^ 1 < 10 ^ nd := by
  have h := dn_tail hd 1 h1
  have e : dn f 1 = f 0 - 48 := by show 0 * 10 + (f 0 - 48) = _; omega
  rw [e] at h
  have e2 : 10 ^ nd = 10 * 10 ^ (nd - 1) := by rw [Nat.mul_comm, ← Nat.pow_succ]; congr 1; omega
  have e3 : (f 0 - 48) * 10 ^ (nd - 1) ≤ 4 * 10 ^ (nd - 1) := Nat.mul_le_mul_right _ (by omega)
  have e4 : dn f nd % 10 ^ (nd - 1) < 10 ^ (nd - 1) := Nat.mod_lt _ (Nat.pow_pos (by decide))
  omega
theorem pow_split {s a k r : Nat} (h : s = a + 1 + r) : 2 ^ (s + k) = 2 * (2 ^ (a + k) * 2 ^ r) := by
  rw [← Nat.pow_add, Nat.mul_comm, ← Nat.pow_succ]
  congr 1
  omega
/-- From half on and 1025 doublings: infinite. -/
theorem over_inf {X X0 nd S1 S2 u : Nat} {E : Int} (h : SameV (X * 2 ^ S1) (0 - nd) (X0 * 2 ^ S2) E) (hX : 10 ^ nd ≤ 2 * X) (hs : S2 + 1025 ≤ S1) (hu : Near (valN X0 E) (valD E) u) : infR ≤ u := by
  obtain ⟨s, rfl⟩ : ∃ s, S1 = S2 + s := ⟨S1 - S2, by omega⟩
  have h2 : SameV (X * 2 ^ s) (0 - nd) X0 E := by
    refine SameV.unmul (c := 2 ^ S2) ?_ (Nat.two_pow_pos _)
    rw [Nat.mul_assoc, ← Nat.pow_add, Nat.add_comm s]
    exact h
  have h3 := h2.mul (2 ^ K74)
  rw [Nat.mul_assoc, ← Nat.pow_add] at h3
  have h4 := rung_cross h3
  rw [show ((0 : Int) - nd).toNat = 0 by omega, show (-((0 : Int) - nd)).toNat = nd by omega, Nat.pow_zero, Nat.mul_one] at h4
  refine inf_of (valD_pos _) ?_ hu
  have hD := valD_pos E
  have hV : V infR = 2 ^ (1024 + K74) := by decide +kernel
  have hV2 : V (infR - 1) < V infR := V_lt (by decide)
  have h5 : 2 ^ (1024 + K74) * valD E ≤ valN X0 E := by
    refine Nat.le_of_mul_le_mul_right ?_ (Nat.pow_pos (n := nd) (show 0 < 10 by decide))
    rw [← h4]
    obtain ⟨r, hr⟩ : ∃ r, s = 1024 + 1 + r := ⟨s - 1025, by omega⟩
    rw [pow_split (k := K74) hr]
    generalize 2 ^ (1024 + K74) = K
    have e2 : X * (valD E * (2 * (K * 2 ^ r))) = K * valD E * (2 * X) * 2 ^ r := by
      simp only [Nat.mul_assoc, Nat.mul_comm, Nat.mul_left_comm]
    rw [e2]
    exact Nat.le_trans (Nat.mul_le_mul_left _ hX) (Nat.le_mul_of_pos_right _ (Nat.two_pow_pos r))
  rw [← hV] at h5
  have h6 : (V (infR - 1) + V infR) * valD E < 2 * (V infR * valD E) := by
    rw [Nat.add_mul, Nat.two_mul]
    exact Nat.add_lt_add_right (Nat.mul_lt_mul_of_pos_right hV2 hD) _
  exact Nat.lt_of_lt_of_le h6 (Nat.mul_le_mul_left 2 h5)
def K310 : Nat := 310
theorem K310_eq : K310 = 310 := rfl
theorem big_310 : (V (infR - 1) + V infR) * 1 < 2 * (10 ^ K310 * 2 ^ K74) := by decide +kernel
/-- The point past 310: infinite. -/
theorem dp_up {X nd u : Nat} {dp : Int} (hX : 10 ^ (nd - 1) ≤ X) (h1 : 1 ≤ nd) (hq : 310 < dp) (hu : Near (valN X (dp - nd)) (valD (dp - nd)) u) : infR ≤ u := by
  refine inf_of (valD_pos _) ?_ hu
  have hk := K310_eq
  obtain ⟨i, hi⟩ : ∃ i, nd - 1 + (dp - nd).toNat = K310 + ((-(dp - nd)).toNat + i) := ⟨nd - 1 + (dp - nd).toNat - (K310 + (-(dp - nd)).toNat), by omega⟩
  rw [valN_pow, valD_pow]
  have h2 : 10 ^ K310 * 10 ^ (-(dp - nd)).toNat ≤ X * 10 ^ (dp - nd).toNat := by
    refine Nat.le_trans ?_ (Nat.mul_le_mul_right _ hX)
    rw [← Nat.pow_add, ← Nat.pow_add]
    exact Nat.pow_le_pow_right (by decide) (by omega)
  clear hk hi
  have h3 := big_310
  rw [Nat.mul_one] at h3
  have hP := Nat.pow_pos (n := (-(dp - nd)).toNat) (show 0 < 10 by decide)
  have h4 := Nat.mul_lt_mul_of_pos_right h3 hP
  refine Nat.lt_of_lt_of_le h4 ?_
  rw [Nat.mul_assoc 2, Nat.mul_right_comm]
  exact Nat.mul_le_mul_left 2 (Nat.mul_le_mul_right _ h2)
/-- The rung and its word. -/
theorem fin53 {Y X X0 nd S1 S2 e : Nat} {p dp E : Int} (h : SameV (X * 2 ^ S1) (dp - nd) (X0 * 2 ^ S2) E) (h53 : SameV Y p (X * 2 ^ 53) (dp - nd)) (hX : X < 10 ^ nd) (hdp : dp ≤ 0) (he : S2 + e = S1 + 1021) (hh : e = 0 ∨ (dp = 0 ∧ 10 ^ nd ≤ 2 * X)) :
    ∃ m, rd (Y * 10 ^ p.toNat) (10 ^ (-p).toNat) = m ∧ m ≤ 2 * B ∧ (e = 0 ∨ B ≤ m) ∧ Near (valN X0 E) (valD E) (e * B + m) := by
  have hP := Nat.pow_pos (n := (-p).toNat) (show 0 < 10 by decide)
  have k1 := top53 h53 hX hdp
  have k2 : SameV (Y * 2 ^ e) p (X0 * 2 ^ K74) E := by
    have g := stepL h h53
    refine SameV.unmul (c := 2 ^ S2) ?_ (Nat.two_pow_pos _)
    obtain ⟨Z, hZ⟩ : ∃ Z : Nat, Z = 1021 := ⟨_, rfl⟩
    have g2 := g.mul (2 ^ Z)
    rw [Nat.mul_assoc, ← Nat.pow_add, Nat.mul_assoc X0, ← Nat.pow_add] at g2
    rw [Nat.mul_assoc, ← Nat.pow_add, Nat.mul_assoc X0, ← Nat.pow_add]
    have e1 : e + S2 = S1 + Z := by omega
    have e2 : K74 + S2 = S2 + 53 + Z := by have := K74_eq; omega
    rw [e1, e2]
    exact g2
  have k3 : e = 0 ∨ B * 10 ^ (-p).toNat ≤ Y * 10 ^ p.toNat := by
    rcases hh with hh | ⟨rfl, hh⟩
    · exact .inl hh
    · exact .inr (half53 h53 hh)
  refine ⟨_, rfl, rd_le hP k1, ?_, fb_near k2 rfl ?_ (rd_le hP k1)⟩
  · rcases k3 with k3 | k3
    · exact .inl k3
    · exact .inr (le_rd hP k3)
  · rcases k3 with k3 | k3
    · exact .inl k3
    · refine .inr ⟨le_rd hP k3, fun _ => ?_⟩
      have k4 := rung_cross k2
      have k5 : B * (valD E * 2 ^ e) ≤ valN X0 E := by
        refine Nat.le_of_mul_le_mul_right ?_ hP
        rw [← k4, Nat.mul_right_comm]
        exact Nat.mul_le_mul_right _ k3
      rw [Nat.mul_assoc 2]
      exact Nat.mul_le_mul_left 2 k5
end Go.Proofs.YtgbldjbkapaclaaDoor.fl
/- The walk of strconv's (decimal).floatBits: the nearest float's word. Conditions: at most 64 digits, the tables of the slow road lie as they are laid. -/
namespace Go.Proofs.YtgbldjbkapaclaaDoor.fl
open Go.ChangeShapes Go.WideShapes Go.ChangeAt Go.RowKit
set_option linter.unusedVariables false
set_option linter.unusedSimpArgs false
/-- As Q; by a goto: J of its label. -/
def XFwd (J : Nat → Act → World → Prop) (Q : Exit → Act → World → Prop) : Exit → Act → World → Prop
  | .goto l, a, w => J l a w
  | e, a, w => Q e a w
theorem xfwd_ret {J : Nat → Act → World → Prop} {Q : Exit → Act → World → Prop} : XFwd J Q .ret = Q .ret := rfl
/-- A scope whose jumps go forward: each to a label of a lesser measure. -/
theorem wp_scope_fwd {P : Program} {a : Act} {w : World} {Q : Exit → Act → World → Prop} {c : Code} (J : Nat → Act → World → Prop) (μ : Nat → Nat)
    (first : c.wp P (XFwd J Q) a w)
    (pass : ∀ l a w, J l a w → ∃ rest, findLabel c l = some rest ∧ rest.wp P (XFwd (fun l' a' w' => J l' a' w' ∧ μ l' < μ l) Q) a w) : (Code.scope c).wp P Q a w := by
  intro b k cs
  have key : ∀ n l a w, μ l = n → J l a w → ∃ rest, findLabel c l = some rest ∧ ∃ e a' w', Q e a' w' ∧ Arrives P (lone (b.at a (.code rest :: .inScope c :: k)) cs w) b k cs e a' w' := by
    intro n
    induction n using Nat.strongRecOn with
    | _ n ih =>
      intro l a w hn hJ
      obtain ⟨rest, hf, hp⟩ := pass l a w hJ
      refine ⟨rest, hf, ?_⟩
      obtain ⟨e, a₁, w₁, hq, harr⟩ := hp b (.inScope c :: k) cs
      cases e with
      | normal => exact ⟨.normal, a₁, w₁, hq, Steps.trans harr (.one step_inScope)⟩
      | exit id => exact ⟨.exit id, a₁, w₁, hq, fun k' hk => harr k' (by simp [exitTo, hk])⟩
      | goto l' =>
        obtain ⟨hJ', hlt⟩ := hq
        obtain ⟨rest', hf', e₂, a₂, w₂, hq₂, harr₂⟩ := ih _ (by omega) l' a₁ w₁ rfl hJ'
        have hg : gotoIn l' (.inScope c :: k) = some (.code rest' :: .inScope c :: k) := by simp [gotoIn, hf']
        exact ⟨e₂, a₂, w₂, hq₂, .of_steps (harr _ hg) harr₂⟩
      | ret => exact ⟨_, a₁, w₁, hq, harr⟩
      | panic ch => exact ⟨_, a₁, w₁, hq, harr⟩
      | outgrown => exact ⟨_, a₁, w₁, hq, harr⟩
  obtain ⟨e, a₁, w₁, hq, harr⟩ := first b (.inScope c :: k) cs
  cases e with
  | normal => exact ⟨.normal, a₁, w₁, hq, .head step_scope (Steps.trans harr (.one step_inScope))⟩
  | exit id => exact ⟨.exit id, a₁, w₁, hq, fun k' hk => .head step_scope (harr k' (by simp [exitTo, hk]))⟩
  | goto l' =>
    obtain ⟨rest', hf', e₂, a₂, w₂, hq₂, harr₂⟩ := key _ l' a₁ w₁ rfl hq
    have hg : gotoIn l' (.inScope c :: k) = some (.code rest' :: .inScope c :: k) := by simp [gotoIn, hf']
    exact ⟨e₂, a₂, w₂, hq₂, .of_steps (.head step_scope (harr _ hg)) harr₂⟩
  | ret => exact ⟨_, a₁, w₁, hq, .of_steps (.one step_scope) harr⟩
  | panic ch => exact ⟨_, a₁, w₁, hq, .of_steps (.one step_scope) harr⟩
  | outgrown => exact ⟨_, a₁, w₁, hq, .of_steps (.one step_scope) harr⟩
theorem arr_of (n : Nat) (xs : Array Value) (h : xs.size = n) : xs = ((List.range n).map (fun i => xs.getD i undef)).toArray := by
  apply Array.ext
  · simp [h]
  · intro i h1 h2
    simp [Array.getD, h1]
/-- floatBits' states: the digits' number, halved S1 times and doubled S2 times, is X0. -/
structure FbS (X0 : Nat) (E : Int) (b : Nat) (ng : Bool) (w0 wr : World) (S1 S2 : Nat) (g : Nat → Nat) (j : Nat) (q : Int) : Prop where
  fx : FXb wr b
  mem : DecIs wr b g j q ng false
  dig : DigF g j
  one : 1 ≤ j
  top : 49 ≤ g 0
  le : j ≤ 800
  nz : j ≤ 64 ∨ g (j - 1) ≠ 48
  val : SameV (dn g j * 2 ^ S1) (q - j) (X0 * 2 ^ S2) E
  bel : Below b w0 wr
theorem FbS.drew {X0 : Nat} {E : Int} {b : Nat} {ng : Bool} {w0 wr : World} {S1 S2 : Nat} {g : Nat → Nat} {j : Nat} {q : Int} (h : FbS X0 E b ng w0 wr S1 S2 g j q) (n : Nat) : FbS X0 E b ng w0 (wr.drewN n) S1 S2 g j q :=
  ⟨h.fx.on (below_dn (Below.refl _ _) n), h.mem.drew n, h.dig, h.one, h.top, h.le, h.nz, h.val, below_dn h.bel n⟩
theorem FbS.low {X0 : Nat} {E : Int} {b : Nat} {ng : Bool} {w0 wr : World} {S1 S2 : Nat} {g : Nat → Nat} {j : Nat} {q : Int} (h : FbS X0 E b ng w0 wr S1 S2 g j q) : 10 ^ (j - 1) ≤ dn g j := by
  obtain ⟨i, rfl⟩ : ∃ i, j = i + 1 := ⟨j - 1, by have := h.one; omega⟩
  exact dn_ge h.top i
theorem FbS.up {X0 : Nat} {E : Int} {b : Nat} {ng : Bool} {w0 wr : World} {S1 S2 : Nat} {g : Nat → Nat} {j : Nat} {q : Int} (h : FbS X0 E b ng w0 wr S1 S2 g j q) {n0 : Nat} {dp : Int} (hX : X0 < 10 ^ n0) (hE : E = dp - n0) (hs : S2 ≤ S1) : 3 * (S1 : Int) + 10 * (q - 1) < 10 * dp + 3 * S2 := by
  obtain ⟨a, ha⟩ : ∃ a : Nat, (a : Int) = q - 1 + max (1 - q) (-dp) := ⟨(q - 1 + max (1 - q) (-dp)).toNat, by omega⟩
  obtain ⟨c, hc⟩ : ∃ c : Nat, (c : Int) = E + n0 + max (1 - q) (-dp) := ⟨(E + n0 + max (1 - q) (-dp)).toNat, by omega⟩
  have := s_lin2 (hav h.val h.low h.one hX ha hc) hs
  omega
theorem FbS.down {X0 : Nat} {E : Int} {b : Nat} {ng : Bool} {w0 wr : World} {S1 S2 : Nat} {g : Nat → Nat} {j : Nat} {q : Int} (h : FbS X0 E b ng w0 wr S1 S2 g j q) {n0 : Nat} {dp : Int} (hX : 10 ^ (n0 - 1) ≤ X0) (h1 : 1 ≤ n0) (hE : E = dp - n0) (hs : S1 ≤ S2) : 3 * (S2 : Int) + 10 * (dp - 1) < 10 * q + 3 * S1 := by
  obtain ⟨a, ha⟩ : ∃ a : Nat, (a : Int) = dp - 1 + max (1 - dp) (-q) := ⟨(dp - 1 + max (1 - dp) (-q)).toNat, by omega⟩
  obtain ⟨c, hc⟩ : ∃ c : Nat, (c : Int) = q - j + j + max (1 - dp) (-q) := ⟨(q - j + j + max (1 - dp) (-q)).toNat, by omega⟩
  have hv := h.val.symm
  rw [hE] at hv
  have := s_lin2 (hav hv hX h1 (dn_lt h.dig) ha hc) hs
  omega
theorem FbS.len {X0 : Nat} {E : Int} {b : Nat} {ng : Bool} {w0 wr : World} {S1 S2 : Nat} {g : Nat → Nat} {j : Nat} {q : Int} (h : FbS X0 E b ng w0 wr S1 S2 g j q) : (j : Int) ≤ max 64 (q + max (-E) ((S1 : Int) - S2 - E)) := by
  rcases h.nz with hh | hh
  · omega
  · have := nd_le h.val (last_dn h.dig h.one hh)
    omega
/-- A step to the right. -/
def FbrPost (X0 : Nat) (E : Int) (b : Nat) (ng : Bool) (w0 : World) (S1 S2 n : Nat) (g : Nat → Nat) (j : Nat) (q : Int) (e : Ending) (w' : World) : Prop :=
  ∃ g' j' q', e = .returned (.tuple #[]) ∧ FbS X0 E b ng w0 w' (S1 + n) S2 g' j' q' ∧ SameV (dn g' j' * 2 ^ n) (q' - j') (dn g j) (q - j) ∧ q - n - 20 ≤ q' ∧ q' ≤ q
theorem fbR {X0 : Nat} {E : Int} {b : Nat} {ng : Bool} {w0 wr : World} {S1 S2 : Nat} {g : Nat → Nat} {j : Nat} {q : Int} (n : Nat) (h : FbS X0 E b ng w0 wr S1 S2 g j q) (hn : 1 ≤ n) (hn2 : n ≤ 2000) (hq : -9000 ≤ q ∧ q ≤ 9000) (hb1 : q - E ≤ 800) (hb2 : (S1 : Int) + n - S2 + q - E ≤ 800) :
    Calls Tryd.prog 76 #[.pointer (some ⟨b, 0, none⟩), .int .i64 (-(n : Int))] wr (FbrPost X0 E b ng w0 S1 S2 n g j q) := by
  obtain ⟨m, hm, hfit⟩ := fit2 (k := n) h.val hb1 hb2 h.le
  refine (shiftRC b g j q n m ng false wr h.mem h.dig h.one h.top hn hn2 hm hfit (by omega)).mono ?_
  rintro e w' ⟨g', j', q', rfl, a1, a2, a3, a4, a5, a6, a7, a8, a9, a10⟩
  exact ⟨g', j', q', rfl, ⟨h.fx.on a10, a1, a2, a3, a4, a6, .inr a5, stepR h.val a7, h.bel.trans a10⟩, a7, a8, a9⟩
/-- A step to the left. -/
def FblPost (X0 : Nat) (E : Int) (b : Nat) (ng : Bool) (w0 : World) (S1 S2 n : Nat) (g : Nat → Nat) (j : Nat) (q : Int) (e : Ending) (w' : World) : Prop :=
  ∃ g' j' q', e = .returned (.tuple #[]) ∧ FbS X0 E b ng w0 w' S1 (S2 + n) g' j' q' ∧ SameV (dn g' j') (q' - j') (dn g j * 2 ^ n) (q - j) ∧ g' (j' - 1) ≠ 48 ∧ q ≤ q' ∧ q' ≤ q + 20
theorem fbL {X0 : Nat} {E : Int} {b : Nat} {ng : Bool} {w0 wr : World} {S1 S2 : Nat} {g : Nat → Nat} {j : Nat} {q : Int} (n : Nat) (h : FbS X0 E b ng w0 wr S1 S2 g j q) (hn : 1 ≤ n) (hn2 : n ≤ 60) (hq : -9000 ≤ q ∧ q ≤ 9000) (hb : j + chD n < 800) :
    Calls Tryd.prog 76 #[.pointer (some ⟨b, 0, none⟩), .int .i64 (n : Int)] wr (FblPost X0 E b ng w0 S1 S2 n g j q) := by
  refine (shiftLC b g j q n ng false wr h.fx h.mem h.dig h.one h.top hn hn2 hb (by omega)).mono ?_
  rintro e w' ⟨g', j', q', rfl, a1, a2, a3, a4, a5, a6, a7, a8, a9, a10⟩
  exact ⟨g', j', q', rfl, ⟨h.fx.on a10, a1, a2, a3, a4, a6, .inr a5, stepL h.val a7, h.bel.trans a10⟩, a7, a5, a8, a9⟩
/-- Loop 1: what a round needs. -/
theorem fb1_need {X0 : Nat} {E : Int} {b : Nat} {ng : Bool} {w0 wr : World} {S t : Nat} {g : Nat → Nat} {j n0 : Nat} {dp : Int} (h : FbS X0 E b ng w0 wr S 0 g j t) (hX : X0 < 10 ^ n0) (hE : E = dp - n0) (hn0 : n0 ≤ 64) (hdp : dp ≤ 310) (ht : 1 ≤ t) (htd : (t : Int) ≤ dp) : (t : Int) - E ≤ 800 ∧ (S : Int) + ptab t - (0 : Nat) + t - E ≤ 800 ∧ S < 1100 := by
  have h1 := h.up hX hE (Nat.zero_le _)
  have h2 := ptab_fit ht (by omega)
  omega
/-- .. and what it leaves. -/
theorem fb1_next {g g' : Nat → Nat} {j j' t : Nat} {q' : Int} (hd : DigF g' j') (h1 : 1 ≤ j) (h0 : 49 ≤ g 0) (ht : 1 ≤ t) (h : SameV (dn g' j' * 2 ^ ptab t) (q' - j') (dn g j) ((t : Int) - j)) : 0 ≤ q' := by
  have hX : 10 ^ (j - 1) ≤ dn g j := by
    obtain ⟨i, rfl⟩ : ∃ i, j = i + 1 := ⟨j - 1, by omega⟩
    exact dn_ge h0 i
  have hlt : dn g' j' * 2 ^ ptab t < 10 ^ (j' + t) := by
    rw [Nat.pow_add]
    exact Nat.lt_of_lt_of_le (Nat.mul_lt_mul_of_pos_right (dn_lt hd) (Nat.two_pow_pos _)) (Nat.mul_le_mul_left _ (ptab_le ht))
  have := dp_step (k := (t : Int)) h.symm hX h1 hlt (by omega)
  omega
/-- Loop 2: what a round needs. -/
theorem fb2_need {X0 : Nat} {E : Int} {b : Nat} {ng : Bool} {w0 wr : World} {S1 S2 : Nat} {g : Nat → Nat} {j n0 : Nat} {dp q : Int} (h : FbS X0 E b ng w0 wr S1 S2 g j q) (hE : E = dp - n0) (hn0 : n0 ≤ 64) (hdp : -330 ≤ dp ∧ dp ≤ 310) (hS : S1 = 0 ∨ 3 * (S1 : Int) < 10 * dp + 10) (hq : q ≤ 0) : j ≤ 790 := by
  have := h.len
  omega
theorem fb2_low {X0 : Nat} {E : Int} {b : Nat} {ng : Bool} {w0 wr : World} {S1 S2 : Nat} {g : Nat → Nat} {j n0 : Nat} {dp q : Int} (h : FbS X0 E b ng w0 wr S1 S2 g j q) (hX : 10 ^ (n0 - 1) ≤ X0) (h1 : 1 ≤ n0) (hE : E = dp - n0) (hdp : -330 ≤ dp ∧ dp ≤ 310) (hS : S1 = 0 ∨ 3 * (S1 : Int) < 10 * dp + 10) (hq : q ≤ 0) : S1 ≤ 1036 ∧ S2 < S1 + 1104 := by
  refine ⟨by omega, ?_⟩
  rcases Nat.lt_or_ge S2 S1 with hh | hh
  · omega
  · have := h.down hX h1 hE hh
    omega
theorem fb2_next {g g' : Nat → Nat} {j j' t : Nat} {q q' : Int} (hd : DigF g j) (hd' : DigF g' j') (h1 : 1 ≤ j') (hj : 1 ≤ j) (h0 : 49 ≤ g' 0) (hq : q = -(t : Int)) (ht : 1 ≤ t ∨ g 0 < 53) (h : SameV (dn g' j') (q' - j') (dn g j * 2 ^ ptab t) (q - j)) : q' ≤ 0 := by
  have hX : 10 ^ (j' - 1) ≤ dn g' j' := by
    obtain ⟨i, rfl⟩ : ∃ i, j' = i + 1 := ⟨j' - 1, by omega⟩
    exact dn_ge h0 i
  have hlt : dn g j * 2 ^ ptab t < 10 ^ (j + t) := by
    rcases Nat.eq_zero_or_pos t with h2 | h2
    · subst h2
      exact half_dn' hd hj (by omega)
    · rw [Nat.pow_add]
      exact Nat.lt_of_lt_of_le (Nat.mul_lt_mul_of_pos_right (dn_lt hd) (Nat.two_pow_pos _)) (Nat.mul_le_mul_left _ (ptab_le h2))
  have := dp_step (k := (t : Int)) h hX h1 hlt (by omega)
  omega
theorem fb3_q {g g' : Nat → Nat} {j j' : Nat} {q q' : Int} (hd : DigF g j) (h1 : 1 ≤ j') (h0 : 49 ≤ g' 0) (hq : q ≤ 0) (h : SameV (dn g' j') (q' - j') (dn g j * 2 ^ 53) (q - j)) : q' ≤ 16 := by
  have hX : 10 ^ (j' - 1) ≤ dn g' j' := by
    obtain ⟨i, rfl⟩ : ∃ i, j' = i + 1 := ⟨j' - 1, by omega⟩
    exact dn_ge h0 i
  have hlt : dn g j * 2 ^ 53 < 10 ^ (j + 16) := by
    rw [Nat.pow_add]
    exact Nat.lt_of_lt_of_le (Nat.mul_lt_mul_of_pos_right (dn_lt hd) (Nat.two_pow_pos _)) (Nat.mul_le_mul_left _ (by decide))
  have := dp_step (k := 16) h hX h1 hlt (by omega)
  omega
/-- What is asked of memory behind the jumps. -/
structure FbM (b : Nat) (ng : Bool) (w0 wr : World) : Prop where
  ng : wr.cell? ⟨b, 802, none⟩ = some (.bool ng)
  fx : FX wr
  bel : Below b w0 wr
theorem FbS.m {X0 : Nat} {E : Int} {b : Nat} {ng : Bool} {w0 wr : World} {S1 S2 : Nat} {g : Nat → Nat} {j : Nat} {q : Int} (h : FbS X0 E b ng w0 wr S1 S2 g j q) : FbM b ng w0 wr := ⟨h.mem.ng, h.fx.fx, h.bel⟩
theorem FbM.drew {b : Nat} {ng : Bool} {w0 wr : World} (h : FbM b ng w0 wr) (n : Nat) : FbM b ng w0 (wr.drewN n) := ⟨h.ng, h.fx.on (below_dn (Below.refl _ _) n), below_dn h.bel n⟩
/-- What floatBits answers. -/
def FbPost (b : Nat) (ng : Bool) (u : Nat) (w : World) (e : Ending) (w' : World) : Prop :=
  e = .returned (.tuple #[.int .u64 ((sgw ng + min u infR : Nat) : Int), .bool (decide (infR ≤ u))]) ∧ Below b w w'

/-- At the label 'out': the mantissa's bits, the power, whether it flows over. -/
def FbJ0 (b : Nat) (ng : Bool) (u : Nat) (w0 : World) (a : Act) (wr : World) : Prop :=
  ∃ (v : Nat → Value) (ov : Bool) (x mm : Nat), a = { tmps := #[.pointer (some ⟨b, 0, none⟩), .pointer (some ⟨10, 0, none⟩), v 2, v 3, v 4, .bool ov, .int .i64 ((x : Int) - 1023), .int .u64 (mm : Int), v 8, v 9, v 10, v 11, v 12, v 13, v 14, v 15, v 16, v 17, v 18, v 19, v 20, v 21, v 22, v 23, v 24, v 25, v 26, v 27, v 28, v 29, v 30, v 31, v 32, v 33, v 34, v 35, v 36, v 37, v 38, v 39, v 40, v 41, v 42, v 43, v 44, v 45, v 46, v 47, v 48, v 49, v 50, v 51, v 52, v 53, v 54, v 55, v 56, v 57, v 58, v 59, v 60, v 61, v 62, v 63, v 64, v 65, v 66, v 67, v 68, v 69, v 70, v 71, v 72, v 73, v 74, v 75, v 76, v 77, v 78, v 79, v 80, v 81, v 82, v 83, v 84, v 85, v 86, v 87, v 88, v 89, v 90, v 91, v 92, v 93, v 94, v 95, v 96, v 97, v 98, v 99, v 100, v 101, v 102, v 103, v 104, v 105, v 106, v 107, v 108, v 109, v 110, v 111, v 112, v 113, v 114, v 115, v 116, v 117, v 118, v 119, v 120, v 121, v 122, v 123, v 124, v 125, v 126, v 127, v 128, v 129, v 130, v 131, v 132, v 133, v 134, v 135, v 136, v 137, v 138, v 139, v 140, v 141, v 142, v 143, v 144, v 145, v 146, v 147, v 148, v 149, v 150, v 151, v 152, v 153, v 154, v 155, v 156, v 157, v 158, v 159, v 160, v 161, v 162, v 163, v 164, v 165, v 166, v 167, v 168, v 169, v 170, v 171, v 172, v 173, v 174, v 175, v 176, v 177, v 178, v 179, v 180, v 181, v 182, v 183, v 184, v 185, v 186, v 187, v 188, v 189, v 190, v 191, v 192, v 193, v 194, v 195, v 196, v 197, v 198, v 199, v 200, v 201, v 202, v 203, v 204, v 205, v 206, v 207, v 208, v 209, v 210, v 211, v 212, v 213, v 214, v 215, v 216, v 217, v 218, v 219, v 220, v 221, v 222, v 223, v 224, v 225, v 226, v 227, v 228, v 229, v 230, v 231, v 232, v 233, v 234, v 235, v 236, v 237, v 238, v 239, v 240, v 241, v 242], defers := [] } ∧ Hid (FbM b ng w0 wr) ∧ x ≤ 2047 ∧ mm < 9007199254740992 ∧ min u infR = x * 4503599627370496 + mm % 4503599627370496 ∧ ov = decide (infR ≤ u)
def FbJ1 (b : Nat) (ng : Bool) (u : Nat) (w0 : World) (a : Act) (wr : World) : Prop :=
  ∃ (v : Nat → Value), a = { tmps := #[.pointer (some ⟨b, 0, none⟩), .pointer (some ⟨10, 0, none⟩), v 2, v 3, v 4, v 5, v 6, v 7, v 8, v 9, v 10, v 11, v 12, v 13, v 14, v 15, v 16, v 17, v 18, v 19, v 20, v 21, v 22, v 23, v 24, v 25, v 26, v 27, v 28, v 29, v 30, v 31, v 32, v 33, v 34, v 35, v 36, v 37, v 38, v 39, v 40, v 41, v 42, v 43, v 44, v 45, v 46, v 47, v 48, v 49, v 50, v 51, v 52, v 53, v 54, v 55, v 56, v 57, v 58, v 59, v 60, v 61, v 62, v 63, v 64, v 65, v 66, v 67, v 68, v 69, v 70, v 71, v 72, v 73, v 74, v 75, v 76, v 77, v 78, v 79, v 80, v 81, v 82, v 83, v 84, v 85, v 86, v 87, v 88, v 89, v 90, v 91, v 92, v 93, v 94, v 95, v 96, v 97, v 98, v 99, v 100, v 101, v 102, v 103, v 104, v 105, v 106, v 107, v 108, v 109, v 110, v 111, v 112, v 113, v 114, v 115, v 116, v 117, v 118, v 119, v 120, v 121, v 122, v 123, v 124, v 125, v 126, v 127, v 128, v 129, v 130, v 131, v 132, v 133, v 134, v 135, v 136, v 137, v 138, v 139, v 140, v 141, v 142, v 143, v 144, v 145, v 146, v 147, v 148, v 149, v 150, v 151, v 152, v 153, v 154, v 155, v 156, v 157, v 158, v 159, v 160, v 161, v 162, v 163, v 164, v 165, v 166, v 167, v 168, v 169, v 170, v 171, v 172, v 173, v 174, v 175, v 176, v 177, v 178, v 179, v 180, v 181, v 182, v 183, v 184, v 185, v 186, v 187, v 188, v 189, v 190, v 191, v 192, v 193, v 194, v 195, v 196, v 197, v 198, v 199, v 200, v 201, v 202, v 203, v 204, v 205, v 206, v 207, v 208, v 209, v 210, v 211, v 212, v 213, v 214, v 215, v 216, v 217, v 218, v 219, v 220, v 221, v 222, v 223, v 224, v 225, v 226, v 227, v 228, v 229, v 230, v 231, v 232, v 233, v 234, v 235, v 236, v 237, v 238, v 239, v 240, v 241, v 242], defers := [] } ∧ Hid (FbM b ng w0 wr) ∧ infR ≤ u
set_option maxRecDepth 100000 in
theorem FbJ0.mk {b : Nat} {ng : Bool} {u : Nat} {w0 wr : World} {tm : Array Value} {ov : Bool} {x mm : Nat} {xi : Int} (hs : tm.size = 243) (h0 : tm.getD 0 undef = .pointer (some ⟨b, 0, none⟩)) (h1 : tm.getD 1 undef = .pointer (some ⟨10, 0, none⟩)) (h5 : tm.getD 5 undef = .bool ov) (h6 : tm.getD 6 undef = .int .i64 xi) (hx : xi = (x : Int) - 1023) (h7 : tm.getD 7 undef = .int .u64 (mm : Int)) (hm : Hid (FbM b ng w0 wr)) (k1 : x ≤ 2047) (k2 : mm < 9007199254740992) (k3 : min u infR = x * 4503599627370496 + mm % 4503599627370496) (k4 : ov = decide (infR ≤ u)) : FbJ0 b ng u w0 { tmps := tm, defers := [] } wr := by
  subst hx
  refine ⟨fun i => tm.getD i undef, ov, x, mm, ?_, hm, k1, k2, k3, k4⟩
  have e := arr_of 243 tm hs
  rw [← h0, ← h1, ← h5, ← h6, ← h7]
  exact congrArg (fun t => ({ tmps := t, defers := [] } : Act)) e
set_option maxRecDepth 100000 in
theorem FbJ1.mk {b : Nat} {ng : Bool} {u : Nat} {w0 wr : World} {tm : Array Value} (hs : tm.size = 243) (h0 : tm.getD 0 undef = .pointer (some ⟨b, 0, none⟩)) (h1 : tm.getD 1 undef = .pointer (some ⟨10, 0, none⟩)) (hm : Hid (FbM b ng w0 wr)) (k : infR ≤ u) : FbJ1 b ng u w0 { tmps := tm, defers := [] } wr := by
  refine ⟨fun i => tm.getD i undef, ?_, hm, k⟩
  have e := arr_of 243 tm hs
  rw [← h0, ← h1]
  exact congrArg (fun t => ({ tmps := t, defers := [] } : Act)) e
theorem zor_hi (R : Nat) (hR : R < 9223372036854775808) : bits BinOp.or IntKind.u64 (R : Int) 9223372036854775808 = ((9223372036854775808 + R : Nat) : Int) := by
  have h := zor_sg (neg := true) hR
  have e : bits BinOp.or IntKind.u64 (R : Int) 9223372036854775808 = bits BinOp.or IntKind.u64 ((9223372036854775808 : Nat) : Int) (R : Int) := by
    have a := u64_or_nat R 9223372036854775808 (by omega) (by decide)
    have c := u64_or_nat 9223372036854775808 R (by decide) (by omega)
    rw [Nat.or_comm] at a
    exact a.trans c.symm
  rw [e]
  exact h
theorem fb_mask (mm : Nat) (h : mm < 9007199254740992) : bits BinOp.and IntKind.u64 (mm : Int) 4503599627370495 = ((mm % 4503599627370496 : Nat) : Int) := by
  have := and_mask 52 mm 4503599627370496 (by decide) (by decide) (by omega)
  simpa using this
set_option maxRecDepth 100000 in
set_option maxHeartbeats 8000000 in
theorem floatBitsC (b : Nat) (f : Nat → Nat) (nd : Nat) (dp : Int) (ng : Bool) (u : Nat) (w : World) (hx : FXb w b) (h : DecIs w b f nd dp ng false) (hd : DigF f nd) (h1 : 1 ≤ nd) (hnd : nd ≤ 64) (h0 : 49 ≤ f 0) (hdp : -330 ≤ dp) (hdp2 : dp ≤ 100000) (hu : Near (valN (dn f nd) (dp - nd)) (valD (dp - nd)) u) :
    Calls Tryd.prog 57 #[.pointer (some ⟨b, 0, none⟩), .pointer (some ⟨10, 0, none⟩)] w (FbPost b ng u w) := by
  have k1 := h.nd
  have k2 := h.dp
  have e1 : ((nd : Int) == 0) = false := by simp; omega
  have HS0 : Hid (FbS (dn f nd) (dp - nd) b ng w w 0 0 f nd dp) := fhid ⟨hx, h, hd, h1, h0, by omega, .inl hnd, SameV.refl _ _, Below.refl _ _⟩
  have HXL : Hid (10 ^ (nd - 1) ≤ dn f nd) := fhid HS0.out.low
  have HXH : Hid (dn f nd < 10 ^ nd) := fhid (dn_lt hd)
  have HOV : Hid (310 < dp → infR ≤ u) := fhid (fun hh => dp_up HXL.out h1 hh hu)
  have HU := fhid hu
  have HM0 := fhid HS0.out.m
  obtain ⟨X0, hX0⟩ : ∃ X, dn f nd = X := ⟨_, rfl⟩
  obtain ⟨E, hE⟩ : ∃ E : Int, dp - (nd : Int) = E := ⟨_, rfl⟩
  rw [hX0, hE] at HS0 HU
  rw [hX0] at HXL HXH
  have HE : Hid (E = dp - (nd : Int)) := fhid hE.symm
  clear hx h hd h0 hu hX0 hE
  go_enter Tryd.func57, Tryd.ntmps57
  go_wp2_with fail
  refine wp_scope_fwd (fun l a' w' => (l = 1 ∧ FbJ1 b ng u w a' w') ∨ (l = 0 ∧ FbJ0 b ng u w a' w')) id ?_ ?_
  · by_cases hbig : 310 < dp
    · go_wp2_with fail
      go_step3
      exact .inl ⟨rfl, FbJ1.mk rfl rfl rfl HM0 (HOV.out hbig)⟩
    · have g330 : ¬ dp < -330 := by omega
      go_wp2_with fail
      clear k1 k2 e1 HM0 HOV
      go_loopw [6] (fun x wr => ∃ (S : Nat) (g : Nat → Nat) (j : Nat) (q : Int), x = .int .i64 (S : Int) ∧ Hid (FbS X0 E b ng w wr S 0 g j q) ∧ q ≤ dp ∧ (0 ≤ q ∨ S = 0 ∧ q = dp)) (fun x _ => 4000 - (intOf x).toNat)
      case atStart => exact ⟨0, f, nd, dp, rfl, HS0, Int.le_refl _, .inr ⟨rfl, rfl⟩⟩
      case round =>
        clear HS0
        obtain ⟨S, g, j, q, rfl, hS, hqd, hqs⟩ := hrel
        have c2 := hS.out.mem.dp
        by_cases hq : 0 < q
        · obtain ⟨t, rfl⟩ : ∃ t : Nat, q = (t : Int) := ⟨q.toNat, by omega⟩
          have ht1 : 1 ≤ t := by omega
          have hneed := fb1_need hS.out HXH.out HE.out hnd (by omega) ht1 hqd
          obtain ⟨pg, po, pc, p1, p2⟩ := hS.out.fx.fx.pow
          have hpt := ptab_pos t
          have cS : Hid (∀ W, FbS X0 E b ng w W S 0 g j t → Calls Tryd.prog 76 #[.pointer (some ⟨b, 0, none⟩), .int .i64 (-(ptab t : Int))] W (FbrPost X0 E b ng w S 0 (ptab t) g j t)) := fhid (fun W hW => fbR (ptab t) hW hpt.1 (by omega) (by omega) hneed.1 hneed.2.1)
          have hS11 := hneed.2.2
          obtain ⟨n, hn⟩ : ∃ n, ptab t = n := ⟨_, rfl⟩
          have HN := fhid hn
          rw [hn] at cS hpt
          obtain ⟨hn1, hn2⟩ := hpt
          have ht310 : t ≤ 310 := by omega
          by_cases h9 : t < 9
          · have p3 := p2 t h9
            have hnn : (([1, 3, 6, 9, 13, 16, 19, 23, 26] : List Nat).getD t 0) = n := by rw [← hn]; unfold ptab; rw [if_pos h9]
            rw [hnn] at p3
            have g9 : ¬ (9 : Int) ≤ (t : Int) := by omega
            have g9' : (t : Int) < 9 := by omega
            clear hneed hn hnn p2
            go_wp2_with fail
            go_quiet (fail)
            go_wp2_with fail
            go_quiet (fail)
            go_wp2_with fail
            with_reducible refine (cS.out _ (by first | exact hS.out.drew _ | exact (hS.out.drew _).drew _)).mono ?_
            clear cS p1 p3 c2
            rintro e w3 ⟨g1, j1, q1, rfl, hS1, hv, hq1a, hq1b⟩
            have hq0 : 0 ≤ q1 := fb1_next hS1.dig hS.out.one hS.out.top ht1 (by rw [HN.out]; exact hv)
            have HS1 := fhid hS1
            clear hS1 hv hS HN
            go_wp2_with fail
            exact ⟨⟨S + n, g1, j1, q1, congrArg (Value.int IntKind.i64) (by omega), HS1, by omega, .inl hq0⟩, by simp [intOf]; omega⟩
          · have g9 : (9 : Int) ≤ (t : Int) := by omega
            have hn27 : n = 27 := by rw [← hn]; unfold ptab; rw [if_neg h9]
            subst hn27
            have cS : Hid (∀ W, FbS X0 E b ng w W S 0 g j t → Calls Tryd.prog 76 #[.pointer (some ⟨b, 0, none⟩), .int .i64 (-27)] W (FbrPost X0 E b ng w S 0 27 g j t)) := cS
            clear hneed hn p2
            go_wp2_with fail
            go_quiet (fail)
            go_wp2_with fail
            with_reducible refine (cS.out _ (by first | exact hS.out.drew _ | exact (hS.out.drew _).drew _)).mono ?_
            clear cS p1 c2
            rintro e w3 ⟨g1, j1, q1, rfl, hS1, hv, hq1a, hq1b⟩
            have hq0 : 0 ≤ q1 := fb1_next hS1.dig hS.out.one hS.out.top ht1 (by rw [HN.out]; exact hv)
            have HS1 := fhid hS1
            clear hS1 hv hS HN
            go_wp2_with fail
            exact ⟨⟨S + 27, g1, j1, q1, congrArg (Value.int IntKind.i64) (by omega), HS1, by omega, .inl hq0⟩, by simp [intOf]; omega⟩
        · have hSB : S = 0 ∨ 3 * (S : Int) < 10 * dp + 10 := by
            rcases hqs with h | h
            · right
              have := hS.out.up HXH.out HE.out (Nat.zero_le _)
              omega
            · exact .inl h.1
          have hq330 : -330 ≤ q := by omega
          have hq0 : q ≤ 0 := by omega
          clear hqd hqs
          go_wp2_with fail
          clear c2
          go_loopw [6] (fun x wr => ∃ (S2 : Nat) (g : Nat → Nat) (j : Nat) (q : Int), x = .int .i64 ((S : Int) - (S2 : Int)) ∧ Hid (FbS X0 E b ng w wr S S2 g j q) ∧ q ≤ 0 ∧ -330 ≤ q) (fun x _ => (intOf x + 4000).toNat)
          case atStart => exact ⟨0, g, j, q, congrArg (Value.int IntKind.i64) (by omega), hS, hq0, hq330⟩
          case round =>
            clear hS hq hq330 hq0
            obtain ⟨S2, g2, j2, q2, rfl, hS2, hq2, hq2b⟩ := hrel
            obtain ⟨hb1, hb2⟩ := fb2_low hS2.out HXL.out h1 HE.out ⟨hdp, by omega⟩ hSB hq2
            have c2 := hS2.out.mem.dp
            have c0 := hS2.out.mem.at_ 0 (by omega)
            obtain ⟨c, hc⟩ : ∃ c, g2 0 = c := ⟨_, rfl⟩
            have HC := fhid hc
            rw [hc] at c0
            by_cases hgo : q2 < 0 ∨ c < 53
            · obtain ⟨t, ht⟩ : ∃ t : Nat, q2 = -(t : Int) := ⟨(-q2).toNat, by omega⟩
              obtain ⟨pg, po, pc, p1, p2⟩ := hS2.out.fx.fx.pow
              have hpt := ptab_pos t
              have hroom := fb2_need hS2.out HE.out hnd ⟨hdp, by omega⟩ hSB hq2
              have cS : Hid (∀ W, FbS X0 E b ng w W S S2 g2 j2 q2 → Calls Tryd.prog 76 #[.pointer (some ⟨b, 0, none⟩), .int .i64 (ptab t : Int)] W (FblPost X0 E b ng w S S2 (ptab t) g2 j2 q2)) := fhid (fun W hW => fbL (ptab t) hW hpt.1 (by omega) (by omega) (by have := chD_27 (ptab t) (by omega); omega))
              have HNX : Hid (∀ g' j' q', DigF g' j' → 1 ≤ j' → 49 ≤ g' 0 → SameV (dn g' j') (q' - (j' : Nat)) (dn g2 j2 * 2 ^ ptab t) (q2 - j2) → q' ≤ 0) := fhid (fun g' j' q' a1 a2 a3 a4 => fb2_next hS2.out.dig a1 a2 hS2.out.one a3 ht (by omega) a4)
              obtain ⟨n, hn⟩ : ∃ n, ptab t = n := ⟨_, rfl⟩
              have HN := fhid hn
              rw [hn] at cS hpt HNX
              obtain ⟨hn1, hn2⟩ := hpt
              by_cases hneg : 0 < t
              · subst ht
                have b1 : -(t : Int) < 0 := by omega
                by_cases h9 : t < 9
                · have p3 := p2 t h9
                  have hnn : (([1, 3, 6, 9, 13, 16, 19, 23, 26] : List Nat).getD t 0) = n := by rw [← hn]; unfold ptab; rw [if_pos h9]
                  rw [hnn] at p3
                  have g9 : ¬ (9 : Int) ≤ (t : Int) := by omega
                  have g9' : (t : Int) < 9 := by omega
                  clear hn hnn p2 hc hgo
                  go_wp2_with fail
                  go_quiet (fail)
                  go_wp2_with fail
                  go_quiet (fail)
                  go_wp2_with fail
                  with_reducible refine (cS.out _ (by first | exact hS2.out.drew _ | exact (hS2.out.drew _).drew _)).mono ?_
                  clear cS p1 p3 c2 c0
                  rintro e w3 ⟨g1, j1, q1, rfl, hS3, hv, hl, hq1a, hq1b⟩
                  have hq0 : q1 ≤ 0 := HNX.out g1 j1 q1 hS3.dig hS3.one hS3.top hv
                  have HS3 := fhid hS3
                  clear hS3 hv hS2 HN HNX hl
                  go_wp2_with fail
                  exact ⟨⟨S2 + n, g1, j1, q1, congrArg (Value.int IntKind.i64) (by omega), HS3, hq0, by omega⟩, by simp [intOf]; omega⟩
                · have g9 : (9 : Int) ≤ (t : Int) := by omega
                  have hn27 : n = 27 := by rw [← hn]; unfold ptab; rw [if_neg h9]
                  subst hn27
                  have cS : Hid (∀ W, FbS X0 E b ng w W S S2 g2 j2 (-(t : Int)) → Calls Tryd.prog 76 #[.pointer (some ⟨b, 0, none⟩), .int .i64 27] W (FblPost X0 E b ng w S S2 27 g2 j2 (-(t : Int)))) := cS
                  clear hn p2 hc hgo
                  go_wp2_with fail
                  go_quiet (fail)
                  go_wp2_with fail
                  with_reducible refine (cS.out _ (by first | exact hS2.out.drew _ | exact (hS2.out.drew _).drew _)).mono ?_
                  clear cS p1 c2 c0
                  rintro e w3 ⟨g1, j1, q1, rfl, hS3, hv, hl, hq1a, hq1b⟩
                  have hq0 : q1 ≤ 0 := HNX.out g1 j1 q1 hS3.dig hS3.one hS3.top hv
                  have HS3 := fhid hS3
                  clear hS3 hv hS2 HN HNX hl
                  go_wp2_with fail
                  exact ⟨⟨S2 + 27, g1, j1, q1, congrArg (Value.int IntKind.i64) (by omega), HS3, hq0, by omega⟩, by simp [intOf]; omega⟩
              · obtain rfl : t = 0 := by omega
                obtain rfl : q2 = 0 := by omega
                have p3 := p2 0 (by omega)
                have hnn : (([1, 3, 6, 9, 13, 16, 19, 23, 26] : List Nat).getD 0 0) = n := by rw [← hn]; rfl
                rw [hnn, Nat.add_zero] at p3
                have g53 : (c : Int) < 53 := by omega
                clear hn hnn p2 hc hgo ht
                go_wp2_with fail
                go_quiet (fail)
                go_wp2_with fail
                go_quiet (fail)
                go_wp2_with fail
                with_reducible refine (cS.out _ (by first | exact hS2.out.drew _ | exact (hS2.out.drew _).drew _)).mono ?_
                clear cS p1 p3 c2 c0
                rintro e w3 ⟨g1, j1, q1, rfl, hS3, hv, hl, hq1a, hq1b⟩
                have hq0 : q1 ≤ 0 := HNX.out g1 j1 q1 hS3.dig hS3.one hS3.top hv
                have HS3 := fhid hS3
                clear hS3 hv hS2 HN HNX hl
                go_wp2_with fail
                exact ⟨⟨S2 + n, g1, j1, q1, congrArg (Value.int IntKind.i64) (by omega), HS3, hq0, by omega⟩, by simp [intOf]; omega⟩
            · have hq20 : q2 = 0 := by omega
              subst hq20
              have h53 : 53 ≤ c := by omega
              have g53 : ¬ (c : Int) < 53 := by omega
              have HTOP : Hid (53 ≤ g2 0) := fhid (by rw [hc]; exact h53)
              have i2 := hS2.out.fx.fx.bias
              clear hc hgo HC
              go_upto_if 111 with fail
              go_cut [6] (fun x wx => ∃ (S1 : Nat) (g : Nat → Nat) (j : Nat) (q : Int) (e : Nat), x = .int .i64 ((e : Int) - 1022) ∧ Hid (FbS X0 E b ng w wx S1 S2 g j q) ∧ S2 + e = S1 + 1021 ∧ q ≤ 0 ∧ -300 ≤ q ∧ (e = 0 ∨ (q = 0 ∧ 53 ≤ g 0 ∧ (S1 = 0 ∨ 3 * (S1 : Int) < 10 * dp + 10))))
              case first => as_aux_lemma =>
                by_cases hden : (S : Int) - (S2 : Int) - 1 < -1022
                · obtain ⟨k, hk⟩ : ∃ k : Nat, (k : Int) = S2 - S - 1021 := ⟨((S2 : Int) - S - 1021).toNat, by omega⟩
                  have hlow := HE.out
                  have cS : Hid (∀ W, FbS X0 E b ng w W S S2 g2 j2 0 → Calls Tryd.prog 76 #[.pointer (some ⟨b, 0, none⟩), .int .i64 (-((S2 : Int) - (S : Int) - 1021))] W (FbrPost X0 E b ng w S S2 k g2 j2 0)) := fhid (fun W hW => by rw [← hk]; exact fbR k hW (by omega) (by omega) (by omega) (by omega) (by omega))
                  have hkn : -1022 - ((S : Int) - (S2 : Int) - 1) = (k : Int) := by omega
                  go_wp2_with fail
                  with_reducible refine (cS.out _ hS2.out).mono ?_
                  clear cS c2 c0
                  rintro e w3 ⟨g1, j1, q1, rfl, hS3, hv, hq1a, hq1b⟩
                  have HS3 := fhid hS3
                  clear hS3 hv hS2
                  go_wp2_with fail
                  go_meet
                  exact ⟨S + k, g1, j1, q1, 0, congrArg (Value.int IntKind.i64) (by omega), HS3, by omega, by omega, by omega, .inl rfl⟩
                · obtain ⟨e, he⟩ : ∃ e : Nat, (e : Int) = S - S2 + 1021 := ⟨((S : Int) - S2 + 1021).toNat, by omega⟩
                  go_wp2_with fail
                  go_meet
                  exact ⟨S, g2, j2, 0, e, congrArg (Value.int IntKind.i64) (by omega), hS2, by omega, by omega, by omega, .inr ⟨rfl, HTOP.out, hSB⟩⟩
              case rest => as_aux_lemma =>
                obtain ⟨S1, g, j, q, e, rfl, hS, he, hq1, hq2, hcase⟩ := hcut
                clear hS2 c2 c0 HTOP i2
                have i1 := hS.out.fx.fx.expb
                have i2 := hS.out.fx.fx.bias
                have i3 := hS.out.fx.fx.mant
                have HM := fhid (fun n => (hS.out.drew n).m)
                by_cases hov : 2046 ≤ e
                · have hinf : infR ≤ u := by
                    rcases hcase with h | ⟨h1', h2', _⟩
                    · omega
                    · subst h1'
                      exact over_inf hS.out.val (half_dn hS.out.dig hS.out.one h2') (by omega) HU.out
                  have he5 : (e : Int) ≤ 4000 := by omega
                  clear hcase
                  have hov2 : (2046 : Int) ≤ (e : Int) := by omega
                  go_wp2_with fail
                  go_quiet (fail)
                  go_wp2_with fail
                  go_step3
                  exact .inl ⟨rfl, FbJ1.mk rfl rfl rfl (fhid (HM.out _)) hinf⟩
                · have hj16 : j + chD 53 < 800 := by
                    rw [chD_53]
                    have h2 := hS.out.len
                    have h3 := HE.out
                    omega
                  have cS : Hid (∀ n, Calls Tryd.prog 76 #[.pointer (some ⟨b, 0, none⟩), .int .i64 53] (wc.drewN n) (FblPost X0 E b ng w S1 S2 53 g j q)) := fhid (fun n => fbL 53 (hS.out.drew n) (by omega) (by omega) (by omega) hj16)
                  have hov2 : (e : Int) ≤ 2045 := by omega
                  have hcase2 := fhid hcase
                  clear HM hcase hj16
                  go_wp2_with fail
                  go_quiet (fail)
                  go_wp2_with fail
                  with_reducible refine (cS.out _).mono ?_
                  clear cS
                  rintro e3 w3 ⟨g1, j1, q1, rfl, hS1, hv, hl, hq1a, hq1b⟩
                  have hq16 := fb3_q hS.out.dig hS1.one hS1.top hq1 hv
                  obtain ⟨m, hm1, hm2, hm3, hm4⟩ := fin53 hS.out.val hv (dn_lt hS.out.dig) hq1 he (by
                    rcases hcase2.out with h | ⟨h1', h2', _⟩
                    · exact .inl h
                    · exact .inr ⟨h1', half_dn hS.out.dig hS.out.one h2'⟩)
                  have hmi : intF g1 j1 q1 = m := by
                    rw [intF_rd hS1.dig hS1.one hl, ← hm1, show -(q1 - (j1 : Int)) = (j1 : Int) - q1 by omega]
                  have cR := fhid (roundedC b g1 j1 q1 ng w3 hS1.mem hS1.dig hS1.le (by omega) (by omega))
                  rw [hmi] at cR
                  have hUm : u = e * B + m := near_unique (valD_pos _) HU.out hm4
                  have HM := fhid (fun n => (hS1.drew n).m)
                  have i1 := hS1.fx.fx.expb
                  have i2 := hS1.fx.fx.bias
                  have i3 := hS1.fx.fx.mant
                  have hB' : B = 4503599627370496 := rfl
                  rw [hB'] at hUm hm2 hm3
                  clear hB' hS1 hv hl hm1 hm4 hmi hS hcase2 hq1 hq2 HU
                  go_wp2_with fail
                  with_reducible refine cR.out.mono ?_
                  clear cR
                  rintro e4 w4 ⟨rfl, rfl⟩
                  go_upto_if 155 with fail
                  go_cut [6, 7] (fun x y wx => ∃ (ee mm : Nat), x = .int .i64 ((ee : Int) - 1022) ∧ y = .int .u64 (mm : Int) ∧ u = ee * 4503599627370496 + mm ∧ mm < 9007199254740992 ∧ (ee = 0 ∨ 4503599627370496 ≤ mm) ∧ ee ≤ 2045 ∧ Hid (∀ n, FbM b ng w (wx.drewN n)) ∧ wx.cell? ⟨10, 0, none⟩ = some (.int .u64 52) ∧ wx.cell? ⟨10, 2, none⟩ = some (.int .i64 (-1023)))
                  case first => as_aux_lemma =>
                    by_cases hm53 : m = 9007199254740992
                    · subst hm53
                      by_cases h45 : e = 2045
                      · subst h45
                        have hinf : infR ≤ u := by rw [hUm]; decide
                        clear hm2 hm3
                        go_wp2_with fail
                        go_quiet (fail)
                        go_wp2_with fail
                        go_step3
                        exact .inl ⟨rfl, FbJ1.mk rfl rfl rfl (fhid (HM.out _)) hinf⟩
                      · have h44 : (e : Int) ≤ 2044 := by omega
                        clear hm2 hm3
                        go_wp2_with fail
                        go_quiet (fail)
                        go_wp2_with fail
                        go_meet
                        exact ⟨e + 1, 4503599627370496, congrArg (Value.int IntKind.i64) (by omega), rfl, by omega, by omega, .inr (Nat.le_refl _), by omega, fhid (fun n => by first | exact HM.out _ | (rw [drewN_add]; exact HM.out _)), i3, i2⟩
                    · have hm53' : ((m : Int) == 9007199254740992) = false := by simp; omega
                      go_wp2_with fail
                      go_meet
                      exact ⟨e, m, rfl, rfl, hUm, by omega, hm3, by omega, HM, i3, i2⟩
                  case rest => as_aux_lemma =>
                    obtain ⟨ee, mm, rfl, rfl, hU2, hmm, hcs, hee, HM2, i3, i2⟩ := hcut
                    clear hUm HM
                    by_cases hlow : mm < 4503599627370496
                    · have hand : bits BinOp.and IntKind.u64 (mm : Int) 4503599627370496 = 0 := by
                        rw [zand_52 mm (by omega), Nat.div_eq_of_lt hlow]; rfl
                      go_wp2_with fail
                      go_step3
                      exact .inr ⟨rfl, FbJ0.mk (x := 0) (mm := mm) rfl rfl rfl rfl rfl (by omega) rfl (fhid (HM2.out 0)) (by omega) hmm (by have : infR = 9218868437227405312 := rfl; omega) (by have : infR = 9218868437227405312 := rfl; rw [eq_comm, decide_eq_false_iff_not]; omega)⟩
                    · have hand : bits BinOp.and IntKind.u64 (mm : Int) 4503599627370496 = 4503599627370496 := by
                        rw [zand_52 mm (by omega), show mm / 4503599627370496 % 2 * 4503599627370496 = 4503599627370496 by omega]; rfl
                      go_wp2_with fail
                      go_step3
                      exact .inr ⟨rfl, FbJ0.mk (x := ee + 1) (mm := mm) rfl rfl rfl rfl rfl (by omega) rfl (fhid (HM2.out 0)) (by omega) hmm (by have : infR = 9218868437227405312 := rfl; omega) (by have : infR = 9218868437227405312 := rfl; rw [eq_comm, decide_eq_false_iff_not]; omega)⟩
  · rintro l a wr (⟨rfl, v, rfl, hm, hinf⟩ | ⟨rfl, v, ov, x, mm, rfl, hm, hx, hmm, hmin, hov⟩)
    · refine ⟨_, rfl, ?_⟩
      have i1 := hm.out.fx.expb
      have i2 := hm.out.fx.bias
      have i3 := hm.out.fx.mant
      have k3 := hm.out.ng
      have hmask : bits BinOp.and IntKind.u64 0 4503599627370495 = 0 := by decide +kernel
      have hxa : bits BinOp.and IntKind.i64 2047 2047 = 2047 := by decide +kernel
      have hor : bits BinOp.or IntKind.u64 0 9218868437227405312 = 9218868437227405312 := by decide +kernel
      have hhi : bits BinOp.or IntKind.u64 9218868437227405312 9223372036854775808 = 18442240474082181120 := by decide +kernel
      have hfin : Hid (min u infR = 9218868437227405312 ∧ decide (infR ≤ u) = true) := fhid ⟨by have : infR = 9218868437227405312 := rfl; omega, decide_eq_true hinf⟩
      clear HS0 HXL HXH HOV HU HM0 HE k1 k2 e1 hinf
      go_wp2_with fail
      go_quiet (fail)
      go_wp2_with fail
      go_step3
      go_wp2_with fail
      go_quiet (fail)
      cases ng
      · go_wp2_with fail
        try rw [xfwd_ret]
        go_ret2
        exact ⟨by rw [hfin.out.1, hfin.out.2]; rfl, by first | exact (hm.out.drew _).bel | exact ((hm.out.drew _).drew _).bel⟩
      · go_wp2_with fail
        go_quiet (fail)
        go_wp2_with fail
        try rw [xfwd_ret]
        go_ret2
        exact ⟨by rw [hfin.out.1, hfin.out.2]; rfl, by first | exact (hm.out.drew _).bel | exact ((hm.out.drew _).drew _).bel | exact (((hm.out.drew _).drew _).drew _).bel⟩
    · refine ⟨_, rfl, ?_⟩
      have i1 := hm.out.fx.expb
      have i2 := hm.out.fx.bias
      have i3 := hm.out.fx.mant
      have k3 := hm.out.ng
      obtain ⟨M, hM⟩ : ∃ M, mm % 4503599627370496 = M := ⟨_, rfl⟩
      have hM2 : M < 4503599627370496 := by omega
      have hmask := fb_mask mm hmm
      rw [hM] at hmask hmin
      have hx1 : (x : Int) - 1023 - -1023 = (x : Int) := by omega
      have hxa := iand_2047 x (by omega)
      obtain ⟨Y, hY⟩ : ∃ Y, x * 4503599627370496 = Y := ⟨_, rfl⟩
      have hYi : (x : Int) * 4503599627370496 = (Y : Int) := by omega
      have hY2 : Y < 9223372036854775808 + 4503599627370496 := by omega
      have hor := zor_at Y M (by omega) (by omega) hM2
      have hR9 : M + Y < 9223372036854775808 + 4503599627370496 := by omega
      obtain ⟨R, hR⟩ : ∃ R, M + Y = R := ⟨_, rfl⟩
      rw [hR] at hor
      have hRm : Hid (R = min u infR) := fhid (by omega)
      have hRb : R < 9223372036854775808 := by
        have := hRm.out
        have h2 : infR = 9218868437227405312 := rfl
        omega
      have hhi := zor_hi R hRb
      clear HS0 HXL HXH HOV HU HM0 HE k1 k2 e1 hM hmin hY hR
      go_wp2_with fail
      go_quiet (fail)
      cases ng
      · go_wp2_with fail
        try rw [xfwd_ret]
        go_ret2
        exact ⟨by rw [← hRm.out, hov]; simp [sgw], by first | exact (hm.out.drew _).bel | exact ((hm.out.drew _).drew _).bel⟩
      · go_wp2_with fail
        go_quiet (fail)
        go_wp2_with fail
        try rw [xfwd_ret]
        go_ret2
        exact ⟨by rw [← hRm.out, hov]; simp [sgw], by first | exact (hm.out.drew _).bel | exact ((hm.out.drew _).drew _).bel | exact (((hm.out.drew _).drew _).drew _).bel⟩
end Go.Proofs.YtgbldjbkapaclaaDoor.fl
