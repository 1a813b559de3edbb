/- What a decimal word means, and what the kept digits say of it. Plain mathematics. -/
import Ieee.Arith
import GoSem.PinnedTables
import Derived.Laws.FloatArith
/- The rungs of the doubles, and which of them is nearest to a fraction. Plain mathematics. -/
namespace Go.Proofs.YtgbldjbkapaclaaDoor.fl
set_option linter.unusedVariables false

/-- 2^52. -/
def B : Nat := 4503599627370496
theorem B_eq : B = 2 ^ 52 := by decide
/-- What the rung u stands for, times 2^1074. -/
def V (u : Nat) : Nat := if u < B then u else (B + u % B) * 2 ^ (u / B - 1)
/-- The step from rung u to the next. -/
def st (u : Nat) : Nat := 2 ^ (u / B - 1)
theorem st_pos (u : Nat) : 0 < st u := Nat.pow_pos (by decide)
theorem V_small {u : Nat} (h : u < B) : V u = u := by unfold V; rw [if_pos h]
theorem V_form (e m : Nat) (h1 : B ≤ m) (h2 : m < 2 * B) : V (e * B + m) = m * 2 ^ e := by
  have hB : 0 < B := by decide
  unfold V
  have hge : ¬ e * B + m < B := by omega
  rw [if_neg hge]
  have hm : m = B + (m - B) := by omega
  have e1 : (e * B + m) % B = m - B := by
    rw [hm, show e * B + (B + (m - B)) = (m - B) + B * (e + 1) by rw [Nat.mul_add, Nat.mul_comm]; omega, Nat.add_mul_mod_self_left, Nat.mod_eq_of_lt (by omega)]
    omega
  have e2 : (e * B + m) / B = e + 1 := by
    rw [hm, show e * B + (B + (m - B)) = (m - B) + B * (e + 1) by rw [Nat.mul_add, Nat.mul_comm]; omega, Nat.add_mul_div_left _ _ hB, Nat.div_eq_of_lt (by omega)]
    omega
  rw [e1, e2, show B + (m - B) = m by omega, Nat.add_sub_cancel]
/-- Every rung from B on has one form. -/
theorem rung_form (u : Nat) (h : B ≤ u) : ∃ e m, u = e * B + m ∧ B ≤ m ∧ m < 2 * B := by
  have hB : 0 < B := by decide
  refine ⟨u / B - 1, B + u % B, ?_, by omega, by have := Nat.mod_lt u hB; omega⟩
  have h1 := Nat.div_add_mod u B
  have h2 : 1 ≤ u / B := (Nat.le_div_iff_mul_le hB).2 (by omega)
  have h3 : (u / B - 1) * B + B = B * (u / B) := by
    rw [Nat.sub_mul, Nat.mul_comm]
    have : 1 * B ≤ B * (u / B) := by rw [Nat.mul_comm B]; exact Nat.mul_le_mul_right _ h2
    omega
  omega
theorem V_form' (e m : Nat) (h1 : B ≤ m) (h2 : m ≤ 2 * B) : V (e * B + m) = m * 2 ^ e := by
  rcases Nat.lt_or_eq_of_le h2 with h | h
  · exact V_form e m h1 h
  · subst h
    have := V_form (e + 1) B (Nat.le_refl _) (by decide)
    rw [show e * B + 2 * B = (e + 1) * B + B by rw [Nat.add_mul]; omega, this, Nat.pow_succ]
    rw [Nat.mul_comm (2 ^ e), Nat.mul_assoc, ← Nat.mul_assoc B 2, Nat.mul_comm B 2, Nat.mul_assoc]
theorem st_form (e m : Nat) (h1 : B ≤ m) (h2 : m < 2 * B) : st (e * B + m) = 2 ^ e := by
  have hB : 0 < B := by decide
  unfold st
  have hm : m = B + (m - B) := by omega
  have e2 : (e * B + m) / B = e + 1 := by
    rw [hm, show e * B + (B + (m - B)) = (m - B) + B * (e + 1) by rw [Nat.mul_add, Nat.mul_comm]; omega, Nat.add_mul_div_left _ _ hB, Nat.div_eq_of_lt (by omega)]
    omega
  rw [e2]; rfl
theorem V_succ (u : Nat) : V (u + 1) = V u + st u := by
  by_cases h : u < B
  · have hs : st u = 1 := by unfold st; rw [Nat.div_eq_of_lt h]
    rw [hs, V_small h]
    by_cases h2 : u + 1 < B
    · exact V_small h2
    · have : u + 1 = 0 * B + B := by omega
      rw [this, V_form 0 B (Nat.le_refl _) (by decide)]
      omega
  · obtain ⟨e, m, rfl, h1, h2⟩ := rung_form u (by omega)
    rw [st_form e m h1 h2, V_form e m h1 h2, Nat.add_assoc, V_form' e (m + 1) (by omega) (by omega), Nat.add_mul, Nat.one_mul]
theorem V_lt {u v : Nat} (h : u < v) : V u < V v := by
  induction v with
  | zero => omega
  | succ v ih =>
    have := V_succ v
    have := st_pos v
    rcases Nat.lt_or_eq_of_le (Nat.le_of_lt_succ h) with h | h
    · have := ih h; omega
    · subst h; omega
theorem V_le {u v : Nat} (h : u ≤ v) : V u ≤ V v := by
  rcases Nat.lt_or_eq_of_le h with h | h
  · exact Nat.le_of_lt (V_lt h)
  · subst h; exact Nat.le_refl _
theorem V_zero : V 0 = 0 := by decide

/-- The rung u is the nearest to N / D (both times 2^1074), the even one of two. -/
structure Near (N D u : Nat) : Prop where
  lo : u = 0 ∨ (V (u - 1) + V u) * D < 2 * N ∨ ((V (u - 1) + V u) * D = 2 * N ∧ u % 2 = 0)
  hi : 2 * N < (V u + V (u + 1)) * D ∨ (2 * N = (V u + V (u + 1)) * D ∧ u % 2 = 0)

theorem near_lt {N D u v : Nat} (hD : 0 < D) (hu : Near N D u) (hv : Near N D v) (h : u < v) : False := by
  have h1 : 2 * N ≤ (V u + V (u + 1)) * D := by rcases hu.hi with h | h <;> omega
  have h2 : (V (v - 1) + V v) * D ≤ 2 * N := by rcases hv.lo with h | h | h <;> omega
  have h3 : V u ≤ V (v - 1) := V_le (by omega)
  have h4 : V (u + 1) ≤ V v := V_le (by omega)
  have h5 : V u + V (u + 1) ≤ V (v - 1) + V v := by omega
  have h6 : (V u + V (u + 1)) * D ≤ (V (v - 1) + V v) * D := Nat.mul_le_mul_right _ h5
  have h7 : (V u + V (u + 1)) * D = (V (v - 1) + V v) * D := by omega
  have h8 : V u + V (u + 1) = V (v - 1) + V v := Nat.eq_of_mul_eq_mul_right hD h7
  have h9 : ¬ V u < V (v - 1) := by omega
  have h10 : ¬ u < v - 1 := fun h => h9 (V_lt h)
  have h11 : v = u + 1 := by omega
  have e1 : u % 2 = 0 := by rcases hu.hi with h | h <;> omega
  have e2 : v % 2 = 0 := by rcases hv.lo with h | h | h <;> omega
  omega
theorem near_unique {N D u v : Nat} (hD : 0 < D) (hu : Near N D u) (hv : Near N D v) : u = v := by
  rcases Nat.lt_trichotomy u v with h | h | h
  · exact (near_lt hD hu hv h).elim
  · exact h
  · exact (near_lt hD hv hu h).elim
/-- The fraction may be widened. -/
theorem near_scale {N D u : Nat} (k : Nat) (hk : 0 < k) : Near (N * k) (D * k) u ↔ Near N D u := by
  have e : ∀ a : Nat, a * (D * k) = (a * D) * k := fun a => (Nat.mul_assoc _ _ _).symm
  have e2 : 2 * (N * k) = (2 * N) * k := (Nat.mul_assoc _ _ _).symm
  have l : ∀ a b : Nat, a * k < b * k ↔ a < b := fun a b => Nat.mul_lt_mul_right hk
  have q : ∀ a b : Nat, a * k = b * k ↔ a = b := fun a b => ⟨fun h => Nat.eq_of_mul_eq_mul_right hk h, fun h => by rw [h]⟩
  constructor
  · rintro ⟨h1, h2⟩
    rw [e, e2, l, q] at h1 h2
    exact ⟨h1, h2⟩
  · rintro ⟨h1, h2⟩
    refine ⟨?_, ?_⟩ <;> rw [e, e2, l, q]
    · exact h1
    · exact h2
theorem near_cross {N D N' D' u : Nat} (hD : 0 < D) (hD' : 0 < D') (h : N * D' = N' * D) (hn : Near N D u) : Near N' D' u := by
  rw [← near_scale D hD, ← h, Nat.mul_comm D' D]
  exact (near_scale D' hD').2 hn

/-- Half up and even: n / d made whole. -/
def rd (n d : Nat) : Nat := n / d + (if d < 2 * (n % d) ∨ (2 * (n % d) = d ∧ n / d % 2 = 1) then 1 else 0)
theorem rd_spec (n d : Nat) (hd : 0 < d) : (rd n d = 0 ∨ (2 * rd n d - 1) * d < 2 * n ∨ ((2 * rd n d - 1) * d = 2 * n ∧ rd n d % 2 = 0)) ∧ (2 * n < (2 * rd n d + 1) * d ∨ (2 * n = (2 * rd n d + 1) * d ∧ rd n d % 2 = 0)) := by
  have h1 := Nat.div_add_mod n d
  have h2 := Nat.mod_lt n hd
  unfold rd
  generalize n / d = q at *
  generalize n % d = r at *
  have e1 : (2 * q + 1) * d = 2 * (d * q) + d := by rw [Nat.add_mul, Nat.mul_assoc, Nat.mul_comm q]; omega
  split
  · rename_i h
    have e2 : (2 * (q + 1) - 1) * d = 2 * (d * q) + d := by rw [show 2 * (q + 1) - 1 = 2 * q + 1 by omega, e1]
    have e3 : (2 * (q + 1) + 1) * d = 2 * (d * q) + 3 * d := by rw [Nat.add_mul, Nat.mul_assoc, Nat.mul_comm (q + 1), Nat.mul_add]; omega
    rw [e2, e3]
    refine ⟨?_, .inl (by omega)⟩
    rcases h with h | h
    · exact .inr (.inl (by omega))
    · exact .inr (.inr ⟨by omega, by omega⟩)
  · rename_i h
    have h : ¬ d < 2 * r ∧ ¬ (2 * r = d ∧ q % 2 = 1) := ⟨fun x => h (.inl x), fun x => h (.inr x)⟩
    rw [Nat.add_zero, e1]
    refine ⟨?_, ?_⟩
    · rcases Nat.eq_zero_or_pos q with hq | hq
      · exact .inl hq
      · have e4 : (2 * q - 1) * d = 2 * (d * q) - d := by rw [Nat.sub_mul, Nat.mul_assoc, Nat.mul_comm q, Nat.one_mul]
        have h9 : d * 1 ≤ d * q := Nat.mul_le_mul_left d hq
        rw [e4]
        exact .inr (.inl (by omega))
    · rcases Nat.lt_or_eq_of_le (show 2 * r ≤ d by omega) with h3 | h3
      · exact .inl (by omega)
      · exact .inr ⟨by omega, by have := h.2; omega⟩
/-- The test of a rounded significand: m at the place 2^e is the nearest rung of N / D where it is the rounded quotient and lies where it should. -/
theorem near_of_rd {N D e m : Nat} (hD : 0 < D) (hm : rd N (D * 2 ^ e) = m) (hlo : e = 0 ∨ (B ≤ m ∧ (m = B → 2 * B * (D * 2 ^ e) ≤ 2 * N))) (hhi : m ≤ 2 * B) : Near N D (e * B + m) := by
  have hE : 0 < 2 ^ e := Nat.pow_pos (by decide)
  obtain ⟨h1, h2⟩ := rd_spec N (D * 2 ^ e) (Nat.mul_pos hD hE)
  rw [hm] at h1 h2
  have hBe : B % 2 = 0 := by decide
  have hpar : (e * B + m) % 2 = m % 2 := by
    rw [Nat.add_mod, Nat.mul_mod, hBe]; simp
  have e0 : ∀ a : Nat, a * 2 ^ e * D = a * (D * 2 ^ e) := fun a => by rw [Nat.mul_assoc, Nat.mul_comm (2 ^ e)]
  have hV : V (e * B + m) = m * 2 ^ e ∧ V (e * B + m + 1) = (m + 1) * 2 ^ e ∨ (m = 2 * B ∧ V (e * B + m) = m * 2 ^ e ∧ V (e * B + m + 1) = (m + 2) * 2 ^ e) := by
    rcases Nat.lt_or_ge m B with hmB | hmB
    · rcases hlo with rfl | h
      · left
        simp only [Nat.zero_mul, Nat.zero_add, Nat.pow_zero, Nat.mul_one]
        refine ⟨V_small hmB, ?_⟩
        rw [V_succ, V_small hmB]
        unfold st; rw [Nat.div_eq_of_lt hmB]
      · omega
    · rcases Nat.lt_or_eq_of_le hhi with h | h
      · left
        rw [Nat.add_assoc]
        exact ⟨V_form' e m hmB hhi, V_form' e (m + 1) (by omega) (by omega)⟩
      · right
        refine ⟨h, V_form' e m hmB hhi, ?_⟩
        rw [V_succ, V_form' e m hmB hhi, h, show e * B + 2 * B = (e + 1) * B + B by rw [Nat.add_mul]; omega, st_form (e + 1) B (Nat.le_refl _) (by decide), Nat.add_mul, Nat.pow_succ]
        omega
  refine ⟨?_, ?_⟩
  · by_cases hz : e * B + m = 0
    · exact .inl hz
    · right
      rw [hpar]
      -- the rung below
      have hB0 : 0 < B := by decide
      have hm0 : 0 < m := by rcases hlo with rfl | ⟨h, _⟩ <;> omega
      have hVm : V (e * B + m) = m * 2 ^ e := by rcases hV with h | h <;> first | exact h.1 | exact h.2.1
      rw [hVm]
      by_cases hb : e ≠ 0 ∧ m = B
      · -- the step below is a half one
        obtain ⟨he, hmB⟩ := hb
        obtain ⟨f, rfl⟩ : ∃ f, e = f + 1 := ⟨e - 1, by omega⟩
        have hVl : V ((f + 1) * B + m - 1) = (2 * B - 1) * 2 ^ f := by
          rw [hmB, show (f + 1) * B + B - 1 = f * B + (2 * B - 1) by rw [Nat.add_mul]; omega, V_form f (2 * B - 1) (by omega) (by omega)]
        have h3 : 2 * B * (D * 2 ^ (f + 1)) ≤ 2 * N := by
          rcases hlo with h | h
          · omega
          · exact h.2 hmB
        rw [hVl, hmB]
        left
        have e5 : ((2 * B - 1) * 2 ^ f + B * 2 ^ (f + 1)) * D = (4 * B - 1) * (D * 2 ^ f) := by
          rw [Nat.pow_succ, show B * (2 ^ f * 2) = 2 * B * 2 ^ f by rw [Nat.mul_comm (2 ^ f), ← Nat.mul_assoc, Nat.mul_comm B], ← Nat.add_mul, show 2 * B - 1 + 2 * B = 4 * B - 1 by omega, Nat.mul_assoc, Nat.mul_comm (2 ^ f)]
        have e6 : 2 * B * (D * 2 ^ (f + 1)) = 4 * B * (D * 2 ^ f) := by
          rw [Nat.pow_succ, ← Nat.mul_assoc D, Nat.mul_comm _ 2, ← Nat.mul_assoc (2 * B) 2]
          congr 1
        have e7 : (4 * B - 1) * (D * 2 ^ f) < 4 * B * (D * 2 ^ f) := Nat.mul_lt_mul_of_pos_right (by omega) (Nat.mul_pos hD (Nat.pow_pos (by decide)))
        omega
      · have hVl : V (e * B + m - 1) = (m - 1) * 2 ^ e := by
          rcases Nat.lt_or_ge (m - 1) B with h | h
          · have he : e = 0 := by
              rcases hlo with h' | h'
              · exact h'
              · by_cases e0 : e = 0
                · exact e0
                · exact (hb ⟨e0, by omega⟩).elim
            subst he
            rw [Nat.zero_mul, Nat.zero_add, V_small h, Nat.pow_zero, Nat.mul_one]
          · rw [show e * B + m - 1 = e * B + (m - 1) by omega, V_form' e (m - 1) h (by omega)]
        rw [hVl, ← Nat.add_mul, show m - 1 + m = 2 * m - 1 by omega, e0]
        rcases h1 with h | h | h
        · omega
        · exact .inl h
        · exact .inr h
  · rw [hpar]
    rcases hV with ⟨a, b⟩ | ⟨c, a, b⟩
    · rw [a, b, ← Nat.add_mul, show m + (m + 1) = 2 * m + 1 by omega, e0]
      exact h2
    · rw [a, b, ← Nat.add_mul, e0]
      left
      have h9 : (2 * m + 1) * (D * 2 ^ e) < (m + (m + 2)) * (D * 2 ^ e) := Nat.mul_lt_mul_of_pos_right (by omega) (Nat.mul_pos hD hE)
      rcases h2 with h | h <;> omega
end Go.Proofs.YtgbldjbkapaclaaDoor.fl
/- How near a multiple of a power of ten comes to a whole number: for each power from -345 to 310 a certificate (two neighbouring fractions), checked by the kernel. Plain mathematics. -/
namespace Go.Proofs.YtgbldjbkapaclaaDoor.fl
set_option linter.unusedVariables false
set_option linter.unusedSimpArgs false

/-- Two neighbouring fractions a / q and a' / q' round A / M: no other multiple comes nearer to a whole number than q's, k times. -/
theorem gap {A M a q a' q' k D1 D2 x m lo hi : Int} (hq : 0 < q) (hq' : 0 < q') (hdet : a' * q - a * q' = 1 ∨ a' * q - a * q' = -1)
    (h1 : q * A - a * M = D1) (h2 : q' * A - a' * M = D2) (hs : (0 ≤ D1 ∧ D2 ≤ 0) ∨ (D1 ≤ 0 ∧ 0 ≤ D2))
    (hx : (lo ≤ x ∧ x < hi ∧ (k - 1) * q < lo ∧ (k - 1) * q ≤ q' - hi ∧ hi ≤ q' ∧ 1 ≤ k) ∨ (D2 = 0 ∧ k = 1)) (hlo : 0 < x) :
    x * A - m * M = 0 ∨ (k * D1 ≤ x * A - m * M ∧ -(k * D1) ≤ x * A - m * M ∧ 0 < x * A - m * M) ∨ (x * A - m * M ≤ k * D1 ∧ x * A - m * M ≤ -(k * D1) ∧ x * A - m * M < 0) := by
  obtain ⟨i, j, ex, em⟩ : ∃ i j : Int, i * q + j * q' = x ∧ i * a + j * a' = m := by
    rcases hdet with h | h
    · refine ⟨a' * x - q' * m, q * m - a * x, ?_, ?_⟩
      · have : (a' * x - q' * m) * q + (q * m - a * x) * q' = (a' * q - a * q') * x := by
          simp only [Int.sub_mul, Int.mul_sub, Int.mul_assoc, Int.mul_comm, Int.mul_left_comm]; omega
        rw [this, h, Int.one_mul]
      · have : (a' * x - q' * m) * a + (q * m - a * x) * a' = (a' * q - a * q') * m := by
          simp only [Int.sub_mul, Int.mul_sub, Int.mul_assoc, Int.mul_comm, Int.mul_left_comm]; omega
        rw [this, h, Int.one_mul]
    · refine ⟨q' * m - a' * x, a * x - q * m, ?_, ?_⟩
      · have : (q' * m - a' * x) * q + (a * x - q * m) * q' = -((a' * q - a * q') * x) := by
          simp only [Int.sub_mul, Int.mul_sub, Int.mul_assoc, Int.mul_comm, Int.mul_left_comm]; omega
        rw [this, h]; omega
      · have : (q' * m - a' * x) * a + (a * x - q * m) * a' = -((a' * q - a * q') * m) := by
          simp only [Int.sub_mul, Int.mul_sub, Int.mul_assoc, Int.mul_comm, Int.mul_left_comm]; omega
        rw [this, h]; omega
  have eD : x * A - m * M = i * D1 + j * D2 := by
    rw [← h1, ← h2, ← ex, ← em]
    simp only [Int.sub_mul, Int.mul_sub, Int.add_mul, Int.mul_add, Int.mul_assoc, Int.mul_comm, Int.mul_left_comm]; omega
  rw [eD]
  have mono : ∀ {u v w : Int}, u ≤ v → 0 ≤ w → u * w ≤ v * w := fun h hw => Int.mul_le_mul_of_nonneg_right h hw
  rcases hx with ⟨g1, g2, g3, g4, g5, g6⟩ | ⟨g1, g2⟩
  · -- i is not zero
    have hi0 : i ≠ 0 := by
      rintro rfl
      rw [Int.zero_mul, Int.zero_add] at ex
      rcases Int.lt_or_le 0 j with h | h
      · have := mono (show (1 : Int) ≤ j by omega) (show 0 ≤ q' by omega)
        omega
      · have := mono h (show 0 ≤ q' by omega)
        omega
    rcases Int.lt_or_le 0 i with hi1 | hi1
    · have hj : j ≤ 0 := by
        rcases Int.lt_or_le 0 j with h | h
        · have e1 := mono (show (1 : Int) ≤ j by omega) (show 0 ≤ q' by omega)
          have e2 := mono (show (1 : Int) ≤ i by omega) (show 0 ≤ q by omega)
          omega
        · exact h
      have hik : k ≤ i := by
        rcases Int.lt_or_le i k with h | h
        · have e1 := mono (show i ≤ k - 1 by omega) (show 0 ≤ q by omega)
          have e2 := mono hj (show 0 ≤ q' by omega)
          omega
        · exact h
      rcases hs with ⟨s1, s2⟩ | ⟨s1, s2⟩
      · have e1 := mono hik s1
        have e2 : 0 ≤ j * D2 := by have := Int.mul_nonneg (show 0 ≤ -j by omega) (show 0 ≤ -D2 by omega); rwa [Int.neg_mul_neg] at this
        have e3 : 0 ≤ k * D1 := Int.mul_nonneg (by omega) s1
        rcases Int.lt_or_le 0 (i * D1 + j * D2) with h | h
        · exact .inr (.inl ⟨by omega, by omega, h⟩)
        · exact .inl (by omega)
      · have e1 := mono hik (show 0 ≤ -D1 by omega)
        have e2 : j * D2 ≤ 0 := by have := Int.mul_nonneg (show 0 ≤ -j by omega) s2; rw [Int.neg_mul] at this; omega
        have e3 : 0 ≤ k * -D1 := Int.mul_nonneg (by omega) (by omega)
        rw [Int.mul_neg] at e1 e3
        rw [Int.mul_neg] at e1
        rcases Int.lt_or_le (i * D1 + j * D2) 0 with h | h
        · exact .inr (.inr ⟨by omega, by omega, h⟩)
        · exact .inl (by omega)
    · have hj : 0 < j := by
        rcases Int.lt_or_le 0 j with h | h
        · exact h
        · have e1 := mono h (show 0 ≤ q' by omega)
          have e2 := mono hi1 (show 0 ≤ q by omega)
          omega
      have hik : k ≤ -i := by
        rcases Int.lt_or_le (-i) k with h | h
        · have e1 := mono (show -i ≤ k - 1 by omega) (show 0 ≤ q by omega)
          have e2 := mono (show 1 ≤ j by omega) (show 0 ≤ q' by omega)
          rw [Int.neg_mul] at e1
          omega
        · exact h
      rcases hs with ⟨s1, s2⟩ | ⟨s1, s2⟩
      · have e1 := mono hik s1
        rw [Int.neg_mul] at e1
        have e2 : j * D2 ≤ 0 := by have := Int.mul_nonneg (show 0 ≤ j by omega) (show 0 ≤ -D2 by omega); rw [Int.mul_neg] at this; omega
        have e3 : 0 ≤ k * D1 := Int.mul_nonneg (by omega) s1
        rcases Int.lt_or_le (i * D1 + j * D2) 0 with h | h
        · exact .inr (.inr ⟨by omega, by omega, h⟩)
        · exact .inl (by omega)
      · have e1 := mono hik (show 0 ≤ -D1 by omega)
        rw [Int.neg_mul_neg, Int.mul_neg] at e1
        have e2 : 0 ≤ j * D2 := Int.mul_nonneg (by omega) s2
        have e3 : 0 ≤ k * -D1 := Int.mul_nonneg (by omega) (by omega)
        rw [Int.mul_neg] at e3
        rcases Int.lt_or_le 0 (i * D1 + j * D2) with h | h
        · exact .inr (.inl ⟨by omega, by omega, h⟩)
        · exact .inl (by omega)
  · subst g2
    rw [g1, Int.mul_zero, Int.add_zero, Int.one_mul]
    rcases Int.lt_trichotomy i 0 with h | h | h
    · rcases Int.lt_trichotomy D1 0 with d | d | d
      · have e1 := mono (show 1 ≤ -i by omega) (show 0 ≤ -D1 by omega)
        rw [Int.neg_mul_neg, Int.one_mul] at e1
        exact .inr (.inl ⟨by omega, by omega, by omega⟩)
      · left; rw [d, Int.mul_zero]
      · have e1 := mono (show 1 ≤ -i by omega) (show 0 ≤ D1 by omega)
        rw [Int.neg_mul, Int.one_mul] at e1
        exact .inr (.inr ⟨by omega, by omega, by omega⟩)
    · left; rw [h, Int.zero_mul]
    · rcases Int.lt_trichotomy D1 0 with d | d | d
      · have e1 := mono (show 1 ≤ i by omega) (show 0 ≤ -D1 by omega)
        simp only [Int.mul_neg, Int.one_mul] at e1
        exact .inr (.inr ⟨by omega, by omega, by omega⟩)
      · left; rw [d, Int.mul_zero]
      · have e1 := mono (show 1 ≤ i by omega) (show 0 ≤ D1 by omega)
        rw [Int.one_mul] at e1
        exact .inr (.inl ⟨by omega, by omega, by omega⟩)

/-- The whole part of the logarithm of 10^p to the base two. -/
def lpI (p : Int) : Int := p * 108853 / 32768
/-- 10^p / 2^(lpI p + 10) as a fraction of naturals. -/
def PA (p : Int) : Nat := (if 0 ≤ p then 10 ^ p.toNat else 1) * (if lpI p + 10 < 0 then 2 ^ (-(lpI p + 10)).toNat else 1)
def PM (p : Int) : Nat := (if 0 ≤ p then 1 else 10 ^ (-p).toNat) * (if lpI p + 10 < 0 then 1 else 2 ^ (lpI p + 10).toNat)
def certOK (A M : Nat) (c : Nat × Nat × Nat × Nat × Nat) : Bool :=
  let a := c.1; let q := c.2.1; let a' := c.2.2.1; let q' := c.2.2.2.1; let k := c.2.2.2.2
  decide (0 < q) && decide (0 < q') && (a' * q == a * q' + 1 || a' * q + 1 == a * q') &&
  (if a * M ≤ q * A then decide (q' * A ≤ a' * M) && decide (M ≤ k * (q * A - a * M) * 4722366482869645213696) else decide (a' * M ≤ q' * A) && decide (M ≤ k * (a * M - q * A) * 4722366482869645213696)) &&
  ((decide ((k - 1) * q < 9223372036854775808) && decide ((k - 1) * q + 18446744073709551616 ≤ q') && decide (1 ≤ k)) || (q' * A == a' * M && k == 1))
/-- Of each power: 72 binary digits beyond the whole one there is nothing, or more than one there. -/
theorem far_of_cert {A M : Nat} {c : Nat × Nat × Nat × Nat × Nat} (hc : certOK A M c = true) (x m : Nat) (h1 : 9223372036854775808 ≤ x) (h2 : x < 18446744073709551616) :
    x * A = m * M ∨ (m * M < x * A ∧ M ≤ (x * A - m * M) * 4722366482869645213696) ∨ (x * A < m * M ∧ M ≤ (m * M - x * A) * 4722366482869645213696) := by
  obtain ⟨a, q, a', q', k⟩ := c
  simp only [certOK, Bool.and_eq_true, Bool.or_eq_true, decide_eq_true_eq, beq_iff_eq] at hc
  obtain ⟨⟨⟨⟨c1, c2⟩, c3⟩, c4⟩, c5⟩ := hc
  have key := gap (A := A) (M := M) (a := a) (q := q) (a' := a') (q' := q') (k := k) (D1 := (q : Int) * A - a * M) (D2 := (q' : Int) * A - a' * M) (x := x) (m := m) (lo := 9223372036854775808) (hi := 18446744073709551616)
    (by omega) (by omega)
    (by rcases c3 with h | h
        · left; have : (a' : Int) * q = a * q' + 1 := by exact_mod_cast h
          omega
        · right; have : (a' : Int) * q + 1 = a * q' := by exact_mod_cast h
          omega) rfl rfl
    (by
      split at c4
      · rename_i h
        simp only [Bool.and_eq_true, decide_eq_true_eq] at c4
        left
        have e1 : (a : Int) * M ≤ q * A := by exact_mod_cast h
        have e2 : (q' : Int) * A ≤ a' * M := by exact_mod_cast c4.1
        omega
      · rename_i h
        simp only [Bool.and_eq_true, decide_eq_true_eq] at c4
        right
        have e1 : (q : Int) * A ≤ a * M := by exact_mod_cast (Nat.le_of_lt (Nat.lt_of_not_le h))
        have e2 : (a' : Int) * M ≤ q' * A := by exact_mod_cast c4.1
        omega)
    (by
      rcases c5 with ⟨⟨h3, h4⟩, h5⟩ | ⟨h3, h4⟩
      · left
        have e1 : ((k : Int) - 1) * q = ((k - 1) * q : Nat) := by rw [Int.natCast_mul, Int.natCast_sub h5]; rfl
        have e0 : q' ≥ 18446744073709551616 := by omega
        rw [e1]
        omega
      · right
        have : (q' : Int) * A = a' * M := by exact_mod_cast h3
        omega) (by omega)
  have ex : (x : Int) * A = ((x * A : Nat) : Int) := by simp
  have em : (m : Int) * M = ((m * M : Nat) : Int) := by simp
  have ekD : ((k : Int) * ((q : Int) * A - a * M) = ((k * (q * A - a * M) : Nat) : Int) ∧ a * M ≤ q * A ∧ M ≤ k * (q * A - a * M) * 4722366482869645213696) ∨ ((k : Int) * ((q : Int) * A - a * M) = -((k * (a * M - q * A) : Nat) : Int) ∧ M ≤ k * (a * M - q * A) * 4722366482869645213696) := by
    split at c4
    · rename_i h
      simp only [Bool.and_eq_true, decide_eq_true_eq] at c4
      left
      refine ⟨?_, h, c4.2⟩
      rw [Int.natCast_mul, Int.natCast_sub h]; simp
    · rename_i h
      simp only [Bool.and_eq_true, decide_eq_true_eq] at c4
      right
      refine ⟨?_, c4.2⟩
      rw [Int.natCast_mul, Int.natCast_sub (Nat.le_of_lt (Nat.lt_of_not_le h)), ← Int.mul_neg, Int.natCast_mul, Int.natCast_mul, Int.neg_sub]
  rw [ex, em] at key
  clear ex em c4 c5 c3
  generalize x * A = X at *
  generalize m * M = Y at *
  rcases ekD with ⟨e, _, hk⟩ | ⟨e, hk⟩
  all_goals
    rw [e] at key
    clear e
    rcases key with key | ⟨k1, k2, k3⟩ | ⟨k1, k2, k3⟩
    · left; omega
    · right; left; refine ⟨by omega, Nat.le_trans hk (Nat.mul_le_mul_right _ (by omega))⟩
    · right; right; refine ⟨by omega, Nat.le_trans hk (Nat.mul_le_mul_right _ (by omega))⟩

set_option maxRecDepth 100000 in
def certs : List (Nat × Nat × Nat × Nat × Nat) := [
  (27584378960891214, 14776042809490538153, 143107325007066191, 76657878129287681973, 1),
  (441025281846189, 377988336303881819, 22839974040127282, 19575394300552756931, 1),
  (23280999321973471, 15962706109485311000, 40190467211145838, 27556747355295412431, 1),
  (23280999321973471, 12770164887588248800, 61878583674919033, 33941829799089536831, 1),
  (6662740729110873, 5847467046395389471, 23280999321973471, 20432263820141198080, 1),
  (23280999321973471, 16345811056112958464, 37429675063855430, 26279730866536587551, 1),
  (16431756636904837, 9229514097476769145, 60710674385828901, 34100433538119636812, 1),
  (16431756636904837, 14767222555962830632, 27674323593077540, 24870919440642867667, 1),
  (23350337535174222, 16787961932898838039, 34592904491346925, 24870919440642867667, 1),
  (11458867861879907, 6590775389677379459, 92752447423575276, 53348250034829814455, 1),
  (17053113726752858, 15693451551743554945, 23188111855893819, 21339300013931925782, 1),
  (8526556863376429, 6277380620697421978, 53707001208046333, 39539909717515140575, 1),
  (2768554222791047, 1630601322805606137, 50938446985255286, 30001326451206506323, 1),
  (8443721540250196, 7956986877608028629, 45263279667796137, 42654097560811351307, 1),
  (10554651925312745, 7956986877608028629, 41041418897671039, 30940483297605869594, 1),
  (15243383486179147, 9193398567999136386, 64495088528729730, 38897470175213898223, 1),
  (11872731937636003, 11456853462242434199, 244346844885276346, 235787854936552632285, 1),
  (3446103066278143, 2660314276681579322, 27958778310950936, 21583549786144078737, 1),
  (10435797644015877, 6444961378574079205, 45384270532704547, 28028511164718157942, 1),
  (10435797644015877, 10311938205718526728, 24451744966434388, 24161534337573710419, 1),
  (22661670127233071, 17914164299604305550, 30564681208042985, 24161534337573710419, 1),
  (22661670127233071, 14331331439683444440, 43871269041861999, 27744367197494571529, 1),
  (13255999321643080, 13413035757811127089, 22661670127233071, 22930130303493511104, 1),
  (16569999152053850, 13413035757811127089, 25975669957643841, 21026711394357034301, 1),
  (560335614781533, 362863103056137467, 42545669109697691, 27551797721734529112, 1),
  (20992666747458079, 10875573847471356658, 53882505905599030, 27914660824790666579, 1),
  (7435732756676795, 6163513129847953263, 23966959850128797, 19866323407893351958, 1),
  (8265613546726001, 5481124111218159478, 47518979305232991, 31510960648959464699, 1),
  (5680534666263747, 3013517663060997253, 69730741064948740, 36992084760177624177, 1),
  (5876075299986719, 4987602821586727033, 81287351031199206, 68996566698768521321, 1),
  (17383800107806442, 11804272211119013451, 151066977254578689, 102580316764180002289, 1),
  (19036138276918408, 10341018956762565943, 43459500269516105, 23608544422238026902, 1),
  (11897586423074005, 10341018956762565943, 50598052123360508, 43978282449638382609, 1),
  (26050952669446376, 18114154304372976811, 37196612484754259, 25864128145265405798, 1),
  (24171136150031071, 13445640794463133914, 56734826986839041, 31559795098836110725, 1),
  (6168600026295221, 5490236264838532521, 50566226960543820, 45005435893299244639, 1),
  (6472956713840734, 4608898166789022911, 56734826986839041, 40396537726510221728, 1),
  (26749174314959337, 15236835457246284109, 176677437674357857, 100638809077055750476, 1),
  (8008141395034522, 7298542007632161301, 93705164599624075, 85401973619809466367, 1),
  (20020353487586305, 14597084015264322602, 48854617648570668, 35620497849450218807, 1),
  (28834264160984363, 16818731067348716964, 32234007899728972, 18801766782101501843, 1),
  (13787624831770669, 12867488641063129009, 26504885042890546, 24736044923139874677, 1),
  (13520033676607971, 10094204441053226539, 66262212607226365, 49472089846279749354, 1),
  (26371089465309197, 15751154162090609126, 99727807854792920, 59566294287332975893, 1),
  (13905113483460082, 13288587801878379423, 62329879909245575, 59566294287332975893, 1),
  (6830991358567644, 5222494792303459165, 41593775067217849, 31799670396060218011, 1),
  (1707747839641911, 1044498958460691833, 216507614534298800, 132421176376544331209, 1),
  (8538739198209555, 8355991667685534664, 25355703977145439, 24813036941771759309, 1),
  (4204241194733971, 3291409054817244929, 109961555106791311, 86086511547818057520, 1),
  (22235087283280364, 13925893254746366575, 87726467823510947, 54943315983508079441, 1),
  (5558771820820091, 5570357301898546630, 255448186394107959, 255980586396372870859, 1),
  (5558771820820091, 4456285841518837304, 317920540037429926, 254866514935993161533, 1),
  (27793859104100455, 17825143366075349216, 76700749098947436, 49190788650591097385, 1),
  (19175187274736859, 9838157730118219477, 3168648884928925997, 1625729494822980074230, 1),
  (2371492298672131, 1946775482779088420, 23376111018753041, 19189621589541666849, 1),
  (2371492298672131, 1557420386223270736, 29813011848109334, 19578976686097484533, 1),
  (8638999111363399, 4538763491708805201, 74532529620273335, 39157953372194969066, 1),
  (8236691313613742, 6923837976097232773, 273822352338001771, 230177571264392959252, 1),
  (20591728284034355, 13847675952194465546, 130733657683790579, 87916725720098844037, 1),
  (6704220152224953, 3606802378104965914, 41422990481748458, 22285148337231482221, 1),
  (10206038924387272, 8785192521172255541, 37921171709586139, 32641928623366061475, 1),
  (12757548655484090, 8785192521172255541, 37921171709586139, 26113542898692849180, 1),
  (3013650035437957, 1660224638304884131, 34907521674148182, 19230609680649395213, 1),
  (5116852718128012, 4510211791451832695, 133320478648522563, 117514344845664075107, 1),
  (1279213179532003, 902042358290366539, 669160819601676821, 471861464099237033506, 1),
  (6396065897660015, 3608169433161466156, 161213942297642191, 90944531858344013853, 1),
  (19516271407015499, 17615331690897981530, 25748300447657787, 23240343578094855389, 1),
  (19516271407015499, 14092265352718385224, 27306307707818359, 19717277239915259083, 1),
  (21463780482216214, 12398814659614082951, 74128886822652217, 42821455866039122712, 1),
  (9986131592279708, 9229777196559065221, 21215194265940081, 19608345278338465675, 1),
  (21215194265940081, 15686676222670772540, 521647326872911579, 385710006540657606181, 1),
  (21215194265940081, 12549340978136618032, 657362957157624494, 388847341785191760689, 1),
  (10761629676229049, 10185255612144013068, 23828585413367839, 22552368053237232797, 1),
  (8647553772399222, 6547524733076249173, 153733142156436083, 116399571145253927880, 1),
  (21618884430998055, 13095049466152498346, 66057128862719014, 40012303725025321979, 1),
  (14262100000451815, 13822204792720325287, 24471304431088418, 23716520104388062411, 1),
  (13248876107998012, 10272185937965742597, 87676013293717069, 67977412084707610016, 1),
  (16561095134997515, 10272185937965742597, 81051575239718063, 50273055292579790974, 1),
  (16341857580588826, 16217922621295403753, 227689818356200119, 225963042300886730531, 1),
  (4633558281168929, 3678734283158649555, 36221085670303136, 28757110959432157951, 1),
  (4633558281168929, 2942987426526919644, 45276357087878920, 28757110959432157951, 1),
  (6685530990800801, 6794064501329791750, 21612192189123524, 21963046458102366201, 1),
  (6685530990800801, 5435251601063833400, 27015240236404405, 21963046458102366201, 1),
  (6685530990800801, 4348201280851066720, 38783198538606107, 25224197418740666241, 1),
  (6685530990800801, 3478561024680853376, 43464849930157033, 22615276650230026209, 1),
  (2088116123381272, 1738354514379530835, 22987074337097645, 19136715625549172833, 1),
  (522029030845318, 347670902875906167, 124853923271549267, 83152609656838908505, 1),
  (1305072577113295, 695341805751812334, 61774425347217986, 32913372959859657235, 1),
  (9353143889793867, 7973358203475556115, 30887212673608993, 26330698367887725788, 1),
  (9353143889793867, 6378686562780444892, 40947301814459708, 27925370008582837011, 1),
  (29826794797023721, 16273097253657490718, 51184127268074635, 27925370008582837011, 1),
  (15465698375900023, 13500602554418204063, 209523541212673106, 182901152405408083899, 1),
  (17214757388381827, 12021938714823917847, 42898977102736461, 29958532788024980558, 1),
  (15028433622779572, 8396094300569779681, 5188906414653720637, 2898941344640696996643, 1),
  (18785542028474465, 16792188601139559362, 2600088869935402658, 2324190732292899465123, 1),
  (20706559529956087, 14807491948039702123, 93927710142372325, 67168754404558237448, 1),
  (3149464134421961, 1801773577831716949, 33461111171786158, 19142731404775697181, 1),
  (11760550655814319, 10764929411732731529, 36610575306208119, 33511207972171862608, 1),
  (17973056818412769, 13161199241474011439, 67008644449817788, 49068677043387153957, 1),
  (19193952524371091, 11244183377680987511, 32283426518950572, 18912246832853083223, 1),
  (2509308682420919, 2352001397567059925, 35335665783846377, 33120490870572046596, 1),
  (2509308682420919, 1881601118053647940, 44796909400413201, 33590891150085458581, 1),
  (2509308682420919, 1505280894442918352, 56623463921121731, 33967211373696188169, 1),
  (8018923746048061, 7696610811404988645, 139813007762808564, 134193358261151437439, 1),
  (8018923746048061, 6157288649123990916, 174766259703510705, 134193358261151437439, 1),
  (25648986497269539, 15755552083807103839, 91392591724779383, 56140258764110171342, 1),
  (7222816116485383, 7098882010151087860, 37478345208950961, 36835265675227523573, 1),
  (7222816116485383, 5679105608120870288, 41430819423824664, 32575936469136870857, 1),
  (3134888739470783, 1971902807330677941, 48653635540310047, 30604033661806192916, 1),
  (5689843350104908, 5726426170895102995, 203439274250815879, 204747286098183822363, 1),
  (1422460837526227, 1145285234179020599, 1044223127167077708, 840749563842136680833, 1),
  (7112304187631135, 4581140936716082396, 256788399279190746, 165401228206397686729, 1),
  (35561520938155675, 18324563746864329584, 39304035163088714, 20253051018474506637, 1),
  (13803384629925008, 11380435702440633161, 250097318836896873, 206196996800744991319, 1),
  (17254230787406260, 11380435702440633161, 246646472679415621, 162681510300107866423, 1),
  (21567788484257825, 11380435702440633161, 238019357285712491, 125593033959110039874, 1),
  (21471077989398273, 18127048877452398037, 43425708453094306, 36662338987167871177, 1),
  (21350189870823833, 14419990855509303409, 43304820334519866, 29248222943281681921, 1),
  (21803520315477983, 11780937423765287789, 86458530520821682, 46715508462798076053, 1),
  (10712872472466429, 9261453446107000190, 92003854442327459, 79538836756435651821, 1),
  (10712872472466429, 7409162756885600152, 117683036171025931, 81391127445657051859, 1),
  (10673232215940232, 5905397629491570159, 74910826794212609, 41447446286525540926, 1),
  (6670770134962645, 5905397629491570159, 78913288875190196, 69859152636135807577, 1),
  (6386781948872259, 4523194320040649261, 46127414572557743, 32667979158047579158, 1),
  (22708722053665889, 12866067879666424797, 36192256416636372, 20505426358836677347, 1),
  (15878393078912491, 14393939575500475307, 45240320520795465, 41010852717673354694, 1),
  (16477107757897993, 11949344862165994491, 29960642120868476, 21727723715503917755, 1),
  (7490160530217119, 4345544743100783551, 1026145765596846959, 595336017079362705390, 1),
  (7490938910579412, 6953594134050181901, 29959863740506183, 27810763810756086507, 1),
  (9363673638224265, 6953594134050181901, 33705333195795889, 25030048702224941966, 1),
  (6085414889392906, 3615290913634952013, 144185006421407821, 85659031154359959812, 1),
  (15213537223482265, 14461163654539808052, 26157452410088483, 24863856086293108691, 1),
  (4870789815089578, 3703926975465263093, 46842947226873857, 35621092765367653650, 1),
  (29509960882298901, 17952364081612324553, 46842947226873857, 28496874212294122920, 1),
  (12588357148077581, 12252989239153499969, 59431304374951438, 57847987978824096641, 1),
  (4538937891320557, 3534412408884038706, 33740361815854231, 26273184682749019291, 1),
  (14600711962266837, 9095508909545992234, 47849124633968485, 29807597091633057997, 1),
  (2023494373583987, 2016856290396065036, 18756763546229543, 18695231891691000727, 1),
  (6206811666745376, 4949160152575839167, 33330209799297697, 26576695906446614025, 1),
  (7758514583431720, 4949160152575839167, 33330209799297697, 21261356725157291220, 1),
  (4849071614644825, 4949160152575839167, 38179281413942522, 38967330912827505119, 1),
  (7120284546163218, 5813802121535165357, 81207634442529869, 66307057582584679524, 1),
  (17800711365408045, 11627604243070330714, 42383888357805739, 27685583457340904881, 1),
  (15046149930803446, 7862637540082247119, 226965591719832141, 118604971369445866643, 1),
  (21006791844299851, 17563965895465807605, 37615374827008615, 31450550160328988476, 1),
  (21006791844299851, 14051172716372646084, 62774312416985657, 41988929697608473039, 1),
  (20883760286342903, 11175102792494330782, 104726380326606885, 56040102413981119123, 1),
  (5105597986001087, 4371288046092053185, 26296937167236360, 22514794036498126777, 1),
  (5105597986001087, 3497030436873642548, 37976769445046537, 26011824473371769325, 1),
  (15876189843762993, 8699395331547996413, 37976769445046537, 20809459578697415460, 1),
  (13812862250802215, 12110064247149419047, 24163907194244322, 21185071078766445689, 1),
  (865454326840027, 607011483106478481, 62140676639290859, 43584165123745848340, 1),
  (14453351251272681, 8109821541642691187, 47687325388018178, 26757510557353987485, 1),
  (12105773390588579, 10868140971814584877, 23843662694009089, 21406008445883189988, 1),
  (8987359021149417, 6454829883539554973, 155167749554643113, 111443353317690979844, 1),
  (9583020569925173, 5506112966335353039, 54519815675672258, 31325432500493572931, 1),
  (14002242386902912, 12872422059701138233, 50100593858694519, 46058050687225143319, 1),
  (17502802983628640, 12872422059701138233, 43099472665243063, 31697471725899659362, 1),
  (21878503729535800, 12872422059701138233, 38723771919335903, 22783492968779499843, 1),
  (13674064830959875, 12872422059701138233, 44193397851719853, 41602557573927655042, 1),
  (14466865670669932, 10894995926725758655, 741774153402716817, 558630083657837931748, 1),
  (3616716417667483, 2178999185345151731, 3737804498354923949, 2251952328114112940840, 1),
  (18083582088337415, 17431993482761213848, 460444219011238963, 443853468066787132975, 1),
  (2088666700700897, 1610726199551357355, 90417910441687075, 69727973931044855392, 1),
  (2088666700700897, 1288580959641085884, 113544554727284068, 70050119170955126863, 1),
  (11060069289859163, 10917429531052419251, 43623541373081974, 43060936270285944825, 1),
  (21811770686540987, 17224374508114377930, 780156261910311959, 616075779592050877087, 1),
  (21811770686540987, 13779499606491502344, 991554155402795689, 626410404296919503845, 1),
  (5012237254225637, 5066337603841518692, 23505535417507006, 23759246010101865669, 1),
  (3370265227263933, 2725314160483765657, 48653042861975716, 39342549538752434367, 1),
  (15533525942757862, 10048761236137499399, 60816303577469645, 39342549538752434367, 1),
  (26524770303045357, 13727267568273473867, 224507206978212154, 116188395450189315867, 1),
  (16339646289985003, 13529916016219389066, 90821395192590897, 75203944297422979067, 1),
  (5889032209326031, 3901093563222548879, 64031134821946922, 42416383375209909627, 1),
  (18952299810149746, 10043714100331001477, 160077837054867305, 84832766750419819254, 1),
  (18698121977298362, 15854421319572125043, 66078871502672727, 56029277720896130951, 1),
  (9031338697584951, 6126247286871372697, 37713966245660954, 25582595352272877389, 1),
  (4912822212622763, 2666020155706026399, 89372093401529622, 48499170548839728379, 1),
  (19768950547281038, 17164690545744819593, 34742740578729299, 30165910391586247587, 1),
  (2544657378903871, 1767549829187607279, 57056348504914208, 39632030579052461023, 1),
  (25983516873553233, 14438772368270898586, 45336918757589527, 25193258210781562437, 1),
  (17068462419660388, 15175629673422945533, 27506809849803837, 24456400905629515490, 1),
  (21335578024575485, 15175629673422945533, 27506809849803837, 19565120724503612392, 1),
  (24421193937189661, 13896300159170623170, 251925979153432050, 143352492642786898559, 1),
  (4821274863459650, 4389491051080666859, 24421193937189661, 22234080254672997072, 1),
  (11005278252729918, 8015733891653065457, 89090134927758551, 64889119343732791917, 1),
  (25285830521601919, 14733620289178825127, 52799026153426714, 30765088072484956041, 1),
  (12921335899578819, 12046465730168521259, 157840237182724423, 147153283750276866682, 1),
  (2534282377950056, 1890154148382781937, 59538114741993983, 44405554623908521162, 1),
  (3167852972437570, 1890154148382781937, 60171685336481497, 35902474528803373317, 1),
  (16230866198784463, 15495082300551018489, 105696430960397316, 100904959510326001675, 1),
  (1882007773624328, 1437353496008472951, 26424107740099329, 20180991902065200335, 1),
  (26424107740099329, 16144793521652160268, 1112165034801202228, 679518681405399204207, 1),
  (6311963220396031, 6170446709459169517, 125808575480100614, 122987901463758112627, 1),
  (21984199039431107, 17193044241400619105, 97512413220273476, 76260919562038535383, 1),
  (21984199039431107, 13754435393120495284, 121890516525341845, 76260919562038535383, 1),
  (3999859593834488, 4004025637960986321, 85921837634148607, 86011329317198044346, 1),
  (4999824492293110, 4004025637960986321, 86921802532607229, 69609868581350632741, 1),
  (12499561230732775, 8008051275921972642, 34711208404790672, 22238311539394872247, 1),
  (21177363331930443, 10854103328616552563, 64566373837918783, 33092414868011424810, 1),
  (5165055352716679, 4235620355014267601, 64566373837918783, 52947863788818279696, 1),
  (14850329621300526, 9742448686760802419, 263430550704391811, 172821660408229909108, 1),
  (24050385597767092, 12622461780079309613, 37125824053251315, 19484897373521604838, 1),
  (21569210226346544, 18112410254833145793, 612431658108565553, 514280000440653555637, 1),
  (26961512782933180, 18112410254833145793, 607039355551978917, 407801518301556215351, 1),
  (33701890978666475, 18112410254833145793, 620520111943445507, 333486178743178230598, 1),
  (7937578664184528, 6825429767687619695, 21804899652137617, 18749774643327132422, 1),
  (1984394666046132, 1365085953537523939, 120930866256964877, 83189614294533673322, 1),
  (2480493332557665, 1365085953537523939, 119938668923941811, 66005657054211929082, 1),
  (14062148615783602, 12382079838719871453, 153023952820624345, 134741486015498906042, 1),
  (4345378130443539, 3060972851911846267, 30809993409015466, 21703186825527896639, 1),
  (5529809287032097, 3116248224340840821, 60435555661442374, 34057628978033270815, 1),
  (14466706066470418, 13044022244288335805, 30217777830721187, 27246103182426616652, 1),
  (7233353033235209, 5217608897715334322, 86394474126655781, 62318619711426234787, 1),
  (19790280273355143, 11420202162742180093, 372601529813213476, 215013872357478398869, 1),
  (8188242446410451, 7560186742495325756, 22690789730091316, 20950357639860528747, 1),
  (3157152418635207, 2331993661947950894, 25206334743978938, 18618363977912577853, 1),
  (4723007476677131, 2790875330803335213, 48846814429915952, 28864101963415150067, 1),
  (7488696130801857, 7080240256080723686, 23040562887895613, 21783861707334426381, 1),
  (3887966689273439, 2940724290250740539, 84099080925290553, 63609652507331781212, 1),
  (18108795214367559, 10957495927315911919, 128092604732572549, 77507872724898433670, 1),
  (18774314330367377, 18176314470655099260, 27329572600551293, 26459070472295598653, 1),
  (18774314330367377, 14541051576524079408, 29468387168097272, 22823807578164578801, 1),
  (4040120746318741, 2503318229953432006, 36835483960121590, 22823807578164578801, 1),
  (1574344935276143, 1560779639688797353, 29646673343250563, 29391223677760240166, 1),
  (8592427037269748, 6814712519365326445, 43682837547237773, 34645156557436769258, 1),
  (2148106759317437, 1362942503873065289, 257080109403902731, 163113591299462252234, 1),
  (10740533796587185, 10903540030984522312, 23811099983132773, 24172474735879445655, 1),
  (7472892249950788, 6069045083808633181, 23811099983132773, 19337979788703556524, 1),
  (21942876920645076, 14256574814201118583, 31283992233083561, 20325619898009751764, 1),
  (20312553772761023, 10557865992727353978, 47741149923567368, 24814440806928472561, 1),
  (3558021189022661, 2958967057179011684, 26280197513206944, 21855473749749460877, 1),
  (16698119945626133, 11109363145642993698, 66246486782760946, 44074200041035448273, 1),
  (8485558222748963, 4516395766564502783, 49548366837134813, 26371869516313963660, 1),
  (13277163674707453, 11306725943223875413, 36271203162427360, 30888265282878466443, 1),
  (22344964465314293, 15223033811154793619, 45339003953034200, 30888265282878466443, 1),
  (324537511202807, 176879064227551682, 56349217430089943, 30711386218650914761, 1),
  (7327622501063699, 6389907933648755307, 42343047450368159, 36924415088072118386, 1),
  (23409101239453513, 16330754124722681107, 33589191213042044, 23432630639573022093, 1),
  (15011803436193002, 8378077171863540467, 41986489016302555, 23432630639573022093, 1),
  (4867195965503263, 4346205952711084557, 66732684383502083, 59589544403720669210, 1),
  (10599176138996442, 7571702928033049285, 56133508244505641, 40099932594943486083, 1),
  (5299588069498221, 3028681171213219714, 153582740785009655, 87771568117920021451, 1),
  (6611320933067932, 6045325172973769377, 39720582213626969, 36320099715653296466, 1),
  (8264151166334915, 6045325172973769377, 36414921747093003, 26637949703333129422, 1),
  (7037692645189522, 4118524906071872009, 132810760219138361, 77722124470829413625, 1),
  (17594231612973805, 16474099624287488036, 28804132151541139, 26970324882259893441, 1),
  (5604950269283667, 4198490103188962162, 63602904974927347, 47642914609736343639, 1),
  (20104438945694587, 12047676983860646025, 112706321273443774, 67539778474268673527, 1),
  (5102024222394951, 4891858158193314197, 20104438945694587, 19276283174177033640, 1),
  (20104438945694587, 15421026539341626912, 81769176324348390, 62720707680724415117, 1),
  (9714364337454783, 5961090311065069271, 61664737378653803, 37839744913106230564, 1),
  (14624207721722241, 14358320512372641359, 35689550858054293, 35040668179337039868, 1),
  (19890543505805254, 15623125943290992789, 46222222426220319, 36305473610255391298, 1),
  (28083747089561473, 17646814632760355077, 779903783093111433, 490063432338351217580, 1),
  (9726263231759326, 9778613303868468131, 150144998679566691, 150953130365951308747, 1),
  (4557090909528232, 3665294983943408339, 24315658079398315, 19557226607736936262, 1),
  (27733476261544489, 17844958276555594013, 49770588886178688, 32024621569167779687, 1),
  (15290829039999817, 7871042307410919273, 62213236107723360, 32024621569167779687, 1),
  (262479986931023, 216180935809641038, 38620792580396077, 31808440633358138649, 1),
  (9458338154900752, 6231979565185843107, 48604090709158875, 32024621569167779687, 1),
  (11822922693625940, 6231979565185843107, 50968675247884063, 26866093168371392371, 1),
  (15139280267019334, 12768103143436933547, 29917933634051759, 25232062273808619761, 1),
  (11174146750271046, 7539204280836061195, 116067227919445657, 78310636252726295459, 1),
  (5587073375135523, 3015681712334424478, 298548679861317427, 161144795073954227635, 1),
  (19858980685366169, 17150550453118723137, 47794347561043784, 41276004151794118961, 1),
  (15986779985416669, 11045162128581492867, 43756154465888061, 30230842023212626094, 1),
  (22929123605534517, 12673265681791420939, 80569965311658274, 44532211258213975105, 1),
  (18590158842960862, 16440089111940046857, 40284982655829137, 35625769006571180084, 1),
  (24790031038654784, 17538325425016481405, 796385658206860501, 563422886226680274056, 1),
  (6197507759663696, 3507665085003296281, 4037705860871275769, 2285260530671750762753, 1),
  (3873442349789810, 3507665085003296281, 4038480549341233731, 3657118382091801879661, 1),
  (9683605874474525, 7015330170006592562, 2012461750558484698, 1457936621717716137071, 1),
  (23776946853132187, 13780249611282161959, 48418029372372625, 28061320680026370248, 1),
  (15184642657998211, 14080742485759389757, 181351576229870281, 168167595497173402956, 1),
  (8024389162053231, 5952822727079465554, 33949412063968912, 25185073607979046737, 1),
  (24999095194037687, 14836287624855191138, 42436765079961140, 25185073607979046737, 1),
  (7194951962023701, 6832015378288343563, 53045956349951425, 50370147215958093474, 1),
  (15730550231940161, 11949640432437225114, 25852655021029333, 19638850972795299683, 1),
  (18261076429212454, 11097554454021395005, 85696936703211281, 52079428356443654589, 1),
  (9130538214606227, 8878043563217116004, 118534343647271885, 115256411166908704183, 1),
  (13655144036257074, 10622021244877778431, 72962979145545283, 56756216742624020878, 1),
  (1070156526934312, 665960041681504197, 33067703563708373, 20578082448074052665, 1),
  (668847829333945, 665960041681504197, 33067703563708373, 32924931916918484264, 1),
  (8768561762927552, 6984562408392599371, 58035693193823139, 46228096692022178809, 1),
  (10960702203659440, 6984562408392599371, 55843552753091251, 35585564871939223173, 1),
  (6850438877287150, 6984562408392599371, 57213640528548681, 58333816276781276951, 1),
  (16618552229021828, 13555139138962871661, 33744649422239703, 27524263955748070403, 1),
  (25435373307728789, 16597355509013307658, 46208563594006074, 30152494647976179319, 1),
  (24269827552365913, 12669441133200558927, 261140374299210663, 136321636095155712200, 1),
  (12863379873284754, 10743996180570534341, 82758998141975303, 69123540523892868393, 1),
  (6005204419454578, 4012624612301971807, 32158449683211885, 21487992361141068682, 1),
  (20583128156196876, 11002771711837610557, 129068886044741687, 68994152758259330285, 1),
  (212167534255606, 181463647419411443, 25728910195246095, 22005543423675221114, 1),
  (12811413214059146, 8765924639986206157, 64587484905934745, 44192550494769853671, 1),
  (29090889149452586, 15923835269910700237, 119301200483505623, 65303355089704513025, 1),
  (1433128229410114, 1255150241908085555, 23286988804937079, 20395013531942209946, 1),
  (716564114705057, 502060096763234222, 59292318184400283, 41543117209029271225, 1),
  (15718784689481392, 8810683538569088467, 59292318184400283, 33234493767223416980, 1),
  (9824240430925870, 8810683538569088467, 69116558615326153, 61985873566126555635, 1),
  (22277978769005739, 15983665887881533787, 46838579846320414, 33605032965019710721, 1),
  (22848634346082973, 13114472948156555659, 322734158730547792, 185240322463448422373, 1),
  (12137636644388029, 11146658834227901786, 63190404187401447, 58031221209740173529, 1),
  (18832010207947369, 13835576008793615063, 466608102600586187, 342809492909309614620, 1),
  (2096076299049019, 1231962924212304782, 46031987370343913, 27055170555481077735, 1),
  (7064046108198626, 6642997035308520329, 46031987370343913, 43288272888769724376, 1),
  (17717959104022987, 13329510934322777553, 53096033478542539, 39945015939262595764, 1),
  (28921916763211, 17406745482294758, 44251514884912651, 26632911750422112969, 1),
  (5556746037781891, 5350951793759635255, 27639120605093400, 26615505004939818211, 1),
  (5556746037781891, 4280761435007708204, 34548900756366750, 26615505004939818211, 1),
  (23133302548384117, 14256998428960807645, 40105646794148641, 24717013151958021132, 1),
  (958936120589231, 945584020171432629, 22174366427794886, 21865613466165859603, 1),
  (5064123546654106, 3994889085164598869, 50371792522833109, 39736337847167120337, 1),
  (23919865374753028, 15095557321833928361, 132259635740400405, 83467564779498839543, 1),
  (15300103948850018, 15449156929363715207, 29899831718441285, 30191114643667856722, 1),
  (14599727769591267, 11793566171443313212, 26424993820858156, 21345940015085371813, 1),
  (7993479314376728, 5165664934137576207, 33031242276072695, 21345940015085371813, 1),
  (31032872447478513, 16043619025240782209, 72057594037927936, 37252902984619140625, 1),
  (2041974906795701, 1689082054221179547, 9007199254740992, 7450580596923828125, 1),
  (1049124534447735, 694252380039109937, 2251799813685248, 1490116119384765625, 1),
  (179073091446867, 94800505263861623, 562949953421312, 298023223876953125, 1),
  (19428217075297, 16456339969185141, 70368744177664, 59604644775390625, 1),
  (8412030890011, 5700213853728186, 17592186044416, 11920928955078125, 1),
  (1920310660985, 1041002495243506, 4398046511104, 2384185791015625, 1),
  (255704468829, 221788272494923, 549755813888, 476837158203125, 1),
  (41571762897, 28846205214067, 137438953472, 95367431640625, 1),
  (1700384277, 943902887518, 34359738368, 19073486328125, 1),
  (88013207, 78171431106, 4294967296, 3814697265625, 1),
  (440066035, 312685724424, 1073741824, 762939453125, 1),
  (52846527, 30039772696, 268435456, 152587890625, 1),
  (4202821, 3822443432, 33554432, 30517578125, 1),
  (4151719, 3020773147, 8388608, 6103515625, 1),
  (212925, 123938662, 2097152, 1220703125, 1),
  (16049, 14946796, 262144, 244140625, 1),
  (14709, 10959059, 65536, 48828125, 1),
  (8009, 4773736, 16384, 9765625, 1),
  (915, 872612, 2048, 1953125, 1),
  (33, 25177, 512, 390625, 1),
  (37, 22583, 128, 78125, 1),
  (7, 6836, 16, 15625, 1),
  (1, 781, 4, 3125, 1),
  (0, 1, 1, 625, 1),
  (0, 1, 1, 1000, 1),
  (0, 1, 1, 800, 1),
  (0, 1, 1, 640, 1),
  (0, 1, 1, 1024, 1),
  (1, 819, 5, 4096, 1),
  (11, 7209, 25, 16384, 1),
  (59, 30933, 125, 65536, 1),
  (273, 229009, 625, 524288, 1),
  (1162, 779805, 3125, 2097152, 1),
  (7522, 4038343, 15625, 8388608, 1),
  (28284, 24295771, 78125, 67108864, 1),
  (71054, 48827937, 390625, 268435456, 1),
  (177549, 97608595, 1953125, 1073741824, 1),
  (3684303, 3240747191, 9765625, 8589934592, 1),
  (6403143, 4505811317, 48828125, 34359738368, 1),
  (13807817, 7773109937, 244140625, 137438953472, 1),
  (28791601, 25933168707, 1220703125, 1099511627776, 1),
  (922725244, 664893610407, 6103515625, 4398046511104, 1),
  (11976349939, 6903895695685, 30517578125, 17592186044416, 1),
  (55723415242, 51395778994111, 152587890625, 140737488355328, 1),
  (62363091502, 46015839543309, 762939453125, 562949953421312, 1),
  (365878953687, 215976813459863, 3814697265625, 2251799813685248, 1),
  (4337269293039, 4096435027325419, 19073486328125, 18014398509481984, 1),
  (43999661561541, 33245204322532655, 95367431640625, 72057594037927936, 1),
  (108209374160396, 65408553173421405, 476837158203125, 288230376151711744, 1),
  (1178566723737763, 1139839793972162695, 2384185791015625, 2305843009213693952, 1),
  (3274873919703972, 2533810968008126491, 11920928955078125, 9223372036854775808, 1),
  (24660576390082243, 15264157452569266591, 59604644775390625, 36893488147419103232, 1),
  (8985677746785065, 8898984210288696541, 19269169742011204, 19083261397937608621, 1),
  (13802970182287866, 10935839647818478957, 24086462177514005, 19083261397937608621, 1),
  (8592488543185036, 5446136629611347657, 103247333801199953, 65440772332527739170, 1),
  (10740610678981295, 10892273259222695314, 46253361561109329, 46906481236410843679, 1),
  (17756375441064017, 14405683190875259346, 71242465300113280, 57798754495633538993, 1),
  (17702134557099714, 11489342206273707155, 35675473534020943, 23154706144679915919, 1),
  (8851067278549857, 4595736882509482862, 111316352031427000, 57798754495633538993, 1),
  (18978020729306893, 15766322786238243018, 50594699290334982, 42032431709395295975, 1),
  (25297349645167491, 16812972683758118390, 211877824516855924, 140816968016904255571, 1),
  (25297349645167491, 13450378147006494712, 290144630291237396, 154267346163910750283, 1),
  (8389728406732810, 7137191600167186261, 23619403963820929, 20093166715176954287, 1),
  (13907134083593667, 9464705006104218967, 132004153902698312, 89837371866812036115, 1),
  (33001038475674578, 17967474373362407223, 1158569940115229409, 630785474345376314227, 1),
  (11491991061723172, 10010936112940619765, 71010605127463273, 61858961380509009127, 1),
  (2872997765430793, 2002187222588123953, 395274994353347467, 275466466638269771850, 1),
  (14364988827153965, 8008748890352495812, 88045006967971393, 49086731659889582511, 1),
  (12337480973128769, 11005400782938572609, 34812501216383518, 31053788774004248669, 1),
  (22475020243254749, 16038710392852540848, 32278116398852023, 23034433577577978245, 1),
  (32278116398852023, 18427546862062382596, 100719537201485488, 57500690832492901689, 1),
  (7098232098480651, 6483798646302651478, 62949710750928430, 57500690832492901689, 1),
  (19286543736972433, 14093657625019640929, 215233908088238374, 157282354540044726165, 1),
  (5592117679628511, 3269155657969663375, 102024836364490676, 59643786158048227091, 1),
  (5592117679628511, 5230649052751461400, 66561581567620928, 62259110684423957791, 1),
  (5592117679628511, 4184519242201169120, 83201976959526160, 62259110684423957791, 1),
  (5592117679628511, 3347615393760935296, 104002471199407700, 62259110684423957791, 1),
  (15796367739740218, 15129914451893539795, 130003088999259625, 124518221368847915582, 1),
  (7898183869870109, 6051965780757415918, 336854998302954226, 258114391408831955041, 1),
  (1282818942102412, 786365723404097297, 39490919349350545, 24207863123029663672, 1),
  (1603523677628015, 1572731446808194594, 19905812042438074, 19523563643104550397, 1),
  (5778214849423526, 4533805307344187917, 49764530106095185, 39047127286209100794, 1),
  (26326818765403474, 16525611975952477901, 3381714083613489331, 2122736334283181273395, 1),
  (6261172756136599, 6288322939696136407, 65817046913508685, 66102447903809911604, 1),
  (5497209405138123, 4416837465187391351, 42300282590959241, 33986966689159328330, 1),
  (17446582404162464, 11214230803019257017, 42300282590959241, 27189573351327462664, 1),
  (21808228005203080, 11214230803019257017, 51023573793040473, 26237351002269672938, 1),
  (13630142503251925, 11214230803019257017, 45571516791739703, 37494069282423773894, 1),
  (12459870182755943, 8201109267742205045, 30771101967991796, 20253595408850412933, 1),
  (12459870182755943, 6560887414193764036, 38463877459989745, 20253595408850412933, 1),
  (271066727930479, 228373266507648330, 31827342276716055, 26814482823044176969, 1),
  (271066727930479, 182698613206118664, 39716411163912449, 26768808169742647303, 1),
  (29719541690951717, 16024745179204364649, 49984347364803660, 26951506782948765967, 1),
  (3884359416325514, 3351107926405767861, 58596074789679061, 50551905639491764073, 1),
  (9710898540813785, 6702215852811535722, 28326947540758152, 19550540670515552057, 1),
  (16792635426003323, 9271880816352338989, 35408684425947690, 19550540670515552057, 1),
  (8624244409744292, 7618860460644046007, 97145955474613517, 85821023142706254235, 1),
  (10780305512180365, 7618860460644046007, 97145955474613517, 68656818514165003388, 1),
  (30801466247558, 17414873673717865, 53963130493396941, 30510271589923619758, 1),
  (15400733123779, 13931898938974292, 67457763300027121, 61024026154581983089, 1),
  (16837489542040167, 12185300572401832609, 33751982749699229, 24426328740559562386, 1),
  (12647368072934849, 7322325862592278999, 1243786199947958310, 720103013282581964459, 1),
  (19514068209445162, 18076597819929194109, 63236840364674245, 58578606900738231992, 1),
  (22045267393637073, 16337072443548934243, 26739903129975832, 19816123196309453975, 1),
  (6684975782493958, 3963224639261890795, 932478358214942199, 552824920403408304757, 1),
  (3342487891246979, 3170579711409512636, 1171447301578359962, 1111198355301783256627, 1),
  (16712439456234895, 12682318845638050544, 291190581448966501, 220971439175792846271, 1),
  (6586442054874126, 3998523778266022813, 70389313171426223, 42732227826020156550, 1),
  (13480802008560227, 13094367352142039807, 43427709154305769, 42182829817348170866, 1),
  (746325782156272, 579945552184410289, 71135638953582495, 55277197169490210673, 1),
  (932907227695340, 579945552184410289, 70575894616965291, 43873790404281522365, 1),
  (1166134034619175, 1159891104368820578, 34704880291173058, 34519086771240807603, 1),
  (19684708214824879, 15663460475486435966, 26611727235689381, 21175408504492012793, 1),
  (8110599352196314, 5162994584393459021, 41649345608750197, 26512879811191530717, 1),
  (1287912130966696, 1311761672568386049, 22852322642424177, 23275501682710608182, 1),
  (22208366576940829, 18095696677141132126, 46026623317590028, 37503155026850650301, 1),
  (23818256740649199, 15525966679767614540, 33715022406338336, 21977188347083035761, 1),
  (23818256740649199, 12420773343814091632, 42143778007922920, 21977188347083035761, 1),
  (18550284489658834, 15477799680685939459, 26339861254951825, 21977188347083035761, 1),
  (742782739768213, 495804469578349371, 44147363004842446, 29468185952636830805, 1),
  (22073681502421223, 11787274381054732322, 233630612624843374, 124757989940231388123, 1),
  (18850232102263437, 16105540557813945754, 26908855602657902, 22990786687498010657, 1),
  (16152329951796194, 11040373560625180433, 180338448669218113, 123264188299372284345, 1),
  (29597987015373329, 16184554637873372439, 40380824879490485, 22080747121250360866, 1),
  (10755429308642731, 9409928220272504895, 24233976638789176, 21202313187026481749, 1),
  (10755429308642731, 7527942576218003916, 41047900107129201, 28730255763244485665, 1),
  (23706261662585714, 13273993728866901049, 41047900107129201, 22984204610595588532, 1),
  (7298692318959086, 6538883098464855203, 190642115897727833, 170795870687834997850, 1),
  (18246730797397715, 13077766196929710406, 86197692550165059, 61779465176669143937, 1),
  (14469759719780078, 8296593472756123469, 35234471235589551, 20202552753491655031, 1),
  (6764915827959717, 6206130035485975862, 21469657563704956, 19696251963255234869, 1),
  (22867159000738434, 16782655206341921611, 118305707957584931, 86826872788622921313, 1),
  (3731833273238228, 2191092338503059019, 53436064228607857, 31374218074180784203, 1),
  (4664791591547785, 4382184677006118038, 25318594636839593, 23784719056242791951, 1),
  (9828242352870737, 7386254617452229213, 45473738512356234, 34175043614141132339, 1),
  (16282555804524427, 9789510569809118153, 178814569498988293, 107508129507518737290, 1),
  (8177970946109764, 7866905807923607001, 56878866184292843, 54715367134702124221, 1),
  (10222463682637205, 7866905807923607001, 58923358920820284, 45345674869346420777, 1),
  (19239215777772937, 11844745301399682710, 54414982873252418, 33500929567946738067, 1),
  (9960344573566590, 9811438965147372647, 19239215777772937, 18951592482239492336, 1),
  (7129521745494821, 5618349199866322405, 53418948415895759, 42096274729760034914, 1),
  (7129521745494821, 4494679359893057924, 68556065956243404, 43219944569733299395, 1),
  (17139016489060851, 17287977827893319758, 266339543455119392, 268654395944025368187, 1),
  (13196656304133739, 10649082541407556630, 36249213070585258, 29251414385082861201, 1),
  (13196656304133739, 8519266033126045304, 51909844490298442, 33511047401645883853, 1),
  (6379132970507741, 3294503067078758649, 110637212314222882, 57138585602055491759, 1),
  (18090603622794109, 14948626879833175946, 24993134237666407, 20652325708231622569, 1),
  (10770934465115129, 7120190517612959703, 6253627381838840436, 4133997707354700561283, 1),
  (12392282483131533, 6553593841927154471, 53854672325575645, 28480762070451838812, 1),
  (3156113707785009, 2670550790031363451, 22757879943742561, 19256617438493320890, 1),
  (22757879943742561, 15405293950794656712, 43771432036280743, 29629815203922012697, 1),
  (10506776046269091, 5689808501250942394, 83161639975029130, 45035109154716669409, 1),
  (2515122962176823, 2179251629442203009, 67624618004406393, 58593977786660757206, 1),
  (17534935241645804, 12154645883220592043, 338123090022031965, 234375911146643028824, 1),
  (21918669052057255, 12154645883220592043, 329355622401209063, 182638870564026186242, 1),
  (16510950116586721, 14649411523008171571, 175637145726633159, 155834813157797422628, 1),
  (19502602894497107, 13843014656523523118, 31526073844218249, 22377315717754581583, 1),
  (6011735474860571, 3413720424492423386, 69797581398254766, 39634050798770528087, 1),
  (7221763806066703, 6561321989957136263, 123941606853169994, 112606949265382158507, 1),
  (5709228392059038, 4149688281196450165, 41818047422392553, 30394976241024995217, 1),
  (2854614196029519, 1659875312478580066, 108827039850025661, 63279765450767860533, 1),
  (12532899657742138, 11660027902666424067, 152134967215311113, 141539309429159305265, 1),
  (2263139253232806, 1684415741668398229, 29069109891122539, 21635640063664449905, 1),
  (29069109891122539, 17308512050931559924, 46432588903224816, 27647183818065738115, 1),
  (5804073612903102, 5529436763613147623, 598063291262054651, 569764163969277993986, 1),
  (14510184032257755, 11058873527226295246, 285972480001995346, 217952679413207531873, 1),
  (6197291855338939, 3778591184626843489, 78748212016627714, 48014085293532024473, 1),
  (16588407076487459, 16182761169711334998, 90141061482540913, 87936790002208381447, 1),
  (2894933963166016, 2259313975693510125, 23787433176591077, 18564596258690433164, 1),
  (723733490791504, 451862795138702025, 132688102207993961, 82843778142397071131, 1),
  (90466686348938, 90372559027740405, 664526111276157061, 663834695847509453908, 1),
  (45233343174469, 36149023611096162, 1661337894861979887, 1327687466206824455897, 1),
  (226166715872345, 144596094444384648, 415210082021765182, 265457965389420479623, 1),
  (1130833579361725, 1156768755555077184, 51731635215816389, 52918077764550834347, 1),
  (14911867567837116, 12203091810687274927, 24169567238865607, 19779108599154241118, 1),
  (20441600346906328, 13382668517185937909, 39081434806702723, 25585760327873212836, 1),
  (33971034719976141, 17792074558861382687, 127465104593561333, 66758892193770085970, 1),
  (10597517251579843, 8880592240214730986, 58433793670990745, 48966817634908703283, 1),
  (6660310479062804, 4465008182852902065, 86289138653213235, 57847409875123434269, 1),
  (1665077619765701, 893001636570580413, 438106003745128979, 234961646046776058728, 1),
  (8325388098828505, 7144013092564643304, 48311074691549031, 41455719062617613185, 1),
  (22484503796422889, 15435156905088165941, 48311074691549031, 33164575250094090548, 1),
  (4785609174429909, 2628179093034081455, 83708863935534991, 45971553062148175034, 1),
  (4785609174429909, 4205086548854530328, 52916241106513108, 46497188880754991325, 1),
  (13229060276628277, 9299437776150998265, 936733204959500658, 658481552749837001597, 1),
  (13229060276628277, 7439550220920798612, 1177531036337689961, 662201327860297400903, 1),
  (36167929443327, 32543279338529774, 33054566726849029, 29741929244013929561, 1),
  (8272683664073089, 5954894504670491867, 421726027220510904, 303569446620840966121, 1),
  (6159302836250658, 3546902079331471301, 41363418320365445, 23819578018681967468, 1),
  (9570941725560029, 8818450791606492727, 111107674346226935, 102372116233390812474, 1),
  (11027770566826683, 8128592138429072677, 69910249761453511, 51530987443284116262, 1),
  (14720619798656707, 8680479060971008717, 246506910216670606, 145360596346339404029, 1),
  (19336681338444237, 18243977198009115098, 27133208827419649, 25599927644879477319, 1),
  (9745659361219265, 7355950446870362221, 25184076955175796, 19008752026529509411, 1),
  (16041678600013214, 9686510762802191659, 31480096193969745, 19008752026529509411, 1),
  (1854394573487481, 1791594352930488769, 49376169367470440, 47704014815861210481, 1),
  (10489647768380129, 8107527480827851081, 51230563940957921, 39596487335033359400, 1),
  (304418725235681, 188230013821179201, 51230563940957921, 31677189868026687520, 1),
  (12427117578694879, 12294415919568316606, 19401723181131521, 19194543934637191713, 1),
  (4469907388738279, 3537740764813551621, 35316143561044721, 27951219089391956698, 1),
  (5476605348707471, 3467599358990260367, 55209169035936221, 34956559213195768686, 1),
  (4847419123726726, 4910752227244997517, 85552056228258067, 86669821598862053140, 1),
  (12118547809316815, 9821504454489995034, 36716754209470626, 29757176412299823739, 1),
  (24598206400153811, 15948537566247862964, 33596839561761377, 21782907629175892257, 1),
  (10049444909675014, 5212541013913539327, 52644917633043957, 27306363167596676567, 1),
  (4367965112295352, 3624987847559715569, 33859542498778239, 28100139750773588446, 1),
  (5459956390369190, 3624987847559715569, 32767551220704401, 21755114231106927643, 1),
  (17748764707944498, 9427043261954714171, 617107891046035907, 327769446601579712952, 1),
  (20992078729442941, 17839504898252598721, 23379833040418304, 19868668149566257963, 1),
  (3457203949129213, 2350403028862324199, 29224791300522880, 19868668149566257963, 1),
  (25375797424521373, 13801523312829614137, 61906786550174973, 33670191462395872100, 1),
  (16243050143107973, 14134970040700879434, 22831868203533500, 19868668149566257963, 1),
  (4827116041341223, 3360508772734200362, 28539835254416875, 19868668149566257963, 1),
  (16683475647879049, 9291670768920183330, 196475655495135055, 109424867066033890901, 1),
  (16683475647879049, 14866673230272293328, 116540981316504766, 103849864604681780903, 1),
  (4110031857307618, 2929965044609604187, 95747473811318099, 68256588054917985873, 1),
  (10275079643269045, 5859930089219208374, 44791213012678336, 25544656195201431837, 1),
  (4676178016684253, 4266956903710447031, 27994508132923960, 25544656195201431837, 1),
  (9321076049777727, 6804296955112215110, 25672059116377223, 18740359240089216727, 1),
  (9321076049777727, 5443437564089772088, 39080880932804824, 22822937413156545793, 1),
  (19091296282978933, 17838675067806253658, 24425550583003015, 22822937413156545793, 1),
  (2667127150012041, 1993704938140116854, 57063185732489476, 42655317419102916305, 1),
  (14265796433122369, 8531063483820583261, 341448953711874692, 204189279880433882419, 1),
  (232540170765541, 222497492504046338, 35548220997423152, 34013005189030309875, 1),
  (8887055249355788, 6802601037806061975, 2000750131958880005, 1531475223476380129727, 1),
  (2221763812338947, 1360520207561212395, 10032633589354806336, 6143587656603816280043, 2),
  (2221763812338947, 2176832332097939832, 6270395993346753960, 6143587656603816280043, 2),
  (11108819061694735, 8707329328391759328, 1565377234524349543, 1226976065455084904143, 1),
  (241563293652023, 151473969630632221, 55302532014821652, 34677843343936405091, 1),
  (7033598148678718, 7056747844491786795, 83195361315884501, 83469182376856383772, 1),
  (3516799074339359, 2822699137796714718, 220297200049899009, 176817811736001269057, 1),
  (17583995371696795, 11290796551186858872, 38369504409362797, 24637305623572737883, 1),
  (13988374945264898, 7185620434951919351, 6570546497087607473, 3375192140832366175588, 1),
  (2745978664881759, 2256909525004751623, 32224958698280486, 26485572214802925781, 1),
  (6683250342129242, 4394350632958684507, 53829395377184247, 35393741897771113534, 1),
  (28585510274124434, 15036366885700182315, 674174862160185087, 354625139637021562259, 1),
  (14292755137062217, 12029093508560145852, 846291766484496913, 712257552651183160981, 1),
  (22193936055049853, 14943119339499086165, 71463775685311085, 48116374034240583408, 1),
  (22193936055049853, 11954495471599268932, 83781235592876393, 45127750166340766175, 1),
  (3398555585296609, 2928945438331115697, 87179791178173002, 75133345704476341577, 1),
  (16697114416598337, 11511934614897929479, 67084121176278056, 46251585598018251225, 1),
  (16771030294069514, 9250317119603650245, 1089747389727162525, 601066765635810732616, 1),
  (8385515147034757, 7400253695682920196, 1360087858372194467, 1200283467847700735183, 1),
  (1687777648617731, 1191576909723051353, 40239798086556054, 28409437873008629431, 1),
  (9216060697330148, 5205256810712505345, 63735252427069543, 35997848503167237482, 1),
  (2304015174332537, 2082102724285002138, 178922260049500422, 161689267169091468101, 1),
  (11520075871662685, 8328410897140008552, 43578557425208837, 31505012344104292765, 1),
  (3505455483276147, 2027408428319149999, 43578557425208837, 25204009875283434212, 1),
  (8265547743845099, 7648713836130393686, 29427508067803115, 27231418303602584211, 1),
  (5290490080989504, 3916540893494438105, 99523129610110039, 73676805172960393899, 1),
  (1322622520247376, 783308178698887621, 516132363334013459, 305673535193626002290, 1),
  (826639075154610, 783308178698887621, 516132363334013459, 489077656309801603664, 1),
  (2066597687886525, 1566616357397775242, 257446202360640772, 195161077616701308893, 1),
  (10332988439432625, 6266465429591100968, 62294952902273668, 37778922437422041585, 1),
  (15573738225568417, 15111568974968816634, 734437560361944536, 712642250079445560719, 1),
  (9022800992898677, 7004030892351998222, 34422945067471704, 26721122503761634157, 1),
  (17628537259766603, 10947449214633925409, 43028681334339630, 26721122503761634157, 1),
  (4857254259254015, 4826224074493783339, 19571438963468209, 19446408373211793990, 1),
  (19571438963468209, 15557126698569435192, 147964500309212034, 117615392639122188481, 1),
  (4303505699266819, 2736648379773317222, 42473338859770294, 27009280827478894551, 1),
  (12770087564575983, 12993031034810211598, 97786980050728808, 99494170276793529695, 1),
  (14956947797515511, 12174456028523434514, 24446745012682202, 19898834055358705939, 1),
  (25813532658269407, 16809082844624597369, 61116862531705505, 39797668110717411878, 1),
  (29894466519045086, 15573182360330953941, 39384263734211777, 20516784297505527653, 1),
  (12218515237344617, 10184154493872040546, 67914371242167900, 56606750955342009247, 1),
  (21738670383739333, 14495376787039171262, 63154293668970542, 42111374168302837985, 1),
  (31577146834485271, 16844549667321135194, 764832479735266930, 407993121088803884389, 1),
  (14043334490337529, 11986068104618252262, 71921199841044413, 61385164616975414645, 1),
  (426131847339192, 290964818776830667, 71495067993705221, 48817166874803501049, 1),
  (532664809173990, 290964818776830667, 71708133917374817, 39170119427353533106, 1),
  (18526281389664443, 16191784444739708443, 35720900756393911, 31219709614372094218, 1),
  (4298654841682367, 3005585033926477155, 152812574731875353, 106845328253929513942, 1),
  (4298654841682367, 2404468027141181724, 192090382125264783, 107446445260714809373, 1),
  (14876656227083068, 13314097759862944013, 51246586662577971, 45863939736855341818, 1),
  (18595820283853835, 13314097759862944013, 54965750719348738, 39353971341456862257, 1),
  (31926402897584636, 18286743700928939749, 105487973900787209, 60421198981984784765, 1),
  (7118018482577588, 6523271917198991435, 32789985139403207, 30050215484658888063, 1),
  (1779504620644397, 1304654383439798287, 178185962662171211, 130638097006153938548, 1),
  (8897523103221985, 5218617533759193148, 36093843717481917, 21169932744159554219, 1),
  (14647381781958467, 13745683153247571161, 112478417051759755, 105554201111674989468, 1),
  (19484386528425079, 14627935976108687125, 34268135852942177, 25726860660772910394, 1),
  (19484386528425079, 11702348780886949700, 47706266448283991, 28652447855994647819, 1),
  (17638674949911820, 16950099075107698119, 37123061478336899, 35673857124526817639, 1),
  (19484386528425079, 14979006439535295616, 41532730215814854, 31929105514642993735, 1),
  (20766365107907427, 12771642205857197494, 2177263389881573965, 1339051338979433334367, 1),
  (4790972970888623, 4714438355228398497, 103831825539537135, 102173137646857579952, 1),
  (805348287719013, 633986437412242303, 23954864854443115, 18857753420913593988, 1),
  (11574758283362051, 7289506793400540674, 30950266427702660, 19491739858325836291, 1),
  (1918595838218193, 1933257463055265281, 38687833034628325, 38983479716651672582, 1),
  (11110905137320726, 8956650421163493685, 68183356770154117, 54963523095923394671, 1),
  (5555452568660363, 3582660168465397474, 173236118209715474, 111718376276079488079, 1),
  (34975850699438324, 18044483053057420647, 132704814941616787, 68464089833033851837, 1),
  (16715237940357626, 13797763735191116989, 27004575433940279, 22291202370923724305, 1),
  (27004575433940279, 17832961896738979444, 88405486010297730, 58380168477038565599, 1),
  (18405491648335986, 9723520580679062213, 61400910576357451, 32437765264239668924, 1),
  (9957323372372618, 8416639171798069299, 26099082376094729, 22060803979120110254, 1),
  (20517533717326828, 13874305094726885681, 57176826438375767, 38663942035311404126, 1),
  (25646917146658535, 13874305094726885681, 62306209867707474, 33706014647194500437, 1),
  (2753093893597601, 2382961783096291630, 76506215387835542, 66220548402840855059, 1),
  (2753093893597601, 1906369426477033304, 94256222287995627, 65267363689602338407, 1),
  (21499235151800706, 11909651082034247699, 121261645226991535, 67173733116079371711, 1),
  (9241691629856527, 8191199133714590666, 22253198124822619, 19723702597211200065, 1),
  (22253198124822619, 15778962077768960052, 184014400004695956, 130478155236424031069, 1),
  (20755994373293868, 11773877939360697911, 69754001877525359, 39568092432354444386, 1),
  (11526507268807078, 10461493655034299269, 25944992966617335, 23547755878721395822, 1),
  (10090869666106898, 7326803620481698475, 59088877170338389, 42903398171513693963, 1),
  (5045434833053449, 2930721448192679390, 160335780008479595, 93133599963509086401, 1),
  (5045434833053449, 4689154317108287024, 95795107026377979, 89030589936039335255, 1),
  (5028396132644061, 3738655035883005979, 30255570297911306, 22495272304316154075, 1),
  (15127785148955653, 8998108921726461630, 292435015587289733, 173942325123705552113, 1),
  (15127785148955653, 14396974274762338608, 188444804172914453, 179341190476741429091, 1),
  (17181885839832912, 13081474438843665449, 41275154065112441, 31424948221362023534, 1),
  (21477357299791140, 13081474438843665449, 45570625525070669, 27756253464858351917, 1),
  (3992625125218087, 3890938557505549905, 30839321749957012, 30053887435192880803, 1),
  (3992625125218087, 3112750846004439924, 38549152187446265, 30053887435192880803, 1),
  (27913707859280177, 17409782291914840497, 109004637359390794, 67986202865027001721, 1),
  (7972249743968762, 7955668698345352359, 33235763525519025, 33166638281197320727, 1),
  (14624819326767322, 11675521572809857819, 63805082340223871, 50937902115120278175, 1),
  (13621517011652783, 8699639273238253451, 50183565328571088, 32050682418857969089, 1),
  (1075625679510011, 1099149869638017886, 31364728330356930, 32050682418857969089, 1),
  (9454620601854249, 7729116327337215281, 22985733408012692, 18790749503459574299, 1),
  (3708187249851076, 2425143161177857365, 28732166760015865, 18790749503459574299, 1),
  (927046812462769, 485028632235571473, 153858348737169784, 80498312968429583399, 1),
  (18305246779683454, 15323616782109002323, 77856221181047661, 65174696186320581076, 1),
  (2258694663763941, 1512631733267971751, 43504422285444694, 29134601830950032895, 1),
  (21752211142722347, 11653840732380013158, 2344009434502062155, 1255813142197387357987, 1),
  (6745395013668417, 5782199052813630494, 51007830349971659, 43724263403113237385, 1),
  (21183701354578436, 14527051733436277971, 51007830349971659, 34979410722490589908, 1),
  (26479626693223045, 14527051733436277971, 40415979672682441, 22172707884617960738, 1),
  (18465945713908796, 16209035077458032037, 259568744484307695, 227844213859507115021, 1),
  (23082432142385995, 16209035077458032037, 273418203769739292, 192000792134080511239, 1),
  (892745484723162, 501525759083174641, 113626669742483651, 63833088791665778866, 1),
  (2231863711807905, 2006103036332698564, 27625515136488146, 24831099453949867049, 1),
  (21835068208270062, 15701100886902999655, 156404060674300613, 112466602455511732718, 1),
  (10917534104135031, 6280440354761199862, 418303986946089110, 240634305797926465091, 1),
  (859422747239483, 791028926800348134, 26864123886717836, 24726246955644625381, 1),
  (5856608224439976, 4312426249688646569, 27723546633957319, 20413820705955978812, 1),
  (24795242521737331, 14606086064889324422, 32116002802287301, 18918512314577970991, 1)]
def okFrom : Int → List (Nat × Nat × Nat × Nat × Nat) → Bool
  | _, [] => true
  | p, c :: r => certOK (PA p) (PM p) c && okFrom (p + 1) r
theorem okFrom_at : ∀ {l : List (Nat × Nat × Nat × Nat × Nat)} {p : Int}, okFrom p l = true → ∀ (i : Nat) (c : Nat × Nat × Nat × Nat × Nat), l[i]? = some c → certOK (PA (p + i)) (PM (p + i)) c = true
  | [], p, h, i, c, hc => by simp at hc
  | d :: r, p, h, 0, c, hc => by
    simp only [okFrom, Bool.and_eq_true] at h
    simp at hc; subst hc
    simpa using h.1
  | d :: r, p, h, i + 1, c, hc => by
    simp only [okFrom, Bool.and_eq_true] at h
    simp at hc
    have := okFrom_at h.2 i c hc
    rw [show p + ((i + 1 : Nat) : Int) = p + 1 + i by omega]
    exact this
set_option maxRecDepth 100000 in
theorem certs_ok : okFrom (-345) certs = true := by decide +kernel
set_option maxRecDepth 100000 in
theorem certs_length : certs.length = 656 := by decide +kernel
theorem far (p : Int) (h1 : -345 ≤ p) (h2 : p ≤ 310) (x m : Nat) (hx1 : 9223372036854775808 ≤ x) (hx2 : x < 18446744073709551616) :
    x * PA p = m * PM p ∨ (m * PM p < x * PA p ∧ PM p ≤ (x * PA p - m * PM p) * 4722366482869645213696) ∨ (x * PA p < m * PM p ∧ PM p ≤ (m * PM p - x * PA p) * 4722366482869645213696) := by
  have hi : (p + 345).toNat < certs.length := by rw [certs_length]; omega
  have := okFrom_at certs_ok (p + 345).toNat _ (List.getElem?_eq_getElem hi)
  rw [show (-345 : Int) + ((p + 345).toNat : Int) = p by omega] at this
  exact far_of_cert this x m hx1 hx2
end Go.Proofs.YtgbldjbkapaclaaDoor.fl
/- Unrounded scaling: two products of 64 bits tell twice the whole part of a quotient, and whether anything is left. Plain mathematics. -/
namespace Go.Proofs.YtgbldjbkapaclaaDoor.fl
set_option linter.unusedVariables false
set_option linter.unusedSimpArgs false

/-- 2^64. -/
def W : Nat := 18446744073709551616
theorem or_one (n b : Nat) (hb : b ≤ 1) : n ||| b = 2 * (n / 2) + (if n % 2 = 1 ∨ b = 1 then 1 else 0) := by
  have h1 : (n ||| b) / 2 = n / 2 := by
    have : (n ||| b) >>> 1 = (n >>> 1) ||| (b >>> 1) := Nat.shiftRight_or_distrib
    simp only [Nat.shiftRight_eq_div_pow, Nat.pow_one] at this
    rw [this, Nat.div_eq_of_lt (show b < 2 by omega), Nat.or_zero]
  have h2 : (n ||| b) % 2 = if n % 2 = 1 ∨ b = 1 then 1 else 0 := by
    have e := Nat.testBit_or n b 0
    simp only [Nat.testBit_zero] at e
    have hb2 : b = 0 ∨ b = 1 := by omega
    rcases hb2 with rfl | rfl
    · rw [Nat.or_zero]
      rcases Nat.mod_two_eq_zero_or_one n with h | h <;> simp [h]
    · simp at e ⊢
  have := Nat.div_add_mod (n ||| b) 2
  rw [h1, h2] at this
  exact this.symm

/-- What uscale reckons. -/
def usc (x pmHi pmLo s : Nat) : Nat :=
  let hi := x * pmHi / W
  let mid := x * pmHi % W
  if hi / 2 ^ s * 2 ^ s ≠ hi then hi / 2 ^ s ||| 1
  else
    let mid2 := x * pmLo / W
    (hi - (if mid < mid2 then 1 else 0)) / 2 ^ s ||| (if 1 < (mid + W - mid2) % W then 1 else 0)

theorem usc_eq {x pmHi pmLo s A M : Nat} (hx1 : 9223372036854775808 ≤ x) (hx2 : x < W) (hh : 1 < pmHi) (hlo : pmLo < W) (hs : 8 ≤ s) (hM : 0 < M)
    (far : ∀ m, x * A = m * M ∨ (m * M < x * A ∧ M ≤ (x * A - m * M) * 4722366482869645213696) ∨ (x * A < m * M ∧ M ≤ (m * M - x * A) * 4722366482869645213696))
    (p1 : 2 ^ 137 * A + pmLo * M ≤ pmHi * W * M) (p2 : pmHi * W * M < 2 ^ 137 * A + pmLo * M + M) :
    usc x pmHi pmLo s = 2 * (x * A / (M * 2 ^ (s - 8))) + (if x * A % (M * 2 ^ (s - 8)) = 0 then 0 else 1) := by
  obtain ⟨k, rfl⟩ : ∃ k, s = k + 8 := ⟨s - 8, by omega⟩
  rw [Nat.add_sub_cancel]
  have hK : 0 < 2 ^ k := Nat.pow_pos (by decide)
  have hD : 0 < M * 2 ^ k := Nat.mul_pos hM hK
  have d1 := Nat.div_add_mod (x * A) (M * 2 ^ k)
  have d2 := Nat.mod_lt (x * A) hD
  have f1 := far (2 ^ k * (x * A / (M * 2 ^ k)))
  have f2 := far (2 ^ k * (x * A / (M * 2 ^ k) + 1))
  generalize x * A / (M * 2 ^ k) = w at *
  generalize x * A % (M * 2 ^ k) = r at *
  -- C, the top
  have h64 : W = 18446744073709551616 := rfl
  have m1 := Nat.div_add_mod (x * pmHi) W
  have m2 := Nat.mod_lt (x * pmHi) (show 0 < W by decide)
  have m3 := Nat.div_add_mod (x * pmLo) W
  have m4 := Nat.mod_lt (x * pmLo) (show 0 < W by decide)
  have m5 : x * pmLo / W ≤ W - 2 := by
    have e1 : x * pmLo ≤ (W - 1) * (W - 1) := Nat.mul_le_mul (by omega) (by omega)
    have e2 : x * pmLo / W ≤ (W - 1) * (W - 1) / W := Nat.div_le_div_right e1
    have e3 : (W - 1) * (W - 1) / W = W - 2 := by decide
    omega
  have m6 : 1 ≤ x * pmHi / W := by
    rw [Nat.le_div_iff_mul_le (by decide)]
    have : 9223372036854775808 * 2 ≤ x * pmHi := Nat.mul_le_mul hx1 hh
    omega
  unfold usc
  simp only []
  have hmul1 : x * pmHi * M * W = x * (pmHi * W * M) := by simp only [Nat.mul_assoc, Nat.mul_comm, Nat.mul_left_comm]
  have hP1 : x * (2 ^ 137 * A + pmLo * M) ≤ x * (pmHi * W * M) := Nat.mul_le_mul_left x p1
  have hP2 : x * (pmHi * W * M) + x ≤ x * (2 ^ 137 * A + pmLo * M + M) := by
    have := Nat.mul_le_mul_left x (show pmHi * W * M + 1 ≤ _ from p2)
    rwa [Nat.mul_add, Nat.mul_one] at this
  have q1 : x * (2 ^ 137 * A + pmLo * M) = 2 ^ 137 * (x * A) + x * pmLo * M := by rw [Nat.mul_add]; simp only [Nat.mul_assoc, Nat.mul_comm, Nat.mul_left_comm]
  have q2 : x * (2 ^ 137 * A + pmLo * M + M) = 2 ^ 137 * (x * A) + x * pmLo * M + x * M := by rw [Nat.mul_add, q1]
  rw [← hmul1, q1] at hP1
  rw [← hmul1, q2] at hP2
  generalize x * pmHi / W = hi at *
  generalize x * pmHi % W = mid at *
  generalize x * pmLo / W = mid2 at *
  generalize x * pmLo % W = lo2 at *
  rw [← m1] at hP1 hP2
  rw [← m3] at hP1 hP2
  -- in units of 2^64 * M
  have t1 : (W * hi + mid) * M * W = (hi * W + mid) * M * W := by rw [Nat.mul_comm W hi]
  have t2 : (W * mid2 + lo2) * M = mid2 * M * W + lo2 * M := by rw [Nat.add_mul]; simp only [Nat.mul_assoc, Nat.mul_comm, Nat.mul_left_comm]
  have t3 : 2 ^ 137 * (x * A) = 2 ^ 73 * (x * A) * W := by rw [show (2 : Nat) ^ 137 = 2 ^ 73 * W by decide]; simp only [Nat.mul_assoc, Nat.mul_comm, Nat.mul_left_comm]
  rw [t1, t2, t3] at hP1 hP2
  clear t1 t2 t3 hmul1 q1 q2 p1 p2 far
  have hxM : x * M ≤ (W - 1) * M := Nat.mul_le_mul_right M (by omega)
  have hloM : lo2 * M ≤ (W - 1) * M := Nat.mul_le_mul_right M (by omega)
  -- C * M between E * 2^73 and E * 2^73 + 2 * M
  have c1 : 2 ^ 73 * (x * A) + mid2 * M ≤ (hi * W + mid) * M := by
    refine Nat.le_of_mul_le_mul_right (c := W) ?_ (by decide)
    rw [Nat.add_mul]
    exact Nat.le_trans (Nat.add_le_add_left (Nat.le_add_right _ _) _) hP1
  have c2 : (hi * W + mid) * M < 2 ^ 73 * (x * A) + mid2 * M + 2 * M := by
    refine Nat.lt_of_mul_lt_mul_right (a := W) ?_
    rw [Nat.add_mul (_ + _) (2 * M) W, Nat.add_mul (2 ^ 73 * (x * A)) _ W]
    have e2 : 2 * M * W = (W - 1) * M + (W - 1) * M + 2 * M := by rw [← Nat.add_mul, ← Nat.add_mul, Nat.mul_assoc, Nat.mul_comm M W, ← Nat.mul_assoc]; rfl
    rw [e2]
    clear hP1 c1 e2 f1 f2 d1 m1 m2 m3 m4 m5 h64
    generalize 2 ^ 73 * (x * A) * W = a1 at *
    generalize mid2 * M * W = a2 at *
    generalize (hi * W + mid) * M * W = a3 at *
    generalize (W - 1) * M = a4 at *
    generalize x * M = a5 at *
    generalize lo2 * M = a6 at *
    omega
  clear hP1 hP2 hxM hloM
  rw [← d1] at c1 c2 f1 f2
  clear d1
  have g1 : 2 ^ 73 * (M * 2 ^ k * w + r) = (w * (2 ^ (k + 9) * W)) * M + 2 ^ 73 * r := by
    rw [Nat.mul_add, Nat.pow_add 2 k 9, show (2 : Nat) ^ 73 = 2 ^ 9 * W by decide]
    simp only [Nat.mul_assoc, Nat.mul_comm, Nat.mul_left_comm]
  have g2 : 2 ^ k * w * M = M * 2 ^ k * w := by simp only [Nat.mul_assoc, Nat.mul_comm, Nat.mul_left_comm]
  have g3 : 2 ^ k * (w + 1) * M = M * 2 ^ k * w + M * 2 ^ k := by rw [Nat.mul_add, Nat.add_mul, g2, Nat.mul_one, Nat.mul_comm M]
  rw [g1] at c1 c2
  rw [g2] at f1
  rw [g3] at f2
  -- the top T = hi * W + mid - mid2 is w * 2^(k+9) * W + t
  have hT1 : w * (2 ^ (k + 9) * W) + mid2 ≤ hi * W + mid := by
    refine Nat.le_of_mul_le_mul_right (c := M) ?_ hM
    rw [Nat.add_mul]; omega
  obtain ⟨t, ht⟩ : ∃ t, hi * W + mid = w * (2 ^ (k + 9) * W) + mid2 + t := ⟨_, (Nat.add_sub_of_le hT1).symm⟩
  rw [ht, Nat.add_mul, Nat.add_mul] at c1 c2
  clear hT1
  have hmm : 2 ^ 73 * (M * 2 ^ k) = 2 ^ (k + 9) * W * M := by
    rw [Nat.pow_add 2 k 9, show (2 : Nat) ^ 73 = 2 ^ 9 * W by decide]; simp only [Nat.mul_assoc, Nat.mul_comm, Nat.mul_left_comm]
  have ht0 : (r = 0 ∧ t ≤ 1) ∨ (r ≠ 0 ∧ 2 ≤ t ∧ t < 2 ^ (k + 9) * W) := by
    rcases Nat.eq_zero_or_pos r with h | h
    · left
      refine ⟨h, ?_⟩
      subst h
      have : t * M < 2 * M := by omega
      have := Nat.lt_of_mul_lt_mul_right this
      omega
    · right
      refine ⟨by omega, ?_, ?_⟩
      · have : M ≤ r * 4722366482869645213696 := by
          rcases f1 with f | f | f
          · omega
          · have := f.2; rwa [Nat.add_sub_cancel_left] at this
          · omega
        have : 2 * M ≤ t * M := by
          have e : (2 : Nat) ^ 73 = 2 * 4722366482869645213696 := by decide
          rw [e] at c1
          rw [Nat.mul_assoc] at c1
          omega
        exact Nat.le_of_mul_le_mul_right this hM
      · have : M ≤ (M * 2 ^ k - r) * 4722366482869645213696 := by
          rcases f2 with f | f | f
          · omega
          · omega
          · have := f.2
            rwa [show M * 2 ^ k * w + M * 2 ^ k - (M * 2 ^ k * w + r) = M * 2 ^ k - r by omega] at this
        rw [Nat.sub_mul] at this
        refine Nat.lt_of_mul_lt_mul_right (a := M) ?_
        rw [← hmm]
        have e : (2 : Nat) ^ 73 = 2 * 4722366482869645213696 := by decide
        rw [e, Nat.mul_assoc] at c2 ⊢
        rw [Nat.mul_comm (M * 2 ^ k)] at this
        rw [Nat.mul_comm r] at this
        omega
  clear c1 c2 f1 f2 g1 g2 g3 hmm d2 hD
  -- the digits of t
  have hWp : 0 < W := by decide
  have hS : 2 ^ (k + 9) = 2 * 2 ^ (k + 8) := by rw [Nat.pow_succ, Nat.mul_comm]
  have hS0 : 0 < 2 ^ (k + 8) := Nat.pow_pos (by decide)
  rw [hS] at ht ht0
  generalize 2 ^ (k + 8) = S at *
  -- hi' and cl
  obtain ⟨h', cl, hh', hcl, hbor⟩ : ∃ h' cl : Nat, hi * W + mid = h' * W + cl + mid2 ∧ cl < W ∧ ((mid2 ≤ mid ∧ h' = hi ∧ cl = mid - mid2) ∨ (mid < mid2 ∧ h' + 1 = hi ∧ cl = mid + W - mid2 ∧ 2 ≤ cl)) := by
    rcases Nat.lt_or_ge mid mid2 with h | h
    · refine ⟨hi - 1, mid + W - mid2, ?_, by omega, .inr ⟨h, by omega, rfl, by omega⟩⟩
      obtain ⟨h0, rfl⟩ : ∃ h0, hi = h0 + 1 := ⟨hi - 1, by omega⟩
      rw [Nat.add_mul, Nat.add_sub_cancel]; omega
    · exact ⟨hi, mid - mid2, by omega, by omega, .inl ⟨h, rfl, rfl⟩⟩
  have ht2 : h' * W + cl = w * (2 * S * W) + t := by omega
  -- h' = w * 2S + th
  have hw2 : w * (2 * S * W) = w * (2 * S) * W := by rw [Nat.mul_assoc w]
  rw [hw2] at ht2
  have hge : w * (2 * S) ≤ h' := by
    rcases Nat.lt_or_ge h' (w * (2 * S)) with h | h
    · have : (h' + 1) * W ≤ w * (2 * S) * W := Nat.mul_le_mul_right W h
      rw [Nat.add_mul] at this
      omega
    · exact h
  obtain ⟨th, rfl⟩ : ∃ th, h' = w * (2 * S) + th := ⟨h' - w * (2 * S), by omega⟩
  have ht3 : t = th * W + cl := by rw [Nat.add_mul] at ht2; omega
  have hth : th < 2 * S := by
    rcases ht0 with h | h
    · rcases Nat.eq_zero_or_pos th with h0 | h0
      · omega
      · have : 1 * W ≤ th * W := Nat.mul_le_mul_right W h0
        omega
    · have : th * W < 2 * S * W := by omega
      exact Nat.lt_of_mul_lt_mul_right this
  have hq : (w * (2 * S) + th) / S = 2 * w + th / S := by
    rw [show w * (2 * S) + th = th + S * (2 * w) by rw [Nat.mul_left_comm, Nat.add_comm, Nat.mul_comm S, Nat.mul_assoc, Nat.mul_comm w]]
    rw [Nat.add_mul_div_left _ _ hS0]; omega
  have hb1 : th / S ≤ 1 := by
    have := Nat.div_lt_of_lt_mul (show th < S * 2 by omega)
    omega
  have odd1 : ∀ c : Nat, (2 * w + th / S) ||| 1 = 2 * w + 1 := by
    intro c
    rw [or_one _ 1 (Nat.le_refl _), if_pos (.inr rfl)]
    generalize th / S = b1 at *
    omega
  by_cases hc : hi / S * S ≠ hi
  · rw [if_pos hc]
    have hdiv : hi / S = 2 * w + th / S := by
      rcases hbor with ⟨a, b, c⟩ | ⟨a, b, c, d⟩
      · rw [← b, hq]
      · rw [← b, ← hq]
        rw [← b] at hc
        have e1 := Nat.div_add_mod (w * (2 * S) + th + 1) S
        have e2 := Nat.mod_lt (w * (2 * S) + th + 1) hS0
        have e3 : (w * (2 * S) + th + 1) % S ≠ 0 := by
          intro h0
          rw [h0, Nat.add_zero, Nat.mul_comm] at e1
          exact hc e1
        generalize (w * (2 * S) + th + 1) / S = Q at *
        symm
        rw [show w * (2 * S) + th = ((w * (2 * S) + th + 1) % S - 1) + S * Q by omega, Nat.add_mul_div_left _ _ hS0, Nat.div_eq_of_lt (by omega), Nat.zero_add]
    rw [hdiv, odd1 0]
    rw [if_neg]
    intro hr
    rcases ht0 with ⟨_, h⟩ | h
    · have hth0 : th = 0 := by
        rcases Nat.eq_zero_or_pos th with h0 | h0
        · exact h0
        · have : 1 * W ≤ th * W := Nat.mul_le_mul_right W h0
          omega
      subst hth0
      rcases hbor with ⟨a, b, c⟩ | ⟨a, b, c, d⟩
      · apply hc
        rw [← b, hq, Nat.zero_div, Nat.add_zero, Nat.add_zero, Nat.mul_left_comm, Nat.mul_assoc]
      · omega
    · exact h.1 hr
  · rw [if_neg hc]
    have hc : hi / S * S = hi := by omega
    rcases hbor with ⟨a, b, c⟩ | ⟨a, b, c, d⟩
    · rw [if_neg (by omega), Nat.sub_zero, ← b, hq]
      have ecl : (mid + W - mid2) % W = cl := by
        rw [c, show mid + W - mid2 = (mid - mid2) + W by omega, Nat.add_mod_right, Nat.mod_eq_of_lt (by omega)]
      rw [ecl]
      have hth2 : th = th / S * S := by
        rw [← b, hq, Nat.add_mul, Nat.mul_comm 2 w, Nat.mul_assoc] at hc
        omega
      rcases Nat.eq_zero_or_pos (th / S) with h0 | h0
      · rw [h0, Nat.zero_mul] at hth2
        subst hth2
        rw [h0, Nat.add_zero]
        by_cases hcl1 : 1 < cl
        · rw [if_pos hcl1, or_one _ 1 (Nat.le_refl _), if_pos (.inr rfl), if_neg (by rcases ht0 with h | h <;> omega)]; omega
        · rw [if_neg hcl1, Nat.or_zero, if_pos (by rcases ht0 with h | h <;> omega)]; rfl
      · have h1 : th / S = 1 := by omega
        have hr : r ≠ 0 := by
          rcases ht0 with h | h
          · have : 1 * W ≤ th * W := Nat.mul_le_mul_right W (by rw [hth2, h1]; omega)
            omega
          · exact h.1
        rw [if_neg hr, h1]
        rw [or_one _ _ (by split <;> omega), if_pos (.inl (by omega))]
        omega
    · rw [if_pos a, show hi - 1 = w * (2 * S) + th by omega, hq]
      have ecl : (mid + W - mid2) % W = cl := by rw [c, Nat.mod_eq_of_lt (by omega)]
      rw [ecl, if_pos (by omega), odd1 0, if_neg]
      rcases ht0 with h | h
      · have : 0 ≤ th * W := Nat.zero_le _
        omega
      · exact h.1
end Go.Proofs.YtgbldjbkapaclaaDoor.fl
/- Parsing by unrounded scaling: the rung that it comes to is the nearest. Plain mathematics. -/
namespace Go.Proofs.YtgbldjbkapaclaaDoor.fl
set_option linter.unusedVariables false
set_option linter.unusedSimpArgs false

theorem rd_cross {n d n' d' : Nat} (hd : 0 < d) (hd' : 0 < d') (h : n * d' = n' * d) : rd n d = rd n' d' := by
  have hq : n / d = n' / d' := by
    have h1 : n / d = n * d' / (d * d') := (Nat.mul_div_mul_right n d hd').symm
    have h2 : n' / d' = n' * d / (d' * d) := (Nat.mul_div_mul_right n' d' hd).symm
    rw [h1, h2, h, Nat.mul_comm d' d]
  have hr : n % d * d' = n' % d' * d := by
    have h1 := Nat.div_add_mod n d
    have h2 := Nat.div_add_mod n' d'
    have h3 : n * d' = d * (n / d) * d' + n % d * d' := by rw [← Nat.add_mul, h1]
    have h4 : n' * d = d' * (n' / d') * d + n' % d' * d := by rw [← Nat.add_mul, h2]
    rw [← hq] at h4
    have h5 : d * (n / d) * d' = d' * (n / d) * d := by simp only [Nat.mul_assoc, Nat.mul_comm, Nat.mul_left_comm]
    omega
  unfold rd
  rw [← hq]
  have l : ∀ a b : Nat, a < b ↔ a * (d * d') < b * (d * d') := fun a b => (Nat.mul_lt_mul_right (Nat.mul_pos hd hd')).symm
  have e1 : d < 2 * (n % d) ↔ d' < 2 * (n' % d') := by
    rw [← Nat.mul_lt_mul_right hd' (b := d), ← Nat.mul_lt_mul_right hd (b := d'), Nat.mul_assoc, hr, Nat.mul_comm d' d, Nat.mul_assoc]
  have e2 : 2 * (n % d) = d ↔ 2 * (n' % d') = d' := by
    constructor
    · intro h; refine Nat.eq_of_mul_eq_mul_right hd ?_
      rw [Nat.mul_assoc, ← hr, ← Nat.mul_assoc, h, Nat.mul_comm]
    · intro h; refine Nat.eq_of_mul_eq_mul_right hd' ?_
      rw [Nat.mul_assoc, hr, ← Nat.mul_assoc, h, Nat.mul_comm]
  simp only [e1, e2]

/-- Twice the quotient, and one if anything is left. -/
def unr (n d : Nat) : Nat := 2 * (n / d) + (if n % d = 0 then 0 else 1)
theorem div_two (n d : Nat) (hd : 0 < d) : n / (2 * d) = n / d / 2 ∧ n % (2 * d) = n / d % 2 * d + n % d := by
  have h1 : n / (2 * d) = n / d / 2 := by rw [Nat.mul_comm, Nat.div_div_eq_div_mul]
  refine ⟨h1, ?_⟩
  have h2 := Nat.div_add_mod n (2 * d)
  have h3 := Nat.div_add_mod n d
  have h4 := Nat.div_add_mod (n / d) 2
  rw [h1] at h2
  have h5 : d * (n / d) = 2 * d * (n / d / 2) + n / d % 2 * d := by
    conv => lhs; rw [← h4]
    rw [Nat.mul_add, Nat.mul_comm (n / d % 2) d]; simp only [Nat.mul_assoc, Nat.mul_comm, Nat.mul_left_comm]
  omega
theorem rnd4 (n d : Nat) (hd : 0 < d) : (unr n d + 1 + unr n d / 4 % 2) / 4 = rd n (2 * d) := by
  obtain ⟨h1, h2⟩ := div_two n d hd
  have h3 := Nat.mod_lt n hd
  unfold rd unr
  rw [h1, h2]
  generalize n / d = q at *
  generalize n % d = r at *
  rcases Nat.mod_two_eq_zero_or_one q with h | h
  · rw [h, Nat.zero_mul, Nat.zero_add]
    rw [if_neg (show ¬ (2 * d < 2 * r ∨ 2 * r = 2 * d ∧ q / 2 % 2 = 1) by omega)]
    split <;> omega
  · rw [h, Nat.one_mul]
    by_cases hr : r = 0
    · rw [if_pos hr, hr]
      by_cases ho : q / 2 % 2 = 1
      · rw [if_pos (by omega)]; omega
      · rw [if_neg (by omega)]; omega
    · rw [if_neg hr, if_pos (by omega)]; omega
theorem unr_half (n d : Nat) (hd : 0 < d) : unr n d / 2 ||| unr n d % 2 = unr n (2 * d) := by
  obtain ⟨h1, h2⟩ := div_two n d hd
  have h3 := Nat.mod_lt n hd
  rw [or_one _ _ (by omega)]
  unfold unr
  rw [h1, h2]
  generalize n / d = q at *
  generalize n % d = r at *
  have e1 : (2 * q + if r = 0 then 0 else 1) / 2 = q := by split <;> omega
  have e2 : (2 * q + if r = 0 then 0 else 1) % 2 = if r = 0 then 0 else 1 := by split <;> omega
  rw [e1, e2]
  rcases Nat.mod_two_eq_zero_or_one q with h | h
  · rw [h, Nat.zero_mul, Nat.zero_add]
    by_cases hr : r = 0 <;> simp [hr]
  · rw [h, Nat.one_mul, if_pos (.inl rfl), if_neg (by omega)]
theorem unr_ge (n d k : Nat) : 2 * k ≤ unr n d ↔ k ≤ n / d := by
  unfold unr; split <;> omega

/-- 1074. -/
def K74 : Nat := 1074
theorem K74_eq : K74 = 1074 := rfl
def valN (d : Nat) (p : Int) : Nat := d * (if 0 ≤ p then 10 ^ p.toNat else 1) * 2 ^ K74
def valD (p : Int) : Nat := if 0 ≤ p then 1 else 10 ^ (-p).toNat
theorem valD_pos (p : Int) : 0 < valD p := by unfold valD; split <;> first | decide | exact Nat.pow_pos (by decide)
theorem PM_pos (p : Int) : 0 < PM p := by
  unfold PM
  refine Nat.mul_pos ?_ ?_
  · split <;> first | decide | exact Nat.pow_pos (by decide)
  · split <;> first | decide | exact Nat.pow_pos (by decide)

/-- The scaled product over the scaled divisor is the value at the place 2^-e. -/
theorem scale_eq (d b : Nat) (p e s : Int) (k ee : Nat) (hb : b ≤ 64) (hs : s = -(e - (64 - b) + lpI p + 3)) (hs8 : s = 8 + k) (hee : (ee : Int) = 1074 - e) :
    d * 2 ^ (64 - b) * PA p * (valD p * 2 ^ ee) = valN d p * (2 * (PM p * 2 ^ k)) := by
  unfold PA PM valD valN
  have h74 := K74_eq
  have hx : ∃ n q : Nat, (if 0 ≤ p then 10 ^ p.toNat else 1) = n ∧ (if 0 ≤ p then 1 else 10 ^ (-p).toNat) = q := ⟨_, _, rfl, rfl⟩
  obtain ⟨n, q, h1, h2⟩ := hx
  rw [h1, h2]
  by_cases hl : lpI p + 10 < 0
  · rw [if_pos hl, if_pos hl]
    obtain ⟨g, hg⟩ : ∃ g : Nat, -(lpI p + 10) = g := ⟨(-(lpI p + 10)).toNat, by omega⟩
    rw [hg, Int.toNat_natCast]
    have e1 : d * 2 ^ (64 - b) * (n * 2 ^ g) * (q * 2 ^ ee) = d * n * q * (2 ^ (64 - b) * 2 ^ g * 2 ^ ee) := by simp only [Nat.mul_assoc, Nat.mul_comm, Nat.mul_left_comm]
    have e2 : d * n * 2 ^ K74 * (2 * (q * 1 * 2 ^ k)) = d * n * q * (2 ^ K74 * 2 ^ 1 * 2 ^ k) := by rw [Nat.pow_one, Nat.mul_one]; simp only [Nat.mul_assoc, Nat.mul_comm, Nat.mul_left_comm]
    rw [e1, e2, ← Nat.pow_add, ← Nat.pow_add, ← Nat.pow_add, ← Nat.pow_add]
    congr 2
    omega
  · rw [if_neg hl, if_neg hl]
    obtain ⟨g, hg⟩ : ∃ g : Nat, lpI p + 10 = g := ⟨(lpI p + 10).toNat, by omega⟩
    rw [hg, Int.toNat_natCast]
    have e1 : d * 2 ^ (64 - b) * (n * 1) * (q * 2 ^ ee) = d * n * q * (2 ^ (64 - b) * 2 ^ ee) := by rw [Nat.mul_one]; simp only [Nat.mul_assoc, Nat.mul_comm, Nat.mul_left_comm]
    have e2 : d * n * 2 ^ K74 * (2 * (q * 2 ^ g * 2 ^ k)) = d * n * q * (2 ^ K74 * 2 ^ 1 * 2 ^ g * 2 ^ k) := by rw [Nat.pow_one]; simp only [Nat.mul_assoc, Nat.mul_comm, Nat.mul_left_comm]
    rw [e1, e2, ← Nat.pow_add, ← Nat.pow_add, ← Nat.pow_add, ← Nat.pow_add]
    congr 2
    omega

/-- 10^p lies between 2^lp and nearly 2^(lp + 1). -/
def rangeOK (p : Int) : Bool := decide (PM p ≤ PA p * 1024) && decide (PA p * 512 * 1048576 ≤ PM p * 1048575)
def rangeFrom : Nat → Int → Bool
  | 0, _ => true
  | n + 1, p => rangeOK p && rangeFrom n (p + 1)
theorem rangeFrom_at : ∀ {n : Nat} {p : Int}, rangeFrom n p = true → ∀ i : Nat, i < n → rangeOK (p + i) = true
  | n + 1, p, h, 0, _ => by
    simp only [rangeFrom, Bool.and_eq_true] at h
    simpa using h.1
  | n + 1, p, h, i + 1, hi => by
    simp only [rangeFrom, Bool.and_eq_true] at h
    have := rangeFrom_at h.2 i (by omega)
    rwa [show p + 1 + (i : Int) = p + ((i + 1 : Nat) : Int) by omega] at this
theorem range_ok : rangeFrom 656 (-345) = true := by decide +kernel
theorem range_at (p : Int) (h1 : -345 ≤ p) (h2 : p ≤ 310) : PM p ≤ PA p * 1024 ∧ PA p * 512 * 1048576 ≤ PM p * 1048575 := by
  have := rangeFrom_at range_ok (p + 345).toNat (by omega)
  rw [show (-345 : Int) + ((p + 345).toNat : Int) = p by omega] at this
  simpa [rangeOK] using this

/-- The significand and the place that parsing by unrounded scaling comes to. -/
structure Parsed (d : Nat) (p : Int) (m : Nat) (e2 : Int) : Prop where
  le : e2 ≤ 1074
  lt : m < 2 * B
  sub : m < B → e2 = 1074
  near : Near (valN d p) (valD p) ((1074 - e2).toNat * B + m)

theorem up_aux {Ap Mp D E : Nat} (e1 : E ≤ 18446744073709551616 * Ap) (r2 : Ap * 512 * 1048576 ≤ Mp * 1048575) (e2 : Mp * 1 ≤ D) : E * 1048576 ≤ 36028797018963968 * D * 1048575 := by
  have h1 : E * 1048576 ≤ 36028797018963968 * (Ap * 512 * 1048576) := by
    refine Nat.le_trans (Nat.mul_le_mul_right 1048576 e1) (Nat.le_of_eq ?_)
    rw [show (18446744073709551616 : Nat) = 36028797018963968 * 512 by decide, Nat.mul_assoc 36028797018963968, Nat.mul_assoc 36028797018963968, Nat.mul_comm 512 Ap]
  have h2 : 36028797018963968 * (Ap * 512 * 1048576) ≤ 36028797018963968 * (Mp * 1048575) := Nat.mul_le_mul_left _ r2
  have h3 : 36028797018963968 * (Mp * 1048575) ≤ 36028797018963968 * D * 1048575 := by
    rw [Nat.mul_assoc 36028797018963968 D]
    exact Nat.mul_le_mul_left _ (Nat.mul_le_mul_right _ (by rwa [Nat.mul_one] at e2))
  exact Nat.le_trans h1 (Nat.le_trans h2 h3)
theorem lo_aux {Ap Mp E : Nat} (e1 : 9223372036854775808 * Ap ≤ E) (r1 : Mp ≤ Ap * 1024) : 9007199254740992 * Mp ≤ E := by omega
theorem parsed_of {d b : Nat} {p e s : Int} {u : Nat} (hb1 : 2 ^ b ≤ 2 * d) (hb2 : d < 2 ^ b) (hb0 : 1 ≤ b) (hb : b ≤ 64) (h1 : -345 ≤ p) (h2 : p ≤ 310)
    (he : e = if 1074 ≤ 53 - b - lpI p then 1074 else 53 - b - lpI p) (hs : s = -(e - (64 - b) + lpI p + 3)) (k : Nat) (hk : s = 8 + k)
    (hu : u = unr (d * 2 ^ (64 - b) * PA p) (PM p * 2 ^ k)) :
    (36028797018963966 ≤ u → Parsed d p ((((u / 2) ||| (u % 2)) + 1 + ((u / 2) ||| (u % 2)) / 4 % 2) / 4) (e - 1)) ∧ (u < 36028797018963966 → Parsed d p ((u + 1 + u / 4 % 2) / 4) e) := by
  obtain ⟨r1, r2⟩ := range_at p h1 h2
  have hM := PM_pos p
  have hK : 0 < 2 ^ k := Nat.pow_pos (by decide)
  have hD : 0 < PM p * 2 ^ k := Nat.mul_pos hM hK
  obtain ⟨ee, hee⟩ : ∃ ee : Nat, (ee : Int) = 1074 - e := ⟨(1074 - e).toNat, by split at he <;> omega⟩
  have hsc := scale_eq d b p e s k ee hb hs hk hee
  have hVD := valD_pos p
  have hE0 : 0 < 2 ^ ee := Nat.pow_pos (by decide)
  -- the left-justified x
  have hx1 : 9223372036854775808 ≤ d * 2 ^ (64 - b) := by
    have e1 : 2 ^ b * 2 ^ (64 - b) ≤ 2 * d * 2 ^ (64 - b) := Nat.mul_le_mul_right _ hb1
    rw [← Nat.pow_add, Nat.add_sub_of_le hb, Nat.mul_assoc] at e1
    omega
  have hx2 : d * 2 ^ (64 - b) < 18446744073709551616 := by
    have e1 : d * 2 ^ (64 - b) < 2 ^ b * 2 ^ (64 - b) := Nat.mul_lt_mul_of_pos_right hb2 (Nat.pow_pos (by decide))
    rw [← Nat.pow_add, Nat.add_sub_of_le hb] at e1
    omega
  generalize d * 2 ^ (64 - b) = x at *
  -- how great the quotient is
  have hk0 : k = 0 → 2 ^ k = 1 := fun h => by rw [h]
  have hsub : k = 0 ∨ ee = 0 := by split at he <;> omega
  generalize 2 ^ k = K at *
  generalize PA p = Ap at *
  generalize PM p = Mp at *
  have hup : x * Ap * 1048576 ≤ 36028797018963968 * (Mp * K) * 1048575 := by
    have e1 : x * Ap ≤ 18446744073709551616 * Ap := Nat.mul_le_mul_right _ (Nat.le_of_lt hx2)
    exact up_aux e1 r2 (Nat.mul_le_mul_left _ hK)
  have hlo : k = 0 → 9007199254740992 * (Mp * K) ≤ x * Ap := by
    intro h
    have e1 : 9223372036854775808 * Ap ≤ x * Ap := Nat.mul_le_mul_right _ hx1
    rw [hk0 h, Nat.mul_one]
    exact lo_aux e1 r1
  generalize x * Ap = E at *
  generalize Mp * K = D at *
  clear r1 r2 hM hK hx1 hx2 hk0
  have hrd0 : rd E (2 * D) = rd (valN d p) (valD p * 2 ^ ee) := rd_cross (by omega) (Nat.mul_pos hVD hE0) (by rw [hsc])
  have hrd1 : rd E (2 * (2 * D)) = rd (valN d p) (valD p * 2 ^ (ee + 1)) := by
    refine rd_cross (by omega) (Nat.mul_pos hVD (Nat.pow_pos (by decide))) ?_
    rw [Nat.pow_succ, ← Nat.mul_assoc (valD p), ← Nat.mul_assoc E, hsc, Nat.mul_assoc (valN d p), Nat.mul_comm (2 * D) 2]
  have q1 := Nat.div_add_mod E D
  have q2 := Nat.mod_lt E hD
  have hwlt : E / D < 36028797018963968 - 17179869184 := by
    rw [Nat.div_lt_iff_lt_mul hD]
    omega
  have hBv : B = 4503599627370496 := rfl
  constructor
  · intro hge
    have hw : 18014398509481983 ≤ E / D := by
      have := (unr_ge E D 18014398509481983).1 (by rw [← hu]; exact hge)
      exact this
    subst hu
    rw [unr_half E D hD, rnd4 E (2 * D) (by omega)]
    obtain ⟨v1, v2⟩ := div_two E D hD
    obtain ⟨v3, v4⟩ := div_two E (2 * D) (by omega)
    have hmd : rd E (2 * (2 * D)) ≤ 2 * B - 1 := by
      unfold rd; rw [v3, v1]; split <;> omega
    have hmB : B ≤ rd E (2 * (2 * D)) := by
      rcases Nat.lt_or_ge (E / D) 18014398509481984 with h | h
      · have e0 : E / D = 18014398509481983 := by omega
        unfold rd; rw [v3, v4, v2, v1, e0]
        rw [if_pos (by left; omega)]; decide
      · unfold rd; rw [v3, v1]; omega
    refine ⟨by omega, by omega, by omega, ?_⟩
    have hee1 : (1074 - (e - 1)).toNat = ee + 1 := by omega
    rw [hee1]
    rcases Nat.lt_or_ge (E / D) 18014398509481984 with h | h
    · -- below 2^53: the same rung, told at the place below
      have e0 : E / D = 18014398509481983 := by omega
      have em : rd E (2 * (2 * D)) = B := by
        unfold rd; rw [v3, v4, v2, v1, e0]
        rw [if_pos (by left; omega)]; decide
      have em0 : rd E (2 * D) = 2 * B := by
        unfold rd; rw [v2, v1, e0]
        rw [if_pos (by
          rcases Nat.eq_zero_or_pos (E % D) with h0 | h0
          · right; rw [h0]; constructor <;> omega
          · left; omega)]; decide
      have := near_of_rd hVD (e := ee) (N := valN d p) (m := 2 * B) (by rw [← hrd0]; exact em0) (.inr ⟨by omega, by omega⟩) (Nat.le_refl _)
      rw [em]
      rwa [show (ee + 1) * B + B = ee * B + 2 * B by rw [Nat.add_mul]; omega]
    · refine near_of_rd hVD (by rw [← hrd1]) (.inr ⟨hmB, fun _ => ?_⟩) (by omega)
      -- the value is at least B there
      have h9 : 18014398509481984 * D ≤ E := by
        have := Nat.mul_le_mul_left D h
        rw [Nat.mul_comm] at this
        omega
      refine Nat.le_of_mul_le_mul_right (c := 2 * D) ?_ (by omega)
      have e1 : 2 * valN d p * (2 * D) = 2 * (E * (valD p * 2 ^ ee)) := by rw [Nat.mul_assoc, hsc]
      rw [e1, Nat.pow_succ, hBv]
      have e2 : 2 * 4503599627370496 * (valD p * (2 ^ ee * 2)) * (2 * D) = 2 * (18014398509481984 * D * (valD p * 2 ^ ee)) := by
        rw [show (18014398509481984 : Nat) = 4503599627370496 * 2 * 2 by decide]
        simp only [Nat.mul_assoc, Nat.mul_comm, Nat.mul_left_comm]
      rw [e2]
      exact Nat.mul_le_mul_left 2 (Nat.mul_le_mul_right _ h9)
  · intro hlt
    have hw : E / D < 18014398509481983 := by
      rcases Nat.lt_or_ge (E / D) 18014398509481983 with h | h
      · exact h
      · have := (unr_ge E D 18014398509481983).2 h
        rw [← hu] at this; omega
    subst hu
    rw [rnd4 E D hD]
    obtain ⟨v1, v2⟩ := div_two E D hD
    have hmd : rd E (2 * D) ≤ 2 * B - 1 := by
      unfold rd; rw [v1, v2]
      rcases Nat.lt_or_ge (E / D) 18014398509481982 with h | h
      · split <;> omega
      · have e0 : E / D = 18014398509481982 := by omega
        rw [e0, if_neg (by omega)]; decide
    have hmB : k = 0 → B ≤ rd E (2 * D) := by
      intro h
      have h9 : 9007199254740992 ≤ E / D := by rw [Nat.le_div_iff_mul_le hD]; have := hlo h; omega
      unfold rd; rw [v1]; omega
    refine ⟨by split at he <;> omega, by omega, ?_, ?_⟩
    · intro h
      rcases hsub with h3 | h3
      · have := hmB h3; omega
      · omega
    · rw [show (1074 - e).toNat = ee by omega]
      refine near_of_rd hVD (by rw [← hrd0]) ?_ (by omega)
      rcases hsub with h3 | h3
      · right
        refine ⟨hmB h3, fun _ => ?_⟩
        have h9 := hlo h3
        refine Nat.le_of_mul_le_mul_right (c := D) ?_ hD
        have e1 : 2 * valN d p * D = E * (valD p * 2 ^ ee) := by rw [hsc]; simp only [Nat.mul_assoc, Nat.mul_comm, Nat.mul_left_comm]
        rw [e1, hBv]
        have e2 : 2 * 4503599627370496 * (valD p * 2 ^ ee) * D = 9007199254740992 * D * (valD p * 2 ^ ee) := by
          rw [show (9007199254740992 : Nat) = 2 * 4503599627370496 by decide]
          simp only [Nat.mul_assoc, Nat.mul_comm, Nat.mul_left_comm]
        rw [e2]
        exact Nat.mul_le_mul_right _ h9
      · exact .inl h3

/-- What is scaled away is nearest to nothing. -/
theorem tiny_near {d b : Nat} {p e s : Int} (hb2 : d < 2 ^ b) (hb : b ≤ 64) (h1 : -345 ≤ p) (h2 : p ≤ 310)
    (he : e = if 1074 ≤ 53 - b - lpI p then 1074 else 53 - b - lpI p) (hs : s = -(e - (64 - b) + lpI p + 3)) (hk : 64 ≤ s) : Near (valN d p) (valD p) 0 := by
  obtain ⟨r1, r2⟩ := range_at p h1 h2
  obtain ⟨k, hk'⟩ : ∃ k : Nat, s = 8 + k := ⟨(s - 8).toNat, by omega⟩
  have hee : ((0 : Nat) : Int) = 1074 - e := by split at he <;> omega
  have hsc := scale_eq d b p e s k 0 hb hs hk' hee
  have hM := PM_pos p
  have hx2 : d * 2 ^ (64 - b) < 18446744073709551616 := by
    have e1 : d * 2 ^ (64 - b) < 2 ^ b * 2 ^ (64 - b) := Nat.mul_lt_mul_of_pos_right hb2 (Nat.pow_pos (by decide))
    rw [← Nat.pow_add, Nat.add_sub_of_le hb] at e1
    omega
  generalize d * 2 ^ (64 - b) = x at *
  have hk56 : 2 ^ 56 ≤ 2 ^ k := Nat.pow_le_pow_right (by decide) (by omega)
  have hVD := valD_pos p
  refine ⟨.inl rfl, .inl ?_⟩
  rw [V_zero, show V (0 + 1) = 1 by decide, Nat.zero_add, Nat.one_mul]
  rw [Nat.pow_zero, Nat.mul_one] at hsc
  have e3 : PM p * 2 ^ 56 ≤ PM p * 2 ^ k := Nat.mul_le_mul_left _ hk56
  have hD : 0 < PM p * 2 ^ k := Nat.mul_pos hM (by omega)
  have e1 : x * PA p < PM p * 2 ^ k := by
    have : x * PA p ≤ 18446744073709551616 * PA p := Nat.mul_le_mul_right _ (by omega)
    omega
  refine Nat.lt_of_mul_lt_mul_right (a := PM p * 2 ^ k) ?_
  have e2 : 2 * valN d p * (PM p * 2 ^ k) = x * PA p * valD p := by rw [hsc]; simp only [Nat.mul_assoc, Nat.mul_comm, Nat.mul_left_comm]
  rw [e2, Nat.mul_comm (valD p)]
  exact Nat.mul_lt_mul_of_pos_right e1 hVD
end Go.Proofs.YtgbldjbkapaclaaDoor.fl
/- The library's table of powers of ten, held against the powers. -/
namespace Go.Proofs.YtgbldjbkapaclaaDoor.fl
set_option linter.unusedVariables false

def tabOne (p : Int) (x : Nat × Nat) : Bool :=
  decide (2 ^ 137 * PA p + x.2 * PM p ≤ x.1 * W * PM p) && decide (x.1 * W * PM p < 2 ^ 137 * PA p + x.2 * PM p + PM p) && decide (1 < x.1) && decide (x.1 < W) && decide (x.2 < W)
def tabFrom : Int → List (Nat × Nat) → Bool
  | _, [] => true
  | p, c :: r => tabOne p c && tabFrom (p + 1) r
theorem tabFrom_at : ∀ {l : List (Nat × Nat)} {p : Int}, tabFrom p l = true → ∀ (i : Nat) (c : Nat × Nat), l[i]? = some c → tabOne (p + i) c = true
  | [], p, h, i, c, hc => by simp at hc
  | d :: r, p, h, 0, c, hc => by
    simp only [tabFrom, Bool.and_eq_true] at h
    simp at hc; subst hc
    simpa using h.1
  | d :: r, p, h, i + 1, c, hc => by
    simp only [tabFrom, Bool.and_eq_true] at h
    simp at hc
    have := tabFrom_at h.2 i c hc
    rw [show p + ((i + 1 : Nat) : Int) = p + 1 + i by omega]
    exact this
set_option maxRecDepth 100000 in
theorem tab_ok : tabFrom (-348) Go.Pinned.pow10Rows = true := by decide +kernel
set_option maxRecDepth 100000 in
theorem rows_length : Go.Pinned.pow10Rows.length = 696 := by decide +kernel
def tHi (i : Nat) : Nat := (Go.Pinned.pow10Rows.getD i (0, 0)).1
def tLo (i : Nat) : Nat := (Go.Pinned.pow10Rows.getD i (0, 0)).2
theorem tab_at (p : Int) (h1 : -348 ≤ p) (h2 : p ≤ 347) :
    2 ^ 137 * PA p + tLo (p + 348).toNat * PM p ≤ tHi (p + 348).toNat * W * PM p ∧ tHi (p + 348).toNat * W * PM p < 2 ^ 137 * PA p + tLo (p + 348).toNat * PM p + PM p ∧ 1 < tHi (p + 348).toNat ∧ tHi (p + 348).toNat < W ∧ tLo (p + 348).toNat < W := by
  have hi : (p + 348).toNat < Go.Pinned.pow10Rows.length := by rw [rows_length]; omega
  have := tabFrom_at tab_ok (p + 348).toNat _ (List.getElem?_eq_getElem hi)
  rw [show (-348 : Int) + ((p + 348).toNat : Int) = p by omega] at this
  simp only [tabOne, Bool.and_eq_true, decide_eq_true_eq] at this
  unfold tHi tLo
  rw [List.getD_eq_getElem?_getD, List.getElem?_eq_getElem hi]
  exact ⟨this.1.1.1.1, this.1.1.1.2, this.1.1.2, this.1.2, this.2⟩

/-- The rounded power, the product, the place: what parseFloat64 comes to. -/
theorem usc_at {d b : Nat} {p s : Int} (hb1 : 2 ^ b ≤ 2 * d) (hb2 : d < 2 ^ b) (hb : b ≤ 64) (h1 : -345 ≤ p) (h2 : p ≤ 310) (k : Nat) (hk : s = 8 + k) :
    usc (d * 2 ^ (64 - b)) (tHi (p + 348).toNat) (tLo (p + 348).toNat) s.toNat = unr (d * 2 ^ (64 - b) * PA p) (PM p * 2 ^ k) := by
  have hx1 : 9223372036854775808 ≤ d * 2 ^ (64 - b) := by
    have e1 : 2 ^ b * 2 ^ (64 - b) ≤ 2 * d * 2 ^ (64 - b) := Nat.mul_le_mul_right _ hb1
    rw [← Nat.pow_add, Nat.add_sub_of_le hb, Nat.mul_assoc] at e1
    omega
  have hx2 : d * 2 ^ (64 - b) < 18446744073709551616 := by
    have e1 : d * 2 ^ (64 - b) < 2 ^ b * 2 ^ (64 - b) := Nat.mul_lt_mul_of_pos_right hb2 (Nat.pow_pos (by decide))
    rw [← Nat.pow_add, Nat.add_sub_of_le hb] at e1
    omega
  obtain ⟨t1, t2, t3, t4, t5⟩ := tab_at p (by omega) (by omega)
  have := usc_eq (s := s.toNat) hx1 hx2 t3 t5 (by omega) (PM_pos p) (fun m => far p h1 h2 _ m hx1 hx2) t1 t2
  rw [this, show s.toNat - 8 = k by omega]
  rfl
end Go.Proofs.YtgbldjbkapaclaaDoor.fl
/- The model's floats: what a word reads as, and that what is written is the nearest rung. Plain mathematics. -/
namespace Go.Proofs.YtgbldjbkapaclaaDoor.fl
open Ieee
set_option linter.unusedVariables false
set_option linter.unusedSimpArgs false

/-- 2^63 of a negative one. -/
def sgw (neg : Bool) : Nat := if neg then 9223372036854775808 else 0
/-- The rung of infinity. -/
def infR : Nat := 9218868437227405312
theorem d_sw : Ieee.double.signWeight = 9223372036854775808 := by decide
theorem d_bin : Ieee.double.binade = B := by decide
theorem d_inf : Ieee.double.infRung = infR := by decide
theorem d_least : Ieee.double.leastPlace = -1074 := by decide
theorem d_frac : Ieee.double.fractionBits = 52 := rfl
theorem d_word (neg : Bool) (r : Nat) : Ieee.double.word neg r = sgw neg + r := by
  unfold Format.word sgw; rw [d_sw]; cases neg <;> simp

structure Reads (neg : Bool) (u mag : Nat) (place : Int) : Prop where
  read : Ieee.double.read (sgw neg + u) = .number neg mag place
  le : -1074 ≤ place
  val : mag * 2 ^ (place + 1074).toNat = V u
  lt : mag < 9007199254740992
theorem reads (neg : Bool) (u : Nat) (h : u < infR) : ∃ mag place, Reads neg u mag place := by
  have hi : infR = 9218868437227405312 := rfl
  have hB : B = 4503599627370496 := rfl
  have hs : sgw neg = 0 ∨ sgw neg = 9223372036854775808 := by cases neg <;> simp [sgw]
  have e1 : (sgw neg + u) % 9223372036854775808 = u := by omega
  have e2 : ((sgw neg + u) / 9223372036854775808 % 2 == 1) = neg := by
    cases neg
    · have : u / 9223372036854775808 = 0 := by omega
      simp [sgw, this]
    · simp only [sgw, if_true]
      have : (9223372036854775808 + u) / 9223372036854775808 = 1 := by omega
      rw [this]; rfl
  by_cases hu : u < B
  · refine ⟨u, -1074, ?_, by omega, ?_, by omega⟩
    · unfold Format.read
      simp only [d_sw, d_bin, d_least, e1, e2, if_pos hu]
    · rw [V_small hu]; simp
  · refine ⟨B + u % B, -1074 + ((u / B - 1 : Nat) : Int), ?_, by omega, ?_, by have := Nat.mod_lt u (show 0 < B by decide); omega⟩
    · unfold Format.read
      simp only [d_sw, d_bin, d_inf, d_least, e1, e2, if_neg hu, if_pos h]
    · unfold V; rw [if_neg hu]
      congr 2
      omega

theorem cut_even (neg : Bool) (n drop : Nat) : Toward.even.cut neg n drop = rd n (2 ^ drop) := by
  unfold Toward.cut
  simp only [Nat.one_shiftLeft]
  rcases Nat.lt_or_ge (n.log2 + 2) drop with h | h
  · -- all is dropped
    rw [Nat.min_eq_right (Nat.le_of_lt h)]
    have h1 : n < 2 ^ (n.log2 + 1) := Nat.lt_log2_self
    have h2 : 2 ^ (n.log2 + 2) = 2 * 2 ^ (n.log2 + 1) := by rw [Nat.pow_succ, Nat.mul_comm]
    have h3 : 2 ^ (n.log2 + 2) ≤ 2 ^ drop := Nat.pow_le_pow_right (by decide) (Nat.le_of_lt h)
    have e1 : n / 2 ^ (n.log2 + 2) = 0 := Nat.div_eq_of_lt (by omega)
    have e2 : n % 2 ^ (n.log2 + 2) = n := Nat.mod_eq_of_lt (by omega)
    have e3 : n / 2 ^ drop = 0 := Nat.div_eq_of_lt (by omega)
    have e4 : n % 2 ^ drop = n := Nat.mod_eq_of_lt (by omega)
    unfold rd
    rw [e1, e2, e3, e4, if_neg (by omega)]
    have : (decide (2 ^ (n.log2 + 2) < 2 * n) || (2 ^ (n.log2 + 2) == 2 * n && 0 % 2 == 1)) = false := by
      simp; omega
    rw [this]; rfl
  · rw [Nat.min_eq_left h]
    unfold rd
    generalize n / 2 ^ drop = q
    generalize n % 2 ^ drop = r
    generalize 2 ^ drop = d
    by_cases hc : d < 2 * r ∨ 2 * r = d ∧ q % 2 = 1
    · rw [if_pos hc]
      have : (decide (d < 2 * r) || (d == 2 * r && q % 2 == 1)) = true := by
        rcases hc with h | ⟨h, h'⟩
        · simp [h]
        · simp [h, h']
      rw [this]; rfl
    · rw [if_neg hc]
      have : (decide (d < 2 * r) || (d == 2 * r && q % 2 == 1)) = false := by
        simp only [Bool.or_eq_false_iff, Bool.and_eq_false_iff, decide_eq_false_iff_not, beq_eq_false_iff_ne]
        refine ⟨fun h => hc (.inl h), ?_⟩
        by_cases h : d = 2 * r
        · right; intro h2; exact hc (.inr ⟨h.symm, h2⟩)
        · exact .inl h
      rw [this]; rfl

/-- Where the last digit is kept. -/
def lastP (mag : Nat) (place : Int) : Int := max (place + mag.log2 - 52) (-1074)
theorem nearest_eq (neg : Bool) (mag : Nat) (place : Int) (h : 0 < mag) :
    Ieee.double.nearest neg mag place = sgw neg + min ((lastP mag place + 1074).toNat * B + rd (mag * 2 ^ (place - lastP mag place).toNat) (2 ^ (lastP mag place - place).toNat)) infR := by
  unfold Format.nearest lastP
  rw [if_neg (by omega)]
  simp only [d_frac, d_least, d_bin, d_inf, d_word, cut_even, Nat.shiftLeft_eq]
  rfl
/-- A fraction N / D (times 2^1074) whose rounding at the kept place is what is written: its nearest rung is written. -/
theorem near_last {N D mag : Nat} {place : Int} (h : 0 < mag) (hD : 0 < D)
    (hr : rd (mag * 2 ^ (place - lastP mag place).toNat) (2 ^ (lastP mag place - place).toNat) = rd N (D * 2 ^ (lastP mag place + 1074).toNat))
    (hlo : -1074 < lastP mag place → B * (D * 2 ^ (lastP mag place + 1074).toNat) ≤ N) :
    Near N D ((lastP mag place + 1074).toNat * B + rd (mag * 2 ^ (place - lastP mag place).toNat) (2 ^ (lastP mag place - place).toNat)) := by
  have hL : lastP mag place = max (place + mag.log2 - 52) (-1074) := rfl
  generalize lastP mag place = L at *
  have hl1 : 2 ^ mag.log2 ≤ mag := Nat.log2_self_le (by omega)
  have hl2 : mag < 2 ^ (mag.log2 + 1) := Nat.lt_log2_self
  generalize mag.log2 = g at *
  have hBv : (2 : Nat) ^ 52 = B := rfl
  -- how great it is
  have hub : rd (mag * 2 ^ (place - L).toNat) (2 ^ (L - place).toNat) ≤ 2 * B := by
    have key : mag * 2 ^ (place - L).toNat / 2 ^ (L - place).toNat < 2 * B := by
      rw [Nat.div_lt_iff_lt_mul (Nat.pow_pos (by decide))]
      have e1 : mag * 2 ^ (place - L).toNat < 2 ^ (g + 1) * 2 ^ (place - L).toNat := Nat.mul_lt_mul_of_pos_right hl2 (Nat.pow_pos (by decide))
      rw [← Nat.pow_add] at e1
      refine Nat.lt_of_lt_of_le e1 ?_
      rw [← hBv, show 2 * 2 ^ 52 = 2 ^ 53 by decide, ← Nat.pow_add]
      exact Nat.pow_le_pow_right (by decide) (by omega)
    unfold rd; split <;> omega
  refine near_of_rd hD hr.symm ?_ hub
  by_cases hle : L = -1074
  · left; omega
  · right
    have hLg : L = place + g - 52 := by omega
    refine ⟨?_, fun _ => ?_⟩
    · have key : B ≤ mag * 2 ^ (place - L).toNat / 2 ^ (L - place).toNat := by
        rw [Nat.le_div_iff_mul_le (Nat.pow_pos (by decide))]
        have e1 : 2 ^ g * 2 ^ (place - L).toNat ≤ mag * 2 ^ (place - L).toNat := Nat.mul_le_mul_right _ hl1
        rw [← Nat.pow_add] at e1
        refine Nat.le_trans ?_ e1
        rw [← hBv, ← Nat.pow_add]
        exact Nat.pow_le_pow_right (by decide) (by omega)
      unfold rd; omega
    · have := hlo (by omega)
      rw [Nat.mul_assoc]; exact Nat.mul_le_mul_left 2 this

/-- An exact number is written as its nearest rung. -/
theorem nearest_near (neg : Bool) (mag : Nat) (place : Int) (h : 0 < mag) :
    ∃ u, Near (mag * 2 ^ (place + 1074).toNat) (2 ^ (-(place + 1074)).toNat) u ∧ Ieee.double.nearest neg mag place = sgw neg + min u infR := by
  refine ⟨_, ?_, nearest_eq neg mag place h⟩
  have hL : lastP mag place = max (place + mag.log2 - 52) (-1074) := rfl
  refine near_last h (Nat.pow_pos (by decide)) ?_ ?_
  · generalize lastP mag place = L at *
    refine rd_cross (Nat.pow_pos (by decide)) (Nat.mul_pos (Nat.pow_pos (by decide)) (Nat.pow_pos (by decide))) ?_
    rw [← Nat.pow_add, Nat.mul_assoc, Nat.mul_assoc, ← Nat.pow_add, ← Nat.pow_add]
    congr 2
    omega
  · intro h2
    have hl1 : 2 ^ mag.log2 ≤ mag := Nat.log2_self_le (by omega)
    generalize lastP mag place = L at *
    generalize mag.log2 = g at *
    have e1 : 2 ^ g * 2 ^ (place + 1074).toNat ≤ mag * 2 ^ (place + 1074).toNat := Nat.mul_le_mul_right _ hl1
    refine Nat.le_trans ?_ e1
    rw [B_eq, ← Nat.pow_add, ← Nat.pow_add, ← Nat.pow_add]
    exact Nat.pow_le_pow_right (by decide) (by omega)

/-- Rounding what is known to its first left-over digit. -/
theorem rd_unr (a n k : Nat) (hn : 0 < n) : rd (unr a n) (2 ^ (k + 2)) = rd a (n * 2 ^ (k + 1)) := by
  have hk : 0 < 2 ^ k := Nat.pow_pos (by decide)
  have e1 : 2 ^ (k + 2) = 4 * 2 ^ k := by rw [Nat.pow_add, Nat.mul_comm]
  have e2 : n * 2 ^ (k + 1) = 2 * (n * 2 ^ k) := by rw [Nat.pow_add, Nat.pow_one, ← Nat.mul_assoc, Nat.mul_comm]
  have h1 := Nat.div_add_mod a n
  have h2 := Nat.mod_lt a hn
  rw [e1, e2]
  -- the quotient by 2^(k+1)
  have q1 : unr a n / (4 * 2 ^ k) = a / n / (2 * 2 ^ k) := by
    have : unr a n / 2 = a / n := by unfold unr; split <;> omega
    rw [show 4 * 2 ^ k = 2 * (2 * 2 ^ k) by omega, ← Nat.div_div_eq_div_mul, this]
  have q2 : a / (2 * (n * 2 ^ k)) = a / n / (2 * 2 ^ k) := by
    rw [show 2 * (n * 2 ^ k) = n * (2 * 2 ^ k) by rw [Nat.mul_left_comm], Nat.div_div_eq_div_mul]
  have r1 : unr a n % (4 * 2 ^ k) = 2 * (a / n % (2 * 2 ^ k)) + (if a % n = 0 then 0 else 1) := by
    have h3 := Nat.div_add_mod (unr a n) (4 * 2 ^ k)
    have h4 := Nat.div_add_mod (a / n) (2 * 2 ^ k)
    rw [q1] at h3
    have : unr a n = 2 * (a / n) + (if a % n = 0 then 0 else 1) := rfl
    have e5 : 4 * 2 ^ k * (a / n / (2 * 2 ^ k)) = 2 * (2 * 2 ^ k * (a / n / (2 * 2 ^ k))) := by
      rw [show 4 * 2 ^ k = 2 * (2 * 2 ^ k) by omega, Nat.mul_assoc]
    omega
  have r2 : a % (2 * (n * 2 ^ k)) = n * (a / n % (2 * 2 ^ k)) + a % n := by
    have h3 := Nat.div_add_mod a (2 * (n * 2 ^ k))
    have h4 := Nat.div_add_mod (a / n) (2 * 2 ^ k)
    rw [q2] at h3
    have e5 : 2 * (n * 2 ^ k) * (a / n / (2 * 2 ^ k)) = n * (2 * 2 ^ k * (a / n / (2 * 2 ^ k))) := by
      rw [show 2 * (n * 2 ^ k) = n * (2 * 2 ^ k) by rw [Nat.mul_left_comm], Nat.mul_assoc]
    have e6 : n * (a / n) = n * (2 * 2 ^ k * (a / n / (2 * 2 ^ k))) + n * (a / n % (2 * 2 ^ k)) := by rw [← Nat.mul_add, h4]
    omega
  unfold rd
  rw [q1, q2, r1, r2]
  have h5 : a / n % (2 * 2 ^ k) < 2 * 2 ^ k := Nat.mod_lt _ (by omega)
  generalize a / n / (2 * 2 ^ k) = Q
  generalize a / n % (2 * 2 ^ k) = R at *
  generalize a % n = r at *
  generalize 2 ^ k = K at *
  have hc : (4 * K < 2 * (2 * R + if r = 0 then 0 else 1) ∨ 2 * (2 * R + if r = 0 then 0 else 1) = 4 * K ∧ Q % 2 = 1) ↔ (2 * (n * K) < 2 * (n * R + r) ∨ 2 * (n * R + r) = 2 * (n * K) ∧ Q % 2 = 1) := by
    rcases Nat.lt_trichotomy R K with h | h | h
    · have h6 : n * (R + 1) ≤ n * K := Nat.mul_le_mul_left n h
      rw [Nat.mul_add] at h6
      constructor
      · intro hh; split at hh <;> omega
      · intro hh; omega
    · subst h
      by_cases hr : r = 0
      · subst hr; simp; omega
      · rw [if_neg hr]; constructor
        · intro hh; left; omega
        · intro hh; left; omega
    · have h6 : n * (K + 1) ≤ n * R := Nat.mul_le_mul_left n h
      rw [Nat.mul_add] at h6
      constructor
      · intro hh; left; omega
      · intro hh; left; split <;> omega
  simp only [hc]

/-- An unfinished quotient of at least 54 digits is written as the nearest rung of the whole quotient. -/
theorem nearest_unr (neg : Bool) (a n : Nat) (place : Int) (hn : 0 < n) (h : 9007199254740992 ≤ a / n) :
    ∃ u, Near (a * 2 ^ (place + 1075).toNat) (n * 2 ^ (-(place + 1075)).toNat) u ∧ Ieee.double.nearest neg (unr a n) place = sgw neg + min u infR := by
  have hmag : 18014398509481984 ≤ unr a n := by unfold unr; omega
  refine ⟨_, ?_, nearest_eq neg (unr a n) place (by omega)⟩
  have hl1 : 2 ^ (unr a n).log2 ≤ unr a n := Nat.log2_self_le (by omega)
  have hl2 : unr a n < 2 ^ ((unr a n).log2 + 1) := Nat.lt_log2_self
  have hL : lastP (unr a n) place = max (place + (unr a n).log2 - 52) (-1074) := rfl
  have hg : 54 ≤ (unr a n).log2 := by
    rcases Nat.lt_or_ge (unr a n).log2 54 with h3 | h3
    · have : 2 ^ ((unr a n).log2 + 1) ≤ 2 ^ 54 := Nat.pow_le_pow_right (by decide) (by omega)
      omega
    · exact h3
  refine near_last (by omega) (Nat.mul_pos hn (Nat.pow_pos (by decide))) ?_ ?_
  · generalize lastP (unr a n) place = L at *
    obtain ⟨k, hk⟩ : ∃ k : Nat, L - place = k + 2 := ⟨(L - place - 2).toNat, by omega⟩
    rw [show (place - L).toNat = 0 by omega, Nat.pow_zero, Nat.mul_one, show (L - place).toNat = k + 2 by omega, rd_unr a n k hn]
    refine rd_cross (Nat.mul_pos hn (Nat.pow_pos (by decide))) (Nat.mul_pos (Nat.mul_pos hn (Nat.pow_pos (by decide))) (Nat.pow_pos (by decide))) ?_
    have e1 : a * (n * 2 ^ (-(place + 1075)).toNat * 2 ^ (L + 1074).toNat) = a * n * (2 ^ (-(place + 1075)).toNat * 2 ^ (L + 1074).toNat) := by simp only [Nat.mul_assoc, Nat.mul_comm, Nat.mul_left_comm]
    have e2 : a * 2 ^ (place + 1075).toNat * (n * 2 ^ (k + 1)) = a * n * (2 ^ (place + 1075).toNat * 2 ^ (k + 1)) := by simp only [Nat.mul_assoc, Nat.mul_comm, Nat.mul_left_comm]
    rw [e1, e2, ← Nat.pow_add, ← Nat.pow_add]
    congr 2
    omega
  · intro h2
    generalize lastP (unr a n) place = L at *
    have hu : unr a n ≤ 2 * (a / n) + 1 := by unfold unr; split <;> omega
    obtain ⟨g, hg2⟩ : ∃ g, (unr a n).log2 = g + 1 := ⟨(unr a n).log2 - 1, by omega⟩
    rw [hg2] at hl1 hL hg
    have h3 : 2 ^ g ≤ a / n := by rw [Nat.pow_succ] at hl1; omega
    have h4 : n * 2 ^ g ≤ a := by
      have := Nat.mul_le_mul_left n h3
      exact Nat.le_trans this (Nat.mul_div_le a n)
    have e1 : n * 2 ^ g * 2 ^ (place + 1075).toNat ≤ a * 2 ^ (place + 1075).toNat := Nat.mul_le_mul_right _ h4
    refine Nat.le_trans ?_ e1
    have e2 : B * (n * 2 ^ (-(place + 1075)).toNat * 2 ^ (L + 1074).toNat) = n * (2 ^ 52 * (2 ^ (-(place + 1075)).toNat * 2 ^ (L + 1074).toNat)) := by rw [B_eq]; simp only [Nat.mul_assoc, Nat.mul_comm, Nat.mul_left_comm]
    rw [e2, ← Nat.pow_add, ← Nat.pow_add, Nat.mul_assoc, ← Nat.pow_add]
    exact Nat.mul_le_mul_left n (Nat.pow_le_pow_right (by decide) (by omega))
end Go.Proofs.YtgbldjbkapaclaaDoor.fl
/- The model's float operations on whole numbers, exact ones: products, quotients, comparisons. Plain mathematics. -/
namespace Go.Proofs.YtgbldjbkapaclaaDoor.fl
open Ieee
set_option linter.unusedVariables false
set_option linter.unusedSimpArgs false

/-- The rung u is the whole number n itself. -/
def IsInt (u n : Nat) : Prop := V u = n * 2 ^ K74
theorem exp_mul (i j : Int) (h1 : -1074 ≤ i) (h2 : -1074 ≤ j) (K : Nat) (hK : K = 1074) : (i + j + 1074).toNat + K = (i + 1074).toNat + (j + 1074).toNat + (-(i + j + 1074)).toNat := by omega
theorem exp_div (i j : Int) (m : Nat) (h1 : -1074 ≤ i) (h2 : -1074 ≤ j) (K : Nat) (hK : K = 1074) : m + (i - j - m - 1 + 1075).toNat + (j + 1074).toNat = (i + 1074).toNat + (-(i - j - m - 1 + 1075)).toNat + K := by omega
theorem near_exact {N u : Nat} (h : V u = N) : Near N 1 u := by
  subst h
  have h1 := V_succ u
  have h2 := st_pos u
  refine ⟨?_, .inl (by omega)⟩
  rcases Nat.eq_zero_or_pos u with h | h
  · exact .inl h
  · have := V_lt (show u - 1 < u by omega)
    exact .inr (.inl (by omega))
theorem int_rung (neg : Bool) (d : Nat) (h0 : 0 < d) (h1 : d < 9007199254740992) : ∃ u, u < infR ∧ IsInt u d ∧ Ieee.double.nearest neg d 0 = sgw neg + u := by
  have hl1 : 2 ^ d.log2 ≤ d := Nat.log2_self_le (by omega)
  have hl2 : d < 2 ^ (d.log2 + 1) := Nat.lt_log2_self
  have hg : d.log2 ≤ 52 := by
    rcases Nat.lt_or_ge 52 d.log2 with h3 | h3
    · have : 2 ^ 53 ≤ 2 ^ d.log2 := Nat.pow_le_pow_right (by decide) h3
      omega
    · exact h3
  have e := nearest_eq neg d 0 h0
  have hL : lastP d 0 = d.log2 - 52 := by unfold lastP; omega
  rw [hL] at e
  generalize d.log2 = g at *
  have e1 : rd (d * 2 ^ (0 - ((g : Int) - 52)).toNat) (2 ^ ((g : Int) - 52 - 0).toNat) = d * 2 ^ (52 - g) := by
    rw [show ((g : Int) - 52 - 0).toNat = 0 by omega, show (0 - ((g : Int) - 52)).toNat = 52 - g by omega]
    unfold rd; simp [Nat.mod_one]
  rw [e1] at e
  have b1 : B ≤ d * 2 ^ (52 - g) := by
    have : 2 ^ g * 2 ^ (52 - g) ≤ d * 2 ^ (52 - g) := Nat.mul_le_mul_right _ hl1
    rwa [← Nat.pow_add, Nat.add_sub_of_le hg] at this
  have b2 : d * 2 ^ (52 - g) < 2 * B := by
    have : d * 2 ^ (52 - g) < 2 ^ (g + 1) * 2 ^ (52 - g) := Nat.mul_lt_mul_of_pos_right hl2 (Nat.pow_pos (by decide))
    rw [← Nat.pow_add, show g + 1 + (52 - g) = 53 by omega] at this
    exact this
  have hB : B = 4503599627370496 := rfl
  have hi : infR = 9218868437227405312 := rfl
  have b3 : ((g : Int) - 52 + 1074).toNat * B ≤ 1074 * B := Nat.mul_le_mul_right _ (by omega)
  refine ⟨((g : Int) - 52 + 1074).toNat * B + d * 2 ^ (52 - g), by omega, ?_, ?_⟩
  · unfold IsInt
    rw [V_form _ _ b1 b2, Nat.mul_assoc, ← Nat.pow_add]
    congr 2
    have := K74_eq
    omega
  · rw [e, Nat.min_eq_left (by omega)]

theorem mul_ints {s t : Bool} {u v a c : Nat} (hu : u < infR) (hv : v < infR) (ha : IsInt u a) (hc : IsInt v c) (h0 : 0 < a) (h1 : 0 < c) :
    ∃ w, Near (a * c * 2 ^ K74) 1 w ∧ Ieee.double.mul (sgw s + u) (sgw t + v) = some (sgw (s ^^ t) + min w infR) := by
  obtain ⟨m, i, r1⟩ := reads s u hu
  obtain ⟨n, j, r2⟩ := reads t v hv
  have hm : 0 < m := by
    rcases Nat.eq_zero_or_pos m with h | h
    · have := r1.val; rw [h, Nat.zero_mul, ha] at this
      have : 0 < a * 2 ^ K74 := Nat.mul_pos h0 (Nat.pow_pos (by decide))
      omega
    · exact h
  have hn : 0 < n := by
    rcases Nat.eq_zero_or_pos n with h | h
    · have := r2.val; rw [h, Nat.zero_mul, hc] at this
      have : 0 < c * 2 ^ K74 := Nat.mul_pos h1 (Nat.pow_pos (by decide))
      omega
    · exact h
  obtain ⟨w, hw, e⟩ := nearest_near (s ^^ t) (m * n) (i + j) (Nat.mul_pos hm hn)
  refine ⟨w, near_cross (Nat.pow_pos (by decide)) (by decide) ?_ hw, ?_⟩
  · have e1 : m * 2 ^ (i + 1074).toNat * (n * 2 ^ (j + 1074).toNat) = a * 2 ^ K74 * (c * 2 ^ K74) := by rw [r1.val, r2.val, ha, hc]
    have k1 := r1.le
    have k2 := r2.le
    have kk := K74_eq
    have hP : 0 < 2 ^ K74 := Nat.pow_pos (by decide)
    refine Nat.eq_of_mul_eq_mul_right hP ?_
    have e2 : m * n * 2 ^ (i + j + 1074).toNat * 1 * 2 ^ K74 = m * 2 ^ (i + 1074).toNat * (n * 2 ^ (j + 1074).toNat) * 2 ^ (-(i + j + 1074)).toNat := by
      have l1 : m * n * 2 ^ (i + j + 1074).toNat * 1 * 2 ^ K74 = m * n * (2 ^ (i + j + 1074).toNat * 2 ^ K74) := by rw [Nat.mul_one, Nat.mul_assoc (m * n)]
      have l2 : m * 2 ^ (i + 1074).toNat * (n * 2 ^ (j + 1074).toNat) * 2 ^ (-(i + j + 1074)).toNat = m * n * (2 ^ (i + 1074).toNat * 2 ^ (j + 1074).toNat * 2 ^ (-(i + j + 1074)).toNat) := by simp only [Nat.mul_assoc, Nat.mul_comm, Nat.mul_left_comm]
      rw [l1, l2, ← Nat.pow_add, ← Nat.pow_add, ← Nat.pow_add, exp_mul i j k1 k2 K74 kk]
    rw [e2, e1]
    simp only [Nat.mul_assoc, Nat.mul_comm, Nat.mul_left_comm]
  · unfold Format.mul
    rw [r1.read, r2.read]
    simp only [Datum.product, Option.map_some, Format.write, e]

theorem div_ints {s t : Bool} {u v a c : Nat} (hu : u < infR) (hv : v < infR) (ha : IsInt u a) (hc : IsInt v c) (h0 : 0 < a) (h1 : 0 < c) :
    ∃ w, Near (a * 2 ^ K74) c w ∧ Ieee.double.div (sgw s + u) (sgw t + v) = some (sgw (s ^^ t) + min w infR) := by
  obtain ⟨m, i, r1⟩ := reads s u hu
  obtain ⟨n, j, r2⟩ := reads t v hv
  have hm : 0 < m := by
    rcases Nat.eq_zero_or_pos m with h | h
    · have := r1.val; rw [h, Nat.zero_mul, ha] at this
      have : 0 < a * 2 ^ K74 := Nat.mul_pos h0 (Nat.pow_pos (by decide))
      omega
    · exact h
  have hn : 0 < n := by
    rcases Nat.eq_zero_or_pos n with h | h
    · have := r2.val; rw [h, Nat.zero_mul, hc] at this
      have : 0 < c * 2 ^ K74 := Nat.mul_pos h1 (Nat.pow_pos (by decide))
      omega
    · exact h
  have hq : 9007199254740992 ≤ m * 2 ^ (54 + n.log2 - m.log2) / n := by
    have a1 : 2 ^ m.log2 ≤ m := Nat.log2_self_le (by omega)
    have a2 : n < 2 ^ (n.log2 + 1) := Nat.lt_log2_self
    have a3 : m.log2 ≤ 54 + n.log2 := by
      have : m < 2 ^ 53 := r1.lt
      have : m.log2 ≤ 53 := by
        rcases Nat.lt_or_ge 53 m.log2 with h3 | h3
        · have : 2 ^ 53 ≤ 2 ^ m.log2 := Nat.pow_le_pow_right (by decide) (by omega)
          omega
        · exact h3
      omega
    rw [Nat.le_div_iff_mul_le hn]
    have e1 : 2 ^ m.log2 * 2 ^ (54 + n.log2 - m.log2) ≤ m * 2 ^ (54 + n.log2 - m.log2) := Nat.mul_le_mul_right _ a1
    rw [← Nat.pow_add, Nat.add_sub_of_le a3] at e1
    have e2 : 9007199254740992 * n ≤ 9007199254740992 * 2 ^ (n.log2 + 1) := Nat.mul_le_mul_left _ (Nat.le_of_lt a2)
    have e3 : 9007199254740992 * 2 ^ (n.log2 + 1) = 2 ^ (54 + n.log2) := by
      rw [show (9007199254740992 : Nat) = 2 ^ 53 by decide, ← Nat.pow_add]; congr 1; omega
    omega
  generalize hmore : 54 + n.log2 - m.log2 = more at *
  obtain ⟨w, hw, e⟩ := nearest_unr (s ^^ t) (m * 2 ^ more) n (i - j - more - 1) hn hq
  refine ⟨w, near_cross (Nat.mul_pos hn (Nat.pow_pos (by decide))) h1 ?_ hw, ?_⟩
  · have k1 := r1.le
    have k2 := r2.le
    have kk := K74_eq
    have v1 := r1.val
    have v2 := r2.val
    rw [ha] at v1
    rw [hc] at v2
    refine Nat.eq_of_mul_eq_mul_right (show 0 < 2 ^ K74 from Nat.pow_pos (by decide)) ?_
    have l1 : m * 2 ^ more * 2 ^ (i - j - more - 1 + 1075).toNat * c * 2 ^ K74 = m * 2 ^ more * 2 ^ (i - j - more - 1 + 1075).toNat * (n * 2 ^ (j + 1074).toNat) := by rw [v2]; simp only [Nat.mul_assoc, Nat.mul_comm, Nat.mul_left_comm]
    have l2 : a * 2 ^ K74 * (n * 2 ^ (-(i - j - more - 1 + 1075)).toNat) * 2 ^ K74 = m * 2 ^ (i + 1074).toNat * (n * 2 ^ (-(i - j - more - 1 + 1075)).toNat) * 2 ^ K74 := by rw [v1]
    rw [l1, l2]
    have l3 : m * 2 ^ more * 2 ^ (i - j - more - 1 + 1075).toNat * (n * 2 ^ (j + 1074).toNat) = m * n * (2 ^ more * 2 ^ (i - j - more - 1 + 1075).toNat * 2 ^ (j + 1074).toNat) := by simp only [Nat.mul_assoc, Nat.mul_comm, Nat.mul_left_comm]
    have l4 : m * 2 ^ (i + 1074).toNat * (n * 2 ^ (-(i - j - more - 1 + 1075)).toNat) * 2 ^ K74 = m * n * (2 ^ (i + 1074).toNat * 2 ^ (-(i - j - more - 1 + 1075)).toNat * 2 ^ K74) := by simp only [Nat.mul_assoc, Nat.mul_comm, Nat.mul_left_comm]
    rw [l3, l4, ← Nat.pow_add, ← Nat.pow_add, ← Nat.pow_add, ← Nat.pow_add, exp_div i j more k1 k2 K74 kk]
  · unfold Format.div
    rw [r1.read, r2.read, d_frac]
    simp only [Datum.quotient]
    rw [if_neg (by omega)]
    simp only [Option.map_some, Format.write, Nat.shiftLeft_eq]
    rw [hmore]
    have eu : 2 * (m * 2 ^ more / n) + (m * 2 ^ more % n != 0).toNat = unr (m * 2 ^ more) n := by
      unfold unr
      by_cases hz : m * 2 ^ more % n = 0 <;> simp [hz]
    rw [eu, e]

/-- A number with its sign. -/
def sI (neg : Bool) (n : Nat) : Int := if neg then -(n : Int) else n
theorem compare_scale (a b : Int) (k : Nat) (hk : 0 < k) : compare (a * k) (b * k) = compare a b := by
  have hk' : (0 : Int) < k := by omega
  rcases Int.lt_trichotomy a b with h | h | h
  · rw [(Int.compare_eq_lt).2 h, (Int.compare_eq_lt).2 (Int.mul_lt_mul_of_pos_right h hk')]
  · rw [h]; simp
  · rw [(Int.compare_eq_gt).2 h, (Int.compare_eq_gt).2 (Int.mul_lt_mul_of_pos_right h hk')]
theorem order_val (s t : Bool) (u v : Nat) (hu : u < infR) (hv : v < infR) : Ieee.double.order (sgw s + u) (sgw t + v) = some (compare (sI s (V u)) (sI t (V v))) := by
  obtain ⟨m, i, r1⟩ := reads s u hu
  obtain ⟨n, j, r2⟩ := reads t v hv
  unfold Format.order
  rw [r1.read, r2.read]
  simp only [Datum.order]
  have k1 := r1.le
  have k2 := r2.le
  have hb : -1074 ≤ min i j := by omega
  have e1 : sI s (V u) = signed s m (i - min i j).toNat * ((2 ^ (min i j + 1074).toNat : Nat) : Int) := by
    rw [← r1.val]
    have : m * 2 ^ (i + 1074).toNat = m <<< (i - min i j).toNat * 2 ^ (min i j + 1074).toNat := by
      rw [Nat.shiftLeft_eq, Nat.mul_assoc, ← Nat.pow_add]; congr 2; omega
    rw [this]
    unfold sI signed
    cases s <;> simp [Int.neg_mul]
  have e2 : sI t (V v) = signed t n (j - min i j).toNat * ((2 ^ (min i j + 1074).toNat : Nat) : Int) := by
    rw [← r2.val]
    have : n * 2 ^ (j + 1074).toNat = n <<< (j - min i j).toNat * 2 ^ (min i j + 1074).toNat := by
      rw [Nat.shiftLeft_eq, Nat.mul_assoc, ← Nat.pow_add]; congr 2; omega
    rw [this]
    unfold sI signed
    cases t <;> simp [Int.neg_mul]
  rw [e1, e2, compare_scale _ _ _ (Nat.pow_pos (by decide))]
theorem compare_gt {a b : Int} (h : b < a) : compare a b = .gt := (Int.compare_eq_gt).2 h
theorem compare_lt {a b : Int} (h : a < b) : compare a b = .lt := (Int.compare_eq_lt).2 h

/-- The exact powers of ten. -/
def p10bits : List Nat := [4607182418800017408, 4621819117588971520, 4636737291354636288, 4652007308841189376, 4666723172467343360, 4681608360884174848, 4696837146684686336, 4711630319722168320, 4726483295884279808, 4741671816366391296, 4756540486875873280, 4771362005757984768, 4786511204640096256, 4801453603149578240, 4816244402031689728, 4831355200913801216, 4846369599423283200, 4861130398305394688, 4876203697187506176, 4891288408196988160, 4906019910204099648, 4921056587992461136, 4936209963552724370]
def p10ok : Nat → List Nat → Bool
  | _, [] => true
  | k, u :: r => decide (V u = 10 ^ k * 2 ^ K74) && decide (u < infR) && p10ok (k + 1) r
theorem p10ok_at : ∀ {l : List Nat} {k : Nat}, p10ok k l = true → ∀ (i u : Nat), l[i]? = some u → V u = 10 ^ (k + i) * 2 ^ K74 ∧ u < infR
  | [], k, h, i, u, hc => by simp at hc
  | d :: r, k, h, 0, u, hc => by
    simp only [p10ok, Bool.and_eq_true, decide_eq_true_eq] at h
    simp at hc; subst hc
    exact ⟨by simpa using h.1.1, h.1.2⟩
  | d :: r, k, h, i + 1, u, hc => by
    simp only [p10ok, Bool.and_eq_true, decide_eq_true_eq] at h
    simp at hc
    have := p10ok_at h.2 i u hc
    rwa [show k + 1 + i = k + (i + 1) by omega] at this
theorem p10bits_ok : p10ok 0 p10bits = true := by decide +kernel
theorem p10_at (k : Nat) (h : k ≤ 22) : IsInt (p10bits.getD k 0) (10 ^ k) ∧ p10bits.getD k 0 < infR := by
  have hk : k < p10bits.length := by have : p10bits.length = 23 := by decide
                                     omega
  have := p10ok_at p10bits_ok k _ (List.getElem?_eq_getElem hk)
  rw [List.getD_eq_getElem?_getD, List.getElem?_eq_getElem hk]
  rwa [Nat.zero_add] at this
end Go.Proofs.YtgbldjbkapaclaaDoor.fl
/- Decimal words: their digits, the point, the power; what a reader that keeps 19 digits comes to. Plain mathematics. -/
namespace Go.Proofs.YtgbldjbkapaclaaDoor.fl
set_option linter.unusedVariables false
set_option linter.unusedSimpArgs false

def isDig (c : Nat) : Prop := 48 ≤ c ∧ c ≤ 57
/-- What the reader holds. -/
structure RF where
  mant : Nat
  nd : Nat
  ndm : Nat
  dp : Int
  dot : Bool
  dig : Bool
  tr : Bool
def rf0 : RF := ⟨0, 0, 0, 0, false, false, false⟩
def rfStep (s : RF) (c : Nat) : RF :=
  if c = 46 then { s with dot := true, dp := s.nd }
  else if c = 48 ∧ s.nd = 0 then { s with dig := true, dp := s.dp - 1 }
  else if s.ndm < 19 then { s with dig := true, nd := s.nd + 1, mant := s.mant * 10 + (c - 48), ndm := s.ndm + 1 }
  else { s with dig := true, nd := s.nd + 1, tr := s.tr || c != 48 }
def rf (m : List Nat) : RF := m.foldl rfStep rf0
theorem rf_snoc (m : List Nat) (c : Nat) : rf (m ++ [c]) = rfStep (rf m) c := by unfold rf; rw [List.foldl_append]; rfl
/-- The digits' number, the point left out. -/
def dnum (m : List Nat) : Nat := m.foldl (fun a c => if c = 46 then a else a * 10 + (c - 48)) 0
theorem dnum_snoc (m : List Nat) (c : Nat) : dnum (m ++ [c]) = if c = 46 then dnum m else dnum m * 10 + (c - 48) := by unfold dnum; rw [List.foldl_append]; rfl
/-- How many digits stand behind the point. -/
def dfrac (m : List Nat) : Nat × Bool := m.foldl (fun a c => if c = 46 then (0, true) else if a.2 then (a.1 + 1, true) else a) (0, false)
theorem dfrac_snoc (m : List Nat) (c : Nat) : dfrac (m ++ [c]) = if c = 46 then (0, true) else if (dfrac m).2 then ((dfrac m).1 + 1, true) else dfrac m := by unfold dfrac; rw [List.foldl_append]; rfl
/-- A mantissa: digits, at most one point. -/
inductive Mant : List Nat → Bool → Prop
  | nil : Mant [] false
  | dig {m : List Nat} {p : Bool} {c : Nat} : Mant m p → isDig c → Mant (m ++ [c]) p
  | dot {m : List Nat} : Mant m false → Mant (m ++ [46]) true

structure RFok (m : List Nat) (p : Bool) : Prop where
  dot : (rf m).dot = p
  frac : (dfrac m).2 = p
  dp : p = true → (rf m).dp = (rf m).nd - (dfrac m).1
  frac0 : p = false → (dfrac m).1 = 0
  dp0 : -(m.length : Int) ≤ (rf m).dp ∧ (rf m).dp ≤ m.length
  ndm : (rf m).ndm = min (rf m).nd 19
  nd : (rf m).nd ≤ m.length
  fracl : (dfrac m).1 ≤ m.length
  mant : (rf m).mant < 10 ^ (rf m).ndm
  low : (rf m).nd ≠ 0 → 10 ^ ((rf m).ndm - 1) ≤ (rf m).mant
  zero : (rf m).nd = 0 → dnum m = 0
  num : ∃ r, r < 10 ^ ((rf m).nd - (rf m).ndm) ∧ dnum m = (rf m).mant * 10 ^ ((rf m).nd - (rf m).ndm) + r ∧ ((rf m).tr = true ↔ r ≠ 0)
  dig : (rf m).dig = false → ∀ c ∈ m, c = 46
theorem rf_ok {m : List Nat} {p : Bool} (h : Mant m p) : RFok m p := by
  induction h with
  | nil => exact ⟨rfl, rfl, (fun h => by cases h), fun _ => rfl, by decide, rfl, by decide, by decide, by decide, fun h => absurd rfl h, fun _ => rfl, ⟨0, by decide, rfl, by decide⟩, fun _ c h => by cases h⟩
  | @dot m hm ih =>
    obtain ⟨a1, a2, a3, a4, a5, a6, a7, a8, a9, a10, a11, a12, a13⟩ := ih
    have e : rf (m ++ [46]) = { rf m with dot := true, dp := (rf m).nd } := by rw [rf_snoc]; rfl
    have ed : dnum (m ++ [46]) = dnum m := by rw [dnum_snoc]; rfl
    have ef : dfrac (m ++ [46]) = (0, true) := by rw [dfrac_snoc]; rfl
    refine ⟨?_, ?_, ?_, ?_, ?_, ?_, ?_, ?_, ?_, ?_, ?_, ?_, ?_⟩ <;> simp only [e, ed, ef, List.length_append, List.length_cons, List.length_nil] <;> first | omega | exact a6 | exact a9 | exact a10 | exact a11 | exact a12 | skip
    · intro _; trivial
    · intro h c hc
      rcases List.mem_append.1 hc with h1 | h1
      · exact a13 h c h1
      · simpa using h1
  | @dig m p c hm hc ih =>
    obtain ⟨a1, a2, a3, a4, a5, a6, a7, a8, a9, a10, a11, a12, a13⟩ := ih
    obtain ⟨c1, c2⟩ := hc
    have hc46 : c ≠ 46 := by omega
    have ed : dnum (m ++ [c]) = dnum m * 10 + (c - 48) := by rw [dnum_snoc, if_neg hc46]
    have ef : dfrac (m ++ [c]) = if p then ((dfrac m).1 + 1, true) else dfrac m := by rw [dfrac_snoc, if_neg hc46, a2]
    have e0 : rf (m ++ [c]) = rfStep (rf m) c := rf_snoc m c
    unfold rfStep at e0
    rw [if_neg hc46] at e0
    have hf1 : (dfrac (m ++ [c])).2 = p := by rw [ef]; cases p <;> simp [a2]
    have hf2 : p = true → (dfrac (m ++ [c])).1 = (dfrac m).1 + 1 := by intro h; rw [ef, h]; rfl
    have hf3 : p = false → (dfrac (m ++ [c])).1 = 0 := by intro h; rw [ef, h]; exact a4 h
    have hf4 : (dfrac (m ++ [c])).1 ≤ m.length + 1 := by
      cases p
      · rw [hf3 rfl]; omega
      · rw [hf2 rfl]; omega
    have hlen : (m ++ [c]).length = m.length + 1 := by simp
    obtain ⟨r, r1, r2, r3⟩ := a12
    by_cases hz : c = 48 ∧ (rf m).nd = 0
    · rw [if_pos hz] at e0
      have hm0 : (rf m).ndm = 0 := by rw [a6, hz.2]; rfl
      rw [hm0] at a9
      refine ⟨by rw [e0]; exact a1, hf1, ?_, hf3, ?_, by rw [e0]; exact a6, ?_, by rw [hlen]; exact hf4, ?_, ?_, ?_, ?_, ?_⟩
      · intro h; rw [e0, hf2 h]; simp only; rw [a3 h]; omega
      · rw [e0, hlen]; simp only; omega
      · rw [e0, hlen]; simp only; omega
      · rw [e0]; simp only; rw [hm0]; exact a9
      · rw [e0]; simp only; intro h; exact absurd hz.2 h
      · rw [ed]; intro _; rw [a11 hz.2, hz.1]
      · rw [e0, ed]; simp only
        rw [hz.2, hm0] at r1 r2 ⊢
        simp only [Nat.sub_self, Nat.pow_zero, Nat.mul_one, Nat.zero_sub] at r1 r2 ⊢
        have hr : r = 0 := by omega
        subst hr
        exact ⟨0, by omega, by rw [a11 hz.2, hz.1]; simp at a9; omega, r3⟩
      · rw [e0]; intro h; cases h
    · rw [if_neg hz] at e0
      by_cases hs : (rf m).ndm < 19
      · rw [if_pos hs] at e0
        have hnn : (rf m).ndm = (rf m).nd := by omega
        rw [hnn, Nat.sub_self, Nat.pow_zero] at r1
        have hr : r = 0 := by omega
        subst hr
        rw [hnn, Nat.sub_self, Nat.pow_zero, Nat.mul_one, Nat.add_zero] at r2
        have hlow : 10 ^ (rf m).ndm ≤ (rf m).mant * 10 + (c - 48) := by
          rcases Nat.eq_zero_or_pos (rf m).nd with h | h
          · rw [hnn, h, Nat.pow_zero]
            have : c ≠ 48 := fun e => hz ⟨e, h⟩
            omega
          · have := a10 (by omega)
            obtain ⟨t, ht⟩ : ∃ t, (rf m).ndm = t + 1 := ⟨(rf m).ndm - 1, by omega⟩
            rw [ht] at this ⊢
            rw [Nat.add_sub_cancel] at this
            rw [Nat.pow_succ]; omega
        refine ⟨by rw [e0]; exact a1, hf1, ?_, hf3, ?_, ?_, ?_, by rw [hlen]; exact hf4, ?_, ?_, ?_, ?_, ?_⟩
        · intro h; rw [e0, hf2 h]; simp only; rw [a3 h]; omega
        · rw [e0, hlen]; simp only; omega
        · rw [e0]; simp only; omega
        · rw [e0, hlen]; simp only; omega
        · rw [e0]; simp only; rw [Nat.pow_succ]; omega
        · rw [e0]; simp only; intro _; rw [Nat.add_sub_cancel]; exact hlow
        · rw [e0]; simp only; intro h; omega
        · rw [e0, ed]; simp only
          rw [hnn, Nat.sub_self, Nat.pow_zero, Nat.mul_one]
          exact ⟨0, by omega, by omega, r3⟩
        · rw [e0]; intro h; cases h
      · rw [if_neg hs] at e0
        refine ⟨by rw [e0]; exact a1, hf1, ?_, hf3, ?_, ?_, ?_, by rw [hlen]; exact hf4, by rw [e0]; exact a9, ?_, ?_, ?_, ?_⟩
        · intro h; rw [e0, hf2 h]; simp only; rw [a3 h]; omega
        · rw [e0, hlen]; simp only; omega
        · rw [e0]; simp only; omega
        · rw [e0, hlen]; simp only; omega
        · rw [e0]; simp only; intro _; exact a10 (by omega)
        · rw [e0]; simp only; intro h; omega
        · rw [e0, ed]; simp only
          have hge : (rf m).ndm ≤ (rf m).nd := by omega
          refine ⟨r * 10 + (c - 48), ?_, ?_, ?_⟩
          · rw [Nat.succ_sub hge, Nat.pow_succ]; omega
          · rw [Nat.succ_sub hge, Nat.pow_succ, r2, Nat.add_mul, Nat.mul_assoc]; omega
          · simp only [Bool.or_eq_true, bne_iff_ne, ne_eq]
            rw [r3]; constructor
            · rintro (h | h) <;> omega
            · intro h
              by_cases h2 : c = 48
              · left; omega
              · exact .inr h2
        · rw [e0]; intro h; cases h
/-- A prefix of a mantissa is one. -/
theorem mant_take {m : List Nat} {p : Bool} (h : Mant m p) : ∀ k, ∃ q, Mant (m.take k) q ∧ (q = true → p = true) := by
  induction h with
  | nil => intro k; exact ⟨false, by simpa using Mant.nil, id⟩
  | @dig m p c hm hc ih =>
    intro k
    by_cases hk : k ≤ m.length
    · obtain ⟨q, hq, hp⟩ := ih k
      exact ⟨q, by rwa [List.take_append_of_le_length hk], hp⟩
    · exact ⟨p, by rw [List.take_of_length_le (by simp; omega)]; exact .dig hm hc, id⟩
  | @dot m hm ih =>
    intro k
    by_cases hk : k ≤ m.length
    · obtain ⟨q, hq, hp⟩ := ih k
      exact ⟨q, by rwa [List.take_append_of_le_length hk], fun _ => rfl⟩
    · exact ⟨true, by rw [List.take_of_length_le (by simp; omega)]; exact .dot hm, id⟩
/-- What comes next in a mantissa: a digit; or the point, where none has been. -/
theorem mant_next {m : List Nat} {p : Bool} (h : Mant m p) : ∀ k, k < m.length → ∀ q, Mant (m.take k) q → isDig (m.getD k 0) ∨ (m.getD k 0 = 46 ∧ q = false) := by
  induction h with
  | nil => intro k hk; simp at hk
  | @dig m p c hm hc ih =>
    intro k hk q hq
    simp at hk
    by_cases h2 : k < m.length
    · rw [List.take_append_of_le_length (by omega)] at hq
      rw [List.getD_eq_getElem?_getD, List.getElem?_append_left h2, ← List.getD_eq_getElem?_getD]
      exact ih k h2 q hq
    · have : k = m.length := by omega
      subst this
      left; simpa [List.getD_eq_getElem?_getD] using hc
  | @dot m hm ih =>
    intro k hk q hq
    simp at hk
    by_cases h2 : k < m.length
    · rw [List.take_append_of_le_length (by omega)] at hq
      rw [List.getD_eq_getElem?_getD, List.getElem?_append_left h2, ← List.getD_eq_getElem?_getD]
      exact ih k h2 q hq
    · have : k = m.length := by omega
      subst this
      right
      rw [List.take_left'  rfl] at hq
      refine ⟨by simp [List.getD_eq_getElem?_getD], ?_⟩
      have h1 := (rf_ok hm).dot
      have h3 := (rf_ok hq).dot
      rw [h1] at h3; exact h3.symm
end Go.Proofs.YtgbldjbkapaclaaDoor.fl
/- What a decimal word means, and what the kept digits say of it. Plain mathematics. -/
namespace Go.Proofs.YtgbldjbkapaclaaDoor.fl
set_option linter.unusedVariables false
set_option linter.unusedSimpArgs false

theorem near_le {N D N' D' u u' : Nat} (hD : 0 < D) (hD' : 0 < D') (h : N * D' ≤ N' * D) (hu : Near N D u) (hu' : Near N' D' u') : u ≤ u' := by
  have a := (near_scale D' hD').2 hu
  have b := (near_scale D hD).2 hu'
  rw [Nat.mul_comm D' D] at b
  rcases Nat.lt_or_ge u' u with hlt | hge
  · have hDD : 0 < D * D' := Nat.mul_pos hD hD'
    have h1 : 2 * (N' * D) ≤ (V u' + V (u' + 1)) * (D * D') := by rcases b.hi with h | h <;> omega
    have h2 : (V (u - 1) + V u) * (D * D') ≤ 2 * (N * D') := by rcases a.lo with h | h | h <;> omega
    have h3 : V u' ≤ V (u - 1) := V_le (by omega)
    have h4 : V (u' + 1) ≤ V u := V_le (by omega)
    have h6 : (V u' + V (u' + 1)) * (D * D') ≤ (V (u - 1) + V u) * (D * D') := Nat.mul_le_mul_right _ (by omega)
    have e : N * D' = N' * D := by omega
    rw [e] at a
    exact Nat.le_of_eq (near_unique hDD a b)
  · exact hge
/-- A number with noughts at its end. -/
theorem val_shift (d j : Nat) (q : Int) : valN (d * 10 ^ j) q * valD (q + j) = valN d (q + j) * valD q := by
  unfold valN valD
  generalize 2 ^ K74 = T
  by_cases h1 : 0 ≤ q
  · rw [if_pos h1, if_pos h1, if_pos (show 0 ≤ q + j by omega), if_pos (show 0 ≤ q + j by omega), show (q + j).toNat = j + q.toNat by omega, Nat.pow_add]
    simp only [Nat.mul_one, Nat.one_mul, Nat.mul_assoc, Nat.mul_comm, Nat.mul_left_comm]
  · rw [if_neg h1, if_neg h1]
    by_cases h2 : 0 ≤ q + j
    · rw [if_pos h2, if_pos h2]
      have : j = (q + j).toNat + (-q).toNat := by omega
      conv => lhs; rw [this, Nat.pow_add]
      simp only [Nat.mul_one, Nat.one_mul, Nat.mul_assoc, Nat.mul_comm, Nat.mul_left_comm]
    · rw [if_neg h2, if_neg h2]
      have : (-q).toNat = j + (-(q + j)).toNat := by omega
      rw [this, Nat.pow_add]
      simp only [Nat.mul_one, Nat.one_mul, Nat.mul_assoc, Nat.mul_comm, Nat.mul_left_comm]
theorem valN_mono {d d' : Nat} (q : Int) (h : d ≤ d') : valN d q ≤ valN d' q := by
  unfold valN
  exact Nat.mul_le_mul_right _ (Nat.mul_le_mul_right _ h)
/-- The power behind the last digit. -/
def wq (m : List Nat) (E : Int) : Int := E - (dfrac m).1
def rfX (m : List Nat) (E : Int) : Int := (if (rf m).dot then (rf m).dp else (rf m).nd) + E - (rf m).ndm
theorem rfX_eq {m : List Nat} {p : Bool} (h : Mant m p) (E : Int) : rfX m E = wq m E + ((rf m).nd - (rf m).ndm : Nat) := by
  have ok := rf_ok h
  have h1 : (rf m).ndm ≤ (rf m).nd := by have := ok.ndm; omega
  unfold rfX wq
  rw [ok.dot]
  cases p
  · have := ok.frac0 rfl
    simp; omega
  · have := ok.dp rfl
    simp; omega
theorem mant_zero {m : List Nat} {p : Bool} (h : Mant m p) (hz : (rf m).mant = 0) : dnum m = 0 := by
  have ok := rf_ok h
  refine ok.zero ?_
  rcases Nat.eq_zero_or_pos (rf m).nd with h1 | h1
  · exact h1
  · have := ok.low (by omega)
    have h2 : 0 < 10 ^ ((rf m).ndm - 1) := Nat.pow_pos (by decide)
    omega
theorem near_zero (q : Int) : Near (valN 0 q) (valD q) 0 := by
  have : valN 0 q = 0 := by unfold valN; simp
  rw [this]
  refine ⟨.inl rfl, .inl ?_⟩
  rw [V_zero, show V (0 + 1) = 1 by decide]
  have := valD_pos q
  omega
/-- Nothing is left out: the kept digits mean the same. -/
theorem near_kept {m : List Nat} {p : Bool} (h : Mant m p) (E : Int) (ht : (rf m).tr = false) {u : Nat} (hu : Near (valN (rf m).mant (rfX m E)) (valD (rfX m E)) u) : Near (valN (dnum m) (wq m E)) (valD (wq m E)) u := by
  obtain ⟨r, r1, r2, r3⟩ := (rf_ok h).num
  have hr : r = 0 := by
    by_cases h0 : r = 0
    · exact h0
    · have := r3.2 h0; rw [ht] at this; cases this
  rw [hr, Nat.add_zero] at r2
  refine near_cross (valD_pos _) (valD_pos _) ?_ hu
  rw [r2, rfX_eq h E]
  exact (val_shift _ _ _).symm
/-- What is left out lies between. -/
theorem near_between {m : List Nat} {p : Bool} (h : Mant m p) (E : Int) {u1 u u2 : Nat} (h1 : Near (valN (rf m).mant (rfX m E)) (valD (rfX m E)) u1) (h2 : Near (valN ((rf m).mant + 1) (rfX m E)) (valD (rfX m E)) u2) (hu : Near (valN (dnum m) (wq m E)) (valD (wq m E)) u) : u1 ≤ u ∧ u ≤ u2 := by
  obtain ⟨r, r1, r2, r3⟩ := (rf_ok h).num
  rw [rfX_eq h E] at h1 h2
  refine ⟨near_le (valD_pos _) (valD_pos _) ?_ h1 hu, near_le (valD_pos _) (valD_pos _) ?_ hu h2⟩
  · rw [← val_shift]
    exact Nat.mul_le_mul_right _ (valN_mono _ (by omega))
  · rw [← val_shift]
    refine Nat.mul_le_mul_right _ (valN_mono _ ?_)
    rw [Nat.add_mul]; omega
theorem inf_of {N D u : Nat} (hD : 0 < D) (h : (V (infR - 1) + V infR) * D < 2 * N) (hu : Near N D u) : infR ≤ u := by
  rcases Nat.lt_or_ge u infR with h2 | h2
  · have h1 : 2 * N ≤ (V u + V (u + 1)) * D := by rcases hu.hi with h | h <;> omega
    have hi : infR = 9218868437227405312 := rfl
    have h3 : V u ≤ V (infR - 1) := V_le (by omega)
    have h4 : V (u + 1) ≤ V infR := V_le (by omega)
    have h5 : (V u + V (u + 1)) * D ≤ (V (infR - 1) + V infR) * D := Nat.mul_le_mul_right _ (by omega)
    omega
  · exact h2
/-- 311 and 346. -/
def K311 : Nat := 311
def K346 : Nat := 346
theorem K311_eq : K311 = 311 := rfl
theorem K346_eq : K346 = 346 := rfl
theorem big_311 : (V (infR - 1) + V infR) * 1 < 2 * (10 ^ K311 * 2 ^ K74) := by decide +kernel
theorem small_327 : 2 * (10 ^ 19 * 2 ^ K74) < 10 ^ K346 := by decide +kernel
theorem least_of {P : Nat → Prop} : ∀ n, P n → ∃ v, P v ∧ ∀ u, u < v → ¬ P u := by
  intro n
  induction n using Nat.strongRecOn with
  | ind n ih =>
    intro h
    by_cases h2 : ∃ m, m < n ∧ P m
    · obtain ⟨m, h3, h4⟩ := h2
      exact ih m h3 h4
    · exact ⟨n, h, fun u hu hp => h2 ⟨u, hu, hp⟩⟩
theorem V_ge (u : Nat) : u ≤ V u := by
  induction u with
  | zero => exact Nat.zero_le _
  | succ u ih => have := V_lt (show u < u + 1 by omega); omega
theorem near_exists (N D : Nat) (hD : 0 < D) : ∃ u, Near N D u := by
  obtain ⟨v, hv, hmin⟩ := least_of (P := fun v => 2 * N < (V v + V (v + 1)) * D) (2 * N + 1) (by
    have h1 := V_ge (2 * N + 1)
    have h2 : (2 * N + 1) * 1 ≤ (V (2 * N + 1) + V (2 * N + 1 + 1)) * D := Nat.mul_le_mul (by omega) hD
    show 2 * N < _
    omega)
  rcases Nat.eq_zero_or_pos v with h | h
  · subst h; exact ⟨0, .inl rfl, .inl hv⟩
  · have h1 := hmin (v - 1) (by omega)
    rw [show v - 1 + 1 = v by omega] at h1
    rcases Nat.lt_or_eq_of_le (Nat.le_of_not_lt h1) with h2 | h2
    · exact ⟨v, .inr (.inl h2), .inl hv⟩
    · rcases Nat.mod_two_eq_zero_or_one v with h3 | h3
      · exact ⟨v, .inr (.inr ⟨h2, h3⟩), .inl hv⟩
      · refine ⟨v - 1, ?_, .inr ⟨by rw [show v - 1 + 1 = v by omega]; exact h2.symm, by omega⟩⟩
        rcases Nat.eq_zero_or_pos (v - 1) with h4 | h4
        · exact .inl h4
        · right; left
          rw [← h2]
          refine Nat.mul_lt_mul_of_pos_right ?_ hD
          have a := V_lt (show v - 1 - 1 < v - 1 by omega)
          have b := V_lt (show v - 1 < v by omega)
          omega
/-- Past 310 the float is infinite. -/
theorem far_up {d u : Nat} {q : Int} (h0 : 0 < d) (hq : 310 < q) (hu : Near (valN d q) (valD q) u) : infR ≤ u := by
  refine inf_of (valD_pos _) ?_ hu
  unfold valN valD
  rw [if_pos (by omega), if_pos (by omega)]
  refine Nat.lt_of_lt_of_le big_311 (Nat.mul_le_mul_left 2 (Nat.mul_le_mul_right _ ?_))
  have hk := K311_eq
  have hkq : K311 ≤ q.toNat := by omega
  clear hk
  have : 10 ^ K311 ≤ 10 ^ q.toNat := Nat.pow_le_pow_right (by decide) hkq
  exact Nat.le_trans this (Nat.le_mul_of_pos_left _ h0)
/-- Below -345 it is nothing. -/
theorem far_down {d : Nat} {q : Int} (h0 : d ≤ 10 ^ 19) (hq : q < -345) : Near (valN d q) (valD q) 0 := by
  unfold valN valD
  rw [if_neg (by omega), if_neg (by omega), Nat.mul_one]
  refine ⟨.inl rfl, .inl ?_⟩
  rw [V_zero, show V (0 + 1) = 1 by decide, Nat.zero_add, Nat.one_mul]
  have hk := K346_eq
  have hkq : K346 ≤ (-q).toNat := by omega
  clear hk
  have h1 : 10 ^ K346 ≤ 10 ^ (-q).toNat := Nat.pow_le_pow_right (by decide) hkq
  refine Nat.lt_of_lt_of_le ?_ h1
  exact Nat.lt_of_le_of_lt (Nat.mul_le_mul_left 2 (Nat.mul_le_mul_right _ h0)) small_327
end Go.Proofs.YtgbldjbkapaclaaDoor.fl
