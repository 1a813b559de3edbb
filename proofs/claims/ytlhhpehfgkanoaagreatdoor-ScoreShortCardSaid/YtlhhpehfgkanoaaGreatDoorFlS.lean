/- The walk of the law ScoreRises. -/
import Derived.Test.YtlhhpehfgkanoaaGreatDoorFlP
import Derived.Test.YtlhhpehfgkanoaaGreatDoorFlE
import Derived.Laws.IdiomStrings
import Derived.Test.YtlhhpehfgkanoaaGreatDoorFlW
/- No decimal of fewer digits means a float than what is told of it. Plain. -/
namespace Go.Proofs.YtlhhpehfgkanoaaGreatDoor.fl
set_option linter.unusedVariables false
set_option linter.unusedSimpArgs false
theorem valN_lt' {a b : Nat} {q : Int} (h : valN a q < valN b q) : a < b := by
  rcases Nat.lt_or_ge a b with hh | hh
  · exact hh
  · exact absurd (valN_mono q hh) (Nat.not_le.2 h)
theorem near_own (u : Nat) : Near (V u) 1 u := by
  refine ⟨?_, .inl ?_⟩
  · rcases Nat.eq_zero_or_pos u with h | h
    · exact .inl h
    · have := V_lt (show u - 1 < u by omega)
      exact .inr (.inl (by omega))
  · have := V_lt (show u < u + 1 by omega)
    omega
/-- What lies between a decimal that means u and u means u. -/
theorem near_upto {n L u : Nat} {q Q : Int} (hn : Near (valN n q) (valD q) u) (h1 : valN n q * valD Q ≤ valN L Q * valD q) (h2 : valN L Q ≤ V u * valD Q) : Near (valN L Q) (valD Q) u := by
  obtain ⟨v, hv⟩ := near_exists (valN L Q) (valD Q) (valD_pos Q)
  have a := near_le (valD_pos q) (valD_pos Q) h1 hn hv
  have b := near_le (valD_pos Q) Nat.one_pos (by rw [Nat.mul_one]; exact h2) hv (near_own u)
  obtain rfl : u = v := by omega
  exact hv
theorem near_downto {n L u : Nat} {q Q : Int} (hn : Near (valN n q) (valD q) u) (h1 : valN L Q * valD q ≤ valN n q * valD Q) (h2 : V u * valD Q ≤ valN L Q) : Near (valN L Q) (valD Q) u := by
  obtain ⟨v, hv⟩ := near_exists (valN L Q) (valD Q) (valD_pos Q)
  have a := near_le (valD_pos Q) (valD_pos q) h1 hv hn
  have b := near_le Nat.one_pos (valD_pos Q) (by rw [Nat.mul_one]; exact h2) (near_own u) hv
  obtain rfl : u = v := by omega
  exact hv
theorem few_near {u n s : Nat} {p q : Int} {L : Nat} (ht : Top u p) (hf : FloorIs u (p - s) L) (hs : 1 ≤ s) (hn : n < 10 ^ s) (hv : Near (valN n q) (valD q) u) : Near (valN L (p - s)) (valD (p - s)) u ∨ Near (valN (L + 1) (p - s)) (valD (p - s)) u := by
  obtain ⟨r1, r2⟩ := floor_range ht hf hs
  obtain ⟨Q, hQ⟩ : ∃ Q, p - (s : Int) = Q := ⟨_, rfl⟩
  rw [hQ] at hf ⊢
  clear hQ
  have dq := valD_pos q
  have dQ := valD_pos Q
  obtain ⟨f1, f2⟩ := hf
  rcases Int.le_total Q q with hle | hle
  · obtain ⟨j, rfl⟩ : ∃ j : Nat, q = Q + j := ⟨(q - Q).toNat, by omega⟩
    have hsh := val_shift n j Q
    rcases Nat.le_total (valN n (Q + j)) (V u * valD (Q + j)) with hc | hc
    · left
      have a1 : valN (n * 10 ^ j) Q ≤ V u * valD Q := by
        refine Nat.le_of_mul_le_mul_right ?_ dq
        rw [hsh, Nat.mul_right_comm]
        exact Nat.mul_le_mul_right _ hc
      have a2 := valN_lt' (Nat.lt_of_le_of_lt a1 f2)
      refine near_upto hv ?_ f1
      rw [← hsh]
      exact Nat.mul_le_mul_right _ (valN_mono Q (by omega))
    · rcases Nat.eq_or_lt_of_le hc with he | hc
      · left
        have a1 : valN (n * 10 ^ j) Q ≤ V u * valD Q := by
          refine Nat.le_of_mul_le_mul_right ?_ dq
          rw [hsh, Nat.mul_right_comm]
          exact Nat.mul_le_mul_right _ (Nat.le_of_eq he.symm)
        have a2 := valN_lt' (Nat.lt_of_le_of_lt a1 f2)
        refine near_upto hv ?_ f1
        rw [← hsh]
        exact Nat.mul_le_mul_right _ (valN_mono Q (by omega))
      · right
        have a1 : V u * valD Q < valN (n * 10 ^ j) Q := by
          refine Nat.lt_of_mul_lt_mul_right (a := valD (Q + j)) ?_
          rw [hsh, Nat.mul_right_comm]
          exact Nat.mul_lt_mul_of_pos_right hc dQ
        have a2 := valN_lt' (Nat.lt_of_le_of_lt f1 a1)
        refine near_downto hv ?_ (Nat.le_of_lt f2)
        rw [← hsh]
        exact Nat.mul_le_mul_right _ (valN_mono Q (by omega))
  · obtain ⟨j, rfl⟩ : ∃ j : Nat, Q = q + j := ⟨(Q - q).toNat, by omega⟩
    rcases Nat.eq_zero_or_pos j with hj | hj
    · subst hj
      rw [show q + ((0 : Nat) : Int) = q by omega] at f1 f2 ⊢
      rcases Nat.le_total (valN n q) (V u * valD q) with hc | hc
      · left
        have a2 := valN_lt' (Nat.lt_of_le_of_lt hc f2)
        exact near_upto hv (Nat.mul_le_mul_right _ (valN_mono q (by omega))) f1
      · rcases Nat.eq_or_lt_of_le hc with he | hc
        · left
          have a2 := valN_lt' (Nat.lt_of_le_of_lt (Nat.le_of_eq he.symm) f2)
          exact near_upto hv (Nat.mul_le_mul_right _ (valN_mono q (by omega))) f1
        · right
          have a2 := valN_lt' (Nat.lt_of_le_of_lt f1 hc)
          exact near_downto hv (Nat.mul_le_mul_right _ (valN_mono q (by omega))) (Nat.le_of_lt f2)
    · have hsh := val_shift L j q
      have hnL : n ≤ L * 10 ^ j := by
        have e1 : 10 ^ (s - 1) * 10 ^ 1 ≤ L * 10 ^ j := Nat.mul_le_mul r1 (Nat.pow_le_pow_right (by decide) hj)
        rw [← Nat.pow_add, show s - 1 + 1 = s by omega] at e1
        omega
      left
      refine near_upto hv ?_ f1
      rw [← hsh]
      exact Nat.mul_le_mul_right _ (valN_mono q hnL)
theorem ddg_le' {D k : Nat} (hk : 1 ≤ k) (h : D ≤ 10 ^ k) : (strip (ddg D)).length ≤ k := by
  rcases Nat.lt_or_ge D (10 ^ k) with hh | hh
  · obtain ⟨j, rfl⟩ : ∃ j, k = j + 1 := ⟨k - 1, by omega⟩
    have h1 := ddg_le (k := j) hh
    have h2 := strip_len (ddg D)
    omega
  · have e : D = 10 ^ k := by omega
    have e2 : ddg D = [49] ++ List.replicate k 48 := by
      have hz : ∀ z ∈ [49] ++ List.replicate k 48, isDig z := fun z hz => by
        rcases List.mem_append.1 hz with h | h
        · simp only [List.mem_singleton] at h; subst h; exact ⟨by decide, by decide⟩
        · rw [List.eq_of_mem_replicate h]; exact dig48
      have hv : dnum ([49] ++ List.replicate k 48) = 10 ^ k := by
        rw [dnum_append _ _ (digs_rep _ _ dig48), dnum_zeros, List.length_replicate, show dnum [49] = 1 from rfl]; try omega
      have := ddg_of (l := [49] ++ List.replicate k 48) (k := k) hz (by rw [List.length_append, List.length_replicate, List.length_singleton]; omega) (by rw [hv]; exact Nat.le_refl _)
      rw [hv] at this
      rw [e, ← this]
    have e3 : ∀ j, strip ([49] ++ List.replicate j 48) = [49] := by
      intro j
      induction j with
      | zero => rfl
      | succ j ih => rw [List.replicate_succ', ← List.append_assoc, strip_snoc, if_pos rfl, ih]
    rw [e2, e3]
    exact hk
/-- No decimal with fewer digits. -/
theorem sh_min {u n s : Nat} {d : List Nat} {p q : Int} (h : Sh u d p) (hs : 1 ≤ s) (hn : n < 10 ^ s) (hv : Near (valN n q) (valD q) u) : d.length ≤ s := by
  obtain ⟨p0, k, L, D, h1, h2, h3, h4, h5, rfl, _⟩ := h
  obtain ⟨r1, r2⟩ := floor_range h2 h4 h1
  have hD := pk_some h5
  have hk := ddg_le' h1 (show D ≤ 10 ^ k by omega)
  rcases Nat.lt_or_ge s k with hh | hh
  · exfalso
    obtain ⟨L', g1, g2⟩ := h3 s hs hh
    rcases few_near h2 g1 hs hn hv with g | g
    · rcases g2 with ⟨a, b, _⟩ | ⟨_, _, c⟩ | ⟨_, _, c⟩ | ⟨_, _, ⟨_, c⟩ | ⟨_, c⟩⟩
      · exact a g
      all_goals cases c
    · rcases g2 with ⟨a, b, _⟩ | ⟨_, _, c⟩ | ⟨_, _, c⟩ | ⟨_, _, ⟨_, c⟩ | ⟨_, c⟩⟩
      · exact b g
      all_goals cases c
  · omega
/-- The digits of a number without the noughts behind, and its power. -/
theorem strip_near {n u : Nat} {q : Int} (hv : Near (valN n q) (valD q) u) : ∃ (j : Nat), Near (valN (dnum (strip (ddg n))) (q + j)) (valD (q + j)) u ∧ (∀ c ∈ strip (ddg n), isDig c) := by
  obtain ⟨i1, i2, i3⟩ := strip_val _ (ddg_ok n).1
  rw [(ddg_ok n).2] at i2
  refine ⟨(ddg n).length - (strip (ddg n)).length, ?_, i1⟩
  have hsh := val_shift (dnum (strip (ddg n))) ((ddg n).length - (strip (ddg n)).length) q
  rw [i2] at hsh
  exact near_cross (valD_pos _) (valD_pos _) hsh hv
/-- .. so as told counts them. -/
theorem sh_told {u n : Nat} {d : List Nat} {p q : Int} (h : Sh u d p) (hn : 0 < n) (hv : Near (valN n q) (valD q) u) : d.length ≤ (strip (ddg n)).length := by
  obtain ⟨j, h1, h2⟩ := strip_near hv
  refine sh_min h ?_ (dnum_lt _ h2) h1
  have := strip_all (ddg_head hn) (ddg_pos n)
  cases hh : strip (ddg n) with
  | nil => exact absurd hh this
  | cons a t => simp
end Go.Proofs.YtlhhpehfgkanoaaGreatDoor.fl
/- How many digits a word tells: what the law's 'told' counts. Plain. -/
namespace Go.Proofs.YtlhhpehfgkanoaaGreatDoor.fl
set_option linter.unusedVariables false
set_option linter.unusedSimpArgs false
/-- One byte on: the digits from the first that is not 0, and where the last that is not 0 stands. -/
def toldStep (s : Nat × Nat) (c : Nat) : Nat × Nat := if c < 48 ∨ 57 < c ∨ (s.1 = 0 ∧ c = 48) then s else (s.1 + 1, if c ≠ 48 then s.1 + 1 else s.2)
def toldF (l : List Nat) : Nat × Nat := l.foldl toldStep (0, 0)
theorem toldF_snoc (l : List Nat) (c : Nat) : toldF (l ++ [c]) = toldStep (toldF l) c := by unfold toldF; rw [List.foldl_append]; rfl
/-- What told answers at a word: its part ahead of the e is looked at. -/
def ToldIs (l : List Nat) (n : Nat) : Prop := ∃ a x, l = a ++ x ∧ (∀ c ∈ a, c ≠ 101) ∧ (x = [] ∨ x.head? = some 101) ∧ n = (toldF a).2
theorem split_one {a x a' x' : List Nat} (h : a ++ x = a' ++ x') (h1 : ∀ c ∈ a, c ≠ 101) (h1' : ∀ c ∈ a', c ≠ 101) (h2 : x = [] ∨ x.head? = some 101) (h2' : x' = [] ∨ x'.head? = some 101) : a = a' := by
  induction a generalizing a' with
  | nil =>
    cases a' with
    | nil => rfl
    | cons c t =>
      exfalso
      rcases h2 with h2 | h2
      · subst h2; simp at h
      · rw [List.nil_append] at h
        rw [h] at h2
        simp at h2
        exact h1' c (by simp) h2
  | cons c t ih =>
    cases a' with
    | nil =>
      exfalso
      rcases h2' with h2' | h2'
      · subst h2'; simp at h
      · rw [List.nil_append] at h
        rw [← h] at h2'
        simp at h2'
        exact h1 c (by simp) h2'
    | cons c' t' =>
      simp only [List.cons_append, List.cons.injEq] at h
      obtain ⟨rfl, h⟩ := h
      rw [ih h (fun z hz => h1 z (by simp [hz])) (fun z hz => h1' z (by simp [hz]))]
theorem ToldIs.unique {l : List Nat} {n m : Nat} (h : ToldIs l n) (g : ToldIs l m) : n = m := by
  obtain ⟨a, x, rfl, h1, h2, rfl⟩ := h
  obtain ⟨a', x', e, g1, g2, rfl⟩ := g
  rw [split_one e h1 g1 h2 g2]
theorem toldF_filter : ∀ (l : List Nat) (s : Nat × Nat), l.foldl toldStep s = (l.filter isDigB).foldl toldStep s
  | [], s => rfl
  | c :: t, s => by
    by_cases h : isDigB c = true
    · rw [List.filter_cons_of_pos h]
      exact toldF_filter t _
    · rw [List.filter_cons_of_neg h, List.foldl_cons]
      have : toldStep s c = s := by
        unfold toldStep
        unfold isDigB at h
        simp only [Bool.and_eq_true, decide_eq_true_eq] at h
        rw [if_pos (by omega)]
      rw [this]
      exact toldF_filter t s
theorem told_zeros (i : Nat) : (List.replicate i 48).foldl toldStep (0, 0) = (0, 0) := by
  induction i with
  | zero => rfl
  | succ i ih => rw [List.replicate_succ, List.foldl_cons]; exact ih
theorem told_tail : ∀ (k : Nat) (s : Nat × Nat), ((List.replicate k 48).foldl toldStep s).2 = s.2
  | 0, s => rfl
  | k + 1, s => by
    rw [List.replicate_succ, List.foldl_cons, told_tail k]
    unfold toldStep
    split
    · rfl
    · simp
theorem told_le : ∀ (l : List Nat) (s : Nat × Nat), s.2 ≤ s.1 → (l.foldl toldStep s).2 ≤ (l.foldl toldStep s).1 ∧ (l.foldl toldStep s).1 ≤ s.1 + l.length
  | [], s, h => ⟨h, Nat.le_refl _⟩
  | c :: t, s, h => by
    have h1 : (toldStep s c).2 ≤ (toldStep s c).1 ∧ (toldStep s c).1 ≤ s.1 + 1 := by
      unfold toldStep
      split
      · exact ⟨h, by omega⟩
      · constructor
        · simp only; split <;> omega
        · exact Nat.le_refl _
    have h2 := told_le t (toldStep s c) h1.1
    rw [List.foldl_cons, List.length_cons]
    exact ⟨h2.1, by omega⟩
theorem told_lay {d : List Nat} (i k : Nat) {a : List Nat} (h : a.filter isDigB = List.replicate i 48 ++ d ++ List.replicate k 48) : (toldF a).2 ≤ d.length := by
  unfold toldF
  rw [toldF_filter, h, List.foldl_append, told_tail, List.foldl_append, told_zeros]
  have := told_le d (0, 0) (Nat.le_refl _)
  omega
theorem told_digs (d : List Nat) (hd : ∀ c ∈ d, isDig c) (h0 : 0 < d.length) (hh : d.getD 0 0 ≠ 48) : toldF d = (d.length, (strip d).length) := by
  have key : ∀ n, ∀ d : List Nat, d.length = n + 1 → (∀ c ∈ d, isDig c) → d.getD 0 0 ≠ 48 → toldF d = (d.length, (strip d).length) := by
    intro n
    induction n with
    | zero =>
      intro d hl hd hh
      match d, hl with
      | [c], _ =>
        simp at hh
        have hc := hd c (by simp)
        unfold isDig at hc
        have e : toldF [c] = toldStep (0, 0) c := rfl
        rw [e]
        unfold toldStep
        rw [if_neg (by simp; omega), if_pos hh, show [c] = [] ++ [c] from rfl, strip_snoc, if_neg hh]
        rfl
    | succ n ih =>
      intro d hl hd hh
      rcases List.eq_nil_or_concat d with e | ⟨t, c, e⟩
      · rw [e] at hl; simp at hl
      · rw [List.concat_eq_append] at e
        subst e
        have ht : t.length = n + 1 := by simpa using hl
        have hc := hd c (by simp)
        unfold isDig at hc
        have hh2 : t.getD 0 0 ≠ 48 := by
          rw [List.getD_eq_getElem?_getD, List.getElem?_append_left (by omega), ← List.getD_eq_getElem?_getD] at hh
          exact hh
        rw [toldF_snoc, ih t ht (fun z hz => hd z (by simp [hz])) hh2, strip_snoc]
        unfold toldStep
        rw [if_neg (by simp only; omega)]
        by_cases h48 : c = 48
        · rw [if_neg (by simp [h48]), if_pos h48]; simp
        · rw [if_pos h48, if_neg h48]; simp
  exact key (d.length - 1) d (by omega) hd hh
theorem filt_digs {d : List Nat} (hd : ∀ c ∈ d, isDig c) : d.filter isDigB = d := by
  rw [List.filter_eq_self]
  intro c hc
  have := hd c hc
  unfold isDig at this
  unfold isDigB
  simp only [Bool.and_eq_true, decide_eq_true_eq]
  omega
theorem dig_n101 {d : List Nat} (hd : ∀ c ∈ d, isDig c) : ∀ c ∈ d, c ≠ 101 := fun c hc => by
  have := hd c hc
  unfold isDig at this
  omega
theorem filt_48 (i : Nat) : (List.replicate i 48).filter isDigB = List.replicate i 48 := filt_digs (fun c hc => by rw [List.eq_of_mem_replicate hc]; exact ⟨by decide, by decide⟩)
theorem lay_told {d : List Nat} {p : Int} (hd : ∀ c ∈ d, isDig c) (s : List Nat) (hs : s = [] ∨ s = [45]) : ∃ n, ToldIs (s ++ layS d p) n ∧ n ≤ d.length := by
  have hs2 : s.filter isDigB = [] := by rcases hs with rfl | rfl <;> rfl
  have hs3 : ∀ c ∈ s, c ≠ 101 := by rcases hs with rfl | rfl <;> simp
  have mk : ∀ (a x : List Nat) (i k : Nat), layS d p = a ++ x → (∀ c ∈ a, c ≠ 101) → (x = [] ∨ x.head? = some 101) → a.filter isDigB = List.replicate i 48 ++ d ++ List.replicate k 48 → ∃ n, ToldIs (s ++ layS d p) n ∧ n ≤ d.length := by
    intro a x i k e h1 h2 h3
    refine ⟨_, ⟨s ++ a, x, by rw [e, List.append_assoc], ?_, h2, rfl⟩, told_lay i k ?_⟩
    · intro c hc
      rcases List.mem_append.1 hc with h | h
      · exact hs3 c h
      · exact h1 c h
    · rw [List.filter_append, hs2, List.nil_append, h3]
  have ht : ∀ n, ∀ c ∈ d.take n ++ [46] ++ d.drop n, c ≠ 101 := by
    intro n c hc
    simp only [List.append_assoc, List.mem_append, List.mem_singleton] at hc
    rcases hc with h | h | h
    · exact dig_n101 hd c (List.mem_of_mem_take h)
    · omega
    · exact dig_n101 hd c (List.mem_of_mem_drop h)
  have hf : ∀ n, (d.take n ++ [46] ++ d.drop n).filter isDigB = d := by
    intro n
    rw [List.filter_append, List.filter_append, show [46].filter isDigB = [] from rfl, List.append_nil, ← List.filter_append, List.take_append_drop, filt_digs hd]
  have hr : ∀ n, ∀ c ∈ List.replicate n 48, c ≠ 101 := fun n c hc => by rw [List.eq_of_mem_replicate hc]; decide
  by_cases c1 : p < -4 ∨ 17 < p
  · refine mk (if 1 < d.length then d.take 1 ++ [46] ++ d.drop 1 else d) ([101, if p < 1 then 45 else 43] ++ (if max (p - 1) (1 - p) < 10 then [48] else []) ++ ddg (max (p - 1) (1 - p)).toNat) 0 0 ?_ ?_ (.inr rfl) ?_
    · unfold layS
      rw [if_pos c1]
      simp only [List.append_assoc]
    · split
      · exact ht 1
      · exact dig_n101 hd
    · rw [List.replicate_zero, List.nil_append, List.append_nil]
      split
      · exact hf 1
      · exact filt_digs hd
  · by_cases c2 : p ≤ 0
    · refine mk ([48, 46] ++ List.replicate (-p).toNat 48 ++ d) [] (1 + (-p).toNat) 0 ?_ ?_ (.inl rfl) ?_
      · unfold layS
        rw [if_neg c1, if_pos c2, List.append_nil]
      · intro c hc
        simp only [List.mem_append, List.mem_cons, List.not_mem_nil, or_false] at hc
        rcases hc with ((h | h) | h) | h
        · omega
        · omega
        · exact hr _ c h
        · exact dig_n101 hd c h
      · rw [List.filter_append, List.filter_append, filt_48, filt_digs hd, show [48, 46].filter isDigB = [48] from rfl, List.replicate_zero, List.append_nil, Nat.add_comm, List.replicate_succ]
        rfl
    · by_cases c3 : (d.length : Int) ≤ p
      · refine mk (d ++ List.replicate (p - d.length).toNat 48) [] 0 (p - d.length).toNat ?_ ?_ (.inl rfl) ?_
        · unfold layS
          rw [if_neg c1, if_neg c2, if_pos c3, List.append_nil]
        · intro c hc
          rcases List.mem_append.1 hc with h | h
          · exact dig_n101 hd c h
          · exact hr _ c h
        · rw [List.filter_append, filt_48, filt_digs hd, List.replicate_zero, List.nil_append]
      · refine mk (d.take p.toNat ++ [46] ++ d.drop p.toNat) [] 0 0 ?_ (ht _) (.inl rfl) ?_
        · unfold layS
          rw [if_neg c1, if_neg c2, if_neg c3, List.append_nil]
        · rw [hf, List.replicate_zero, List.nil_append, List.append_nil]
/-- What told says of a number and a power. -/
theorem num_told {n : Nat} (hn : 0 < n) (x : List Nat) (hx : x = [] ∨ x.head? = some 101) : ToldIs (ddg n ++ x) (strip (ddg n)).length :=
  ⟨ddg n, x, rfl, dig_n101 (ddg_ok n).1, hx, by rw [told_digs _ (ddg_ok n).1 (ddg_pos n) (ddg_head hn)]⟩
/-- The law, plainly. -/
theorem short_law {n u x : Nat} {q : Int} {t e : List Nat} (hn : 0 < n) (he : e = [] ∨ e.head? = some 101) (h0 : 0 < u) (hu : u < infR) (hx : x % 9223372036854775808 = u) (hv : Near (valN n q) (valD q) u) (hp : PrintIs x t) {a c : Nat} (ha : ToldIs t a) (hc : ToldIs (ddg n ++ e) c) : a ≤ c := by
  unfold PrintIs at hp
  rw [hx, if_neg (by omega), if_neg (by omega), if_neg (by omega)] at hp
  obtain ⟨d, p, hs, rfl⟩ := hp
  have hd := (sh_says h0 hu hs).1
  obtain ⟨m, m1, m2⟩ := lay_told (p := p) hd (if 9223372036854775808 ≤ x then [45] else []) (by split; exact .inr rfl; exact .inl rfl)
  obtain rfl := ha.unique m1
  obtain rfl := hc.unique (num_told hn e he)
  exact Nat.le_trans m2 (sh_told hs hn hv)
end Go.Proofs.YtlhhpehfgkanoaaGreatDoor.fl
/- The words that the laws write: that they are decimals, and which. Plain. -/
namespace Go.Proofs.YtlhhpehfgkanoaaGreatDoor.fl
set_option linter.unusedVariables false
set_option linter.unusedSimpArgs false
/-- The law's power as a word. -/
def powL (q : Int) : List Nat := if q < 0 then 101 :: 45 :: ddg (q.natAbs % 100000) else 101 :: ddg (q.natAbs % 100000)
def powQ (q : Int) : Int := if q < 0 then -((q.natAbs % 100000 : Nat) : Int) else ((q.natAbs % 100000 : Nat) : Int)
/-- A word is a decimal: its sign, its digits' number, its power. -/
structure WSays (t : List Nat) (neg : Bool) (D : Nat) (q : Int) : Prop where
  inf : infB (unsign t) = false
  neg : isNeg t = neg
  dec : decB (unsign t) = true
  val : valN (dnum (manL (unsign t))) (wq (manL (unsign t)) (expV (expL (unsign t)))) * valD q = valN D q * valD (wq (manL (unsign t)) (expV (expL (unsign t))))
  asc : Asc t
  short : t.length ≤ 64
theorem head_low {l : List Nat} (h : ∃ c t, l = c :: t ∧ c < 65 ∧ c ≠ 43 ∧ c ≠ 45) : unsign l = l ∧ isNeg l = false ∧ infB l = false ∧ unsign (45 :: l) = l ∧ isNeg (45 :: l) = true ∧ unsign (43 :: l) = l ∧ isNeg (43 :: l) = false := by
  obtain ⟨c, t, rfl, h1, h2, h3⟩ := h
  refine ⟨?_, ?_, ?_, rfl, rfl, rfl, rfl⟩
  · show (if c = 43 ∨ c = 45 then t else c :: t) = _
    rw [if_neg (by omega)]
  · unfold isNeg; simp; omega
  · unfold infB foldIs low1
    have : ¬ (65 ≤ c ∧ c ≤ 90) := by omega
    simp [this]
    constructor <;> intro h <;> omega
theorem exp_form0 {e : List Nat} (he : ∀ c ∈ e, isDig c) (h1 : 1 ≤ e.length) (h5 : e.length ≤ 5) : expB (101 :: e) = true ∧ expV (101 :: e) = dnum e := by
  obtain ⟨c, t, rfl, hc⟩ := head_digs he h1
  have hcc := hc
  unfold isDig at hcc
  have hu : unsign (c :: t) = c :: t := by
    show (if c = 43 ∨ c = 45 then t else c :: t) = c :: t
    rw [if_neg (by omega)]
  have hn := ndig_app (c :: t) [] he nodig_nil
  rw [List.append_nil] at hn
  refine ⟨?_, ?_⟩
  · unfold expB
    simp only [List.drop_succ_cons, List.drop_zero, hu, hn, List.head?_cons]
    simp at h5 ⊢; omega
  · unfold expV isNeg
    simp only [List.isEmpty_cons, List.drop_succ_cons, List.drop_zero, hu, List.head?_cons]
    have : (some c == some 45) = false := by simp; omega
    rw [this]
    rfl
theorem ddg_5 (r : Nat) (h : r < 100000) : 1 ≤ (ddg r).length ∧ (ddg r).length ≤ 5 := ⟨ddg_pos r, ddg_le (k := 4) h⟩
theorem pow_form (q : Int) : expB (powL q) = true ∧ expV (powL q) = powQ q := by
  have hr : q.natAbs % 100000 < 100000 := Nat.mod_lt _ (by decide)
  obtain ⟨a, b⟩ := ddg_5 _ hr
  have hk := ddg_ok (q.natAbs % 100000)
  unfold powL powQ
  by_cases h : q < 0
  · rw [if_pos h, if_pos h]
    have := exp_form (g := 45) (.inr rfl) hk.1 a b
    rw [if_pos rfl, hk.2] at this
    exact this
  · rw [if_neg h, if_neg h]
    have := exp_form0 hk.1 a b
    rw [hk.2] at this
    exact this
theorem pow_head (q : Int) : (powL q).head? = some 101 ∧ (powL q).length ≤ 7 ∧ Asc (powL q) := by
  have hr : q.natAbs % 100000 < 100000 := Nat.mod_lt _ (by decide)
  obtain ⟨a, b⟩ := ddg_5 _ hr
  have hk := (ddg_ok (q.natAbs % 100000)).1
  have ha : Asc (ddg (q.natAbs % 100000)) := fun c hc => by have := hk c hc; unfold isDig at this; omega
  unfold powL
  by_cases h : q < 0
  · rw [if_pos h]
    refine ⟨rfl, by simp; omega, fun c hc => ?_⟩
    simp at hc
    rcases hc with h | h | h
    · omega
    · omega
    · exact ha c h
  · rw [if_neg h]
    refine ⟨rfl, by simp; omega, fun c hc => ?_⟩
    simp at hc
    rcases hc with h | h
    · omega
    · exact ha c h
theorem nodig_e {x : List Nat} (h : x = [] ∨ x.head? = some 101) : NoDig x ∧ x.head? ≠ some 46 := by
  rcases h with rfl | h
  · exact ⟨nodig_nil, by simp⟩
  · exact ⟨fun c hc => by rw [h] at hc; simp at hc; omega, by rw [h]; simp⟩
theorem asc_digs {d : List Nat} (hd : ∀ c ∈ d, isDig c) : Asc d := fun c hc => by have := hd c hc; unfold isDig at this; omega
theorem asc_app {a c : List Nat} (h1 : Asc a) (h2 : Asc c) : Asc (a ++ c) := fun z hz => by
  rcases List.mem_append.1 hz with h | h
  · exact h1 z h
  · exact h2 z h
/-- Digits, and perhaps a power. -/
theorem wsays_a {a x : List Nat} (s : List Nat) (neg : Bool) (hs : s = [] ∧ neg = false ∨ s = [45] ∧ neg = true ∨ s = [43] ∧ neg = false) (ha : ∀ c ∈ a, isDig c) (h0 : 0 < a.length) (hx : x = [] ∨ x.head? = some 101) (he : x = [] ∨ expB x = true) (hxa : Asc x) (hl : a.length + x.length ≤ 60) : WSays (s ++ (a ++ x)) neg (dnum a) (expV x) := by
  obtain ⟨n1, n2⟩ := nodig_e hx
  obtain ⟨h1, h2, h3, h4, h5⟩ := form_a ha n1 n2
  obtain ⟨c, t, e, hc⟩ := head_digs ha h0
  unfold isDig at hc
  obtain ⟨u1, u2, u3, u4, u5, u6, u7⟩ := head_low (l := a ++ x) ⟨c, t ++ x, by rw [e]; rfl, by omega, by omega, by omega⟩
  have key : unsign (s ++ (a ++ x)) = a ++ x ∧ isNeg (s ++ (a ++ x)) = neg ∧ Asc (s ++ (a ++ x)) ∧ (s ++ (a ++ x)).length ≤ 64 := by
    have hasc := asc_app (asc_digs ha) hxa
    rcases hs with ⟨rfl, rfl⟩ | ⟨rfl, rfl⟩ | ⟨rfl, rfl⟩
    · exact ⟨u1, u2, hasc, by simp; omega⟩
    · exact ⟨u4, u5, asc_app (by intro z hz; simp at hz; omega) hasc, by simp; omega⟩
    · exact ⟨u6, u7, asc_app (by intro z hz; simp at hz; omega) hasc, by simp; omega⟩
  obtain ⟨k1, k2, k3, k4⟩ := key
  refine ⟨by rw [k1]; exact u3, k2, ?_, ?_, k3, k4⟩
  · rw [k1]
    unfold decB
    rw [h3, h4]
    simp only [Bool.and_eq_true, decide_eq_true_eq, Bool.or_eq_true]
    exact ⟨h0, he.elim (fun e => .inl (by rw [e]; rfl)) .inr⟩
  · rw [k1, h5, h3]
    have hm := (rf_ok (mant_digs a ha)).frac0 rfl
    have : wq a (expV x) = expV x := by unfold wq; rw [hm]; simp
    rw [this]
/-- A number and a power. -/
theorem wsays_num (n : Nat) (hn : n < 18446744073709551616) (q : Int) (s : List Nat) (neg : Bool) (hs : s = [] ∧ neg = false ∨ s = [45] ∧ neg = true) : WSays (s ++ (ddg n ++ powL q)) neg n (powQ q) := by
  obtain ⟨p1, p2⟩ := pow_form q
  obtain ⟨p3, p4, p5⟩ := pow_head q
  have hl : (ddg n).length ≤ 20 := ddg_le (k := 19) (Nat.lt_trans hn (by decide))
  have := wsays_a s neg (by rcases hs with h | h; exact .inl h; exact .inr (.inl h)) (ddg_ok n).1 (ddg_pos n) (.inr p3) (.inr p1) p5 (by omega)
  rw [p2, (ddg_ok n).2] at this
  exact this
/-- A number alone. -/
theorem wsays_whole (n : Nat) (hn : n < 18446744073709551616) : WSays (ddg n) false n 0 := by
  have hl : (ddg n).length ≤ 20 := ddg_le (k := 19) (Nat.lt_trans hn (by decide))
  have := wsays_a (x := []) [] false (.inl ⟨rfl, rfl⟩) (ddg_ok n).1 (ddg_pos n) (.inl rfl) (.inl rfl) (fun c h => by simp at h) (by simp; omega)
  rw [(ddg_ok n).2, List.append_nil, List.nil_append] at this
  exact this
/-- A number with noughts around it. -/
theorem wsays_wide (n : Nat) (hn : n < 18446744073709551616) : WSays ([43] ++ (([48, 48, 48] ++ ddg n ++ [48, 48, 48]) ++ [101, 45, 51])) false (n * 1000) (-3) := by
  have hl : (ddg n).length ≤ 20 := ddg_le (k := 19) (Nat.lt_trans hn (by decide))
  have h3 : ∀ c ∈ [48, 48, 48], isDig c := by intro c hc; simp at hc; subst hc; exact dig48
  have hd : ∀ c ∈ [48, 48, 48] ++ ddg n ++ [48, 48, 48], isDig c := by
    intro c hc
    rcases List.mem_append.1 hc with h | h
    · rcases List.mem_append.1 h with h | h
      · exact h3 c h
      · exact (ddg_ok n).1 c h
    · exact h3 c h
  have := wsays_a (x := [101, 45, 51]) [43] false (.inr (.inr ⟨rfl, rfl⟩)) hd (by simp) (.inr rfl) (.inr (by decide)) (by intro c hc; simp at hc; omega) (by simp; omega)
  have hv : dnum ([48, 48, 48] ++ ddg n ++ [48, 48, 48]) = n * 1000 := by
    rw [dnum_append _ _ h3, dnum_append _ _ (ddg_ok n).1, (ddg_ok n).2]
    have e1 : dnum [48, 48, 48] = 0 := rfl
    rw [e1]
    simp
  rw [hv, show expV [101, 45, 51] = -3 by decide] at this
  exact this
/-- A number with a point in it, and a power that takes it away. -/
theorem wsays_dot (n k : Nat) (hn : n < 18446744073709551616) (hk : k ≤ (ddg n).length) : WSays ((ddg n).take k ++ 46 :: ((ddg n).drop k ++ 101 :: ddg ((ddg n).length - k))) false n 0 := by
  have hl : (ddg n).length ≤ 20 := ddg_le (k := 19) (Nat.lt_trans hn (by decide))
  have hd := (ddg_ok n).1
  obtain ⟨j, hj⟩ : ∃ j, (ddg n).length - k = j := ⟨_, rfl⟩
  have hj5 := ddg_5 j (by omega)
  have hjd := (ddg_ok j).1
  have ha : ∀ c ∈ (ddg n).take k, isDig c := fun c hc => hd c (List.mem_of_mem_take hc)
  have hc : ∀ c ∈ (ddg n).drop k, isDig c := fun c hc => hd c (List.mem_of_mem_drop hc)
  rw [hj]
  obtain ⟨x1, x2⟩ := exp_form0 hjd hj5.1 hj5.2
  rw [(ddg_ok j).2] at x2
  have hx : NoDig (101 :: ddg j) := nodig_cons (by omega)
  obtain ⟨h1, h2, h3, h4, h5⟩ := form_b ha hc hx
  have hcl : ((ddg n).drop k).length = j := by rw [List.length_drop]; exact hj
  have hal : ((ddg n).take k).length = k := by rw [List.length_take]; omega
  have hhead : ∃ c t, (ddg n).take k ++ 46 :: ((ddg n).drop k ++ 101 :: ddg j) = c :: t ∧ c < 65 ∧ c ≠ 43 ∧ c ≠ 45 := by
    cases he : (ddg n).take k with
    | nil => exact ⟨46, _, rfl, by omega, by omega, by omega⟩
    | cons c t =>
      have := ha c (by rw [he]; simp)
      unfold isDig at this
      exact ⟨c, _, rfl, by omega, by omega, by omega⟩
  obtain ⟨u1, u2, u3, _⟩ := head_low hhead
  have hw := dec_wq ((ddg n).take k ++ 46 :: ((ddg n).drop k ++ 101 :: ddg j))
  rw [h2, h3, x2, hcl, Int.sub_self] at hw
  have hp : 0 < (ddg n).length := ddg_pos n
  refine ⟨by rw [u1]; exact u3, u2, ?_, ?_, ?_, ?_⟩
  · rw [u1]
    unfold decB
    rw [h3, h4]
    simp only [Bool.and_eq_true, decide_eq_true_eq, Bool.or_eq_true]
    exact ⟨by omega, .inr x1⟩
  · rw [u1, h3, x2, hw, h5, dnum_dot, List.take_append_drop, (ddg_ok n).2]
  · refine asc_app (asc_digs ha) ?_
    intro c hcm
    simp only [List.mem_cons, List.mem_append] at hcm
    rcases hcm with h | h | h | h
    · omega
    · exact asc_digs hc c h
    · omega
    · exact asc_digs hjd c h
  · rw [List.length_append, List.length_cons, List.length_append, List.length_cons, hal, hcl]
    omega
end Go.Proofs.YtlhhpehfgkanoaaGreatDoor.fl
/- The walks of the laws' decimal, power and told. -/
namespace Go.Proofs.YtlhhpehfgkanoaaGreatDoor.fl
open Go.ChangeShapes Go.WideShapes Go.ChangeAt Go.RowKit
set_option linter.unusedVariables false
set_option linter.unusedSimpArgs false
theorem byteStr (W : World) (v : Nat) (hv : v < 256) : (convert 66 9 (.slice (some ⟨W.heap.size, 0, none⟩) 1 1)).run Tryz.prog (W.alloc (.cells #[.int .u8 (v : Int)] 5)) = .ok (.string ⟨#[UInt8.ofNat v]⟩) (W.alloc (.cells #[.int .u8 (v : Int)] 5)) := by
  refine run_convert_bytes_back (P := Tryz.prog) (W.alloc (.cells #[.int .u8 (v : Int)] 5)) 66 9 5 ⟨W.heap.size, 0, none⟩ 1 [UInt8.ofNat v] Tryz.underlying66 Tryz.underlying5 Tryz.underlying9 ?_
  intro j hj
  obtain rfl : j = 0 := by simpa using hj
  have : (UInt8.ofNat v).toNat = v := by simp; omega
  simp only [List.getElem_cons_zero, this]
  go_simp
def DecPost (n : Nat) (w : World) (e : Ending) (w' : World) : Prop := ∃ t : ByteArray, e = .returned (.string t) ∧ bl t = ddg n ∧ Below w.heap.size w w'
theorem bl_byte (v : Nat) (hv : v < 256) (s : ByteArray) : bl (⟨#[UInt8.ofNat v]⟩ ++ s) = v :: bl s := by
  unfold bl
  have : (UInt8.ofNat v).toNat = v := by simp; omega
  simp [this]
set_option maxHeartbeats 1000000 in
set_option maxRecDepth 100000 in
theorem decC (n : Nat) (w : World) (hn : n < 18446744073709551616) :
    Calls Tryz.prog 15 #[.int .u64 n] w (DecPost n w) := by
  have hL : Hid ((ddg n).length ≤ 20) := fhid (ddg_le (k := 19) (Nat.lt_trans hn (by decide)))
  go_enter Tryz.func15, Tryz.ntmps15
  go_wp2_with fail
  go_loopw [0, 3] (fun x t wr => ∃ (k : Nat) (s : ByteArray), x = .int .u64 k ∧ t = .string s ∧ k < 18446744073709551616 ∧ Hid (ddg n = ddg k ++ bl s) ∧ s.size ≤ 100 ∧ Hid (Below w.heap.size w wr)) (fun x _ _ => (intOf x).toNat)
  case atStart => exact ⟨n, ⟨#[]⟩, rfl, rfl, hn, fhid (by rw [show bl ⟨#[]⟩ = [] from rfl, List.append_nil]), by decide, fhid (Below.refl _ _)⟩
  case round =>
    obtain ⟨k, s, rfl, rfl, hk, hE, hs, hB⟩ := hrel
    by_cases hbig : 10 ≤ k
    · have g1 : (10 : Int) ≤ (k : Int) := by omega
      have hcv := byteStr wr (48 + k % 10) (by omega)
      have hci : ((48 + k % 10 : Nat) : Int) = 48 + (k : Int) % 10 := by omega
      rw [hci] at hcv
      have hE2 : Hid (ddg n = ddg (k / 10) ++ bl (⟨#[UInt8.ofNat (48 + k % 10)]⟩ ++ s)) := fhid (by rw [bl_byte _ (by omega), hE.out, ddg_big (by omega), List.append_assoc, Nat.add_comm]; rfl)
      obtain ⟨c, hc⟩ : ∃ c : UInt8, UInt8.ofNat (48 + k % 10) = c := ⟨_, rfl⟩
      rw [hc] at hcv hE2
      have hB2 : Hid (Below w.heap.size w (wr.alloc (.cells #[.int .u8 (48 + (k : Int) % 10)] 5))) := fhid (hB.out.alloc hB.out.size _)
      have hs2 : (⟨#[c]⟩ ++ s : ByteArray).size ≤ 100 := by
        have h1 := congrArg List.length hE2.out
        rw [List.length_append, bl_length] at h1
        have := hL.out
        omega
      clear hc
      go_wp2_with fail
      exact ⟨⟨k / 10, _, rfl, rfl, by omega, hE2, hs2, hB2⟩, by simp [intOf]; omega⟩
    · have g1 : ¬ (10 : Int) ≤ (k : Int) := by omega
      have hcv := byteStr wr (48 + k) (by omega)
      have hci : ((48 + k : Nat) : Int) = 48 + (k : Int) := by omega
      rw [hci] at hcv
      have hE2 : Hid (bl (⟨#[UInt8.ofNat (48 + k)]⟩ ++ s) = ddg n) := fhid (by rw [bl_byte _ (by omega), hE.out, ddg_small (by omega), Nat.add_comm]; rfl)
      obtain ⟨c, hc⟩ : ∃ c : UInt8, UInt8.ofNat (48 + k) = c := ⟨_, rfl⟩
      rw [hc] at hcv hE2
      have hB2 : Hid (Below w.heap.size w (wr.alloc (.cells #[.int .u8 (48 + (k : Int))] 5))) := fhid (hB.out.alloc hB.out.size _)
      clear hc
      go_wp2_with fail
      go_ret
      exact ⟨_, rfl, hE2.out, hB2.out⟩
def PwPost (q : Int) (w : World) (e : Ending) (w' : World) : Prop := ∃ t : ByteArray, e = .returned (.string t) ∧ bl t = powL q ∧ Below w.heap.size w w'
theorem bl_app (s t : ByteArray) : bl (s ++ t) = bl s ++ bl t := by unfold bl; simp
set_option maxHeartbeats 1000000 in
set_option maxRecDepth 100000 in
theorem powC (q : Int) (w : World) (hq : -9223372036854775808 ≤ q ∧ q < 9223372036854775808) :
    Calls Tryz.prog 16 #[.int .i64 q] w (PwPost q w) := by
  obtain ⟨k, hk⟩ : ∃ k, q.natAbs = k := ⟨_, rfl⟩
  unfold PwPost powL
  rw [hk]
  have hc := decC (k % 100000) w (by omega)
  by_cases hneg : q < 0
  · have ht : -(q.tmod 100000) = ((k % 100000 : Nat) : Int) := by
      obtain rfl : q = -(k : Int) := by omega
      rw [Int.neg_tmod, Int.neg_neg]
      rfl
    rw [if_pos hneg]
    obtain ⟨r, hr⟩ : ∃ r, k % 100000 = r := ⟨_, rfl⟩
    rw [hr] at ht hc ⊢
    have hrb : r < 100000 := by omega
    clear hr hk
    go_enter Tryz.func16, Tryz.ntmps16
    go_wp2_with fail
    refine hc.mono ?_
    rintro e w1 ⟨t, rfl, hbt, hB⟩
    have hts : t.size ≤ 5 := by rw [← bl_length, hbt]; exact (ddg_5 r hrb).2
    have HT := fhid hbt
    have HB := fhid hB
    clear hbt hB hc
    go_wp2_with fail
    go_ret
    exact ⟨_, rfl, by rw [bl_app, HT.out]; rfl, HB.out⟩
  · have ht : q.tmod 100000 = ((k % 100000 : Nat) : Int) := by
      obtain rfl : q = (k : Int) := by omega
      rfl
    rw [if_neg hneg]
    obtain ⟨r, hr⟩ : ∃ r, k % 100000 = r := ⟨_, rfl⟩
    rw [hr] at ht hc ⊢
    have hrb : r < 100000 := by omega
    clear hr hk
    go_enter Tryz.func16, Tryz.ntmps16
    go_wp2_with fail
    refine hc.mono ?_
    rintro e w1 ⟨t, rfl, hbt, hB⟩
    have hts : t.size ≤ 5 := by rw [← bl_length, hbt]; exact (ddg_5 r hrb).2
    have HT := fhid hbt
    have HB := fhid hB
    clear hbt hB hc
    go_wp2_with fail
    go_ret
    exact ⟨_, rfl, by rw [bl_app, HT.out]; rfl, HB.out⟩
/-- The law's told. -/
theorem toldF_bound (l : List Nat) : (toldF l).2 ≤ l.length ∧ (toldF l).1 ≤ l.length := by
  have := told_le l (0, 0) (Nat.le_refl _)
  unfold toldF
  omega
set_option maxHeartbeats 1000000 in
set_option maxRecDepth 100000 in
theorem toldC (s : ByteArray) (w : World) (hs : s.size ≤ 1000) :
    Calls Tryz.prog 17 #[.string s] w fun e w' => ∃ n, ToldIs (bl s) n ∧ e = .returned (.int .i64 (n : Int)) ∧ w' = w := by
  obtain ⟨N, hN⟩ : ∃ N, s.size = N := ⟨_, rfl⟩
  go_enter Tryz.func17, Tryz.ntmps17
  go_wp2_with fail
  go_loopw [3, 4, 5] (fun x y i wr => ∃ (j n l : Nat), j ≤ N ∧ x = .int .i64 n ∧ y = .int .i64 l ∧ i = .int .i64 j ∧ Hid (toldF ((bl s).take j) = (n, l)) ∧ Hid (∀ c ∈ (bl s).take j, c ≠ 101) ∧ n ≤ 1000 ∧ wr = w) (fun _ _ i _ => N - (intOf i).toNat)
  case atStart => exact ⟨0, 0, 0, Nat.zero_le _, rfl, rfl, rfl, fhid rfl, fhid (by simp), by omega, rfl⟩
  case round =>
    obtain ⟨j, n, l, hj, rfl, rfl, rfl, hT, hA, hn, rfl⟩ := hrel
    by_cases hlt : j < N
    · have hjn : j < s.size := by omega
      have hat := bl_at s j hjn
      have hsn := take_snoc (m := bl s) (j := j) (by rw [bl_length]; exact hjn)
      obtain ⟨c, hc⟩ : ∃ c, (bl s).getD j 0 = c := ⟨_, rfl⟩
      rw [hc] at hat hsn
      by_cases h101 : c = 101
      · have hfin : Hid (∃ n', ToldIs (bl s) n' ∧ n' = l) := fhid ⟨l, ⟨(bl s).take j, (bl s).drop j, (List.take_append_drop _ _).symm, hA.out, .inr (by rw [List.head?_drop, ← h101, ← hc, List.getD_eq_getElem?_getD, List.getElem?_eq_getElem (by rw [bl_length]; exact hjn)]; rfl), by rw [hT.out]⟩, rfl⟩
        subst h101
        clear hT hA hsn hc
        go_wp2_with fail
        go_ret
        obtain ⟨n', q1, rfl⟩ := hfin.out
        exact ⟨n', q1, rfl, rfl⟩
      · have n101 : ((c : Int) != 101) = true := by simp; omega
        have hA2 : Hid (∀ z ∈ (bl s).take (j + 1), z ≠ 101) := fhid (fun z hz => by
          rw [hsn] at hz
          rcases List.mem_append.1 hz with h | h
          · exact hA.out z h
          · simp at h; omega)
        have hT2 : Hid (toldF ((bl s).take (j + 1)) = toldStep (n, l) c) := fhid (by rw [hsn, toldF_snoc, hT.out])
        have hj1 : (j : Int) < (N : Int) := by omega
        clear hsn hc hT hA
        by_cases hsk : c < 48 ∨ 57 < c ∨ (n = 0 ∧ c = 48)
        · have hT3 : Hid (toldF ((bl s).take (j + 1)) = (n, l)) := fhid (by rw [hT2.out]; unfold toldStep; rw [if_pos hsk])
          clear hT2
          by_cases q1 : c < 48
          · have g1 : (c : Int) < 48 := by omega
            go_wp2_with fail
            exact ⟨⟨j + 1, n, l, by omega, rfl, rfl, congrArg (Value.int IntKind.i64) (by omega), hT3, hA2, hn, trivial⟩, by simp [intOf]; omega⟩
          · have g1 : ¬ (c : Int) < 48 := by omega
            by_cases q2 : 57 < c
            · have g2 : (57 : Int) < c := by omega
              go_wp2_with fail
              exact ⟨⟨j + 1, n, l, by omega, rfl, rfl, congrArg (Value.int IntKind.i64) (by omega), hT3, hA2, hn, trivial⟩, by simp [intOf]; omega⟩
            · obtain ⟨rfl, rfl⟩ : n = 0 ∧ c = 48 := by omega
              go_wp2_with fail
              exact ⟨⟨j + 1, 0, l, by omega, rfl, rfl, congrArg (Value.int IntKind.i64) (by omega), hT3, hA2, by omega, trivial⟩, by simp [intOf]; omega⟩
        · have g1 : ¬ (c : Int) < 48 := by omega
          have g2 : ¬ (57 : Int) < c := by omega
          have hnb : n + 1 ≤ 1000 := by
            have := (toldF_bound ((bl s).take (j + 1))).2
            rw [hT2.out, List.length_take, bl_length] at this
            unfold toldStep at this
            rw [if_neg hsk] at this
            simp only at this
            omega
          by_cases q1 : c = 48
          · have hn0 : ((n : Int) == 0) = false := by simp; omega
            have hT3 : Hid (toldF ((bl s).take (j + 1)) = (n + 1, l)) := fhid (by rw [hT2.out]; unfold toldStep; rw [if_neg hsk, if_neg (by omega)])
            subst q1
            clear hT2
            go_wp2_with fail
            exact ⟨⟨j + 1, n + 1, l, by omega, congrArg (Value.int IntKind.i64) (by omega), rfl, congrArg (Value.int IntKind.i64) (by omega), hT3, hA2, by omega, trivial⟩, by simp [intOf]; omega⟩
          · have n48 : ((c : Int) == 48) = false := by simp; omega
            have n48' : ((c : Int) != 48) = true := by simp; omega
            have hT3 : Hid (toldF ((bl s).take (j + 1)) = (n + 1, n + 1)) := fhid (by rw [hT2.out]; unfold toldStep; rw [if_neg hsk, if_pos q1])
            clear hT2
            by_cases hn0 : n = 0
            · subst hn0
              go_wp2_with fail
              exact ⟨⟨j + 1, 1, 1, by omega, rfl, rfl, congrArg (Value.int IntKind.i64) (by omega), hT3, hA2, by omega, trivial⟩, by simp [intOf]; omega⟩
            · have hn0' : ((n : Int) == 0) = false := by simp; omega
              go_wp2_with fail
              exact ⟨⟨j + 1, n + 1, n + 1, by omega, congrArg (Value.int IntKind.i64) (by omega), congrArg (Value.int IntKind.i64) (by omega), congrArg (Value.int IntKind.i64) (by omega), hT3, hA2, by omega, trivial⟩, by simp [intOf]; omega⟩
    · have hjN : j = s.size := by omega
      have hfin : Hid (∃ n', ToldIs (bl s) n' ∧ n' = l) := fhid ⟨l, ⟨(bl s).take j, (bl s).drop j, (List.take_append_drop _ _).symm, hA.out, .inl (by rw [List.drop_eq_nil_iff, bl_length]; omega), by rw [hT.out]⟩, rfl⟩
      subst hjN
      clear hT hA
      go_wp2_with fail
      go_ret
      obtain ⟨n', q1, rfl⟩ := hfin.out
      exact ⟨n', q1, rfl, rfl⟩
end Go.Proofs.YtlhhpehfgkanoaaGreatDoor.fl
/- The walk of the law ScoreRises. -/
namespace Go.Proofs.YtlhhpehfgkanoaaGreatDoor.fl
open Go.ChangeShapes Go.WideShapes Go.ChangeAt Go.RowKit
set_option linter.unusedVariables false
set_option linter.unusedSimpArgs false
/-- What Parse answers at a decimal's word. -/
def PnPost (neg : Bool) (D : Nat) (q : Int) (w : World) (e : Ending) (w' : World) : Prop :=
  ∃ u, Near (valN D q) (valD q) u ∧ (u < infR ∧ e = .returned (.tuple #[.float .f64 (sgw neg + u), .int .i64 0]) ∨ infR ≤ u ∧ e = .returned (.tuple #[.float .f64 0, .int .i64 20])) ∧ Below w.heap.size w w'
theorem parseWord (t : ByteArray) (neg : Bool) (D : Nat) (q : Int) (w : World) (hw : WSays (bl t) neg D q) (hf : FO w) (hx : FX w) :
    Calls Tryz.prog 14 #[.string t] w (PnPost neg D q w) := by
  obtain ⟨h1, h2, h3, h4, h5, h6⟩ := hw
  rw [bl_length] at h6
  obtain ⟨sg, hsg, hcs⟩ := unsign_cases (bl t)
  have hd := dec_word (s := t) hsg hcs (by omega) h3
  refine (parseDecAt t w hf h6 h5 h1 h3 (fun n => ?_)).mono ?_
  · by_cases htr : (rf (manL (unsign (bl t)))).tr = true
    · exact atof64T t _ _ _ _ _ hd htr h6 (hf.drewN n) (hx.on (below_dn (Below.refl _ _) n)) (fun w => readFloatC t _ _ _ _ w hd)
    · exact atof64N t _ _ _ _ _ hd (by simpa using htr) (hf.drewN n) (fun w => readFloatC t _ _ _ _ w hd)
  · rintro e w' ⟨u, hu, hr, hb⟩
    rw [h2] at hr
    exact ⟨u, near_cross (valD_pos _) (valD_pos _) h4 hu, hr, hb⟩
def K280 : Nat := 280
theorem K280_eq : K280 = 280 := rfl
theorem big_280 : 18446744073709551616 * 10 ^ K280 * 2 ^ K74 ≤ V (infR - 1) := by decide +kernel
/-- A number of 64 bits with a power of at most 280 is not too great. -/
theorem not_far {n u : Nat} {q : Int} (hn : n < 18446744073709551616) (hq : q ≤ 280) (hu : Near (valN n q) (valD q) u) : u < infR := by
  have h1 : valN n q * 1 ≤ V (infR - 1) * valD q := by
    rw [Nat.mul_one]
    refine Nat.le_trans ?_ (Nat.le_mul_of_pos_right _ (valD_pos q))
    refine Nat.le_trans ?_ big_280
    rw [valN_pow]
    refine Nat.mul_le_mul_right _ (Nat.mul_le_mul (Nat.le_of_lt hn) (Nat.pow_le_pow_right (by decide) (by have := K280_eq; omega)))
  have := near_le (valD_pos q) Nat.one_pos h1 hu (near_own (infR - 1))
  have hi : infR = 9218868437227405312 := rfl
  omega
theorem near_rise {a b u v : Nat} {q : Int} (h : a ≤ b) (hu : Near (valN a q) (valD q) u) (hv : Near (valN b q) (valD q) v) : u ≤ v :=
  near_le (valD_pos q) (valD_pos q) (Nat.mul_le_mul_right _ (valN_mono q h)) hu hv
theorem powQ_mod (q : Int) : q.tmod 100000 = powQ q := by
  unfold powQ
  by_cases h : q < 0
  · rw [if_pos h]
    obtain ⟨k, rfl⟩ : ∃ k : Nat, q = -(k : Int) := ⟨q.natAbs, by omega⟩
    rw [Int.neg_tmod, show (-(k : Int)).natAbs = k by omega]
    rfl
  · rw [if_neg h]
    obtain ⟨k, rfl⟩ : ∃ k : Nat, q = (k : Int) := ⟨q.natAbs, by omega⟩
    rfl
theorem ord_rise {u v : Nat} (hu : u < infR) (hv : v < infR) (h : u ≤ v) : ∃ o, FloatKind.f64.format.order (sgw false + u) (sgw false + v) = some o ∧ o ≠ .gt := by
  refine ⟨_, order_val false false u v hu hv, ?_⟩
  rw [Ne, Int.compare_eq_gt]
  have := V_le h
  simp only [sI]
  simp
  omega
theorem ord_up0 {u : Nat} (hu : u < infR) : ∃ o, FloatKind.f64.format.order (sgw false + u) 0 = some o ∧ o ≠ .lt := by
  obtain ⟨o, h1, h2, h3⟩ := ord_zero false u hu
  refine ⟨o, h1, fun h => ?_⟩
  have := (h3.1 h).1
  cases this
theorem word_size {t : ByteArray} {n : Nat} (hn : n < 18446744073709551616) (h : bl t = ddg n) : t.size ≤ 20 := by
  rw [← bl_length, h]
  exact ddg_le (k := 19) (Nat.lt_trans hn (by decide))
theorem pow_size {t : ByteArray} {q : Int} (h : bl t = powL q) : t.size ≤ 7 := by
  rw [← bl_length, h]
  exact (pow_head q).2.1
set_option maxRecDepth 100000 in
set_option maxHeartbeats 1500000 in
theorem risesC (a b : Nat) (q : Int) (w : World) (hf : FS w) (hx : FX w) (ha : a < 18446744073709551616) (hb : b < 18446744073709551616) (hq : -9223372036854775808 ≤ q ∧ q < 9223372036854775808) :
    Calls Tryz.prog 5 #[.int .u64 a, .int .u64 b, .int .i64 q] w fun e w' => e = .returned (.bool true) ∧ Below w.heap.size w w' := by
  have HF := fhid hf
  have HX := fhid hx
  have cw := wakesC w hf
  clear hf hx
  go_enter Tryz.func5, Tryz.ntmps5
  go_wp2_with fail
  with_reducible refine cw.mono ?_
  clear cw
  rintro e w1 ⟨rfl, hb1⟩
  have B1 := fhid hb1
  clear hb1
  go_upto_if 17 with fail
  go_cut [0, 1] (fun x y wx => ∃ A C : Nat, x = .int .u64 (A : Int) ∧ y = .int .u64 (C : Int) ∧ A ≤ C ∧ C < 18446744073709551616 ∧ wx = w1)
  case first => as_aux_lemma =>
    by_cases h : b < a
    · have h' : (b : Int) < (a : Int) := by omega
      go_wp2_with fail
      go_meet
      exact ⟨b, a, rfl, rfl, by omega, ha, rfl⟩
    · have h' : ¬ (b : Int) < (a : Int) := by omega
      go_wp2_with fail
      go_meet
      exact ⟨a, b, rfl, rfl, by omega, hb, rfl⟩
  case rest => as_aux_lemma =>
    obtain ⟨A, C, rfl, rfl, hAC, hC, rfl⟩ := hcut
    have F1 := fhid (HF.out.on B1.out)
    have X1 := fhid (HX.out.on B1.out)
    have cA : Hid (∀ W, Calls Tryz.prog 15 #[.int .u64 (A : Int)] W (DecPost A W)) := fhid (fun W => decC A W (by omega))
    have cC : Hid (∀ W, Calls Tryz.prog 15 #[.int .u64 (C : Int)] W (DecPost C W)) := fhid (fun W => decC C W hC)
    have cq : Hid (∀ W, Calls Tryz.prog 16 #[.int .i64 q] W (PwPost q W)) := fhid (fun W => powC q W hq)
    have cP : Hid (∀ (t : ByteArray) (neg : Bool) (D : Nat) W, FS W → FX W → WSays (bl t) neg D (powQ q) → Calls Tryz.prog 14 #[.string t] W (PnPost neg D (powQ q) W)) := fhid (fun t neg D W h1 h2 h3 => parseWord t neg D _ W h3 h1.fo h2)
    have hA : A < 18446744073709551616 := by omega
    go_wp2_with fail
    with_reducible refine (cA.out _).mono ?_
    rintro e v2 ⟨t2, rfl, hbt2, hbb2⟩
    have hs2 := word_size hA hbt2
    have T2 := fhid hbt2
    have B2 : Hid (Below w.heap.size w v2) := fhid (B1.out.trans (hbb2.mono B1.out.size))
    clear hbt2 hbb2
    go_wp2_with fail
    with_reducible refine (cq.out _).mono ?_
    rintro e v3 ⟨t3, rfl, hbt3, hbb3⟩
    have hs3 := pow_size hbt3
    have T3 := fhid hbt3
    have B3 : Hid (Below w.heap.size w v3) := fhid (B2.out.trans (hbb3.mono B2.out.size))
    clear hbt3 hbb3
    have c4 := fhid (cP.out (t2 ++ t3) false A v3 (HF.out.on B3.out) (HX.out.on B3.out) (by rw [bl_app, T2.out, T3.out]; exact wsays_num A hA q [] false (.inl ⟨rfl, rfl⟩)))
    go_wp2_with fail
    with_reducible refine c4.out.mono ?_
    clear c4
    rintro e v4 ⟨u, hu, hr4, hbb4⟩
    have HU := fhid hu
    have R4 := fhid hr4
    have B4 : Hid (Below w.heap.size w v4) := fhid (B3.out.trans (hbb4.mono B3.out.size))
    clear hu hbb4 hr4
    obtain ⟨x1, c1, he1, hx1⟩ : ∃ (x1 : Nat) (c1 : Int), e = .returned (.tuple #[.float .f64 x1, .int .i64 c1]) ∧ (u < infR ∧ x1 = sgw false + u ∧ c1 = 0 ∨ infR ≤ u ∧ x1 = 0 ∧ c1 = 20) := by
      rcases R4.out with ⟨g1, g2⟩ | ⟨g1, g2⟩
      · exact ⟨_, _, g2, .inl ⟨g1, rfl, rfl⟩⟩
      · exact ⟨_, _, g2, .inr ⟨g1, rfl, rfl⟩⟩
    subst he1
    have C1 := fhid hx1
    clear hx1 R4
    go_wp2_with fail
    with_reducible refine (cC.out _).mono ?_
    rintro e v5 ⟨t5, rfl, hbt5, hbb5⟩
    have hs5 := word_size hC hbt5
    have T5 := fhid hbt5
    have B5 : Hid (Below w.heap.size w v5) := fhid (B4.out.trans (hbb5.mono B4.out.size))
    clear hbt5 hbb5
    go_wp2_with fail
    with_reducible refine (cq.out _).mono ?_
    rintro e v6 ⟨t6, rfl, hbt6, hbb6⟩
    have hs6 := pow_size hbt6
    have T6 := fhid hbt6
    have B6 : Hid (Below w.heap.size w v6) := fhid (B5.out.trans (hbb6.mono B5.out.size))
    clear hbt6 hbb6
    have c7 := fhid (cP.out (t5 ++ t6) false C v6 (HF.out.on B6.out) (HX.out.on B6.out) (by rw [bl_app, T5.out, T6.out]; exact wsays_num C hC q [] false (.inl ⟨rfl, rfl⟩)))
    go_wp2_with fail
    with_reducible refine c7.out.mono ?_
    clear c7
    rintro e v7 ⟨uc, hu, hr7, hbb7⟩
    have HV := fhid hu
    have R7 := fhid hr7
    have B7 : Hid (Below w.heap.size w v7) := fhid (B6.out.trans (hbb7.mono B6.out.size))
    clear hu hbb7 hr7
    obtain ⟨x2, c2, he2, hx2⟩ : ∃ (x2 : Nat) (c2 : Int), e = .returned (.tuple #[.float .f64 x2, .int .i64 c2]) ∧ (uc < infR ∧ x2 = sgw false + uc ∧ c2 = 0 ∨ infR ≤ uc ∧ x2 = 0 ∧ c2 = 20) := by
      rcases R7.out with ⟨g1, g2⟩ | ⟨g1, g2⟩
      · exact ⟨_, _, g2, .inl ⟨g1, rfl, rfl⟩⟩
      · exact ⟨_, _, g2, .inr ⟨g1, rfl, rfl⟩⟩
    subst he2
    have C2 := fhid hx2
    clear hx2 R7
    go_wp2_with fail
    with_reducible refine (cA.out _).mono ?_
    rintro e v8 ⟨t8, rfl, hbt8, hbb8⟩
    have hs8 := word_size hA hbt8
    have T8 := fhid hbt8
    have B8 : Hid (Below w.heap.size w v8) := fhid (B7.out.trans (hbb8.mono B7.out.size))
    clear hbt8 hbb8
    go_wp2_with fail
    with_reducible refine (cq.out _).mono ?_
    rintro e v9 ⟨t9, rfl, hbt9, hbb9⟩
    have hs9 := pow_size hbt9
    have T9 := fhid hbt9
    have B9 : Hid (Below w.heap.size w v9) := fhid (B8.out.trans (hbb9.mono B8.out.size))
    clear hbt9 hbb9
    have c10 := fhid (cP.out (⟨#[45]⟩ ++ t8 ++ t9) true A v9 (HF.out.on B9.out) (HX.out.on B9.out) (by rw [bl_app, bl_app, T8.out, T9.out, List.append_assoc]; exact wsays_num A hA q [45] true (.inr ⟨rfl, rfl⟩)))
    go_wp2_with fail
    with_reducible refine c10.out.mono ?_
    clear c10
    rintro e v10 ⟨u', hu, hr10, hbb10⟩
    obtain rfl := near_unique (valD_pos _) HU.out hu
    have R10 := fhid hr10
    have B10 : Hid (Below w.heap.size w v10) := fhid (B9.out.trans (hbb10.mono B9.out.size))
    clear hu hbb10 hr10
    obtain ⟨x3, c3, he3, hx3⟩ : ∃ (x3 : Nat) (c3 : Int), e = .returned (.tuple #[.float .f64 x3, .int .i64 c3]) ∧ (u < infR ∧ x3 = sgw true + u ∧ c3 = 0 ∨ infR ≤ u ∧ x3 = 0 ∧ c3 = 20) := by
      rcases R10.out with ⟨g1, g2⟩ | ⟨g1, g2⟩
      · exact ⟨_, _, g2, .inl ⟨g1, rfl, rfl⟩⟩
      · exact ⟨_, _, g2, .inr ⟨g1, rfl, rfl⟩⟩
    subst he3
    have C3 := fhid hx3
    clear hx3 R10
    have huv : u ≤ uc := near_rise hAC HU.out HV.out
    have hq1 : infR ≤ uc → 280 < powQ q := fun h => by
      rcases Int.lt_or_le 280 (powQ q) with g | g
      · exact g
      · have := not_far hC g HV.out
        omega
    rw [← powQ_mod] at hq1
    have HQ1 := fhid hq1
    clear hq1 HU HV cA cC cq cP T2 T3 T5 T6 T8 T9
    rcases C1.out with ⟨g1, rfl, rfl⟩ | ⟨g1, rfl, rfl⟩
    · obtain ⟨g3, rfl, rfl⟩ : u < infR ∧ x3 = sgw true + u ∧ c3 = 0 := by
        rcases C3.out with h | h
        · exact h
        · omega
      have hneg : Op.negFloat .f64 (sgw false + u) = sgw true + u := neg_any false u (by have : infR = 9218868437227405312 := rfl; omega)
      have hal : alikeB (sgw true + u) (sgw true + u) = true := alike_self _ (by
        unfold nanB
        have : infR = 9218868437227405312 := rfl
        rw [sgw_mod true u (by omega), decide_eq_false_iff_not]
        omega)
      have hxb : sgw true + u < 18446744073709551616 := by
        have : infR = 9218868437227405312 := rfl
        have : sgw true = 9223372036854775808 := rfl
        omega
      have cL : Hid (∀ W, Calls Tryz.prog 13 #[.float .f64 (sgw true + u), .float .f64 (sgw true + u)] W fun e w' => e = .returned (.bool true) ∧ W = w') := fhid (fun W => by have h := alikeC _ _ W hxb hxb; rw [hal] at h; exact h)
      clear hal hxb
      obtain ⟨o0, ho0, hn0⟩ := ord_up0 g1
      have hn0' : (o0 == .lt) = false := by cases o0 <;> first | rfl | exact absurd rfl hn0
      rcases C2.out with ⟨g2, rfl, rfl⟩ | ⟨g2, rfl, rfl⟩
      · obtain ⟨o, ho, hn⟩ := ord_rise g1 g2 huv
        have hn' : (o == .gt) = false := by cases o <;> first | rfl | exact absurd rfl hn
        obtain ⟨X, hX⟩ : ∃ X, sgw false + u = X := ⟨_, rfl⟩
        obtain ⟨Y, hY⟩ : ∃ X, sgw false + uc = X := ⟨_, rfl⟩
        obtain ⟨Z, hZ⟩ : ∃ X, sgw true + u = X := ⟨_, rfl⟩
        rw [hX, hZ] at hneg
        rw [hX] at ho0
        rw [hX, hY] at ho
        rw [hZ] at cL
        rw [hX, hY, hZ]
        clear hX hY hZ C1 C2 C3 huv g1 g2 g3 HQ1
        go_wp2_with fail
        with_reducible refine (cL.out _).mono ?_
        rintro e v11 ⟨rfl, rfl⟩
        go_wp2_with fail
        go_ret
        exact ⟨rfl, B10.out⟩
      · have hq2 := HQ1.out g2
        obtain ⟨X, hX⟩ : ∃ X, sgw false + u = X := ⟨_, rfl⟩
        obtain ⟨Z, hZ⟩ : ∃ X, sgw true + u = X := ⟨_, rfl⟩
        rw [hX, hZ] at hneg
        rw [hX] at ho0
        rw [hZ] at cL
        rw [hX, hZ]
        clear hX hZ C1 C2 C3 huv g1 g2 g3 HQ1
        go_wp2_with fail
        with_reducible refine (cL.out _).mono ?_
        rintro e v11 ⟨rfl, rfl⟩
        go_wp2_with fail
        go_ret
        exact ⟨rfl, B10.out⟩
    · obtain ⟨g2, rfl, rfl⟩ : infR ≤ uc ∧ x2 = 0 ∧ c2 = 20 := by
        rcases C2.out with h | h
        · omega
        · exact h
      obtain ⟨g3, rfl, rfl⟩ : infR ≤ u ∧ x3 = 0 ∧ c3 = 20 := by
        rcases C3.out with h | h
        · omega
        · exact h
      have hq2 := HQ1.out g2
      have ho00 : FloatKind.f64.format.order 0 0 = some .eq := ord_self false 0 (by decide)
      clear C1 C2 C3 huv g1 g2 g3 HQ1
      go_wp2_with fail
      go_ret
      exact ⟨rfl, B10.out⟩
end Go.Proofs.YtlhhpehfgkanoaaGreatDoor.fl
