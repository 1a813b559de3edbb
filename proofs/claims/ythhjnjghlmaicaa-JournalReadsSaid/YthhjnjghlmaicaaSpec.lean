/- What a journal's bytes say, in plain Lean: no program here. -/
namespace Go.Proofs.Ythhjnjghlmaicaa.JSpec

/-- What comes of a look at a place. -/
inductive R (α : Type) where
  | whole (a : α) (k : Nat)
  | ends
  | wrong

/-- The digits of a number, and the line's end: 'n' so far (below 0: none yet), 'i' bytes so far. -/
def digs (least most : Int) : List Int → Int → Nat → R Int
  | [], _, _ => .ends
  | x :: r, n, i =>
    if 48 ≤ x ∧ x ≤ 57 then
      if n = 0 then .wrong
      else if most < 10 * max n 0 + (x - 48) ∨ 10 * max n 0 + (x - 48) < least then .wrong
      else digs least most r (10 * max n 0 + (x - 48)) (i + 1)
    else if x ≠ 13 ∨ n < 0 then .wrong
    else match r with
      | [] => .ends
      | y :: _ => if y ≠ 10 then .wrong else .whole n (i + 2)

/-- A sign, a number, the line's end. -/
def num (l : List Int) (sign least most : Int) : R Int :=
  match l with
  | [] => .ends
  | x :: r => if x ≠ sign then .wrong else digs least most r (-1) 1

/-- So many bytes, and the line's end. -/
def text (l : List Int) (n : Nat) : R (List Int) :=
  if l.length ≤ n then .ends
  else if l.getD n 0 ≠ 13 then .wrong
  else if l.length ≤ n + 1 then .ends
  else if l.getD (n + 1) 0 ≠ 10 then .wrong
  else .whole (l.take n) (n + 2)

/-- 'c' words from the place 'k' on; the words that have 'bytes' bytes together stand already in 'acc'. -/
def words (bs : List Int) : Nat → Int → Nat → List (List Int) → R (List (List Int))
  | 0, _, k, acc => .whole acc k
  | c + 1, bytes, k, acc =>
    match num (bs.drop k) 36 0 (min 1048576 (4194304 - bytes)) with
    | .whole v a =>
      match text (bs.drop (k + a)) v.toNat with
      | .whole s b => words bs c (bytes + v) (k + a + b) (acc ++ [s])
      | .ends => .ends
      | .wrong => .wrong
    | .ends => .ends
    | .wrong => .wrong

/-- An effect from the place 'k' on. -/
def effect (bs : List Int) (k : Nat) : R (List (List Int)) :=
  match num (bs.drop k) 42 1 1024 with
  | .whole v a => words bs v.toNat 0 (k + a) []
  | .ends => .ends
  | .wrong => .wrong

/-- All effects from the place 'k' on: what was read, and how many bytes; none: they are no beginning. -/
def reads (bs : List Int) : Nat → Nat → List (List (List Int)) → Option (List (List (List Int)) × Nat)
  | 0, k, acc => some (acc, k)
  | f + 1, k, acc =>
    match effect bs k with
    | .whole ws k' => reads bs f k' (acc ++ [ws])
    | .ends => some (acc, k)
    | .wrong => none

theorem digs_len (least most : Int) : ∀ (l : List Int) (n : Int) (i : Nat) (v : Int) (c : Nat), digs least most l n i = .whole v c → i + 2 ≤ c ∧ c ≤ i + l.length ∧ 0 ≤ v ∧ (n ≤ most → v ≤ most)
  | [], _, _, _, _, h => by simp [digs] at h
  | x :: r, n, i, v, c, h => by
    unfold digs at h
    split at h
    · split at h
      · cases h
      · split at h
        · cases h
        · rename_i h1 h2 h3
          have := digs_len least most r _ _ _ _ h
          simp only [List.length_cons]
          omega
    · split at h
      · cases h
      · rename_i h1 h2
        split at h
        · cases h
        · split at h
          · cases h
          · simp only [R.whole.injEq] at h
            obtain ⟨rfl, rfl⟩ := h
            simp only [List.length_cons]
            omega

theorem num_len {l : List Int} {sign least most v : Int} {c : Nat} (hm : 0 ≤ most) (h : num l sign least most = .whole v c) : 3 ≤ c ∧ c ≤ l.length ∧ 0 ≤ v ∧ v ≤ most := by
  unfold num at h
  split at h
  · cases h
  · split at h
    · cases h
    · have := digs_len _ _ _ _ _ _ _ h
      simp only [List.length_cons]
      omega

theorem text_len {l : List Int} {n : Nat} {s : List Int} {c : Nat} (h : text l n = .whole s c) : c = n + 2 ∧ n + 2 ≤ l.length ∧ s = l.take n := by
  unfold text at h
  split at h
  · cases h
  · split at h
    · cases h
    · split at h
      · cases h
      · split at h
        · cases h
        · simp only [R.whole.injEq] at h
          exact ⟨h.2.symm, by omega, h.1.symm⟩

theorem words_len (bs : List Int) : ∀ (c : Nat) (bytes : Int) (k : Nat) (acc ws : List (List Int)) (k' : Nat), bytes ≤ 4194304 → k ≤ bs.length → words bs c bytes k acc = .whole ws k' → k ≤ k' ∧ k' ≤ bs.length ∧ ws.length = acc.length + c
  | 0, _, k, acc, ws, k', _, hk, h => by
    simp only [words, R.whole.injEq] at h
    obtain ⟨rfl, rfl⟩ := h
    exact ⟨Nat.le_refl _, hk, by omega⟩
  | c + 1, bytes, k, acc, ws, k', hb, hk, h => by
    unfold words at h
    split at h
    · rename_i v a hn
      have h1 := num_len (by omega) hn
      rw [List.length_drop] at h1
      split at h
      · rename_i s b ht
        have h2 := text_len ht
        rw [List.length_drop] at h2
        have := words_len bs c _ _ _ _ _ (by omega) (by omega) h
        simp only [List.length_append, List.length_cons, List.length_nil] at this
        omega
      · cases h
      · cases h
    · cases h
    · cases h

theorem effect_len {bs : List Int} {k k' : Nat} {ws : List (List Int)} (hk : k ≤ bs.length) (h : effect bs k = .whole ws k') : k < k' ∧ k' ≤ bs.length := by
  unfold effect at h
  split at h
  · rename_i v a hn
    have h1 := num_len (by omega) hn
    rw [List.length_drop] at h1
    have := words_len bs _ _ _ _ _ _ (by omega) (by omega) h
    omega
  · cases h
  · cases h

end Go.Proofs.Ythhjnjghlmaicaa.JSpec
