/- The contract of journal's reader.number: it reads what 'num' says. -/
import Derived.Test.YthhjnjghlmaicaaRows
import Derived.Test.YthhjnjghlmaicaaSpec
import Derived.WalkKit
import Derived.WalkLawsBesides
import Derived.WalkSpells
import Derived.Deep.QuietTactic
import Derived.BigQuiet
import Derived.Handy
import Derived.Lib.SlBytesConst
namespace Go.Proofs.Ythhjnjghlmaicaa.jr
open Go.ChangeShapes Go.WideShapes Go.ChangeAt Go.RowKit
open JSpec

def NumPost (r : R Int) (R0 : Nat) (g off len cap : Nat) (w : World) (e : Ending) (w' : World) : Prop :=
  match r with
  | .whole v c => e = .returned (.tuple #[.int .i64 v, .int .i64 0]) ∧ w' = w.setCell ⟨R0, 0, none⟩ (.slice (some ⟨g, off + c, none⟩) (len - c) (cap - c))
  | .ends => e = .returned (.tuple #[.int .i64 0, .int .i64 1]) ∧ w' = w
  | .wrong => e = .returned (.tuple #[.int .i64 0, .int .i64 2]) ∧ w' = w

theorem drop_cons {l : List Int} {k : Nat} (h : k < l.length) : l.drop k = l.getD k 0 :: l.drop (k + 1) := by
  rw [List.drop_eq_getElem_cons h]; simp [List.getD_eq_getElem?_getD, List.getElem?_eq_getElem h]

theorem digs_cons (least most x n : Int) (r : List Int) (i : Nat) : digs least most (x :: r) n i = (if 48 ≤ x ∧ x ≤ 57 then
      if n = 0 then .wrong
      else if most < 10 * max n 0 + (x - 48) ∨ 10 * max n 0 + (x - 48) < least then .wrong
      else digs least most r (10 * max n 0 + (x - 48)) (i + 1)
    else if x ≠ 13 ∨ n < 0 then .wrong
    else match r with
      | [] => .ends
      | y :: _ => if y ≠ 10 then .wrong else .whole n (i + 2)) := by rw [digs.eq_def]; rfl

section
variable {l : List Int} {k i : Nat} {x m least most : Int}
theorem digs_zero (h : k < l.length) (hx : l.getD k 0 = x) (h1 : 48 ≤ x) (h2 : x ≤ 57) (hm : m = 0) : digs least most (l.drop k) m i = .wrong := by
  rw [drop_cons h, hx, digs_cons, if_pos ⟨h1, h2⟩, if_pos hm]
theorem digs_out (h : k < l.length) (hx : l.getD k 0 = x) (h1 : 48 ≤ x) (h2 : x ≤ 57) (hm : ¬ m = 0) (ho : most < 10 * max m 0 + (x - 48) ∨ 10 * max m 0 + (x - 48) < least) : digs least most (l.drop k) m i = .wrong := by
  rw [drop_cons h, hx, digs_cons, if_pos ⟨h1, h2⟩, if_neg hm, if_pos ho]
theorem digs_on (h : k < l.length) (hx : l.getD k 0 = x) (h1 : 48 ≤ x) (h2 : x ≤ 57) (hm : ¬ m = 0) (ho : ¬ (most < 10 * max m 0 + (x - 48) ∨ 10 * max m 0 + (x - 48) < least)) : digs least most (l.drop k) m i = digs least most (l.drop (k + 1)) (10 * max m 0 + (x - 48)) (i + 1) := by
  rw [drop_cons h, hx, digs_cons, if_pos ⟨h1, h2⟩, if_neg hm, if_neg ho]
theorem digs_else (h : k < l.length) (hx : l.getD k 0 = x) (h1 : ¬ (48 ≤ x ∧ x ≤ 57)) (h2 : ¬ x = 13 ∨ m < 0) : digs least most (l.drop k) m i = .wrong := by
  rw [drop_cons h, hx, digs_cons, if_neg h1, if_pos h2]
theorem digs_cut (h : k < l.length) (hx : l.getD k 0 = 13) (hm : 0 ≤ m) (h3 : l.length ≤ k + 1) : digs least most (l.drop k) m i = .ends := by
  rw [drop_cons h, hx, digs_cons, if_neg (by omega), if_neg (by omega), List.drop_eq_nil_of_le h3]
theorem digs_bad (h : k < l.length) (hx : l.getD k 0 = 13) (hm : 0 ≤ m) (h3 : k + 1 < l.length) (hy : ¬ l.getD (k + 1) 0 = 10) : digs least most (l.drop k) m i = .wrong := by
  rw [drop_cons h, hx, digs_cons, if_neg (by omega), if_neg (by omega), drop_cons h3]
  exact if_pos hy
theorem digs_end (h : k < l.length) (hx : l.getD k 0 = 13) (hm : 0 ≤ m) (h3 : k + 1 < l.length) (hy : l.getD (k + 1) 0 = 10) : digs least most (l.drop k) m i = .whole m (i + 2) := by
  rw [drop_cons h, hx, digs_cons, if_neg (by omega), if_neg (by omega), drop_cons h3]
  exact if_neg (by simp only [hy, ne_eq, not_true_eq_false, not_false_eq_true])
end

theorem np_wrong {r : R Int} (h : r = .wrong) (R0 g off len cap : Nat) (w : World) : NumPost r R0 g off len cap w (.returned (.tuple #[.int .i64 0, .int .i64 2])) w := by subst h; exact ⟨rfl, rfl⟩
theorem np_ends {r : R Int} (h : r = .ends) (R0 g off len cap : Nat) (w : World) : NumPost r R0 g off len cap w (.returned (.tuple #[.int .i64 0, .int .i64 1])) w := by subst h; exact ⟨rfl, rfl⟩
theorem np_whole {r : R Int} {v : Int} {c : Nat} (h : r = .whole v c) (R0 g off len cap : Nat) (w : World) : NumPost r R0 g off len cap w (.returned (.tuple #[.int .i64 v, .int .i64 0])) (w.setCell ⟨R0, 0, none⟩ (.slice (some ⟨g, off + c, none⟩) (len - c) (cap - c))) := by subst h; exact ⟨rfl, rfl⟩


set_option maxRecDepth 100000 in
set_option maxHeartbeats 2000000 in
theorem number (l : List Int) (R0 g off cap : Nat) (sign least most : Int) (w : World)
    (hR : w.cell? ⟨R0, 0, none⟩ = some (.slice (some ⟨g, off, none⟩) l.length cap)) (hF : w.frozen? ⟨R0, 0, none⟩ = false)
    (hl : l.length < cap) (hcap : cap ≤ 9223372036854775807)
    (hc : ∀ i, i < l.length → w.cell? ⟨g, off + i, none⟩ = some (.int .u8 (l.getD i 0))) (hb : ∀ x ∈ l, 0 ≤ x ∧ x ≤ 255)
    (hs : 0 ≤ sign ∧ sign ≤ 255) (hle : 0 ≤ least ∧ least ≤ 1) (hmo : 0 ≤ most ∧ most ≤ 100000000) :
    Calls Try.prog 21 #[.pointer (some ⟨R0, 0, none⟩), .int .u8 sign, .int .i64 least, .int .i64 most] w (NumPost (num l sign least most) R0 g off l.length cap w) := by
  have hbn : ∀ i, i < l.length → 0 ≤ l.getD i 0 ∧ l.getD i 0 ≤ 255 := fun i hi => hb _ (by rw [List.getD_eq_getElem?_getD, List.getElem?_eq_getElem hi]; simp)
  clear hb
  have HC : Hid (∀ i, i < l.length → w.cell? ⟨g, off + i, none⟩ = some (.int .u8 (l.getD i 0))) := hc
  have HB : Hid (∀ i, i < l.length → 0 ≤ l.getD i 0 ∧ l.getD i 0 ≤ 255) := hbn
  clear hc hbn
  go_enter Try.func21, Try.ntmps21
  go_wp2
  go_loop [10, 18] (fun n i => ∃ (k : Nat) (m : Int), i = .int .i64 k ∧ n = .int .i64 m ∧ k ≤ l.length ∧ -1 ≤ m ∧ m ≤ 100000000 ∧ (k = 0 → m = -1) ∧ (0 < k → digs least most (l.drop k) m k = num l sign least most)) (fun _ i => l.length - (intOf i).toNat)
  case atStart => exact ⟨0, -1, rfl, rfl, by omega, by omega, by omega, fun _ => rfl, fun h => by omega⟩
  case round =>
    obtain ⟨k, m, rfl, rfl, hk, hm0, hm1, hz, hd⟩ := hrel
    by_cases hlt : k < l.length
    · obtain ⟨x, hx⟩ : ∃ x, l.getD k 0 = x := ⟨_, rfl⟩
      have hcx := HC.out k hlt
      have hbx := HB.out k hlt
      rw [hx] at hcx hbx
      have hlt' : (k : Int) < (l.length : Int) := by omega
      by_cases hk0 : k = 0
      · have hm : m = -1 := hz hk0
        subst hk0
        subst hm
        simp only [Nat.add_zero] at hcx
        have hlt0 : (0 : Int) < (l.length : Int) := by omega
        have HX : Hid (l.getD 0 0 = x) := hx
        clear hlt' hz hd hx
        by_cases hsx : x = sign
        · subst hsx
          go_wp2
          go_round
          case rel => 
            refine ⟨1, -1, by go_num, rfl, by omega, by omega, by omega, fun _ => rfl, fun _ => ?_⟩
            have := drop_cons hlt
            rw [List.drop_zero, HX.out] at this
            unfold num
            rw [this]
            simp
          case measure => simp [intOf]; omega
        · have : (x == sign) = false := by simpa using hsx
          go_wp2
          go_ret2
          have h2 : num l sign least most = .wrong := by
            have := drop_cons hlt
            rw [List.drop_zero, HX.out] at this
            unfold num
            rw [this]
            simp [hsx]
          rw [h2]
          exact ⟨rfl, rfl⟩
      · have hS : digs least most (l.drop k) m k = num l sign least most := hd (by omega)
        have HS : Hid (digs least most (l.drop k) m k = num l sign least most) := hS
        have hk0' : ((k : Int) == 0) = false := by simp; omega
        have hk0'' : (0 : Int) < (k : Int) := by omega
        have HX : Hid (l.getD k 0 = x) := hx
        clear hx hz hd hk0 hS
        by_cases hd1 : 48 ≤ x ∧ x ≤ 57
        · obtain ⟨hd1, hd2⟩ := hd1
          by_cases hm : m = 0
          · have HW : Hid (num l sign least most = .wrong) := by rw [← HS.out]; exact digs_zero hlt HX.out hd1 hd2 hm
            subst hm
            go_wp2
            go_ret2
            exact np_wrong HW.out _ _ _ _ _ _
          · have hm' : (m == 0) = false := by simpa using hm
            by_cases ho : most < 10 * max m 0 + (x - 48) ∨ 10 * max m 0 + (x - 48) < least
            · have HW : Hid (num l sign least most = .wrong) := by rw [← HS.out]; exact digs_out hlt HX.out hd1 hd2 hm ho
              by_cases hneg : m < 0
              · have e : max m 0 = 0 := by omega
                rw [e] at ho
                have HO : most < x - 48 ∨ x - 48 < least := by omega
                clear ho e
                rcases HO with ho | ho
                · go_wp2
                  go_ret2
                  exact np_wrong HW.out _ _ _ _ _ _
                · by_cases ho2 : most < x - 48
                  all_goals
                    go_wp2
                    go_ret2
                    exact np_wrong HW.out _ _ _ _ _ _
              · have e : max m 0 = m := by omega
                rw [e] at ho
                clear e
                rcases ho with ho | ho
                · go_wp2
                  go_ret2
                  exact np_wrong HW.out _ _ _ _ _ _
                · by_cases ho2 : most < 10 * m + (x - 48)
                  all_goals
                    go_wp2
                    go_ret2
                    exact np_wrong HW.out _ _ _ _ _ _
            · have HN : Hid (digs least most (l.drop (k + 1)) (10 * max m 0 + (x - 48)) (k + 1) = num l sign least most) := by rw [← HS.out]; exact (digs_on hlt HX.out hd1 hd2 hm ho).symm
              by_cases hneg : m < 0
              · have e : max m 0 = 0 := by omega
                have HE := show Hid (max m 0 = _) from e
                rw [e] at ho
                have ho1 : ¬ most < x - 48 := by omega
                have ho2 : ¬ x - 48 < least := by omega
                clear ho e
                go_wp2
                go_round
                case rel => exact ⟨k + 1, x - 48, by go_num, rfl, by omega, by omega, by omega, fun h => by omega, fun _ => by rw [← HN.out, HE.out]; simp⟩
                case measure => simp [intOf]; omega
              · have e : max m 0 = m := by omega
                have HE := show Hid (max m 0 = _) from e
                rw [e] at ho
                have ho1 : ¬ most < 10 * m + (x - 48) := by omega
                have ho2 : ¬ 10 * m + (x - 48) < least := by omega
                clear ho e
                go_wp2
                go_round
                case rel => exact ⟨k + 1, 10 * m + (x - 48), by go_num, rfl, by omega, by omega, by omega, fun h => by omega, fun _ => by rw [← HN.out, HE.out]⟩
                case measure => simp [intOf]; omega
        · by_cases he : ¬ x = 13 ∨ m < 0
          · have HW : Hid (num l sign least most = .wrong) := by rw [← HS.out]; exact digs_else hlt HX.out hd1 he
            by_cases hx13 : x = 13
            · subst hx13
              have hneg : m < 0 := by omega
              clear he hd1
              go_wp2
              go_ret2
              exact np_wrong HW.out _ _ _ _ _ _
            · have hx13' : (x == 13) = false := by simpa using hx13
              clear he
              by_cases h48 : 48 ≤ x
              · have h57 : ¬ x ≤ 57 := by omega
                clear hd1
                go_wp2
                go_ret2
                exact np_wrong HW.out _ _ _ _ _ _
              · clear hd1
                go_wp2
                go_ret2
                exact np_wrong HW.out _ _ _ _ _ _
          · have hx13 : x = 13 := by omega
            have hneg : ¬ m < 0 := by omega
            subst hx13
            clear he hd1
            by_cases hend : l.length ≤ k + 1
            · have HW : Hid (num l sign least most = .ends) := by rw [← HS.out]; exact digs_cut hlt HX.out (by omega) hend
              have he' : ((k : Int) + 1 == (l.length : Int)) = true := by simp; omega
              go_wp2
              go_ret2
              exact np_ends HW.out _ _ _ _ _ _
            · have he' : ((k : Int) + 1 == (l.length : Int)) = false := by simp; omega
              have hlt1 : (k : Int) + 1 < (l.length : Int) := by omega
              obtain ⟨y, hy⟩ : ∃ y, l.getD (k + 1) 0 = y := ⟨_, rfl⟩
              have hcy := HC.out (k + 1) (by omega)
              have hby := HB.out (k + 1) (by omega)
              rw [hy] at hcy hby
              by_cases hy10 : y = 10
              · subst hy10
                have HW : Hid (num l sign least most = .whole m (k + 2)) := by rw [← HS.out]; exact digs_end hlt HX.out (by omega) (by omega) hy
                clear hy
                go_wp2
                go_ret2
                exact np_whole HW.out _ _ _ _ _ _
              · have HW : Hid (num l sign least most = .wrong) := by rw [← HS.out]; exact digs_bad hlt HX.out (by omega) (by omega) (by rw [hy]; exact hy10)
                have hy10' : (y == 10) = false := by simpa using hy10
                clear hy
                go_wp2
                go_ret2
                exact np_wrong HW.out _ _ _ _ _ _
    · have HW : Hid (num l sign least most = .ends) := by
        by_cases h0 : k = 0
        · have : l = [] := List.eq_nil_of_length_eq_zero (by omega)
          subst this
          rfl
        · show num l sign least most = .ends
          rw [← hd (by omega), List.drop_eq_nil_of_le (by omega)]
          rfl
      have hlt' : (l.length : Int) ≤ (k : Int) := by omega
      clear hz hd hlt
      go_wp2
      go_ret2
      exact np_ends HW.out _ _ _ _ _ _
end Go.Proofs.Ythhjnjghlmaicaa.jr
