/- The contract of pantryref28.number: it reads what num says. -/
import Derived.Test.YthhjnjghlmaicaaNum
namespace Go.Proofs.Ythhjnjghlmaicaa.jr
open Go.ChangeShapes Go.WideShapes Go.ChangeAt Go.RowKit
open JSpec
set_option linter.unusedVariables false

def RNumPost (r : R Int) (p : Nat) (w : World) (e : Ending) (w' : World) : Prop :=
  match r with
  | .whole v c => e = .returned (.tuple #[.int .i64 v, .int .i64 ((p + c : Nat) : Int), .int .i64 0]) ∧ w' = w
  | .ends => e = .returned (.tuple #[.int .i64 0, .int .i64 0, .int .i64 1]) ∧ w' = w
  | .wrong => e = .returned (.tuple #[.int .i64 0, .int .i64 0, .int .i64 2]) ∧ w' = w
theorem rp_wrong {r : R Int} (h : r = .wrong) (p : Nat) (w : World) : RNumPost r p w (.returned (.tuple #[.int .i64 0, .int .i64 0, .int .i64 2])) w := by subst h; exact ⟨rfl, rfl⟩
theorem rp_ends {r : R Int} (h : r = .ends) (p : Nat) (w : World) : RNumPost r p w (.returned (.tuple #[.int .i64 0, .int .i64 0, .int .i64 1])) w := by subst h; exact ⟨rfl, rfl⟩
theorem rp_whole {r : R Int} {v q : Int} {c : Nat} (h : r = .whole v c) (p : Nat) (hq : q = ((p + c : Nat) : Int)) (w : World) : RNumPost r p w (.returned (.tuple #[.int .i64 v, .int .i64 q, .int .i64 0])) w := by subst h; subst hq; exact ⟨rfl, rfl⟩

/-- What holds behind k digits and a sign, at the place p. -/
def Mid (l : List Int) (sign least most : Int) (a0 p : Nat) (n : Int) : Prop :=
  (p = a0 + 1 → n = 0 ∧ digs least most (l.drop p) (-1) (p - a0) = num (l.drop a0) sign least most) ∧
  (a0 + 1 < p → (n = 0 ∧ 0 < least → num (l.drop a0) sign least most = .wrong) ∧ (¬ (n = 0 ∧ 0 < least) → digs least most (l.drop p) n (p - a0) = num (l.drop a0) sign least most))

section
variable {l : List Int} {sign least most : Int} {a0 p : Nat} {m x : Int}
theorem midA1 (h : Mid l sign least most a0 p m) (hp : p < l.length) (hx : l.getD p 0 = x) (h1 : 48 ≤ x) (h2 : x ≤ 57) (hq : a0 + 1 < p) (hm : m = 0) : num (l.drop a0) sign least most = .wrong := by
  by_cases hle : 0 < least
  · exact (h.2 hq).1 ⟨hm, hle⟩
  · rw [← (h.2 hq).2 (fun c => hle c.2)]
    exact digs_zero hp hx h1 h2 hm
theorem midA2 (h : Mid l sign least most a0 p m) (hp : p < l.length) (hx : l.getD p 0 = x) (h1 : 48 ≤ x) (h2 : x ≤ 57) (hq : a0 + 1 ≤ p) (hm0 : 0 ≤ m) (hm : ¬ (a0 + 1 < p ∧ m = 0)) (ho : most < 10 * m + (x - 48)) : num (l.drop a0) sign least most = .wrong := by
  by_cases he : p = a0 + 1
  · obtain ⟨rfl, e⟩ := h.1 he
    rw [← e]
    exact digs_out hp hx h1 h2 (by omega) (.inl (by rw [show max (-1 : Int) 0 = 0 from by decide]; exact ho))
  · rw [← (h.2 (by omega)).2 (fun c => hm ⟨by omega, c.1⟩)]
    have e : max m 0 = m := by omega
    exact digs_out hp hx h1 h2 (fun c => hm ⟨by omega, c⟩) (.inl (by rw [e]; exact ho))
theorem midA3 (h : Mid l sign least most a0 p m) (hp : p < l.length) (hx : l.getD p 0 = x) (h1 : 48 ≤ x) (h2 : x ≤ 57) (hq : a0 + 1 ≤ p) (hm0 : 0 ≤ m) (hm : ¬ (a0 + 1 < p ∧ m = 0)) (ho : ¬ most < 10 * m + (x - 48)) (hle : 0 ≤ least ∧ least ≤ 1) : Mid l sign least most a0 (p + 1) (10 * m + (x - 48)) := by
  refine ⟨fun c => by omega, fun _ => ?_⟩
  have ei : p + 1 - a0 = p - a0 + 1 := by omega
  by_cases he : p = a0 + 1
  · obtain ⟨rfl, e⟩ := h.1 he
    constructor
    · rintro ⟨c1, c2⟩
      rw [← e]
      exact digs_out hp hx h1 h2 (by omega) (.inr (by rw [show max (-1 : Int) 0 = 0 from by decide]; omega))
    · intro c
      rw [← e, ei]
      have := digs_on (i := p - a0) (least := least) (most := most) (m := -1) hp hx h1 h2 (by omega) (by rw [show max (-1 : Int) 0 = 0 from by decide]; omega)
      rw [this, show max (-1 : Int) 0 = 0 from by decide]
  · have hm' : ¬ m = 0 := fun c => hm ⟨by omega, c⟩
    constructor
    · rintro ⟨c1, c2⟩; omega
    · intro c
      have e : max m 0 = m := by omega
      rw [← (h.2 (by omega)).2 (fun c => hm' c.1), ei]
      have := digs_on (i := p - a0) (least := least) (most := most) (m := m) hp hx h1 h2 hm' (by rw [e]; omega)
      rw [this, e]
theorem midB1 (h : Mid l sign least most a0 p m) (hq : a0 + 1 < p) (hm : m = 0) (hle : 0 < least) : num (l.drop a0) sign least most = .wrong := (h.2 hq).1 ⟨hm, hle⟩
theorem midB2 (h : Mid l sign least most a0 p m) (hq : a0 + 1 ≤ p) (hb : ¬ (a0 + 1 < p ∧ m = 0 ∧ 0 < least)) (hp : p = l.length) : num (l.drop a0) sign least most = .ends := by
  by_cases he : p = a0 + 1
  · rw [← (h.1 he).2, List.drop_eq_nil_of_le (by omega)]; rfl
  · rw [← (h.2 (by omega)).2 (fun c => hb ⟨by omega, c.1, c.2⟩), List.drop_eq_nil_of_le (by omega)]; rfl
theorem midB3 (h : Mid l sign least most a0 p m) (hp : p < l.length) (hx : l.getD p 0 = x) (hd : ¬ (48 ≤ x ∧ x ≤ 57)) (hq : a0 + 1 ≤ p) (hb : ¬ (a0 + 1 < p ∧ m = 0 ∧ 0 < least)) (hc : p = a0 + 1 ∨ ¬ x = 13) : num (l.drop a0) sign least most = .wrong := by
  by_cases he : p = a0 + 1
  · rw [← (h.1 he).2]
    exact digs_else hp hx hd (.inr (by omega))
  · rw [← (h.2 (by omega)).2 (fun c => hb ⟨by omega, c.1, c.2⟩)]
    exact digs_else hp hx hd (.inl (by omega))
theorem midB4 (h : Mid l sign least most a0 p m) (hp : p < l.length) (hx : l.getD p 0 = 13) (hm0 : 0 ≤ m) (hq : a0 + 1 < p) (hb : ¬ (a0 + 1 < p ∧ m = 0 ∧ 0 < least)) (hc : p + 1 = l.length) : num (l.drop a0) sign least most = .ends := by
  rw [← (h.2 (by omega)).2 (fun c => hb ⟨by omega, c.1, c.2⟩)]
  exact digs_cut hp hx hm0 (by omega)
theorem midB5 {y : Int} (h : Mid l sign least most a0 p m) (hp : p < l.length) (hx : l.getD p 0 = 13) (hm0 : 0 ≤ m) (hq : a0 + 1 < p) (hb : ¬ (a0 + 1 < p ∧ m = 0 ∧ 0 < least)) (hc : p + 1 < l.length) (hy : l.getD (p + 1) 0 = y) (hy' : ¬ y = 10) : num (l.drop a0) sign least most = .wrong := by
  rw [← (h.2 (by omega)).2 (fun c => hb ⟨by omega, c.1, c.2⟩)]
  exact digs_bad hp hx hm0 hc (by rw [hy]; exact hy')
theorem midB6 (h : Mid l sign least most a0 p m) (hp : p < l.length) (hx : l.getD p 0 = 13) (hm0 : 0 ≤ m) (hq : a0 + 1 < p) (hb : ¬ (a0 + 1 < p ∧ m = 0 ∧ 0 < least)) (hc : p + 1 < l.length) (hy : l.getD (p + 1) 0 = 10) : num (l.drop a0) sign least most = .whole m (p - a0 + 2) := by
  rw [← (h.2 (by omega)).2 (fun c => hb ⟨by omega, c.1, c.2⟩)]
  exact digs_end hp hx hm0 hc hy
end

set_option maxRecDepth 100000 in
set_option maxHeartbeats 3000000 in
theorem rnumber (l : List Int) (a0 : Nat) (a : Option Addr) (g off cap : Nat) (sign least most : Int) (w : World)
    (hl : a0 ≤ l.length) (hlm : l.length ≤ 9223372036854775000) (ha : l ≠ [] → a = some ⟨g, off, none⟩)
    (hc : ∀ i, i < l.length → w.cell? ⟨g, off + i, none⟩ = some (.int .u8 (l.getD i 0))) (hb : ∀ x ∈ l, 0 ≤ x ∧ x ≤ 255)
    (hs : 0 ≤ sign ∧ sign ≤ 255) (hle : 0 ≤ least ∧ least ≤ 1) (hmo : 0 ≤ most ∧ most ≤ 100000000) :
    Calls Try.prog 23 #[.slice a l.length cap, .int .i64 (a0 : Int), .int .u8 sign, .int .i64 least, .int .i64 most] w (RNumPost (num (l.drop a0) sign least most) a0 w) := by
  have hbn : ∀ i, i < l.length → 0 ≤ l.getD i 0 ∧ l.getD i 0 ≤ 255 := fun i hi => hb _ (by rw [List.getD_eq_getElem?_getD, List.getElem?_eq_getElem hi]; simp)
  have HC : Hid (∀ i, i < l.length → w.cell? ⟨g, off + i, none⟩ = some (.int .u8 (l.getD i 0))) := hc
  have HB : Hid (∀ i, i < l.length → 0 ≤ l.getD i 0 ∧ l.getD i 0 ≤ 255) := hbn
  clear hc hbn hb
  by_cases hend : a0 = l.length
  · have HW : Hid (num (l.drop a0) sign least most = .ends) := by rw [List.drop_eq_nil_of_le (by omega)]; exact rfl
    have he : ((a0 : Int) == (l.length : Int)) = true := by simp; omega
    clear ha hend
    go_enter Try.func23, Try.ntmps23
    go_wp2
    go_ret3
    exact rp_ends HW.out _ _
  · have hlt0 : a0 < l.length := by omega
    have he : ((a0 : Int) == (l.length : Int)) = false := by simp; omega
    have hlt0' : (a0 : Int) < (l.length : Int) := by omega
    obtain rfl := ha (by intro e; subst e; simp at hlt0)
    clear ha hend
    obtain ⟨x, hx⟩ : ∃ x, l.getD a0 0 = x := ⟨_, rfl⟩
    have hcx := HC.out a0 hlt0
    have hbx := HB.out a0 hlt0
    rw [hx] at hcx hbx
    have hnum : num (l.drop a0) sign least most = if x ≠ sign then .wrong else digs least most (l.drop (a0 + 1)) (-1) 1 := by
      rw [drop_cons hlt0, hx]; rfl
    by_cases hsx : x = sign
    · subst hsx
      have HN : Hid (num (l.drop a0) x least most = digs least most (l.drop (a0 + 1)) (-1) 1) := hnum.trans (by simp)
      clear hnum hx
      go_enter Try.func23, Try.ntmps23
      go_wp2
      go_loop [1, 13] (fun at_ n => ∃ (p : Nat) (m : Int), at_ = .int .i64 p ∧ n = .int .i64 m ∧ a0 + 1 ≤ p ∧ p ≤ l.length ∧ 0 ≤ m ∧ m ≤ most ∧ Mid l x least most a0 p m) (fun at_ _ => l.length - (intOf at_).toNat)
      case atStart => exact ⟨a0 + 1, 0, by go_num, rfl, by omega, by omega, by omega, by omega, fun _ => ⟨rfl, by rw [HN.out]; congr 1; omega⟩, fun h => by omega⟩
      case round =>
        obtain ⟨p, m, rfl, rfl, hp1, hp2, hm0, hm1, hmid⟩ := hrel
        have HM : Hid (Mid l x least most a0 p m) := hmid
        clear hmid hcx hbx
        by_cases hlt : p < l.length
        · obtain ⟨y, hy⟩ : ∃ y, l.getD p 0 = y := ⟨_, rfl⟩
          have hcy := HC.out p hlt
          have hby := HB.out p hlt
          rw [hy] at hcy hby
          have HY : Hid (l.getD p 0 = y) := hy
          clear hy
          have hlt' : (p : Int) < (l.length : Int) := by omega
          have hne : ((p : Int) == (l.length : Int)) = false := by simp; omega
          by_cases hd : 48 ≤ y ∧ y ≤ 57
          · obtain ⟨hd1, hd2⟩ := hd
            by_cases hq : a0 + 1 < p
            · have hq' : (a0 : Int) + 1 < (p : Int) := by omega
              by_cases hm : m = 0
              · have HW : Hid (num (l.drop a0) x least most = .wrong) := midA1 HM.out hlt HY.out hd1 hd2 hq hm
                subst hm
                go_wp2
                go_ret3
                exact rp_wrong HW.out _ _
              · have hm' : (m == 0) = false := by simpa using hm
                by_cases ho : most < 10 * m + (y - 48)
                · have HW : Hid (num (l.drop a0) x least most = .wrong) := midA2 HM.out hlt HY.out hd1 hd2 hp1 hm0 (by omega) ho
                  go_wp2
                  go_ret3
                  exact rp_wrong HW.out _ _
                · have HM' : Hid (Mid l x least most a0 (p + 1) (10 * m + (y - 48))) := midA3 HM.out hlt HY.out hd1 hd2 hp1 hm0 (by omega) ho hle
                  go_wp2
                  go_round
                  case rel => exact ⟨p + 1, 10 * m + (y - 48), by go_num, rfl, by omega, by omega, by omega, by omega, HM'.out⟩
                  case measure => simp [intOf]; omega
            · have hq' : (p : Int) ≤ (a0 : Int) + 1 := by omega
              have hm : m = 0 := (HM.out.1 (by omega)).1
              subst hm
              by_cases ho : most < y - 48
              · have HW : Hid (num (l.drop a0) x least most = .wrong) := midA2 HM.out hlt HY.out hd1 hd2 hp1 hm0 (by omega) (by omega)
                go_wp2
                go_ret3
                exact rp_wrong HW.out _ _
              · have HM' : Hid (Mid l x least most a0 (p + 1) (10 * 0 + (y - 48))) := midA3 HM.out hlt HY.out hd1 hd2 hp1 hm0 (by omega) (by omega) hle
                go_wp2
                go_round
                case rel => exact ⟨p + 1, y - 48, by go_num, rfl, by omega, by omega, by omega, by omega, by have := HM'.out; simpa using this⟩
                case measure => simp [intOf]; omega
          · by_cases h48 : 48 ≤ y
            · have h57 : ¬ y ≤ 57 := by omega
              have HD : Hid (¬ (48 ≤ y ∧ y ≤ 57)) := hd
              have hy13' : (y == 13) = false := by simp; omega
              by_cases hb1 : a0 + 1 < p ∧ m = 0 ∧ 0 < least
              · have HW : Hid (num (l.drop a0) x least most = .wrong) := midB1 HM.out hb1.1 hb1.2.1 hb1.2.2
                obtain ⟨hq, rfl, hle0⟩ := hb1
                have hq' : (a0 : Int) + 1 < (p : Int) := by omega
                clear hd
                go_wp2
                go_ret3
                exact rp_wrong HW.out _ _
              · have HW : Hid (num (l.drop a0) x least most = .wrong) := midB3 HM.out hlt HY.out hd hp1 hb1 (.inr (by omega))
                clear hd
                by_cases hq : a0 + 1 < p
                · have hq' : (a0 : Int) + 1 < (p : Int) := by omega
                  have hpe : ((p : Int) == (a0 : Int) + 1) = false := by simp; omega
                  by_cases hm : m = 0
                  · have hle0 : ¬ 0 < least := by omega
                    subst hm
                    clear hb1
                    go_wp2
                    go_ret3
                    exact rp_wrong HW.out _ _
                  · have hm' : (m == 0) = false := by simpa using hm
                    clear hb1
                    go_wp2
                    go_ret3
                    exact rp_wrong HW.out _ _
                · have hq' : (p : Int) ≤ (a0 : Int) + 1 := by omega
                  have hpe : ((p : Int) == (a0 : Int) + 1) = true := by simp; omega
                  clear hb1
                  go_wp2
                  go_ret3
                  exact rp_wrong HW.out _ _
            · have HD : Hid (¬ (48 ≤ y ∧ y ≤ 57)) := hd
              by_cases hb1 : a0 + 1 < p ∧ m = 0 ∧ 0 < least
              · have HW : Hid (num (l.drop a0) x least most = .wrong) := midB1 HM.out hb1.1 hb1.2.1 hb1.2.2
                obtain ⟨hq, rfl, hle0⟩ := hb1
                have hq' : (a0 : Int) + 1 < (p : Int) := by omega
                clear hd
                go_wp2
                go_ret3
                exact rp_wrong HW.out _ _
              · by_cases hq : a0 + 1 < p
                · have hq' : (a0 : Int) + 1 < (p : Int) := by omega
                  have hpe : ((p : Int) == (a0 : Int) + 1) = false := by simp; omega
                  by_cases hy13 : y = 13
                  · subst hy13
                    by_cases hend : p + 1 = l.length
                    · have HW : Hid (num (l.drop a0) x least most = .ends) := midB4 HM.out hlt HY.out hm0 hq hb1 hend
                      have hend' : ((p : Int) + 1 == (l.length : Int)) = true := by simp; omega
                      clear hend hd
                      by_cases hm : m = 0
                      · have hle0 : ¬ 0 < least := by omega
                        subst hm
                        clear hb1
                        go_wp2
                        go_ret3
                        exact rp_ends HW.out _ _
                      · have hm' : (m == 0) = false := by simpa using hm
                        clear hb1
                        go_wp2
                        go_ret3
                        exact rp_ends HW.out _ _
                    · have hend' : ((p : Int) + 1 == (l.length : Int)) = false := by simp; omega
                      have hlt1 : (p : Int) + 1 < (l.length : Int) := by omega
                      obtain ⟨z, hz⟩ : ∃ z, l.getD (p + 1) 0 = z := ⟨_, rfl⟩
                      have hcz := HC.out (p + 1) (by omega)
                      have hbz := HB.out (p + 1) (by omega)
                      rw [hz] at hcz hbz
                      by_cases hz10 : z = 10
                      · subst hz10
                        have HW : Hid (num (l.drop a0) x least most = .whole m (p - a0 + 2)) := midB6 HM.out hlt HY.out hm0 hq hb1 (by omega) hz
                        clear hz hd hend
                        by_cases hm : m = 0
                        · have hle0 : ¬ 0 < least := by omega
                          subst hm
                          clear hb1
                          go_wp2
                          go_ret3
                          exact rp_whole HW.out _ (show (p : Int) + 2 = _ by omega) _
                        · have hm' : (m == 0) = false := by simpa using hm
                          clear hb1
                          go_wp2
                          go_ret3
                          exact rp_whole HW.out _ (show (p : Int) + 2 = _ by omega) _
                      · have HW : Hid (num (l.drop a0) x least most = .wrong) := midB5 HM.out hlt HY.out hm0 hq hb1 (by omega) hz hz10
                        have hz' : (z == 10) = false := by simpa using hz10
                        clear hz hd hend
                        by_cases hm : m = 0
                        · have hle0 : ¬ 0 < least := by omega
                          subst hm
                          clear hb1
                          go_wp2
                          go_ret3
                          exact rp_wrong HW.out _ _
                        · have hm' : (m == 0) = false := by simpa using hm
                          clear hb1
                          go_wp2
                          go_ret3
                          exact rp_wrong HW.out _ _
                  · have HW : Hid (num (l.drop a0) x least most = .wrong) := midB3 HM.out hlt HY.out hd hp1 hb1 (.inr hy13)
                    have hy13' : (y == 13) = false := by simpa using hy13
                    clear hd
                    by_cases hm : m = 0
                    · have hle0 : ¬ 0 < least := by omega
                      subst hm
                      clear hb1
                      go_wp2
                      go_ret3
                      exact rp_wrong HW.out _ _
                    · have hm' : (m == 0) = false := by simpa using hm
                      clear hb1
                      go_wp2
                      go_ret3
                      exact rp_wrong HW.out _ _
                · have HW : Hid (num (l.drop a0) x least most = .wrong) := midB3 HM.out hlt HY.out hd hp1 hb1 (.inl (by omega))
                  have hq' : (p : Int) ≤ (a0 : Int) + 1 := by omega
                  have hpe : ((p : Int) == (a0 : Int) + 1) = true := by simp; omega
                  clear hb1 hd
                  go_wp2
                  go_ret3
                  exact rp_wrong HW.out _ _
        · have hlt' : (l.length : Int) ≤ (p : Int) := by omega
          have hne : ((p : Int) == (l.length : Int)) = true := by simp; omega
          by_cases hb1 : a0 + 1 < p ∧ m = 0 ∧ 0 < least
          · have HW : Hid (num (l.drop a0) x least most = .wrong) := midB1 HM.out hb1.1 hb1.2.1 hb1.2.2
            obtain ⟨hq, rfl, hle0⟩ := hb1
            have hq' : (a0 : Int) + 1 < (p : Int) := by omega
            go_wp2
            go_ret3
            exact rp_wrong HW.out _ _
          · have HW : Hid (num (l.drop a0) x least most = .ends) := midB2 HM.out hp1 hb1 (by omega)
            by_cases hq : a0 + 1 < p
            · have hq' : (a0 : Int) + 1 < (p : Int) := by omega
              by_cases hm : m = 0
              · have hle0 : ¬ 0 < least := by omega
                subst hm
                clear hb1
                go_wp2
                go_ret3
                exact rp_ends HW.out _ _
              · have hm' : (m == 0) = false := by simpa using hm
                clear hb1
                go_wp2
                go_ret3
                exact rp_ends HW.out _ _
            · have hq' : (p : Int) ≤ (a0 : Int) + 1 := by omega
              clear hb1
              go_wp2
              go_ret3
              exact rp_ends HW.out _ _
    · have HW : Hid (num (l.drop a0) sign least most = .wrong) := by rw [hnum]; exact if_pos hsx
      have hsx' : (x == sign) = false := by simpa using hsx
      clear hnum hx
      go_enter Try.func23, Try.ntmps23
      go_wp2
      go_ret3
      exact rp_wrong HW.out _ _
end Go.Proofs.Ythhjnjghlmaicaa.jr
