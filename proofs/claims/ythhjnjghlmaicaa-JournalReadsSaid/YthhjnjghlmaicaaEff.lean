/- The contract of pantryref28.effect: it reads what 'effect' says. -/
import Derived.Test.YthhjnjghlmaicaaOwn2
import Derived.Test.YthhjnjghlmaicaaRNum
namespace Go.Proofs.Ythhjnjghlmaicaa.jr
open Go.ChangeShapes Go.WideShapes Go.ChangeAt Go.RowKit
open JSpec
set_option linter.unusedVariables false

/-- Lists of bytes as strings. -/
def strs (l : List (List Int)) : List ByteArray := l.map strOfNums

def EffPost (r : R (List (List Int))) (B : Nat) (w : World) (e : Ending) (w' : World) : Prop :=
  match r with
  | .whole ws k => ∃ x, e = .returned (.tuple #[x, .int .i64 (k : Int), .int .i64 0]) ∧ w'.ownsRow B 9 1 x ws.length ((strs ws).map Value.string) ∧ Below B w w'
  | .ends => e = .returned (.tuple #[.slice none 0 0, .int .i64 0, .int .i64 1]) ∧ Below B w w'
  | .wrong => e = .returned (.tuple #[.slice none 0 0, .int .i64 0, .int .i64 2]) ∧ Below B w w'
theorem ep_wrong {r : R (List (List Int))} (h : r = .wrong) {B : Nat} {w w' : World} (hb : Below B w w') : EffPost r B w (.returned (.tuple #[.slice none 0 0, .int .i64 0, .int .i64 2])) w' := by subst h; exact ⟨rfl, hb⟩
theorem ep_ends {r : R (List (List Int))} (h : r = .ends) {B : Nat} {w w' : World} (hb : Below B w w') : EffPost r B w (.returned (.tuple #[.slice none 0 0, .int .i64 0, .int .i64 1])) w' := by subst h; exact ⟨rfl, hb⟩

theorem ep_whole {r : R (List (List Int))} {ws : List (List Int)} {k : Nat} {x : Value} (h : r = .whole ws k) {B : Nat} {w w' : World} (ho : w'.ownsRow B 9 1 x ws.length ((strs ws).map Value.string)) (hb : Below B w w') : EffPost r B w (.returned (.tuple #[x, .int .i64 (k : Int), .int .i64 0])) w' := by subst h; exact ⟨x, rfl, ho, hb⟩
def RefBytes (w : World) (l : List Int) (a : Option Addr) (g off cap : Nat) : Prop :=
  (l ≠ [] → a = some ⟨g, off, none⟩) ∧ (∀ i, i < l.length → w.cell? ⟨g, off + i, none⟩ = some (.int .u8 (l.getD i 0))) ∧ (∀ x ∈ l, 0 ≤ x ∧ x ≤ 255) ∧ l.length ≤ cap ∧ cap ≤ 9223372036854775000 ∧ (0 < l.length → g < w.heap.size)
theorem RefBytes.kept {w w' : World} {l : List Int} {a : Option Addr} {g off cap : Nat} (h : RefBytes w l a g off cap) {B : Nat} (hb : Below B w w') (hB : B = w.heap.size) : RefBytes w' l a g off cap :=
  ⟨h.1, fun i hi => by rw [hb.cell (p := ⟨g, off + i, none⟩) (by have := h.2.2.2.2.2 (by omega); show g < B; omega)]; exact h.2.1 i hi, h.2.2.1, h.2.2.2.1, h.2.2.2.2.1, fun h0 => by have := h.2.2.2.2.2 h0; have := hb.size; omega⟩

def EffRel (l : List Int) (B : Nat) (w : World) (k n : Nat) (lf x at_ i : Value) (wr : World) : Prop :=
  ∃ (q p : Nat) (m : Int) (acc : List (List Int)), lf = .int .i64 m ∧ at_ = .int .i64 (p : Int) ∧ i = .int .i64 (q : Int) ∧ q ≤ n ∧ p ≤ l.length ∧ 0 ≤ m ∧ m ≤ 4194304 ∧
    words l (n - q) (4194304 - m) p acc = effect l k ∧ acc.length = q ∧ wr.ownsRow B 9 1 x q ((strs acc).map Value.string) ∧ Below B w wr

theorem words_succ (bs : List Int) (c : Nat) (bytes : Int) (k : Nat) (acc : List (List Int)) : words bs (c + 1) bytes k acc = (match num (bs.drop k) 36 0 (min 1048576 (4194304 - bytes)) with
    | .whole v a =>
      match text (bs.drop (k + a)) v.toNat with
      | .whole s b => words bs c (bytes + v) (k + a + b) (acc ++ [s])
      | .ends => .ends
      | .wrong => .wrong
    | .ends => .ends
    | .wrong => .wrong) := rfl

section
variable {l : List Int} {p n : Nat}
theorem drop_getD (l : List Int) (p n : Nat) : (l.drop p).getD n 0 = l.getD (p + n) 0 := by simp [List.getD_eq_getElem?_getD]
theorem txt_ends1 (h : l.length ≤ p + n) : text (l.drop p) n = .ends := by
  unfold text; rw [List.length_drop]; exact if_pos (by omega)
theorem txt_ends2 (h1 : p + n < l.length) (h : l.length ≤ p + n + 1) (hx : l.getD (p + n) 0 = 13) : text (l.drop p) n = .ends := by
  unfold text; rw [List.length_drop, drop_getD, hx, if_neg (by omega), if_neg (by decide)]; exact if_pos (by omega)
theorem txt_wrong1 (h : p + n < l.length) (hx : ¬ l.getD (p + n) 0 = 13) : text (l.drop p) n = .wrong := by
  unfold text; rw [List.length_drop, drop_getD, if_neg (by omega)]; exact if_pos hx
theorem txt_wrong2 (h : p + n + 1 < l.length) (hx : l.getD (p + n) 0 = 13) (hy : ¬ l.getD (p + n + 1) 0 = 10) : text (l.drop p) n = .wrong := by
  unfold text; rw [List.length_drop, drop_getD, drop_getD, hx, if_neg (by omega), if_neg (by decide), if_neg (by omega)]; exact if_pos hy
theorem txt_whole (h : p + n + 1 < l.length) (hx : l.getD (p + n) 0 = 13) (hy : l.getD (p + n + 1) 0 = 10) : text (l.drop p) n = .whole ((l.drop p).take n) (n + 2) := by
  unfold text; rw [List.length_drop, drop_getD, drop_getD, hx, show p + (n + 1) = p + n + 1 by omega, hy, if_neg (by omega), if_neg (by decide), if_neg (by omega), if_neg (by decide)]
end

set_option maxRecDepth 100000 in
set_option maxHeartbeats 6000000 in
theorem reffect (l : List Int) (k : Nat) (a : Option Addr) (g off cap : Nat) (w : World) (hb : RefBytes w l a g off cap) (hk : k ≤ l.length) :
    Calls Try.prog 20 #[.slice a l.length cap, .int .i64 (k : Int)] w (EffPost (effect l k) w.heap.size w) := by
  obtain ⟨i9, hi9, hz9, hs9, hb9⟩ := info_parts info9
  have HB := jhid hb
  have hlc := hb.2.2.2.1
  have hcc := hb.2.2.2.2.1
  cases hr : num (l.drop k) 42 1 1024 with
  | wrong =>
    have HW : Hid (effect l k = .wrong) := by unfold effect; rw [hr]; exact rfl
    go_enter Try.func20, Try.ntmps20
    go_wp2_with fail
    refine (rnumber l k _ g off cap 42 1 1024 _ hk (by omega) HB.out.1 HB.out.2.1 HB.out.2.2.1 (by omega) (by omega) (by omega)).mono ?_
    intro e w' hp
    rw [hr] at hp
    obtain ⟨rfl, hww⟩ := hp
    obtain rfl := hww.symm
    clear hr
    go_wp2_with fail
    go_ret3
    exact ep_wrong HW.out (Below.refl _ _)
  | ends =>
    have HW : Hid (effect l k = .ends) := by unfold effect; rw [hr]; exact rfl
    go_enter Try.func20, Try.ntmps20
    go_wp2_with fail
    refine (rnumber l k _ g off cap 42 1 1024 _ hk (by omega) HB.out.1 HB.out.2.1 HB.out.2.2.1 (by omega) (by omega) (by omega)).mono ?_
    intro e w' hp
    rw [hr] at hp
    obtain ⟨rfl, hww⟩ := hp
    obtain rfl := hww.symm
    clear hr
    go_wp2_with fail
    go_ret3
    exact ep_ends HW.out (Below.refl _ _)
  | whole v c =>
    have HE : Hid (effect l k = words l v.toNat 0 (k + c) []) := by unfold effect; rw [hr]; exact rfl
    have hv := num_len (by omega) hr
    rw [List.length_drop] at hv
    obtain rfl := hb.1 (by intro e; rw [e] at hv; simp at hv; omega)
    go_enter Try.func20, Try.ntmps20
    go_wp2_with fail
    refine (rnumber l k _ g off cap 42 1 1024 _ hk (by omega) HB.out.1 HB.out.2.1 HB.out.2.2.1 (by omega) (by omega) (by omega)).mono ?_
    intro e w' hp
    rw [hr] at hp
    obtain ⟨rfl, hww⟩ := hp
    obtain rfl := hww.symm
    clear hr hb
    obtain ⟨n, rfl⟩ := Int.eq_ofNat_of_zero_le hv.2.2.1
    go_wp2_with fail
    obtain ⟨B, hBw⟩ : ∃ B, w.heap.size = B := ⟨_, rfl⟩
    have HBW := jhid hBw
    rw [hBw]
    clear hBw
    go_loopw [9, 10, 1, 27] (fun lf x at_ i wr => EffRel l B w k n lf x at_ i wr) (fun _ _ _ i _ => n - (intOf i).toNat)
    case atStart => exact ⟨0, k + c, 4194304, [], rfl, by go_num, rfl, by omega, by omega, by omega, by omega, by rw [HE.out]; simp, rfl, World.ownsRow_nil _ _ _ _, Below.refl _ _⟩
    case round =>
      obtain ⟨q, p, m, acc, rfl, rfl, rfl, hq, hp, hm0, hm1, hw, hacc, hown, hbel⟩ := hrel
      have HBL := jhid hbel
      have HOW := jhid hown
      have HAC := jhid hacc
      have HBR : Hid (RefBytes wr l _ g off cap) := HB.out.kept hbel HBW.out.symm
      clear hbel hown hacc
      by_cases hlt : q < n
      · obtain ⟨d, hd⟩ : ∃ d, n - q = d + 1 := ⟨n - q - 1, by omega⟩
        rw [hd, words_succ, show (4194304 : Int) - (4194304 - m) = m by omega] at hw
        have hlt' : (q : Int) < (n : Int) := by omega
        have HD := jhid hd
        clear hd
        cases hr : num (l.drop p) 36 0 (min 1048576 m) with
        | wrong =>
          rw [hr] at hw
          have HW : Hid (effect l k = .wrong) := hw.symm
          clear hw
          have hmin : (m < 1048576 ∧ min 1048576 m = m) ∨ (m = 1048576 ∧ min 1048576 m = 1048576) ∨ (1048576 < m ∧ min 1048576 m = 1048576) := by omega
          rcases hmin with ⟨hmin, he⟩ | ⟨rfl, he⟩ | ⟨hmin, he⟩
          all_goals
            rw [he] at hr
            clear he
            go_wp2_with fail
            refine (rnumber l p _ g off cap 36 0 _ _ hp (by omega) HBR.out.1 HBR.out.2.1 HBR.out.2.2.1 (by omega) (by omega) (by omega)).mono ?_
            intro e w' hpo
            rw [hr] at hpo
            obtain ⟨rfl, hww⟩ := hpo
            obtain rfl := hww.symm
            clear hr hww
            go_wp2_with fail
            go_ret3
            exact ep_wrong HW.out HBL.out
        | ends =>
          rw [hr] at hw
          have HW : Hid (effect l k = .ends) := hw.symm
          clear hw
          have hmin : (m < 1048576 ∧ min 1048576 m = m) ∨ (m = 1048576 ∧ min 1048576 m = 1048576) ∨ (1048576 < m ∧ min 1048576 m = 1048576) := by omega
          rcases hmin with ⟨hmin, he⟩ | ⟨rfl, he⟩ | ⟨hmin, he⟩
          all_goals
            rw [he] at hr
            clear he
            go_wp2_with fail
            refine (rnumber l p _ g off cap 36 0 _ _ hp (by omega) HBR.out.1 HBR.out.2.1 HBR.out.2.2.1 (by omega) (by omega) (by omega)).mono ?_
            intro e w' hpo
            rw [hr] at hpo
            obtain ⟨rfl, hww⟩ := hpo
            obtain rfl := hww.symm
            clear hr hww
            go_wp2_with fail
            go_ret3
            exact ep_ends HW.out HBL.out
        | whole v c2 =>
          rw [hr] at hw
          have hv2 := num_len (by omega) hr
          rw [List.length_drop] at hv2
          obtain ⟨z, rfl⟩ := Int.eq_ofNat_of_zero_le hv2.2.2.1
          have hzm : (z : Int) ≤ m := by omega
          have hz1 : z ≤ 1048576 := by omega
          have HT := jhid hw
          clear hw
          obtain ⟨p1, hp1⟩ : ∃ p1, p + c2 = p1 := ⟨_, rfl⟩
          have HP1 := jhid hp1
          have hp1l : p1 ≤ l.length := by omega
          have hp10 : 0 < p1 := by omega
          clear hv2
          obtain ⟨M, hM⟩ : ∃ M, M = m := ⟨_, rfl⟩
          have HM := jhid hM
          clear hM
          have hmin : (m < 1048576 ∧ min 1048576 m = m) ∨ (m = 1048576 ∧ min 1048576 m = 1048576) ∨ (1048576 < m ∧ min 1048576 m = 1048576) := by omega
          rcases hmin with ⟨hmin, he⟩ | ⟨rfl, he⟩ | ⟨hmin, he⟩
          all_goals
            rw [he] at hr
            clear he
            go_wp2_with fail
            refine (rnumber l p _ g off cap 36 0 _ _ hp (by omega) HBR.out.1 HBR.out.2.1 HBR.out.2.2.1 (by omega) (by omega) (by omega)).mono ?_
            intro e w' hpo
            rw [hr] at hpo
            obtain ⟨rfl, hww⟩ := hpo
            obtain rfl := hww.symm
            clear hr hww
            rw [hp1]
            clear hp1
            go_wp2_with fail
            go_loop [46, 14, 15] (fun i _ _ => ∃ q2 : Nat, i = .int .i64 q2 ∧ q2 ≤ z + 2 ∧ p1 + q2 ≤ l.length ∧ (z < q2 → l.getD (p1 + z) 0 = 13) ∧ (z + 1 < q2 → l.getD (p1 + z + 1) 0 = 10)) (fun i _ _ => z + 2 - (intOf i).toNat)
            case atStart => exact ⟨0, rfl, by omega, by omega, fun h => by omega, fun h => by omega⟩
            case round =>
              obtain ⟨q2, rfl, hq2, hpl, h13, h10⟩ := hrel
              have H13 := jhid h13
              have H10 := jhid h10
              clear h13 h10
              by_cases hlq : q2 < z + 2
              · have hlq' : (q2 : Int) < (z : Int) + 2 := by omega
                by_cases hend : p1 + q2 = l.length
                · have hend' : ((p1 : Int) + (q2 : Int) == (l.length : Int)) = true := by simp; omega
                  have HW : Hid (effect l k = .ends) := by
                    have ht := HT.out
                    rw [HP1.out] at ht
                    by_cases hqz : q2 ≤ z
                    · rw [Int.toNat_natCast, txt_ends1 (by omega)] at ht; exact ht.symm
                    · rw [Int.toNat_natCast, txt_ends2 (by omega) (by omega) (H13.out (by omega))] at ht; exact ht.symm
                  clear hend
                  go_wp2
                  go_ret3
                  exact ep_ends HW.out HBL.out
                · have hend' : ((p1 : Int) + (q2 : Int) == (l.length : Int)) = false := by simp; omega
                  have hcx := HBR.out.2.1 (p1 + q2) (by omega)
                  have hbx : 0 ≤ l.getD (p1 + q2) 0 ∧ l.getD (p1 + q2) 0 ≤ 255 := HBR.out.2.2.1 _ (by rw [List.getD_eq_getElem?_getD, List.getElem?_eq_getElem (by omega)]; simp)
                  obtain ⟨x, hx⟩ : ∃ x, l.getD (p1 + q2) 0 = x := ⟨_, rfl⟩
                  rw [hx] at hcx hbx
                  have HX := jhid hx
                  have hll : (p1 : Int) + (q2 : Int) < (l.length : Int) := by omega
                  clear hx hend
                  by_cases hqz : q2 = z
                  · subst hqz
                    by_cases hx13 : x = 13
                    · subst hx13
                      go_wp2
                      go_round
                      case rel => exact ⟨q2 + 1, by go_num, by omega, by omega, fun _ => HX.out, fun h => by omega⟩
                      case measure => first | (simp [intOf]; done) | (simp [intOf]; omega)
                    · have hx13' : (x == 13) = false := by simpa using hx13
                      have HW : Hid (effect l k = .wrong) := by
                        have ht := HT.out
                        rw [HP1.out, Int.toNat_natCast, txt_wrong1 (by omega) (by rw [HX.out]; exact hx13)] at ht
                        exact ht.symm
                      go_wp2
                      go_ret3
                      exact ep_wrong HW.out HBL.out
                  · have e1 : ((q2 : Int) == (z : Int)) = false := by simp; omega
                    by_cases hqz1 : q2 = z + 1
                    · subst hqz1
                      clear e1
                      have e1 : ((z : Int) + 1 == (z : Int)) = false := beq_eq_false_iff_ne.2 (by omega)
                      by_cases hx10 : x = 10
                      · subst hx10
                        go_wp2
                        go_round
                        case rel => exact ⟨z + 1 + 1, by go_num, by omega, by omega, fun _ => H13.out (by omega), fun _ => by rw [show p1 + z + 1 = p1 + (z + 1) by omega]; exact HX.out⟩
                        case measure => first | (simp [intOf]; done) | (simp [intOf]; omega)
                      · have hx10' : (x == 10) = false := by simpa using hx10
                        have HW : Hid (effect l k = .wrong) := by
                          have ht := HT.out
                          rw [HP1.out, Int.toNat_natCast, txt_wrong2 (by omega) (H13.out (by omega)) (by rw [show p1 + z + 1 = p1 + (z + 1) by omega, HX.out]; exact hx10)] at ht
                          exact ht.symm
                        go_wp2
                        go_ret3
                        exact ep_wrong HW.out HBL.out
                    · have e2 : ((q2 : Int) == (z : Int) + 1) = false := by simp; omega
                      go_wp2
                      go_round
                      case rel => exact ⟨q2 + 1, by go_num, by omega, by omega, fun h => by omega, fun h => by omega⟩
                      case measure => first | (simp [intOf]; done) | (simp [intOf]; omega)
              · have hge : (z : Int) + 2 ≤ (q2 : Int) := by omega
                have hpc : (p1 : Int) + (z : Int) ≤ (cap : Int) := by omega
                have hpc2 : (p1 : Int) < (cap : Int) := by omega
                have hpc3 : ¬ cap = p1 := by omega
                have HW : Hid (words l d (4194304 - (M - (z : Int))) (p1 + z + 2) (acc ++ [(l.drop p1).take z]) = effect l k) := by
                  have ht := HT.out
                  rw [HP1.out, Int.toNat_natCast, txt_whole (by omega) (H13.out (by omega)) (H10.out (by omega))] at ht
                  rw [← ht]
                  show words l d (4194304 - (M - (z : Int))) (p1 + z + 2) _ = words l d (4194304 - _ + (z : Int)) (p1 + (z + 2)) _
                  rw [← HM.out, show (4194304 : Int) - (M - (z : Int)) = 4194304 - M + (z : Int) by omega, show p1 + (z + 2) = p1 + z + 2 by omega]
                have hcv := run_convert_bytes_arg (P := Try.prog) wr 34 5 Try.underlying34 Try.underlying5 g (off + p1) z (cap - p1) ((l.drop p1).take z) (by simp; omega) (fun i hi => by
                  have h := HBR.out.2.1 (p1 + i) (by omega)
                  rw [Nat.add_assoc, h]
                  simp [List.getD_eq_getElem?_getD, hi]) 9 Try.underlying9
                obtain ⟨s, hs⟩ : ∃ s, strOfNums ((l.drop p1).take z) = s := ⟨_, rfl⟩
                rw [hs] at hcv
                have HS := jhid hs
                have hszr : B ≤ wr.heap.size := by have := HBL.out.size; rw [HBW.out] at this; exact this
                have hszr2 : ∀ o, B ≤ (wr.alloc o).heap.size := by intro o; simp; omega
                have HSZ := jhid hszr2
                clear hs hszr2
                go_wp2_with (at_builtin; refine wpList_app _ rfl _ _ 45 rfl B 9 i9 _ 16 Try.underlying45 hi9 hz9 hs9 hb9 rfl _ q _ rfl (HOW.out.alloc _) _ 1 1 [.string s] rfl rfl (by decide) ?_ ?_ ?_ ?_ ?_ ?_; exact cells_new wr [.string s] 9; exact one_str; (unfold maxLen; omega); omega; exact HSZ.out _; intro g2 cap2 w1 ho1 hg1 hd1; have HO := jhid ho1; have HG := jhid hg1; clear ho1 hg1 hd1)
                go_roundw
                case rel => exact ⟨q + 1, p1 + z + 2, _, acc ++ [(l.drop p1).take z], rfl, by go_num, by go_num, by omega, by omega, by omega, by omega, by rw [show n - (q + 1) = d by have := HD.out; omega]; have h9 := HW.out; rw [HM.out] at h9; exact h9, by rw [List.length_append, HAC.out]; rfl, by rw [strs, List.map_append, List.map_append]; simp only [List.map_cons, List.map_nil, HS.out]; exact HO.out, (HBL.out.alloc hszr _).grown HG.out (HSZ.out _) (fun j hj => (HOW.out.lt j hj).1)⟩
                case measure => first | (simp [intOf]; done) | (simp [intOf]; omega)
      · have hge : (n : Int) ≤ (q : Int) := by omega
        have HW : Hid (effect l k = .whole acc p) := by
          rw [show n - q = 0 by omega] at hw
          exact hw.symm
        have HAQ : Hid (acc.length = q) := HAC.out
        clear hw
        go_wp2_with fail
        go_ret3
        exact ep_whole HW.out (by rw [HAQ.out, HBW.out]; exact HOW.out) (by rw [HBW.out]; exact HBL.out)
end Go.Proofs.Ythhjnjghlmaicaa.jr
