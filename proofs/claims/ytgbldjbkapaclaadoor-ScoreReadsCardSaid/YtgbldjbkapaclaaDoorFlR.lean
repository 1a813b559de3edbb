/- The walk of strconv's (decimal).Shift. -/
import Derived.Test.YtgbldjbkapaclaaDoorFlQ
import Derived.Deep.QuietTactic
import Derived.BigQuiet
import Derived.Test.YtgbldjbkapaclaaDoorFlE
import Derived.Deep.DeepCutAuto
/- strconv's decimal in memory, and the walk of its trim. -/
namespace Go.Proofs.YtgbldjbkapaclaaDoor.fl
open Go.ChangeShapes Go.WideShapes Go.ChangeAt Go.RowKit
set_option linter.unusedVariables false
set_option linter.unusedSimpArgs false
/-- A decimal lies in block b: its 800 bytes, how many are used, its point, its sign, whether something was left out. -/
structure DecIs (w : World) (b : Nat) (f : Nat → Nat) (nd : Nat) (dp : Int) (ng tr : Bool) : Prop where
  at_ : ∀ i, i < 800 → w.cell? ⟨b, i, none⟩ = some (.int .u8 (f i))
  nd : w.cell? ⟨b, 800, none⟩ = some (.int .i64 nd)
  dp : w.cell? ⟨b, 801, none⟩ = some (.int .i64 dp)
  ng : w.cell? ⟨b, 802, none⟩ = some (.bool ng)
  tr : w.cell? ⟨b, 803, none⟩ = some (.bool tr)
  fz : ∀ i, i < 804 → w.frozen? ⟨b, i, none⟩ = false
def setAt (f : Nat → Nat) (i v : Nat) : Nat → Nat := fun j => if j = i then v else f j
theorem DecIs.drew {w : World} {b : Nat} {f : Nat → Nat} {nd : Nat} {dp : Int} {ng tr : Bool} (h : DecIs w b f nd dp ng tr) (n : Nat) : DecIs (w.drewN n) b f nd dp ng tr :=
  ⟨h.at_, h.nd, h.dp, h.ng, h.tr, h.fz⟩
theorem cell_same {w : World} {b i j : Nat} {v : Value} (h : i ≠ j) : (w.setCell ⟨b, j, none⟩ v).cell? ⟨b, i, none⟩ = w.cell? ⟨b, i, none⟩ := by
  go_simp
theorem cell_here {w : World} {b j : Nat} {v u : Value} (h : w.cell? ⟨b, j, none⟩ = some u) : (w.setCell ⟨b, j, none⟩ v).cell? ⟨b, j, none⟩ = some v := by
  go_simp
theorem DecIs.setD {w : World} {b : Nat} {f : Nat → Nat} {nd : Nat} {dp : Int} {ng tr : Bool} (h : DecIs w b f nd dp ng tr) {i : Nat} (hi : i < 800) (v : Nat) :
    DecIs (w.setCell ⟨b, i, none⟩ (.int .u8 v)) b (setAt f i v) nd dp ng tr := by
  refine ⟨fun j hj => ?_, ?_, ?_, ?_, ?_, fun j hj => ?_⟩
  · unfold setAt
    by_cases e : j = i
    · subst e
      rw [if_pos rfl]
      exact cell_here (h.at_ j hj)
    · rw [if_neg e, cell_same e]
      exact h.at_ j hj
  · rw [cell_same (by omega)]; exact h.nd
  · rw [cell_same (by omega)]; exact h.dp
  · rw [cell_same (by omega)]; exact h.ng
  · rw [cell_same (by omega)]; exact h.tr
  · rw [World.frozen?_setCell]; exact h.fz j hj
theorem DecIs.setN {w : World} {b : Nat} {f : Nat → Nat} {nd : Nat} {dp : Int} {ng tr : Bool} (h : DecIs w b f nd dp ng tr) {v : Int} (m : Nat) (hv : v = m) :
    DecIs (w.setCell ⟨b, 800, none⟩ (.int .i64 v)) b f m dp ng tr := by
  subst hv
  refine ⟨fun j hj => ?_, cell_here h.nd, ?_, ?_, ?_, fun j hj => ?_⟩
  · rw [cell_same (by omega)]; exact h.at_ j hj
  · rw [cell_same (by omega)]; exact h.dp
  · rw [cell_same (by omega)]; exact h.ng
  · rw [cell_same (by omega)]; exact h.tr
  · rw [World.frozen?_setCell]; exact h.fz j hj
theorem DecIs.setP {w : World} {b : Nat} {f : Nat → Nat} {nd : Nat} {dp : Int} {ng tr : Bool} (h : DecIs w b f nd dp ng tr) (v : Int) :
    DecIs (w.setCell ⟨b, 801, none⟩ (.int .i64 v)) b f nd v ng tr := by
  refine ⟨fun j hj => ?_, ?_, cell_here h.dp, ?_, ?_, fun j hj => ?_⟩
  · rw [cell_same (by omega)]; exact h.at_ j hj
  · rw [cell_same (by omega)]; exact h.nd
  · rw [cell_same (by omega)]; exact h.ng
  · rw [cell_same (by omega)]; exact h.tr
  · rw [World.frozen?_setCell]; exact h.fz j hj
theorem DecIs.setG {w : World} {b : Nat} {f : Nat → Nat} {nd : Nat} {dp : Int} {ng tr : Bool} (h : DecIs w b f nd dp ng tr) (v : Bool) :
    DecIs (w.setCell ⟨b, 802, none⟩ (.bool v)) b f nd dp v tr := by
  refine ⟨fun j hj => ?_, ?_, ?_, cell_here h.ng, ?_, fun j hj => ?_⟩
  · rw [cell_same (by omega)]; exact h.at_ j hj
  · rw [cell_same (by omega)]; exact h.nd
  · rw [cell_same (by omega)]; exact h.dp
  · rw [cell_same (by omega)]; exact h.tr
  · rw [World.frozen?_setCell]; exact h.fz j hj
theorem DecIs.setT {w : World} {b : Nat} {f : Nat → Nat} {nd : Nat} {dp : Int} {ng tr : Bool} (h : DecIs w b f nd dp ng tr) (v : Bool) :
    DecIs (w.setCell ⟨b, 803, none⟩ (.bool v)) b f nd dp ng v := by
  refine ⟨fun j hj => ?_, ?_, ?_, ?_, cell_here h.tr, fun j hj => ?_⟩
  · rw [cell_same (by omega)]; exact h.at_ j hj
  · rw [cell_same (by omega)]; exact h.nd
  · rw [cell_same (by omega)]; exact h.dp
  · rw [cell_same (by omega)]; exact h.ng
  · rw [World.frozen?_setCell]; exact h.fz j hj
/-- The number that the first k digits make. -/
def dn (f : Nat → Nat) : Nat → Nat
  | 0 => 0
  | k + 1 => dn f k * 10 + (f k - 48)
/-- The first n bytes are digits. -/
def DigF (f : Nat → Nat) (n : Nat) : Prop := ∀ i, i < n → 48 ≤ f i ∧ f i ≤ 57
/-- What trim's loop keeps. -/
def TrimF (f : Nat → Nat) (n j : Nat) : Prop := j ≤ n ∧ dn f n = dn f j * 10 ^ (n - j)
theorem TrimF.next {f : Nat → Nat} {n j : Nat} (h : TrimF f n j) (hp : 0 < j) (hz : f (j - 1) = 48) : TrimF f n (j - 1) := by
  obtain ⟨h1, h2⟩ := h
  obtain ⟨i, rfl⟩ : ∃ i, j = i + 1 := ⟨j - 1, by omega⟩
  rw [Nat.add_sub_cancel] at hz ⊢
  refine ⟨by omega, ?_⟩
  rw [h2, show n - i = n - (i + 1) + 1 by omega, Nat.pow_succ]
  show (dn f i * 10 + (f i - 48)) * _ = _
  rw [hz, Nat.sub_self, Nat.add_zero, Nat.mul_assoc, Nat.mul_comm 10]
def ndOf (w : World) (b : Nat) : Nat := match w.cell? ⟨b, 800, none⟩ with
  | some (.int _ v) => v.toNat
  | _ => 0
theorem ndOf_eq {w : World} {b : Nat} {f : Nat → Nat} {nd : Nat} {dp : Int} {ng tr : Bool} (h : DecIs w b f nd dp ng tr) : ndOf w b = nd := by
  unfold ndOf
  rw [h.nd]
  rfl
/-- What trim leaves. -/
def TrPost (b : Nat) (f : Nat → Nat) (n : Nat) (dp : Int) (ng tr : Bool) (w : World) (e : Ending) (w' : World) : Prop :=
  ∃ j, e = .returned (.tuple #[]) ∧ DecIs w' b f j (if j = 0 then 0 else dp) ng tr ∧ TrimF f n j ∧ (0 < j → f (j - 1) ≠ 48) ∧ Below b w w'
set_option maxHeartbeats 1000000 in
theorem trimD (b : Nat) (f : Nat → Nat) (n : Nat) (dp : Int) (ng tr : Bool) (w : World) (h : DecIs w b f n dp ng tr) (hd : DigF f n) (hn : n ≤ 800) :
    Calls Tryd.prog 89 #[.pointer (some ⟨b, 0, none⟩)] w (TrPost b f n dp ng tr w) := by
  have H0 := fhid h
  have HD := fhid hd
  clear h hd
  go_enter Tryd.func89, Tryd.ntmps89
  go_wp2_with fail
  go_loopw [] (fun wr => ∃ j, Hid (DecIs wr b f j dp ng tr) ∧ Hid (TrimF f n j) ∧ j ≤ n ∧ Hid (Below b w wr)) (fun wr => ndOf wr b)
  case atStart => exact ⟨n, H0, fhid ⟨Nat.le_refl _, by rw [Nat.sub_self, Nat.pow_zero, Nat.mul_one]⟩, Nat.le_refl _, fhid (Below.refl _ _)⟩
  case round =>
    obtain ⟨j, hI, hT, hj, hB⟩ := hrel
    have k1 := hI.out.nd
    have k2 := hI.out.fz 800 (by omega)
    have k3 := hI.out.dp
    have k4 := hI.out.fz 801 (by omega)
    by_cases hp : 0 < j
    · have k5 := hI.out.at_ (j - 1) (by omega)
      have hj1 : (j : Int) - 1 = ((j - 1 : Nat) : Int) := by omega
      obtain ⟨d, hd⟩ : ∃ d, f (j - 1) = d := ⟨_, rfl⟩
      rw [hd] at k5
      have HDD := fhid hd
      clear hd
      have g1 : (0 : Int) < (j : Int) := by omega
      have g2 : (0 : Int) ≤ ((j - 1 : Nat) : Int) := by omega
      have g3 : ((j - 1 : Nat) : Int) < 800 := by omega
      by_cases hz : d = 48
      · subst hz
        go_wp2_with fail
        go_quiet (fail)
        go_wp2_with fail
        have hN := (hI.out.drew nq).setN (v := ((j - 1 : Nat) : Int)) (j - 1) rfl
        refine ⟨⟨j - 1, fhid hN, fhid (hT.out.next hp HDD.out), by omega, fhid ((below_dn hB.out nq).setCell (Nat.le_refl _) _)⟩, ?_⟩
        rw [ndOf_eq hN, ndOf_eq hI.out]
        omega
      · have hz' : ((d : Int) == 48) = false := by simp; omega
        have hp' : ((j : Int) == 0) = false := by simp; omega
        go_wp2_with fail
        go_quiet (fail)
        go_wp2_with fail
        go_end0
        refine ⟨j, rfl, ?_, hT.out, fun _ => by rw [HDD.out]; exact hz, below_dn hB.out nq⟩
        rw [if_neg (by omega)]
        exact hI.out.drew nq
    · obtain rfl : j = 0 := by omega
      go_wp2_with fail
      go_quiet (fail)
      go_wp2_with fail
      go_end0
      exact ⟨0, rfl, (hI.out.drew nq).setP 0, hT.out, fun h => absurd h (by omega), (below_dn hB.out nq).setCell (Nat.le_refl _) _⟩
end Go.Proofs.YtgbldjbkapaclaaDoor.fl
/- strconv's rightShift, plain: digits that are halved k times. -/
namespace Go.Proofs.YtgbldjbkapaclaaDoor.fl
set_option linter.unusedVariables false
set_option linter.unusedSimpArgs false
theorem dn_lt {f : Nat → Nat} : ∀ {n : Nat}, DigF f n → dn f n < 10 ^ n
  | 0, _ => Nat.one_pos
  | n + 1, h => by
    have ih := dn_lt (fun i hi => h i (by omega) : DigF f n)
    have := h n (by omega)
    show dn f n * 10 + (f n - 48) < _
    rw [Nat.pow_succ]
    omega
theorem dn_congr {f g : Nat → Nat} : ∀ {n : Nat}, (∀ i, i < n → f i = g i) → dn f n = dn g n
  | 0, _ => rfl
  | n + 1, h => by
    show dn f n * 10 + (f n - 48) = dn g n * 10 + (g n - 48)
    rw [dn_congr (fun i hi => h i (by omega)), h n (by omega)]
theorem dn_set {f : Nat → Nat} {n i v : Nat} (h : n ≤ i) : dn (setAt f i v) n = dn f n :=
  dn_congr fun j hj => by unfold setAt; rw [if_neg (by omega)]
theorem dn_ge {f : Nat → Nat} (h : 49 ≤ f 0) : ∀ n, 10 ^ n ≤ dn f (n + 1)
  | 0 => by show 1 ≤ 0 * 10 + (f 0 - 48); omega
  | n + 1 => by
    have ih := dn_ge h n
    show _ ≤ dn f (n + 1) * 10 + (f (n + 1) - 48)
    rw [Nat.pow_succ]
    omega
/-- The digits, noughts behind the last. -/
def pad (f : Nat → Nat) (nd : Nat) : Nat → Nat := fun i => if i < nd then f i else 48
theorem dn_pad_le {f : Nat → Nat} {nd r : Nat} (h : r ≤ nd) : dn (pad f nd) r = dn f r :=
  dn_congr fun i hi => by unfold pad; rw [if_pos (by omega)]
theorem dn_pad_add (f : Nat → Nat) (nd : Nat) : ∀ j, dn (pad f nd) (nd + j) = dn f nd * 10 ^ j
  | 0 => by rw [Nat.add_zero, dn_pad_le (Nat.le_refl _), Nat.pow_zero, Nat.mul_one]
  | j + 1 => by
    have e : pad f nd (nd + j) = 48 := by unfold pad; rw [if_neg (by omega)]
    show dn (pad f nd) (nd + j) * 10 + (pad f nd (nd + j) - 48) = _
    rw [dn_pad_add f nd j, e, Nat.sub_self, Nat.add_zero, Nat.pow_succ, Nat.mul_assoc]
theorem dn_pad_ge {f : Nat → Nat} {nd r : Nat} (h : nd ≤ r) : dn (pad f nd) r = dn f nd * 10 ^ (r - nd) := by
  obtain ⟨j, rfl⟩ : ∃ j, r = nd + j := ⟨r - nd, by omega⟩
  rw [dn_pad_add, Nat.add_sub_cancel_left]
theorem dn_succ (f : Nat → Nat) (n : Nat) : dn f (n + 1) = dn f n * 10 + (f n - 48) := rfl
theorem dn_pad_read {f : Nat → Nat} {nd r : Nat} (h : r < nd) : dn (pad f nd) (r + 1) = dn (pad f nd) r * 10 + (f r - 48) := by
  rw [dn_succ]; unfold pad; rw [if_pos h]
theorem dn_pad_none {f : Nat → Nat} {nd r : Nat} (h : nd ≤ r) : dn (pad f nd) (r + 1) = dn (pad f nd) r * 10 := by
  rw [dn_succ]; unfold pad; rw [if_neg (by omega)]; rfl
/-- The digits that are written: T is 2^k, r0 how many digits were taken first. -/
structure RS (f : Nat → Nat) (nd T r0 : Nat) (g : Nat → Nat) (w n : Nat) : Prop where
  eq : dn g w * (10 * T) + n = dn (pad f nd) (r0 + w)
  lt : n < 10 * T
  dig : DigF g w
  rest : ∀ i, w ≤ i → g i = f i
  top : (w = 0 ∧ T ≤ n) ∨ (0 < w ∧ 49 ≤ g 0)
theorem RS.next {f : Nat → Nat} {nd T r0 : Nat} {g : Nat → Nat} {w n : Nat} (h : RS f nd T r0 g w n) (hT : 0 < T) (hd : DigF f nd) :
    RS f nd T r0 (setAt g w (n / T + 48)) (w + 1) (n % T * 10 + (pad f nd (r0 + w) - 48)) := by
  obtain ⟨q, hq⟩ : ∃ q, n / T = q := ⟨_, rfl⟩
  have h9 : q ≤ 9 := by
    have := (Nat.div_lt_iff_lt_mul hT).2 h.lt
    omega
  have hq1 : T ≤ n → 1 ≤ q := fun h => by rw [← hq]; exact (Nat.le_div_iff_mul_le hT).2 (by omega)
  have hm : n % T < T := Nat.mod_lt _ hT
  have he : T * q + n % T = n := by rw [← hq]; exact Nat.div_add_mod n T
  rw [hq]
  clear hq
  have hp : pad f nd (r0 + w) - 48 ≤ 9 := by
    unfold pad
    by_cases hh : r0 + w < nd
    · rw [if_pos hh]; have := hd _ hh; omega
    · rw [if_neg hh]; omega
  refine ⟨?_, by omega, ?_, ?_, ?_⟩
  · have e1 : setAt g w (q + 48) w = q + 48 := by unfold setAt; rw [if_pos rfl]
    rw [dn_succ, dn_set (Nat.le_refl _), e1, Nat.add_sub_cancel, ← Nat.add_assoc, show r0 + (w + 1) = r0 + w + 1 from rfl, dn_succ (pad f nd), ← h.eq]
    have e2 : (dn g w * 10 + q) * (10 * T) = dn g w * (10 * T) * 10 + T * (q) * 10 := by
      rw [Nat.add_mul, Nat.mul_right_comm (dn g w), ← Nat.mul_assoc (q), Nat.mul_comm (q * 10), ← Nat.mul_assoc T]
    rw [e2]
    omega
  · intro i hi
    unfold setAt
    by_cases hh : i = w
    · rw [if_pos hh]; omega
    · rw [if_neg hh]; exact h.dig i (by omega)
  · intro i hi
    unfold setAt
    rw [if_neg (by omega)]
    exact h.rest i (by omega)
  · right
    refine ⟨by omega, ?_⟩
    unfold setAt
    rcases h.top with ⟨h0, h1⟩ | ⟨h0, h1⟩
    · subst h0
      rw [if_pos rfl]
      have := hq1 h1
      omega
    · rw [if_neg (by omega)]; exact h1
/-- Where 2^k divides, nothing is left. -/
theorem RS.done {f : Nat → Nat} {nd T r0 : Nat} {g : Nat → Nat} {w n m : Nat} (h : RS f nd T r0 g w n) (hT : 0 < T) (hm : T ∣ dn f nd * 10 ^ m) (hw : nd + m + 1 ≤ r0 + w) : n = 0 := by
  have h1 := h.eq
  rw [dn_pad_ge (by omega), show r0 + w - nd = m + ((r0 + w - nd - m - 1) + 1) by omega, Nat.pow_add, Nat.pow_succ, ← Nat.mul_assoc (dn f nd)] at h1
  obtain ⟨c, hc⟩ := hm
  rw [hc] at h1
  have h2 : (10 * T) ∣ dn g w * (10 * T) + n := by
    rw [h1]
    refine ⟨c * 10 ^ (r0 + w - nd - m - 1), ?_⟩
    generalize 10 ^ (r0 + w - nd - m - 1) = Z
    rw [Nat.mul_comm 10 T, Nat.mul_assoc T c, Nat.mul_assoc T 10, Nat.mul_left_comm 10 c Z, Nat.mul_comm Z 10]
  have h3 : (10 * T) ∣ n := (Nat.dvd_add_right (Nat.dvd_mul_left _ _)).1 h2
  rcases Nat.eq_zero_or_pos n with h0 | h0
  · exact h0
  · have := Nat.le_of_dvd h0 h3
    have := h.lt
    omega
/-- One value, twice. -/
def SameV (X : Nat) (e : Int) (Y : Nat) (e' : Int) : Prop := valN X e * valD e' = valN Y e' * valD e
theorem SameV.symm {X Y : Nat} {e e' : Int} (h : SameV X e Y e') : SameV Y e' X e := Eq.symm h
theorem SameV.refl (X : Nat) (e : Int) : SameV X e X e := rfl
theorem SameV.trans {X Y Z : Nat} {a b c : Int} (h : SameV X a Y b) (g : SameV Y b Z c) : SameV X a Z c := by
  unfold SameV at h g ⊢
  have hb := valD_pos b
  refine Nat.eq_of_mul_eq_mul_right hb ?_
  rw [Nat.mul_right_comm, h, Nat.mul_right_comm, g, Nat.mul_right_comm]
theorem SameV.pow (X j : Nat) (e : Int) : SameV (X * 10 ^ j) e X (e + j) := val_shift X j e
theorem valN_mul (X c : Nat) (e : Int) : valN (X * c) e = valN X e * c := by
  unfold valN
  generalize 2 ^ K74 = kk
  rw [Nat.mul_right_comm X c, Nat.mul_right_comm _ c]
theorem SameV.mul {X Y : Nat} {e e' : Int} (h : SameV X e Y e') (c : Nat) : SameV (X * c) e (Y * c) e' := by
  unfold SameV at h ⊢
  rw [valN_mul, valN_mul, Nat.mul_right_comm, h, Nat.mul_right_comm]
theorem SameV.eq {X Y : Nat} {e : Int} (h : SameV X e Y e) : X = Y := by
  unfold SameV at h
  have h1 := Nat.eq_of_mul_eq_mul_right (valD_pos e) h
  have key : ∀ c P : Nat, 0 < c → 0 < P → X * c * P = Y * c * P → X = Y := fun c P hc hP h => Nat.eq_of_mul_eq_mul_right hc (Nat.eq_of_mul_eq_mul_right hP h)
  refine key _ _ ?_ (Nat.two_pow_pos K74) h1
  split
  · exact Nat.pow_pos (by decide)
  · decide
/-- What is left in the end. -/
theorem RS.fin {f : Nat → Nat} {nd T r0 : Nat} {g : Nat → Nat} {w j : Nat} {dp : Int} (h : RS f nd T r0 g w 0) (hT : 0 < T) (hw : nd ≤ r0 + w) (ht : TrimF g w j) :
    1 ≤ j ∧ 49 ≤ g 0 ∧ SameV (dn g j * T) (dp - ((r0 : Int) - 1) - j) (dn f nd) (dp - nd) := by
  have hw1 : 0 < w ∧ 49 ≤ g 0 := by
    rcases h.top with ⟨_, h1⟩ | h1
    · omega
    · exact h1
  obtain ⟨hw0, hg⟩ := hw1
  obtain ⟨hj, he⟩ := ht
  have hj1 : 1 ≤ j := by
    rcases Nat.eq_zero_or_pos j with hh | hh
    · subst hh
      obtain ⟨i, rfl⟩ : ∃ i, w = i + 1 := ⟨w - 1, by omega⟩
      have h2 := dn_ge hg i
      have h3 := Nat.pow_pos (n := i) (show 0 < 10 by decide)
      have h4 : dn g 0 = 0 := rfl
      rw [he, h4, Nat.zero_mul] at h2
      omega
    · exact hh
  refine ⟨hj1, hg, ?_⟩
  have h1 := h.eq
  rw [Nat.add_zero, dn_pad_ge hw, he] at h1
  have hC : dn g j * T * 10 ^ (w - j + 1) = dn f nd * 10 ^ (r0 + w - nd) := by
    rw [← h1, Nat.pow_succ, Nat.mul_comm 10 T, ← Nat.mul_assoc, ← Nat.mul_assoc, Nat.mul_right_comm (dn g j) T]
  have hA := SameV.pow (dn f nd) (r0 + w - nd) (dp - r0 - w)
  have hB := SameV.pow (dn g j * T) (w - j + 1) (dp - r0 - w)
  rw [hC] at hB
  rw [show dp - r0 - w + ((r0 + w - nd : Nat) : Int) = dp - nd by omega] at hA
  rw [show dp - r0 - w + ((w - j + 1 : Nat) : Int) = dp - ((r0 : Int) - 1) - j by omega] at hB
  exact hB.symm.trans hA
end Go.Proofs.YtgbldjbkapaclaaDoor.fl
/- The walk of strconv's rightShift. -/
namespace Go.Proofs.YtgbldjbkapaclaaDoor.fl
open Go.ChangeShapes Go.WideShapes Go.ChangeAt Go.RowKit
set_option linter.unusedVariables false
set_option linter.unusedSimpArgs false
/-- What rightShift leaves. -/
def RsPost (b : Nat) (f : Nat → Nat) (nd : Nat) (dp : Int) (T : Nat) (ng tr : Bool) (w : World) (e : Ending) (w' : World) : Prop :=
  ∃ g j dp', e = .returned (.tuple #[]) ∧ DecIs w' b g j dp' ng tr ∧ DigF g j ∧ 1 ≤ j ∧ 49 ≤ g 0 ∧ g (j - 1) ≠ 48 ∧ j ≤ 800 ∧ SameV (dn g j * T) (dp' - j) (dn f nd) (dp - nd) ∧ dp - 20 ≤ dp' ∧ dp' ≤ dp ∧ Below b w w'
/-- The digits that are taken first. -/
def R1 (f : Nat → Nat) (nd T r n : Nat) : Prop := n = dn (pad f nd) r ∧ ((r = 0) ∨ (1 ≤ r ∧ dn (pad f nd) (r - 1) < T)) ∧ r ≤ 20
theorem R1.low {f : Nat → Nat} {nd T r n : Nat} (h : R1 f nd T r n) (hT : T ≤ 1152921504606846976) (hd : DigF f nd) : n < 11529215046068469760 := by
  obtain ⟨h1, h2, -⟩ := h
  rcases h2 with rfl | ⟨h2, h3⟩
  · have : n = 0 := h1
    omega
  · obtain ⟨i, rfl⟩ : ∃ i, r = i + 1 := ⟨r - 1, by omega⟩
    rw [Nat.add_sub_cancel] at h3
    rw [dn_succ] at h1
    have hp : pad f nd i - 48 ≤ 9 := by
      unfold pad
      by_cases hh : i < nd
      · rw [if_pos hh]; have := hd _ hh; omega
      · rw [if_neg hh]; omega
    omega
theorem R1.ten {f : Nat → Nat} {nd T r n : Nat} (h : R1 f nd T r n) (hT : 0 < T) (hd : DigF f nd) (hn : T ≤ n) : n < 10 * T ∧ 1 ≤ r := by
  obtain ⟨h1, h2, -⟩ := h
  rcases h2 with rfl | ⟨h2, h3⟩
  · have : n = 0 := h1
    omega
  · obtain ⟨i, rfl⟩ : ∃ i, r = i + 1 := ⟨r - 1, by omega⟩
    rw [Nat.add_sub_cancel] at h3
    rw [dn_succ] at h1
    have hp : pad f nd i - 48 ≤ 9 := by
      unfold pad
      by_cases hh : i < nd
      · rw [if_pos hh]; have := hd _ hh; omega
      · rw [if_neg hh]; omega
    omega
theorem pad_top {f : Nat → Nat} {nd : Nat} (h1 : 1 ≤ nd) (h0 : 49 ≤ f 0) : 49 ≤ pad f nd 0 := by
  unfold pad; rw [if_pos (by omega)]; exact h0
theorem R1.next {f : Nat → Nat} {nd T r n : Nat} (h : R1 f nd T r n) (hT : T ≤ 1152921504606846976) (h1 : 1 ≤ nd) (h0 : 49 ≤ f 0) (hn : n < T) : R1 f nd T (r + 1) (n * 10 + (pad f nd r - 48)) := by
  obtain ⟨e, -, h3⟩ := h
  refine ⟨by rw [dn_succ, e], .inr ⟨by omega, by rw [Nat.add_sub_cancel, ← e]; exact hn⟩, ?_⟩
  rcases Nat.lt_or_ge r 20 with hh | hh
  · omega
  · exfalso
    obtain rfl : r = 20 := by omega
    have : 10 ^ 19 ≤ dn (pad f nd) 20 := dn_ge (pad_top h1 h0) 19
    omega
theorem R1.pos {f : Nat → Nat} {nd T r n : Nat} (h : R1 f nd T r n) (h1 : 1 ≤ nd) (h0 : 49 ≤ f 0) (hr : 1 ≤ r) : 1 ≤ n := by
  obtain ⟨i, rfl⟩ : ∃ i, r = i + 1 := ⟨r - 1, by omega⟩
  rw [h.1]
  have := dn_ge (pad_top h1 h0) i
  have := Nat.pow_pos (n := i) (show 0 < 10 by decide)
  omega
theorem and_mask (k n T : Nat) (hT : 2 ^ k = T) (hk : k ≤ 60) (hn : n < 18446744073709551616) : bits BinOp.and IntKind.u64 (n : Int) ((T : Int) - 1) = ((n % T : Nat) : Int) := by
  have h1 : 0 < T := by rw [← hT]; exact Nat.two_pow_pos k
  have h2 : T ≤ 1152921504606846976 := by rw [← hT]; exact Nat.pow_le_pow_right (by decide) hk
  have h := u64_and_nat n (T - 1) hn (by omega)
  rw [show (T : Int) - 1 = ((T - 1 : Nat) : Int) by omega, h, ← hT, Nat.and_two_pow_sub_one_eq_mod]
set_option maxRecDepth 100000 in
set_option maxHeartbeats 2000000 in
theorem rightC (b : Nat) (f : Nat → Nat) (nd : Nat) (dp : Int) (k m T : Nat) (ng tr : Bool) (w : World) (h : DecIs w b f nd dp ng tr) (hd : DigF f nd) (h1 : 1 ≤ nd) (h0 : 49 ≤ f 0) (hk : k ≤ 60) (hT : 2 ^ k = T) (hm : T ∣ dn f nd * 10 ^ m) (hfit : nd + m ≤ 800) (hdp : -100000 ≤ dp ∧ dp ≤ 100000) :
    Calls Tryd.prog 82 #[.pointer (some ⟨b, 0, none⟩), .int .u64 k] w (RsPost b f nd dp T ng tr w) := by
  have H0 := fhid h
  have HD := fhid hd
  have HM := fhid hm
  have HTOP := fhid h0
  have hT1 : 0 < T := by rw [← hT]; exact Nat.two_pow_pos k
  have hT2 : T ≤ 1152921504606846976 := by rw [← hT]; exact Nat.pow_le_pow_right (by decide) hk
  have hTz : (2 : Int) ^ k = (T : Int) := by rw [← hT, Int.natCast_pow]; rfl
  have HAND := fhid (fun n (hn : n < 18446744073709551616) => and_mask k n T hT hk hn)
  have HT1 := fhid hT1
  have HT2 := fhid hT2
  have HNF := fhid (show nd ≤ 800 by omega)
  have HFT := fhid hfit
  clear h hd hm h0 hT hT1 hT2 hfit
  go_enter Tryd.func82, Tryd.ntmps82
  go_upto_block 0 with fail
  go_cut [4, 6] (fun r n wx => ∃ (r' n' : Nat), r = .int .i64 r' ∧ n = .int .u64 n' ∧ Hid (R1 f nd T r' n') ∧ Hid (T ≤ n') ∧ wx = w)
  case first => as_aux_lemma =>
    go_wp2_with fail
    go_loopw [4, 6] (fun r n wr => ∃ (r' n' : Nat), r = .int .i64 r' ∧ n = .int .u64 n' ∧ Hid (R1 f nd T r' n') ∧ r' ≤ nd ∧ wr = w) (fun r _ _ => 30 - (intOf r).toNat)
    case atStart => exact ⟨0, 0, rfl, rfl, fhid ⟨rfl, .inl rfl, by omega⟩, by omega, rfl⟩
    case round =>
      obtain ⟨r, n, rfl, rfl, hR, hr, rfl⟩ := hrel
      have hn1 := hR.out.low HT2.out HD.out
      have hr20 := hR.out.2.2
      by_cases hlt : n < T
      · have hq : ((n : Int) / (T : Int) == 0) = true := by
          rw [← Int.natCast_ediv, Nat.div_eq_of_lt hlt]; rfl
        have k1 := H0.out.nd
        have HLT := fhid hlt
        by_cases hrn : r < nd
        · have k2 := H0.out.at_ r (by have := HNF.out; omega)
          have hdr := HD.out r hrn
          have hnx := hR.out.next HT2.out h1 HTOP.out hlt
          have hr800 : (r : Int) < 800 := by have := HNF.out; omega
          have epd : pad f nd r = f r := by unfold pad; rw [if_pos hrn]
          rw [epd] at hnx
          have HNX := fhid hnx
          obtain ⟨c, hc⟩ : ∃ c, f r = c := ⟨_, rfl⟩
          rw [hc] at k2 hdr
          have HC := fhid hc
          obtain ⟨hd1, hd2⟩ := hdr
          have hn60 : n < 1152921504606846976 := Nat.lt_of_lt_of_le hlt HT2.out
          clear hc hnx epd hlt hn1
          go_wp2_with fail
          go_roundw
          case rel => exact ⟨r + 1, n * 10 + (c - 48), by go_num, by go_num, fhid (by have := HNX.out; rw [HC.out] at this; exact this), by omega, by first | trivial | rfl⟩
          case measure => simp [intOf]; omega
        · have hn0 : ((n : Int) == 0) = false := by
            have := hR.out.pos h1 HTOP.out (by omega)
            simp; omega
          have hrr : ((nd : Int) ≤ (r : Int)) := by omega
          have hnr := hrr
          clear hlt hn1 hrn
          go_wp2_with fail
          go_loopw [4, 6] (fun r n w2 => ∃ (r' n' : Nat), r = .int .i64 r' ∧ n = .int .u64 n' ∧ Hid (R1 f nd T r' n') ∧ nd ≤ r' ∧ w2 = wr) (fun r _ _ => 30 - (intOf r).toNat)
          case atStart => exact ⟨r, n, rfl, rfl, hR, by omega, rfl⟩
          case round =>
            clear hn0 hrr hnr hq HLT hR hr hr20 k1
            obtain ⟨r, n, rfl, rfl, hR, hr, rfl⟩ := hrel
            have hn1 := hR.out.low HT2.out HD.out
            have hr20 := hR.out.2.2
            by_cases hlt : n < T
            · have hq : ((n : Int) / (T : Int) == 0) = true := by
                rw [← Int.natCast_ediv, Nat.div_eq_of_lt hlt]; rfl
              have hnx := hR.out.next HT2.out h1 HTOP.out hlt
              have epd : pad f nd r = 48 := by unfold pad; rw [if_neg (by omega)]
              rw [epd] at hnx
              have HNX := fhid hnx
              have hn60 : n < 1152921504606846976 := Nat.lt_of_lt_of_le hlt HT2.out
              clear hnx epd hlt hn1
              go_wp2_with fail
              go_roundw
              case rel => exact ⟨r + 1, n * 10, by go_num, by go_num, HNX, by omega, by first | trivial | rfl⟩
              case measure => simp [intOf]; omega
            · have hq : ((n : Int) / (T : Int) == 0) = false := by
                have h9 : 1 ≤ n / T := (Nat.le_div_iff_mul_le HT1.out).2 (by omega)
                rw [← Int.natCast_ediv]
                simp; omega
              have HGE := fhid (Nat.le_of_not_lt hlt)
              clear hlt
              go_wp2_with fail
              go_meet
              exact ⟨r, n, rfl, rfl, hR, HGE, rfl⟩
      · have hq : ((n : Int) / (T : Int) == 0) = false := by
          have h9 : 1 ≤ n / T := (Nat.le_div_iff_mul_le HT1.out).2 (by omega)
          rw [← Int.natCast_ediv]
          simp; omega
        have HGE := fhid (Nat.le_of_not_lt hlt)
        clear hlt
        go_wp2_with fail
        go_meet
        exact ⟨r, n, rfl, rfl, hR, HGE, rfl⟩
  case rest =>
    obtain ⟨r0, n0, rfl, rfl, hR, hGE, rfl⟩ := hcut
    obtain ⟨hn10, hr1⟩ := hR.out.ten HT1.out HD.out hGE.out
    have hr20 := hR.out.2.2
    have H1 := fhid (H0.out.setP (dp - ((r0 : Int) - 1)))
    have HB1 := fhid ((Below.refl b wc).setCell (p := ⟨b, 801, none⟩) (Nat.le_refl _) (.int .i64 (dp - ((r0 : Int) - 1))))
    have HRS : Hid (RS f nd T r0 f 0 n0) := fhid ⟨by show 0 * _ + n0 = _; rw [Nat.zero_mul, Nat.zero_add]; exact hR.out.1, hn10, fun i hi => absurd hi (by omega), fun i _ => rfl, .inl ⟨rfl, hGE.out⟩⟩
    have k1 := H0.out.dp
    have k2 := H0.out.fz 801 (by omega)
    have hT1 : (0 : Int) < (T : Int) := by have := HT1.out; omega
    have hT2 : (T : Int) ≤ 1152921504606846976 := by have := HT2.out; omega
    clear hn10
    go_wp2_with fail
    clear k1 k2
    go_loopw [4, 5, 6] (fun r x n wr => ∃ (wi n' : Nat) (g : Nat → Nat), r = .int .i64 ((r0 + wi : Nat) : Int) ∧ x = .int .i64 wi ∧ n = .int .u64 n' ∧ Hid (RS f nd T r0 g wi n') ∧ Hid (DecIs wr b g nd (dp - ((r0 : Int) - 1)) ng tr) ∧ wi ≤ 800 ∧ Hid (Below b wc wr)) (fun r _ _ _ => 1000 - (intOf r).toNat)
    case atStart => exact ⟨0, n0, f, rfl, rfl, rfl, HRS, H1, by omega, HB1⟩
    case round =>
      obtain ⟨wi, n, g, rfl, rfl, rfl, hS, hI, hw, hB⟩ := hrel
      have k1 := hI.out.nd
      by_cases hlt : r0 + wi < nd
      · have hn := hS.out.lt
        have hnd := HNF.out
        have hnb : n < 18446744073709551616 := by have := HT2.out; omega
        have hand := HAND.out n hnb
        obtain ⟨q, hq⟩ : ∃ q, n / T = q := ⟨_, rfl⟩
        have hq9 : q ≤ 9 := by
          have := (Nat.div_lt_iff_lt_mul HT1.out).2 hn
          omega
        have hqi : (n : Int) / (T : Int) = (q : Int) := by rw [← Int.natCast_ediv, hq]
        obtain ⟨z, hz⟩ : ∃ z, n % T = z := ⟨_, rfl⟩
        rw [hz] at hand
        have hzT : z < 1152921504606846976 := by rw [← hz]; exact Nat.lt_of_lt_of_le (Nat.mod_lt _ HT1.out) HT2.out
        have k5 := hI.out.at_ (r0 + wi) (by omega)
        rw [hS.out.rest _ (by omega)] at k5
        have hdr := HD.out (r0 + wi) hlt
        have k6 := hI.out.fz wi (by omega)
        have k7 := hI.out.at_ wi (by omega)
        have hnx := hS.out.next HT1.out HD.out
        have epd : pad f nd (r0 + wi) = f (r0 + wi) := by unfold pad; rw [if_pos hlt]
        rw [epd, hq, hz] at hnx
        obtain ⟨c, hc⟩ : ∃ c, f (r0 + wi) = c := ⟨_, rfl⟩
        rw [hc] at k5 hdr hnx
        obtain ⟨hd1, hd2⟩ := hdr
        have HNX := fhid hnx
        have HI := fhid (hI.out.setD (show wi < 800 by omega) (q + 48))
        obtain ⟨R, hR⟩ : ∃ R, r0 + wi = R := ⟨_, rfl⟩
        have HRR := fhid hR
        rw [hR] at k5 hlt ⊢
        have hR8 : R < 800 := by omega
        have hw8 : wi < 800 := by omega
        clear hnx epd hq hz hn hc hR
        go_wp2_with fail
        go_roundw
        case rel => exact ⟨wi + 1, z * 10 + (c - 48), setAt g wi (q + 48), by have := HRR.out; congr 1; omega, by go_num, by congr 1; omega, HNX, HI, by omega, fhid (hB.out.setCell (Nat.le_refl _) _)⟩
        case measure => simp [intOf]; omega
      · have hge : ¬ ((r0 + wi : Nat) : Int) < (nd : Int) := by omega
        have HGE2 := fhid (Nat.le_of_not_lt hlt)
        clear hlt
        go_wp2_with fail
        clear hge k1
        go_loopw [5, 6] (fun x n w2 => ∃ (wi n' : Nat) (g : Nat → Nat), x = .int .i64 wi ∧ n = .int .u64 n' ∧ Hid (RS f nd T r0 g wi n') ∧ Hid (DecIs w2 b g nd (dp - ((r0 : Int) - 1)) ng tr) ∧ wi ≤ 800 ∧ Hid (nd ≤ r0 + wi) ∧ Hid (Below b wc w2)) (fun x _ _ => 1000 - (intOf x).toNat)
        case atStart => exact ⟨wi, n, g, rfl, rfl, hS, hI, hw, HGE2, hB⟩
        case round =>
          clear hS hI hB HGE2 hw
          obtain ⟨wi, n, g, rfl, rfl, hS, hI, hw, hG, hB⟩ := hrel
          by_cases hpos : 0 < n
          · have hn := hS.out.lt
            have hw8 : wi < 800 := by
              rcases Nat.lt_or_ge wi 800 with hh | hh
              · exact hh
              · exfalso
                have := hS.out.done HT1.out HM.out (by have := HFT.out; omega)
                omega
            have hnb : n < 18446744073709551616 := by have := HT2.out; omega
            have hand := HAND.out n hnb
            obtain ⟨q, hq⟩ : ∃ q, n / T = q := ⟨_, rfl⟩
            have hq9 : q ≤ 9 := by
              have := (Nat.div_lt_iff_lt_mul HT1.out).2 hn
              omega
            have hqi : (n : Int) / (T : Int) = (q : Int) := by rw [← Int.natCast_ediv, hq]
            obtain ⟨z, hz⟩ : ∃ z, n % T = z := ⟨_, rfl⟩
            rw [hz] at hand
            have hzT : z < 1152921504606846976 := by rw [← hz]; exact Nat.lt_of_lt_of_le (Nat.mod_lt _ HT1.out) HT2.out
            have k6 := hI.out.fz wi (by omega)
            have k7 := hI.out.at_ wi (by omega)
            have hnx := hS.out.next HT1.out HD.out
            have epd : pad f nd (r0 + wi) = 48 := by unfold pad; rw [if_neg (by have := hG.out; omega)]
            rw [epd, hq, hz, Nat.sub_self, Nat.add_zero] at hnx
            have HNX := fhid hnx
            have HI := fhid (hI.out.setD hw8 (q + 48))
            have hG2 : Hid (nd ≤ r0 + (wi + 1)) := fhid (by have := hG.out; omega)
            clear hnx epd hq hz hn
            go_wp2_with fail
            go_roundw
            case rel => exact ⟨wi + 1, z * 10, setAt g wi (q + 48), by go_num, by go_num, HNX, HI, by omega, hG2, fhid (hB.out.setCell (Nat.le_refl _) _)⟩
            case measure => simp [intOf]; omega
          · obtain rfl : n = 0 := by omega
            have k1 := hI.out.nd
            have k2 := hI.out.fz 800 (by omega)
            have HI := fhid (hI.out.setN (v := (wi : Int)) wi rfl)
            have HB := fhid (hB.out.setCell (p := ⟨b, 800, none⟩) (Nat.le_refl _) (.int .i64 wi))
            have hw8 := hw
            clear hpos
            go_wp2_with fail
            with_reducible refine (trimD b g wi _ ng tr _ HI.out hS.out.dig hw8).mono ?_
            rintro e w3 ⟨j, rfl, hd3, ht3, hl3, hb3⟩
            obtain ⟨f1, f2, f3⟩ := hS.out.fin (dp := dp) HT1.out hG.out ht3
            rw [if_neg (by omega)] at hd3
            have HP := fhid (⟨g, j, _, rfl, hd3, fun i hi => hS.out.dig i (by have := ht3.1; omega), f1, f2, hl3 (by omega), by have := ht3.1; omega, f3, by omega, by omega, HB.out.trans (hb3.mono (Nat.le_refl _))⟩ : RsPost b f nd dp T ng tr wc (.returned (.tuple #[])) w3)
            clear hd3 ht3 hl3 hb3 f1 f2 f3
            go_wp2_with fail
            go_end0
            obtain ⟨g', j', dp', -, hh⟩ := HP.out
            exact ⟨g', j', dp', rfl, hh⟩
end Go.Proofs.YtgbldjbkapaclaaDoor.fl
/- strconv's leftShift, plain: its table, and digits that are doubled k times. -/
namespace Go.Proofs.YtgbldjbkapaclaaDoor.fl
set_option linter.unusedVariables false
set_option linter.unusedSimpArgs false
/-- The table's rows. -/
def chD (i : Nat) : Nat := (Go.Pinned.cheatRows.getD i (0, [])).1
def chL (i : Nat) : List UInt8 := (Go.Pinned.cheatRows.getD i (0, [])).2
def chS (i : Nat) : ByteArray := ⟨(chL i).toArray⟩
/-- The number that a row's digits make. -/
def chF (i : Nat) : Nat → Nat := fun j => ((chL i).map UInt8.toNat).getD j 48
def chB (k : Nat) : Bool := decide (1 ≤ chD k) && decide (10 ^ (chD k - 1) ≤ 2 ^ k) && decide (2 ^ k < 10 ^ chD k) && decide ((chL k).length + chD k = k + 1) && decide (dn (chF k) (chL k).length = 5 ^ k) &&
  (chL k).all (fun c => decide (48 ≤ c.toNat ∧ c.toNat ≤ 57)) && decide (chF k ((chL k).length - 1) ≠ 48)
set_option maxRecDepth 100000 in
theorem ch_all : (List.range 61).all (fun k => k == 0 || chB k) = true := by decide +kernel
structure Cheat (k D L : Nat) (c : Nat → Nat) : Prop where
  pos : 1 ≤ D
  lo : 10 ^ (D - 1) ≤ 2 ^ k
  hi : 2 ^ k < 10 ^ D
  len : L + D = k + 1
  val : dn c L = 5 ^ k
  dig : DigF c L
  last : c (L - 1) ≠ 48
theorem cheat_ok {k : Nat} (h1 : 1 ≤ k) (h2 : k ≤ 60) : Cheat k (chD k) (chL k).length (chF k) := by
  have h := List.all_eq_true.1 ch_all k (by simp; omega)
  rw [Bool.or_eq_true] at h
  have h := h.resolve_left (by simp; omega)
  unfold chB at h
  simp only [Bool.and_eq_true, decide_eq_true_eq, List.all_eq_true] at h
  obtain ⟨⟨⟨⟨⟨⟨a, b⟩, c⟩, d⟩, e⟩, f⟩, g⟩ := h
  refine ⟨a, b, c, d, e, fun i hi => ?_, g⟩
  unfold chF
  rw [List.getD_eq_getElem?_getD, List.getElem?_map, List.getElem?_eq_getElem hi]
  exact f _ (List.getElem_mem hi)
theorem dn_div {f : Nat → Nat} {n : Nat} (hd : DigF f n) : ∀ d, d ≤ n → dn f n / 10 ^ d = dn f (n - d)
  | 0, _ => by rw [Nat.pow_zero, Nat.div_one, Nat.sub_zero]
  | d + 1, h => by
    have ih := dn_div hd d (by omega)
    rw [Nat.pow_succ, ← Nat.div_div_eq_div_mul, ih]
    obtain ⟨m, hm⟩ : ∃ m, n - d = m + 1 := ⟨n - d - 1, by omega⟩
    rw [hm, show n - (d + 1) = m by omega, dn_succ]
    have := hd m (by omega)
    omega
theorem dn_mod {f : Nat → Nat} {n : Nat} (hd : DigF f n) (j : Nat) (hj : j < n) : dn f n % 10 ^ (n - j) = (f j - 48) * 10 ^ (n - (j + 1)) + dn f n % 10 ^ (n - (j + 1)) := by
  have h1 := dn_div hd (n - j) (by omega)
  have h2 := dn_div hd (n - (j + 1)) (by omega)
  rw [show n - (n - j) = j by omega] at h1
  rw [show n - (n - (j + 1)) = j + 1 by omega, dn_succ] at h2
  have e1 := Nat.div_add_mod (dn f n) (10 ^ (n - j))
  have e2 := Nat.div_add_mod (dn f n) (10 ^ (n - (j + 1)))
  have hp : 10 ^ (n - j) = 10 * 10 ^ (n - (j + 1)) := by
    rw [show n - j = n - (j + 1) + 1 by omega, Nat.pow_succ, Nat.mul_comm]
  rw [h1] at e1
  rw [h2] at e2
  obtain ⟨Q, hQ⟩ : ∃ Q, 10 ^ (n - (j + 1)) = Q := ⟨_, rfl⟩
  rw [hp, hQ] at e1 ⊢
  rw [hQ] at e2
  have e3 : Q * (dn f j * 10 + (f j - 48)) = 10 * Q * dn f j + (f j - 48) * Q := by
    rw [Nat.mul_add, Nat.mul_comm Q (f j - 48), Nat.mul_comm (dn f j) 10, ← Nat.mul_assoc, Nat.mul_comm Q 10]
  omega
/-- The digits of Z. -/
def tgt (Z N : Nat) : Nat → Nat := fun i => Z / 10 ^ (N - 1 - i) % 10 + 48
theorem dn_tgt {Z N : Nat} (h : Z < 10 ^ N) : ∀ i, i ≤ N → dn (tgt Z N) i = Z / 10 ^ (N - i)
  | 0, _ => by
    rw [Nat.sub_zero, Nat.div_eq_of_lt h]; rfl
  | i + 1, hi => by
    rw [dn_succ, dn_tgt h i (by omega)]
    unfold tgt
    rw [Nat.add_sub_cancel, show N - i = N - 1 - i + 1 by omega, Nat.pow_succ, ← Nat.div_div_eq_div_mul, show N - (i + 1) = N - 1 - i by omega]
    have := Nat.div_add_mod (Z / 10 ^ (N - 1 - i)) 10
    omega
theorem tgt_dig (Z N n : Nat) : DigF (tgt Z N) n := fun i _ => by unfold tgt; omega
theorem tgt_top {Z N : Nat} (h1 : 10 ^ (N - 1) ≤ Z) (h2 : Z < 10 ^ N) : 49 ≤ tgt Z N 0 := by
  unfold tgt
  rw [Nat.sub_zero]
  have hp := Nat.pow_pos (n := N - 1) (show 0 < 10 by decide)
  have h3 : 1 ≤ Z / 10 ^ (N - 1) := (Nat.le_div_iff_mul_le hp).2 (by omega)
  have h4 : Z / 10 ^ (N - 1) < 10 := by
    rw [Nat.div_lt_iff_lt_mul hp]
    rcases Nat.eq_zero_or_pos N with h0 | h0
    · subst h0; simp at h2 h1; omega
    · obtain ⟨m, rfl⟩ : ∃ m, N = m + 1 := ⟨N - 1, by omega⟩
      rw [Nat.add_sub_cancel]
      rw [Nat.pow_succ] at h2
      omega
  omega
/-- What leftShift's first loop keeps: j digits are still to be read, n is carried. -/
structure LS (f : Nat → Nat) (nd T D : Nat) (g : Nat → Nat) (j n : Nat) : Prop where
  car : n = dn f nd % 10 ^ (nd - j) * T / 10 ^ (nd - j)
  le : j ≤ nd
  out : ∀ i, j + D ≤ i → i < nd + D → g i = tgt (dn f nd * T) (nd + D) i
  rest : ∀ i, i < j + D → g i = f i
theorem LS.low {f : Nat → Nat} {nd T D : Nat} {g : Nat → Nat} {j n : Nat} (h : LS f nd T D g j n) (hT : 0 < T) : n < T := by
  rw [h.car]
  have hp := Nat.pow_pos (n := nd - j) (show 0 < 10 by decide)
  rw [Nat.div_lt_iff_lt_mul hp, Nat.mul_comm T]
  exact Nat.mul_lt_mul_of_pos_right (Nat.mod_lt _ hp) hT
theorem LS.next {f : Nat → Nat} {nd T D : Nat} {g : Nat → Nat} {j n : Nat} (h : LS f nd T D g (j + 1) n) (hd : DigF f nd) :
    LS f nd T D (setAt g (j + D) ((n + (f j - 48) * T) % 10 + 48)) j ((n + (f j - 48) * T) / 10) := by
  have hle := h.le
  have hcar := h.car
  obtain ⟨Q, hQ⟩ : ∃ Q, 10 ^ (nd - (j + 1)) = Q := ⟨_, rfl⟩
  have hQp : 0 < Q := by rw [← hQ]; exact Nat.pow_pos (by decide)
  have hp : 10 ^ (nd - j) = Q * 10 := by rw [← hQ, show nd - j = nd - (j + 1) + 1 by omega, Nat.pow_succ]
  have hm := dn_mod hd j (by omega)
  rw [hQ] at hcar hm
  have hkey : dn f nd % 10 ^ (nd - j) * T / Q = n + (f j - 48) * T := by
    rw [hm, Nat.add_mul, Nat.mul_right_comm, Nat.add_comm, Nat.add_mul_div_right _ _ hQp, ← hcar]
  refine ⟨?_, by omega, ?_, ?_⟩
  · rw [hp, ← Nat.div_div_eq_div_mul, ← hp, hkey]
  · intro i h1 h2
    unfold setAt
    by_cases hi : i = j + D
    · subst hi
      rw [if_pos rfl]
      unfold tgt
      rw [show nd + D - 1 - (j + D) = nd - (j + 1) by omega, hQ]
      have e := Nat.div_add_mod (dn f nd) (10 ^ (nd - j))
      have e2 : dn f nd * T / Q = dn f nd / 10 ^ (nd - j) * T * 10 + (n + (f j - 48) * T) := by
        rw [← hkey]
        have e3 : dn f nd * T = dn f nd % 10 ^ (nd - j) * T + dn f nd / 10 ^ (nd - j) * T * 10 * Q := by
          have e4 : dn f nd / 10 ^ (nd - j) * T * 10 * Q = 10 ^ (nd - j) * (dn f nd / 10 ^ (nd - j)) * T := by
            rw [hp, Nat.mul_assoc (dn f nd / _ * T), Nat.mul_comm 10 Q, Nat.mul_right_comm, Nat.mul_comm (dn f nd / _)]
          rw [e4, ← Nat.add_mul, Nat.add_comm (dn f nd % _), e]
        rw [e3, Nat.add_mul_div_right _ _ hQp, Nat.add_comm]
      rw [e2]
      omega
    · rw [if_neg hi]
      exact h.out i (by omega) h2
  · intro i hi
    unfold setAt
    rw [if_neg (by omega)]
    exact h.rest i (by omega)
theorem LS.start (f : Nat → Nat) (nd T D : Nat) : LS f nd T D f nd 0 :=
  ⟨by rw [Nat.sub_self, Nat.pow_zero, Nat.mod_one, Nat.zero_mul, Nat.zero_div], Nat.le_refl _, fun i h1 h2 => by omega, fun _ _ => rfl⟩
/-- What leftShift's second loop keeps. -/
structure LX (Z N D : Nat) (g : Nat → Nat) (w n : Nat) : Prop where
  car : n = Z / 10 ^ (N - w)
  le : w ≤ D
  out : ∀ i, w ≤ i → i < N → g i = tgt Z N i
theorem LS.turn {f : Nat → Nat} {nd T D : Nat} {g : Nat → Nat} {n : Nat} (h : LS f nd T D g 0 n) (hd : DigF f nd) : LX (dn f nd * T) (nd + D) D g D n := by
  refine ⟨?_, Nat.le_refl _, fun i h1 h2 => h.out i (by omega) h2⟩
  have := h.car
  rw [Nat.sub_zero, Nat.mod_eq_of_lt (dn_lt hd)] at this
  rw [Nat.add_sub_cancel]
  exact this
theorem LX.next {Z N D : Nat} {g : Nat → Nat} {w n : Nat} (h : LX Z N D g (w + 1) n) (hN : D ≤ N) : LX Z N D (setAt g w (n % 10 + 48)) w (n / 10) := by
  have hle := h.le
  refine ⟨?_, by omega, fun i h1 h2 => ?_⟩
  · rw [h.car, Nat.div_div_eq_div_mul, ← Nat.pow_succ, show (N - (w + 1)).succ = N - w by omega]
  · unfold setAt
    by_cases hi : i = w
    · subst hi
      rw [if_pos rfl, h.car]
      unfold tgt
      rw [show N - 1 - i = N - (i + 1) by omega]
    · rw [if_neg hi]
      exact h.out i (by omega) h2
theorem LX.pos {Z N D : Nat} {g : Nat → Nat} {w n : Nat} (h : LX Z N D g w n) (hZ : Z < 10 ^ N) (hn : 0 < n) : 0 < w := by
  rcases Nat.eq_zero_or_pos w with h0 | h0
  · subst h0
    have := h.car
    rw [Nat.sub_zero, Nat.div_eq_of_lt hZ] at this
    omega
  · exact h0
theorem LX.fin {Z N D : Nat} {g : Nat → Nat} {w : Nat} (h : LX Z N D g w 0) (h1 : 10 ^ (N - 1) ≤ Z) (h2 : Z < 10 ^ N) (hN : D ≤ N) (hN1 : 1 ≤ N) : dn g N = Z ∧ DigF g N ∧ 49 ≤ g 0 := by
  have hw : w = 0 := by
    rcases Nat.eq_zero_or_pos w with h0 | h0
    · exact h0
    · exfalso
      have hp := Nat.pow_pos (n := N - w) (show 0 < 10 by decide)
      have h3 : Z < 10 ^ (N - w) := (Nat.div_eq_zero_iff_lt hp).1 h.car.symm
      have h4 : 10 ^ (N - w) ≤ 10 ^ (N - 1) := Nat.pow_le_pow_right (by decide) (by omega)
      omega
  subst hw
  have hg : ∀ i, i < N → g i = tgt Z N i := fun i hi => h.out i (by omega) hi
  refine ⟨?_, fun i hi => by rw [hg i hi]; exact tgt_dig Z N (i + 1) i (by omega), by rw [hg 0 (by omega)]; exact tgt_top h1 h2⟩
  rw [dn_congr hg, dn_tgt h2 N (Nat.le_refl _), Nat.sub_self, Nat.pow_zero, Nat.div_one]
theorem lex_lt {a c : Nat → Nat} {L i : Nat} (ha : DigF a L) (hc : DigF c L) (he : dn a i = dn c i) (hl : a i < c i) : ∀ m, i + 1 + m ≤ L → dn a (i + 1 + m) < dn c (i + 1 + m)
  | 0, h => by
    show dn a i * 10 + (a i - 48) < dn c i * 10 + (c i - 48)
    have := ha i (by omega)
    have := hc i (by omega)
    omega
  | m + 1, h => by
    have ih := lex_lt ha hc he hl m (by omega)
    show dn a (i + 1 + m) * 10 + (a (i + 1 + m) - 48) < dn c (i + 1 + m) * 10 + (c (i + 1 + m) - 48)
    have := ha (i + 1 + m) (by omega)
    omega
theorem pad_dig {f : Nat → Nat} {nd : Nat} (hd : DigF f nd) (L : Nat) : DigF (pad f nd) L := fun i _ => by
  unfold pad
  by_cases h : i < nd
  · rw [if_pos h]; exact hd i h
  · rw [if_neg h]; omega
/-- Where the first word is at its end. -/
theorem lex_short {f c : Nat → Nat} {nd L i : Nat} (hd : DigF f nd) (hc : DigF c L) (he : dn (pad f nd) i = dn c i) (hi : nd ≤ i) (hL : i < L) (hlast : c (L - 1) ≠ 48) : dn (pad f nd) L < dn c L := by
  obtain ⟨M, rfl⟩ : ∃ M, L = M + 1 := ⟨L - 1, by omega⟩
  have key : ∀ m, i + m ≤ M → dn (pad f nd) (i + m) ≤ dn c (i + m) := by
    intro m
    induction m with
    | zero => intro _; rw [Nat.add_zero, he]; exact Nat.le_refl _
    | succ m ih =>
      intro hm
      have ih := ih (by omega)
      have e : pad f nd (i + m) = 48 := by unfold pad; rw [if_neg (by omega)]
      show dn (pad f nd) (i + m) * 10 + (pad f nd (i + m) - 48) ≤ dn c (i + m) * 10 + (c (i + m) - 48)
      rw [e]
      omega
  have h1 := key (M - i) (by omega)
  rw [show i + (M - i) = M by omega] at h1
  have e : pad f nd M = 48 := by unfold pad; rw [if_neg (by omega)]
  show dn (pad f nd) M * 10 + (pad f nd M - 48) < dn c M * 10 + (c M - 48)
  rw [e]
  rw [Nat.add_sub_cancel] at hlast
  have := hc M (by omega)
  omega
/-- The table tells how many digits there are. -/
theorem cheat_cmp {f : Nat → Nat} {nd L C : Nat} (hd : DigF f nd) : dn (pad f nd) L < C ↔ dn f nd * 10 ^ L < C * 10 ^ nd := by
  rcases Nat.le_total L nd with h | h
  · rw [dn_pad_le h]
    have h1 := dn_div hd (nd - L) (by omega)
    rw [show nd - (nd - L) = L by omega] at h1
    have hp := Nat.pow_pos (n := nd - L) (show 0 < 10 by decide)
    have hq := Nat.pow_pos (n := L) (show 0 < 10 by decide)
    rw [← h1, Nat.div_lt_iff_lt_mul hp, ← Nat.mul_lt_mul_right hq, Nat.mul_assoc C, ← Nat.pow_add, show nd - L + L = nd by omega]
  · rw [dn_pad_ge h]
    have hq := Nat.pow_pos (n := nd) (show 0 < 10 by decide)
    rw [← Nat.mul_lt_mul_right hq, Nat.mul_assoc, ← Nat.pow_add, show L - nd + nd = L by omega]
theorem cheat_len {k D L : Nat} {c f : Nat → Nat} {nd : Nat} (h : Cheat k D L c) (hd : DigF f nd) (h1 : 1 ≤ nd) (h0 : 49 ≤ f 0) :
    (dn (pad f nd) L < dn c L → 10 ^ (nd + (D - 1) - 1) ≤ dn f nd * 2 ^ k ∧ dn f nd * 2 ^ k < 10 ^ (nd + (D - 1))) ∧
    (¬ dn (pad f nd) L < dn c L → 10 ^ (nd + D - 1) ≤ dn f nd * 2 ^ k ∧ dn f nd * 2 ^ k < 10 ^ (nd + D)) := by
  have hpos := h.pos
  have hlen := h.len
  have hX1 : 10 ^ (nd - 1) ≤ dn f nd := by
    obtain ⟨m, rfl⟩ : ∃ m, nd = m + 1 := ⟨nd - 1, by omega⟩
    exact dn_ge h0 m
  have hX2 := dn_lt hd
  have hcmp : dn (pad f nd) L < dn c L ↔ dn f nd * 2 ^ k < 10 ^ (nd + (D - 1)) := by
    rw [cheat_cmp hd, h.val]
    have hk : 0 < 2 ^ k := Nat.two_pow_pos k
    have hL := Nat.pow_pos (n := L) (show 0 < 10 by decide)
    have e1 : 5 ^ k * 10 ^ nd * 2 ^ k = 10 ^ (nd + (D - 1)) * 10 ^ L := by
      rw [Nat.mul_right_comm, ← Nat.mul_pow, ← Nat.pow_add, ← Nat.pow_add]
      congr 1
      omega
    rw [← Nat.mul_lt_mul_right hk, e1, Nat.mul_right_comm, Nat.mul_lt_mul_right hL]
  have hlow : 10 ^ (nd + (D - 1) - 1) ≤ dn f nd * 2 ^ k := by
    rw [show nd + (D - 1) - 1 = nd - 1 + (D - 1) by omega, Nat.pow_add]
    exact Nat.mul_le_mul hX1 h.lo
  have hup : dn f nd * 2 ^ k < 10 ^ (nd + D) := by
    rw [Nat.pow_add]
    exact Nat.mul_lt_mul_of_lt_of_le hX2 (Nat.le_of_lt h.hi) (Nat.pow_pos (by decide))
  refine ⟨fun hh => ⟨hlow, hcmp.1 hh⟩, fun hh => ⟨?_, hup⟩⟩
  have := fun h' => hh (hcmp.2 h')
  rw [show nd + D - 1 = nd + (D - 1) by omega]
  omega
end Go.Proofs.YtgbldjbkapaclaaDoor.fl
/- The walks of strconv's prefixIsLessThan and leftShift. -/
namespace Go.Proofs.YtgbldjbkapaclaaDoor.fl
open Go.ChangeShapes Go.WideShapes Go.ChangeAt Go.RowKit
set_option linter.unusedVariables false
set_option linter.unusedSimpArgs false
theorem drewN_add (w : World) (n m : Nat) : (w.drewN n).drewN m = w.drewN (n + m) := by
  simp [World.drewN, Nat.add_assoc]
theorem ch_at (k i : Nat) (h : i < (chS k).size) : (chS k)[i].toNat = chF k i := by
  unfold chF
  have h2 : i < (chL k).length := by
    have : (chS k).size = (chL k).length := by unfold chS; exact List.size_toArray
    omega
  rw [List.getD_eq_getElem?_getD, List.getElem?_map, List.getElem?_eq_getElem h2]
  rfl
set_option maxRecDepth 100000 in
set_option maxHeartbeats 2000000 in
theorem prefLessC (b : Nat) (f c : Nat → Nat) (nd L : Nat) (dp : Int) (ng tr : Bool) (s : ByteArray) (cap : Nat) (w : World) (h : DecIs w b f nd dp ng tr) (hd : DigF f nd) (hn : nd ≤ 800) (hL : s.size = L) (hL6 : L ≤ 60) (hc : DigF c L) (hs : ∀ i (h : i < s.size), s[i].toNat = c i) (hlast : 0 < L → c (L - 1) ≠ 48) :
    Calls Tryd.prog 88 #[.slice (some ⟨b, 0, none⟩) nd cap, .string s] w fun e w' => e = .returned (.bool (decide (dn (pad f nd) L < dn c L))) ∧ ∃ n, w' = w.drewN n := by
  have H0 := fhid h
  have HD := fhid hd
  have HC := fhid hc
  have HS := fhid hs
  have HLA := fhid hlast
  have HL := fhid hL
  clear h hd hc hs hlast
  go_enter Tryd.func88, Tryd.ntmps88
  go_wp2_with fail
  clear hL
  go_loopw [5] (fun i wr => ∃ (i' n : Nat), i = .int .i64 i' ∧ i' ≤ L ∧ Hid (dn (pad f nd) i' = dn c i') ∧ wr = w.drewN n) (fun i _ => 100 - (intOf i).toNat)
  case atStart => exact ⟨0, 0, rfl, by omega, fhid rfl, rfl⟩
  case round =>
    obtain ⟨i, n, rfl, hi, hE, rfl⟩ := hrel
    have hLz : (s.size : Int) = (L : Int) := by have := HL.out; omega
    by_cases hlt : i < L
    · have hlt' : (i : Int) < (L : Int) := by omega
      by_cases hin : i < nd
      · have k1 := H0.out.at_ i (by omega)
        have hin' : ¬ (nd : Int) ≤ (i : Int) := by omega
        have hin2 : (i : Int) < (nd : Int) := by omega
        have hsz : i < s.size := by rw [HL.out]; exact hlt
        have hsi := HS.out i hsz
        have epd : pad f nd i = f i := by unfold pad; rw [if_pos hin]
        have HEP := fhid epd
        obtain ⟨d, hd⟩ : ∃ d, f i = d := ⟨_, rfl⟩
        obtain ⟨e, he⟩ : ∃ e, c i = e := ⟨_, rfl⟩
        rw [hd] at k1
        rw [he] at hsi
        have HDD := fhid hd
        have HEE := fhid he
        clear hd he epd
        by_cases hde : d = e
        · subst hde
          go_wp2_with fail
          go_quiet (fail)
          go_wp2_with fail
          refine ⟨⟨i + 1, n + nq, by go_num, by omega, fhid ?_, rfl⟩, by simp [intOf]; omega⟩
          rw [dn_succ, dn_succ, hE.out, HEP.out, HDD.out, HEE.out]
        · have hne : ((d : Int) == (e : Int)) = false := by simp; omega
          have hres : decide (d < e) = decide (dn (pad f nd) L < dn c L) := by
            rw [Bool.eq_iff_iff, decide_eq_true_iff, decide_eq_true_iff]
            constructor
            · intro h
              have := lex_lt (pad_dig HD.out L) HC.out hE.out (by rw [HEP.out, HDD.out, HEE.out]; omega) (L - (i + 1)) (by omega)
              rwa [show i + 1 + (L - (i + 1)) = L by omega] at this
            · intro h
              rcases Nat.lt_or_ge d e with hh | hh
              · omega
              · exfalso
                have := lex_lt HC.out (pad_dig HD.out L) hE.out.symm (by rw [HEP.out, HDD.out, HEE.out]; omega) (L - (i + 1)) (by omega)
                rw [show i + 1 + (L - (i + 1)) = L by omega] at this
                omega
          have HR := fhid hres
          clear hres
          go_wp2_with fail
          go_quiet (fail)
          go_wp2_with fail
          go_quiet (fail)
          go_wp2_with fail
          go_ret
          exact ⟨ret_b HR.out, _, (congrArg (World.drewN · _) (drewN_add _ _ _)).trans (drewN_add _ _ _)⟩
      · have hin' : (nd : Int) ≤ (i : Int) := by omega
        have hL1 := HLA.out (by omega)
        have hres := lex_short HD.out HC.out hE.out (by omega) hlt hL1
        have HR := fhid hres
        clear hres
        go_wp2_with fail
        go_ret
        exact ⟨ret_b (decide_eq_true HR.out).symm, n, rfl⟩
    · obtain rfl : i = L := by omega
      have hge : ¬ (i : Int) < (i : Int) := by omega
      go_wp2_with fail
      go_ret
      exact ⟨ret_b (decide_eq_false (by rw [hE.out]; omega)).symm, n, rfl⟩
end Go.Proofs.YtgbldjbkapaclaaDoor.fl
/- The walk of strconv's leftShift. -/
namespace Go.Proofs.YtgbldjbkapaclaaDoor.fl
open Go.ChangeShapes Go.WideShapes Go.ChangeAt Go.RowKit
set_option linter.unusedVariables false
set_option linter.unusedSimpArgs false
/-- The tables of the slow road lie as they are laid. -/
structure FX (w : World) : Prop where
  cheat : ∃ g o cap, w.cell? ⟨15, 0, none⟩ = some (.slice (some ⟨g, o, none⟩) 61 cap) ∧ ∀ i, i < 61 → w.cell? ⟨g, o + i * 2, none⟩ = some (.int .i64 (chD i)) ∧ w.cell? ⟨g, o + i * 2 + 1, none⟩ = some (.string (chS i))
  pow : ∃ g o cap, w.cell? ⟨12, 0, none⟩ = some (.slice (some ⟨g, o, none⟩) 9 cap) ∧ ∀ i, i < 9 → w.cell? ⟨g, o + i, none⟩ = some (.int .i64 (([1, 3, 6, 9, 13, 16, 19, 23, 26] : List Nat).getD i 0 : Nat))
  expb : w.cell? ⟨10, 1, none⟩ = some (.int .u64 11)
  bias : w.cell? ⟨10, 2, none⟩ = some (.int .i64 (-1023))
  mant : w.cell? ⟨10, 0, none⟩ = some (.int .u64 52)
theorem FX.on {w w' : World} (h : FX w) (hb : Below w.heap.size w w') : FX w' := by
  have k : ∀ {p : Addr} {v : Value}, w.cell? p = some v → w'.cell? p = some v := fun hc => (hb.cell (World.block_lt_of_cell? _ _ hc)).trans hc
  obtain ⟨g, o, c, g1, g2⟩ := h.cheat
  obtain ⟨g', o', c', g1', g2'⟩ := h.pow
  exact ⟨⟨g, o, c, k g1, fun i hi => ⟨k (g2 i hi).1, k (g2 i hi).2⟩⟩, ⟨g', o', c', k g1', fun i hi => k (g2' i hi)⟩, k h.expb, k h.bias, k h.mant⟩
/-- .. below block b. -/
def FXb (w : World) (b : Nat) : Prop := ∃ w0, FX w0 ∧ w0.heap.size ≤ b ∧ Below w0.heap.size w0 w
theorem FXb.fx {w : World} {b : Nat} (h : FXb w b) : FX w := by
  obtain ⟨w0, h1, _, h3⟩ := h
  exact h1.on h3
theorem FXb.on {w w' : World} {b : Nat} (h : FXb w b) (hb : Below b w w') : FXb w' b := by
  obtain ⟨w0, h1, h2, h3⟩ := h
  exact ⟨w0, h1, h2, h3.trans (hb.mono h2)⟩
/-- What leftShift leaves. -/
def LsPost (b : Nat) (f : Nat → Nat) (nd : Nat) (dp : Int) (T : Nat) (ng tr : Bool) (w : World) (e : Ending) (w' : World) : Prop :=
  ∃ g j dp', e = .returned (.tuple #[]) ∧ DecIs w' b g j dp' ng tr ∧ DigF g j ∧ 1 ≤ j ∧ 49 ≤ g 0 ∧ g (j - 1) ≠ 48 ∧ j ≤ 800 ∧ SameV (dn g j) (dp' - j) (dn f nd * T) (dp - nd) ∧ dp ≤ dp' ∧ dp' ≤ dp + 20 ∧ Below b w w'
set_option maxRecDepth 100000 in
set_option maxHeartbeats 2000000 in
theorem leftSC (b : Nat) (f : Nat → Nat) (nd : Nat) (dp : Int) (k T : Nat) (ng tr : Bool) (w : World) (hx : FXb w b) (h : DecIs w b f nd dp ng tr) (hd : DigF f nd) (h1 : 1 ≤ nd) (h0 : 49 ≤ f 0) (hk1 : 1 ≤ k) (hk : k ≤ 60) (hT : 2 ^ k = T) (hfit : nd + chD k < 800) (hdp : -100000 ≤ dp ∧ dp ≤ 100000) :
    Calls Tryd.prog 81 #[.pointer (some ⟨b, 0, none⟩), .int .u64 k] w (LsPost b f nd dp T ng tr w) := by
  have H0 := fhid h
  have HD := fhid hd
  have HX := fhid hx
  have HTOP := fhid h0
  have HCH := fhid (cheat_ok hk1 hk)
  obtain ⟨cg, co, cc, hc1, hc2⟩ := hx.fx.cheat
  obtain ⟨hc3, hc4⟩ := hc2 k (by omega)
  obtain ⟨D, hDD⟩ : ∃ D, chD k = D := ⟨_, rfl⟩
  have HDD := fhid hDD
  rw [hDD] at hc3 hfit
  have k1 := h.nd
  have kk : (k : Int) < 61 := by omega
  have hnd8 : (nd : Int) ≤ 800 := by omega
  have hCS : (chS k).size = (chL k).length := by unfold chS; exact List.size_toArray
  have hLlen : (chL k).length ≤ 60 := by have := HCH.out.len; have := HCH.out.pos; omega
  obtain ⟨p, hp⟩ : ∃ p, decide (dn (pad f nd) (chL k).length < dn (chF k) (chL k).length) = p := ⟨_, rfl⟩
  have cp : Hid (∀ (cap n : Nat), Calls Tryd.prog 88 #[.slice (some ⟨b, 0, none⟩) nd cap, .string (chS k)] (w.drewN n) fun e w'' => e = .returned (.bool p) ∧ ∃ m, w'' = w.drewN m) := fhid fun cap n => by
    refine (prefLessC b f (chF k) nd (chL k).length dp ng tr (chS k) cap _ (h.drew n) hd (by omega) hCS hLlen HCH.out.dig (fun i hi => ch_at k i hi) (fun _ => HCH.out.last)).mono ?_
    rintro e w' ⟨rfl, m, rfl⟩
    exact ⟨by rw [hp], _, drewN_add _ _ _⟩
  have HP := fhid hp
  clear hx h hd h0 hc2 hDD hCS hLlen hp
  go_enter Tryd.func81, Tryd.ntmps81
  go_wp2_with fail
  go_quiet ((go_at_call 88; exact cp.out _ _))
  go_upto_if 30 with fail
  have HB0 : Hid (Below b w (w.drewN nq)) := fhid (below_dn (Below.refl _ _) nq)
  have HI0 := fhid (H0.out.drew nq)
  obtain ⟨w1, hw1⟩ : ∃ w1, w.drewN nq = w1 := ⟨_, rfl⟩
  rw [hw1] at HB0 HI0 ⊢
  clear hw1
  obtain ⟨D1, hD1⟩ : ∃ D1, (if p then D - 1 else D) = D1 := ⟨_, rfl⟩
  have hD0 : 1 ≤ D ∧ D ≤ 20 := by
    have h1 := HCH.out.pos
    have h2 := HCH.out.lo
    rw [HDD.out] at h1 h2
    refine ⟨h1, ?_⟩
    rcases Nat.lt_or_ge 20 D with hh | hh
    · exfalso
      have h3 : 10 ^ 20 ≤ 10 ^ (D - 1) := Nat.pow_le_pow_right (by decide) (by omega)
      have h4 : 2 ^ k ≤ 2 ^ 60 := Nat.pow_le_pow_right (by decide) hk
      omega
    · exact hh
  have hZ : Hid (10 ^ (nd + D1 - 1) ≤ dn f nd * T ∧ dn f nd * T < 10 ^ (nd + D1)) := fhid (by
    obtain ⟨a1, a2⟩ := cheat_len HCH.out HD.out h1 HTOP.out
    rw [HDD.out, hT] at a1 a2
    have hp := HP.out
    cases p
    · rw [if_neg (by decide)] at hD1
      subst hD1
      exact a2 (of_decide_eq_false hp)
    · rw [if_pos rfl] at hD1
      subst hD1
      exact a1 (of_decide_eq_true hp))
  go_cut [4] (fun v wx => v = .int .i64 (D1 : Int) ∧ wx = w1)
  case first => as_aux_lemma =>
    obtain ⟨hD1a, hD1b⟩ := hD0
    have hDm : (D : Int) - 1 = ((D - 1 : Nat) : Int) := by omega
    cases p
    · rw [if_neg (by decide)] at hD1
      subst hD1
      go_wp2_with fail
      go_meet
      exact ⟨rfl, rfl⟩
    · rw [if_pos rfl] at hD1
      subst hD1
      go_wp2_with fail
      go_meet
      exact ⟨rfl, rfl⟩
  case rest =>
    obtain ⟨rfl, rfl⟩ := hcut
    have hD20 : D1 ≤ 20 := by
      cases p
      · rw [if_neg (by decide)] at hD1; omega
      · rw [if_pos rfl] at hD1; omega
    have hD1D : D1 ≤ D := by
      cases p
      · rw [if_neg (by decide)] at hD1; omega
      · rw [if_pos rfl] at hD1; omega
    have hT1 : 0 < T := by rw [← hT]; exact Nat.two_pow_pos k
    have hT2 : T ≤ 1152921504606846976 := by rw [← hT]; exact Nat.pow_le_pow_right (by decide) hk
    have hTz : (2 : Int) ^ k = (T : Int) := by rw [← hT, Int.natCast_pow]; rfl
    have HT1 := fhid hT1
    have HT2 := fhid hT2
    have k1 := HI0.out.nd
    clear hT hT1 hT2 hc1 hc3 hc4 cp HP HCH hD1 hD0 HDD kk
    have HLS : Hid (LS f nd T D1 f nd 0) := fhid (LS.start f nd T D1)
    have HT20 : Hid (T ≤ 1152921504606846976) := HT2
    go_wp2_with fail
    clear k1
    go_loopw [5, 6, 7] (fun r x n wr => ∃ (j n' : Nat) (g : Nat → Nat), r = .int .i64 ((j : Int) - 1) ∧ x = .int .i64 ((j + D1 : Nat) : Int) ∧ n = .int .u64 n' ∧ Hid (LS f nd T D1 g j n') ∧ j ≤ nd ∧ Hid (DecIs wr b g nd dp ng tr) ∧ Hid (Below b w wr)) (fun r _ _ _ => (intOf r + 1).toNat)
    case atStart => exact ⟨nd, 0, f, rfl, by go_num, rfl, HLS, Nat.le_refl _, HI0, HB0⟩
    case round =>
      clear HLS HI0 HB0
      obtain ⟨j, n, g, rfl, rfl, rfl, hS, hj, hI, hB⟩ := hrel
      by_cases hpos : 0 < j
      · obtain ⟨i, rfl⟩ : ∃ i, j = i + 1 := ⟨j - 1, by omega⟩
        have hn := hS.out.low HT1.out
        have hT2 := HT2.out
        have k5 := hI.out.at_ i (by omega)
        rw [hS.out.rest i (by omega)] at k5
        have hdr := HD.out i (by omega)
        have hnx := hS.out.next HD.out
        obtain ⟨c, hc⟩ : ∃ c, f i = c := ⟨_, rfl⟩
        rw [hc] at k5 hdr hnx
        obtain ⟨hd1, hd2⟩ := hdr
        obtain ⟨d, hdd⟩ : ∃ d, c - 48 = d := ⟨_, rfl⟩
        rw [hdd] at hnx
        have hcd : (c : Int) - 48 = (d : Int) := by omega
        have hd9 : d ≤ 9 := by omega
        obtain ⟨M, hM⟩ : ∃ M, d * T = M := ⟨_, rfl⟩
        have hMi : (d : Int) * (T : Int) = (M : Int) := by rw [← hM, Int.natCast_mul]
        have hM9 : M ≤ 10376293541461622784 := by
          rw [← hM]; exact Nat.mul_le_mul hd9 hT2
        rw [hM] at hnx
        obtain ⟨S, hS1⟩ : ∃ S, n + M = S := ⟨_, rfl⟩
        have hSi : (n : Int) + (M : Int) = (S : Int) := by omega
        rw [hS1] at hnx
        have hSb : S < 18446744073709551616 := by omega
        obtain ⟨Q, hQ⟩ : ∃ Q, S / 10 = Q := ⟨_, rfl⟩
        obtain ⟨R, hR⟩ : ∃ R, S % 10 = R := ⟨_, rfl⟩
        have hQi : (S : Int) / 10 = (Q : Int) := by omega
        have hRi : (S : Int) - 10 * (Q : Int) = (R : Int) := by omega
        have hQb : Q < 1844674407370955162 := by omega
        have hR9 : R ≤ 9 := by omega
        rw [hQ, hR] at hnx
        have HNX := fhid hnx
        obtain ⟨J, hJ⟩ : ∃ J, i + 1 + D1 = J := ⟨_, rfl⟩
        obtain ⟨J', hJ'⟩ : ∃ J', i + D1 = J' := ⟨_, rfl⟩
        have hJi : (J : Int) - 1 = (J' : Int) := by omega
        have hJ8 : J' < 800 := by omega
        have hJ9 : (J' : Int) < 800 := by omega
        have HJ' := fhid hJ'
        have HI := fhid (hI.out.setD hJ8 (R + 48))
        have k6 := hI.out.fz J' (by omega)
        have k7 := hI.out.at_ J' hJ8
        have hi0 : ((i + 1 : Nat) : Int) - 1 = (i : Int) := by omega
        have hi8 : (i : Int) < 800 := by omega
        have hi1 : (0 : Int) ≤ (i : Int) := by omega
        rw [hi0, hJ]
        clear hS1 hQ hR hM hc hnx hn hT2 hJ hJ' hi0 hdd
        go_wp2_with fail
        have HNX2 := HNX.out
        rw [HJ'.out] at HNX2
        refine ⟨⟨i, Q, setAt g J' (R + 48), rfl, by rw [HJ'.out], rfl, fhid HNX2, by omega, HI, fhid (hB.out.setCell (Nat.le_refl _) _)⟩, by simp [intOf]⟩
      · obtain rfl : j = 0 := by omega
        have hneg : ¬ (0 : Int) ≤ ((0 : Nat) : Int) - 1 := by omega
        have HLX := fhid (hS.out.turn HD.out)
        clear hpos
        go_wp2_with fail
        clear hneg
        go_loopw [6, 7] (fun x n w2 => ∃ (wi n' : Nat) (g : Nat → Nat), x = .int .i64 (wi : Int) ∧ n = .int .u64 n' ∧ Hid (LX (dn f nd * T) (nd + D1) D1 g wi n') ∧ Hid (DecIs w2 b g nd dp ng tr) ∧ Hid (Below b w w2) ∧ n' < 11529215046068469760) (fun x _ _ => (intOf x).toNat)
        case atStart => exact ⟨D1, n, g, by go_num, rfl, HLX, hI, hB, by have := hS.out.low HT1.out; have := HT2.out; omega⟩
        case round =>
          clear HLX hI hB hS hj
          obtain ⟨wi, n, g, rfl, rfl, hX, hI, hB, hnb⟩ := hrel
          by_cases hpos : 0 < n
          · have hw := hX.out.pos hZ.out.2 hpos
            obtain ⟨i, rfl⟩ : ∃ i, wi = i + 1 := ⟨wi - 1, by omega⟩
            have hwD := hX.out.le
            have hnx := hX.out.next (by omega)
            obtain ⟨Q, hQ⟩ : ∃ Q, n / 10 = Q := ⟨_, rfl⟩
            obtain ⟨R, hR⟩ : ∃ R, n % 10 = R := ⟨_, rfl⟩
            have hQi : (n : Int) / 10 = (Q : Int) := by omega
            have hRi : (n : Int) - 10 * (Q : Int) = (R : Int) := by omega
            have hQb : Q < 1152921504606846976 := by omega
            have hR9 : R ≤ 9 := by omega
            rw [hQ, hR] at hnx
            have HNX := fhid hnx
            have hJ8 : i < 800 := by omega
            have HI := fhid (hI.out.setD hJ8 (R + 48))
            have k6 := hI.out.fz i (by omega)
            have k7 := hI.out.at_ i hJ8
            have hi0 : ((i + 1 : Nat) : Int) - 1 = (i : Int) := by omega
            obtain ⟨J, hJ⟩ : ∃ J, i + 1 = J := ⟨_, rfl⟩
            rw [hJ] at hi0 ⊢
            clear hnx hQ hR hX hwD hJ hw
            go_wp2_with fail
            refine ⟨⟨i, Q, setAt g i (R + 48), rfl, rfl, HNX, HI, fhid (hB.out.setCell (Nat.le_refl _) _), by omega⟩, by simp [intOf] <;> omega⟩
          · obtain rfl : n = 0 := by omega
            obtain ⟨f1, f2, f3⟩ := hX.out.fin hZ.out.1 hZ.out.2 (by omega) (by omega)
            have k1 := hI.out.nd
            have k2 := hI.out.fz 800 (by omega)
            have k3 := hI.out.dp
            have k4 := hI.out.fz 801 (by omega)
            have HI := fhid ((hI.out.setN (v := (nd : Int) + (D1 : Int)) (nd + D1) (by omega)).setP (dp + (D1 : Int)))
            have HB := fhid ((hB.out.setCell (p := ⟨b, 800, none⟩) (Nat.le_refl _) (.int .i64 ((nd : Int) + (D1 : Int)))).setCell (p := ⟨b, 801, none⟩) (Nat.le_refl _) (.int .i64 (dp + (D1 : Int))))
            have F1 := fhid f1
            have F2 := fhid f2
            have F3 := fhid f3
            clear hpos f1 f2 f3
            go_wp2_with fail
            with_reducible refine (trimD b g (nd + D1) _ ng tr _ HI.out F2.out (by omega)).mono ?_
            rintro e w3 ⟨j, rfl, hd3, ht3, hl3, hb3⟩
            have hj1 : 1 ≤ j := by
              rcases Nat.eq_zero_or_pos j with hh | hh
              · exfalso
                subst hh
                have h2 := ht3.2
                have h4 : dn g 0 = 0 := rfl
                rw [h4, Nat.zero_mul, F1.out] at h2
                have h5 := Nat.pow_pos (n := nd + D1 - 1) (show 0 < 10 by decide)
                have := hZ.out.1
                omega
              · exact hh
            rw [if_neg (by omega)] at hd3
            have hV := SameV.pow (dn g j) (nd + D1 - j) (dp - nd)
            rw [← ht3.2, F1.out, show dp - (nd : Int) + ((nd + D1 - j : Nat) : Int) = dp + (D1 : Int) - j by have := ht3.1; omega] at hV
            have HP := fhid (⟨g, j, _, rfl, hd3, fun i hi => F2.out i (by have := ht3.1; omega), hj1, F3.out, hl3 (by omega), by have := ht3.1; omega, hV.symm, by omega, by omega, HB.out.trans hb3⟩ : LsPost b f nd dp T ng tr w (.returned (.tuple #[])) w3)
            clear hd3 ht3 hl3 hb3 hV
            go_wp2_with fail
            go_end0
            obtain ⟨g', j', dp', -, hh⟩ := HP.out
            exact ⟨g', j', dp', rfl, hh⟩
end Go.Proofs.YtgbldjbkapaclaaDoor.fl
/- The walk of strconv's (decimal).Shift. -/
namespace Go.Proofs.YtgbldjbkapaclaaDoor.fl
open Go.ChangeShapes Go.WideShapes Go.ChangeAt Go.RowKit
set_option linter.unusedVariables false
set_option linter.unusedSimpArgs false
theorem fit_next {X X1 nd nd1 m a c : Nat} {dp dp1 : Int} (h : SameV (X1 * 2 ^ a) (dp1 - nd1) X (dp - nd)) (hm : 2 ^ (a + c) ∣ X * 10 ^ m) (h1 : nd + m ≤ 800) (h2 : nd1 ≤ 800) (h3 : dp1 ≤ dp) :
    ∃ m1, 2 ^ c ∣ X1 * 10 ^ m1 ∧ nd1 + m1 ≤ 800 := by
  have ha : 0 < 2 ^ a := Nat.two_pow_pos a
  have key : ∀ Y, 2 ^ (a + c) ∣ Y * 2 ^ a → 2 ^ c ∣ Y := fun Y hY => by
    rw [Nat.pow_add, Nat.mul_comm Y] at hY
    exact (Nat.mul_dvd_mul_iff_left ha).1 hY
  rcases Int.le_total 0 ((m : Int) + (nd - dp) - (nd1 - dp1)) with ht | ht
  · obtain ⟨m1, hm1⟩ : ∃ m1 : Nat, (m1 : Int) = (m : Int) + (nd - dp) - (nd1 - dp1) := ⟨((m : Int) + (nd - dp) - (nd1 - dp1)).toNat, by omega⟩
    refine ⟨m1, key _ ?_, by omega⟩
    have e1 := SameV.pow (X1 * 2 ^ a) m1 (dp1 - nd1 - m1)
    have e2 := SameV.pow X m (dp - nd - m)
    rw [show dp1 - (nd1 : Int) - m1 + m1 = dp1 - nd1 by omega] at e1
    rw [show dp - (nd : Int) - m + m = dp - nd by omega] at e2
    have e3 := (e1.trans h).trans e2.symm
    rw [show dp1 - (nd1 : Int) - m1 = dp - nd - m by omega] at e3
    rw [Nat.mul_right_comm, e3.eq]
    exact hm
  · obtain ⟨s, hs⟩ : ∃ s : Nat, (s : Int) = -((m : Int) + (nd - dp) - (nd1 - dp1)) := ⟨(-((m : Int) + (nd - dp) - (nd1 - dp1))).toNat, by omega⟩
    refine ⟨0, key _ ?_, by omega⟩
    have e2 := SameV.pow X (m + s) (dp - nd - (m + s : Nat))
    rw [show dp - (nd : Int) - ((m + s : Nat) : Int) + ((m + s : Nat) : Int) = dp - nd by omega] at e2
    have e3 := h.trans e2.symm
    rw [show dp1 - (nd1 : Int) = dp - nd - ((m + s : Nat) : Int) by omega] at e3
    rw [Nat.pow_zero, Nat.mul_one, e3.eq, Nat.pow_add 10, ← Nat.mul_assoc]
    exact Nat.dvd_mul_right_of_dvd hm _
set_option maxHeartbeats 1000000 in
theorem shiftLC (b : Nat) (f : Nat → Nat) (nd : Nat) (dp : Int) (k : Nat) (ng tr : Bool) (w : World) (hx : FXb w b) (h : DecIs w b f nd dp ng tr) (hd : DigF f nd) (h1 : 1 ≤ nd) (h0 : 49 ≤ f 0) (hk1 : 1 ≤ k) (hk : k ≤ 60) (hfit : nd + chD k < 800) (hdp : -100000 ≤ dp ∧ dp ≤ 100000) :
    Calls Tryd.prog 76 #[.pointer (some ⟨b, 0, none⟩), .int .i64 k] w (LsPost b f nd dp (2 ^ k) ng tr w) := by
  have c := fhid (leftSC b f nd dp k (2 ^ k) ng tr w hx h hd h1 h0 hk1 hk rfl hfit hdp)
  have k1 := h.nd
  have e1 : ((nd : Int) == 0) = false := by simp; omega
  have e2 : (0 : Int) < (k : Int) := by omega
  have e3 : ¬ (60 : Int) < (k : Int) := by omega
  clear hx h hd h0 hfit hdp
  go_enter Tryd.func76, Tryd.ntmps76
  go_wp2_with fail
  clear k1 e1
  go_loopw [1] (fun x wr => x = .int .i64 (k : Int) ∧ wr = w) (fun _ _ => 0)
  case atStart => exact ⟨rfl, rfl⟩
  obtain ⟨rfl, rfl⟩ := hrel
  go_wp2_with fail
  with_reducible refine c.out.mono ?_
  clear c
  rintro e w3 hp
  obtain ⟨g, j, dp', rfl, hh⟩ := hp
  have HP := fhid hh
  clear hh
  go_wp2_with fail
  go_end0
  exact ⟨g, j, dp', rfl, HP.out⟩
theorem right60 (b : Nat) (f : Nat → Nat) (nd : Nat) (dp : Int) (m : Nat) (ng tr : Bool) (w : World) (h : DecIs w b f nd dp ng tr) (hd : DigF f nd) (h1 : 1 ≤ nd) (h0 : 49 ≤ f 0) (hm : 2 ^ 60 ∣ dn f nd * 10 ^ m) (hfit : nd + m ≤ 800) (hdp : -100000 ≤ dp ∧ dp ≤ 100000) :
    Calls Tryd.prog 82 #[.pointer (some ⟨b, 0, none⟩), .int .u64 60] w (RsPost b f nd dp (2 ^ 60) ng tr w) :=
  rightC b f nd dp 60 m (2 ^ 60) ng tr w h hd h1 h0 (by omega) rfl hm hfit hdp
set_option maxHeartbeats 1000000 in
theorem shiftRC (b : Nat) (f : Nat → Nat) (nd : Nat) (dp : Int) (k m : Nat) (ng tr : Bool) (w : World) (h : DecIs w b f nd dp ng tr) (hd : DigF f nd) (h1 : 1 ≤ nd) (h0 : 49 ≤ f 0) (hk1 : 1 ≤ k) (hk : k ≤ 2000) (hm : 2 ^ k ∣ dn f nd * 10 ^ m) (hfit : nd + m ≤ 800) (hdp : -10000 ≤ dp ∧ dp ≤ 10000) :
    Calls Tryd.prog 76 #[.pointer (some ⟨b, 0, none⟩), .int .i64 (-(k : Int))] w
      fun e w' => ∃ g j dp', e = .returned (.tuple #[]) ∧ DecIs w' b g j dp' ng tr ∧ DigF g j ∧ 1 ≤ j ∧ 49 ≤ g 0 ∧ g (j - 1) ≠ 48 ∧ j ≤ 800 ∧ SameV (dn g j * 2 ^ k) (dp' - j) (dn f nd) (dp - nd) ∧ dp - k - 20 ≤ dp' ∧ dp' ≤ dp ∧ Below b w w' := by
  have k1 := h.nd
  have e1 : ((nd : Int) == 0) = false := by simp; omega
  have e2 : ¬ (0 : Int) < -(k : Int) := by omega
  have e3 : -(k : Int) < 0 := by omega
  have HST : Hid (∃ g j dp' c m1, DecIs w b g j dp' ng tr ∧ DigF g j ∧ 1 ≤ j ∧ 49 ≤ g 0 ∧ j ≤ 800 ∧ c + k = k ∧ SameV (dn g j * 2 ^ c) (dp' - j) (dn f nd) (dp - nd) ∧ dp - c ≤ dp' ∧ dp' ≤ dp ∧ 2 ^ k ∣ dn g j * 10 ^ m1 ∧ j + m1 ≤ 800 ∧ Below b w w) :=
    fhid ⟨f, nd, dp, 0, m, h, hd, h1, h0, by omega, by omega, by rw [Nat.pow_zero, Nat.mul_one]; exact SameV.refl _ _, by omega, Int.le_refl _, hm, hfit, Below.refl _ _⟩
  have HDP := fhid hdp
  clear h hd h0 hfit hdp hm
  go_enter Tryd.func76, Tryd.ntmps76
  go_wp2_with fail
  clear k1 e1
  go_loopw [1] (fun x wr => ∃ (k' : Nat), x = .int .i64 (-(k' : Int)) ∧ 1 ≤ k' ∧ k' ≤ k ∧ Hid (∃ g j dp' c m1, DecIs wr b g j dp' ng tr ∧ DigF g j ∧ 1 ≤ j ∧ 49 ≤ g 0 ∧ j ≤ 800 ∧ c + k' = k ∧ SameV (dn g j * 2 ^ c) (dp' - j) (dn f nd) (dp - nd) ∧ dp - c ≤ dp' ∧ dp' ≤ dp ∧ 2 ^ k' ∣ dn g j * 10 ^ m1 ∧ j + m1 ≤ 800 ∧ Below b w wr)) (fun x _ => (-intOf x).toNat)
  case atStart => exact ⟨k, rfl, hk1, Nat.le_refl _, HST⟩
  case round =>
    clear HST e2 e3
    obtain ⟨k', rfl, hk1', hkk, hS⟩ := hrel
    obtain ⟨g, j, dp', c, m1, a1, a2, a3, a4, a5, a6, a7, a8, a9, a10, a11, a12⟩ := hS.out
    by_cases hbig : 60 < k'
    · obtain ⟨r, rfl⟩ : ∃ r, k' = 60 + r := ⟨k' - 60, by omega⟩
      have hc := fhid (right60 b g j dp' m1 ng tr wr a1 a2 a3 a4 (Nat.dvd_trans (Nat.pow_dvd_pow 2 (by omega)) a10) a11 (by have := HDP.out; omega))
      have A := fhid (And.intro a5 (And.intro a6 (And.intro a7 (And.intro a8 (And.intro a9 (And.intro a10 (And.intro a11 a12)))))))
      clear a1 a2 a3 a4 a5 a6 a7 a8 a9 a10 a11 a12 hS
      have hb1 : -((60 + r : Nat) : Int) < -60 := by omega
      go_wp2_with fail
      with_reducible refine hc.out.mono ?_
      clear hc
      rintro e w3 hp
      obtain ⟨g1, j1, dp1, rfl, b1, b2, b3, b4, b5, b6, b7, b8, b9, b10⟩ := hp
      obtain ⟨a5, a6, a7, a8, a9, a10, a11, a12⟩ := A.out
      obtain ⟨m2, c1, c2⟩ := fit_next b7 a10 a11 b6 b9
      have hV : SameV (dn g1 j1 * 2 ^ (c + 60)) (dp1 - j1) (dn f nd) (dp - nd) := by
        have := b7.mul (2 ^ c)
        rw [Nat.mul_assoc, ← Nat.pow_add, Nat.add_comm 60 c] at this
        exact this.trans a7
      have HN : Hid (∃ g j dp' c m1, DecIs w3 b g j dp' ng tr ∧ DigF g j ∧ 1 ≤ j ∧ 49 ≤ g 0 ∧ j ≤ 800 ∧ c + r = k ∧ SameV (dn g j * 2 ^ c) (dp' - j) (dn f nd) (dp - nd) ∧ dp - c ≤ dp' ∧ dp' ≤ dp ∧ 2 ^ r ∣ dn g j * 10 ^ m1 ∧ j + m1 ≤ 800 ∧ Below b w w3) :=
        fhid ⟨g1, j1, dp1, c + 60, m2, b1, b2, b3, b4, b6, by omega, hV, by omega, by omega, c1, c2, a12.trans b10⟩
      clear b1 b2 b3 b4 b5 b6 b7 b8 b9 b10 a5 a6 a7 a8 a9 a10 a11 a12 c1 c2 hV
      go_wp2_with fail
      go_roundw
      case rel => exact ⟨r, by congr 1; omega, by omega, by omega, HN⟩
      case measure => simp [intOf]; omega
    · have hc := fhid (rightC b g j dp' k' m1 (2 ^ k') ng tr wr a1 a2 a3 a4 (by omega) rfl a10 a11 (by have := HDP.out; omega))
      have A := fhid (And.intro a5 (And.intro a6 (And.intro a7 (And.intro a8 (And.intro a9 (And.intro a10 (And.intro a11 a12)))))))
      clear a1 a2 a3 a4 a5 a6 a7 a8 a9 a10 a11 a12 hS
      have hb1 : ¬ -(k' : Int) < -60 := by omega
      have hneg : -(-(k' : Int)) = (k' : Int) := by omega
      have hk60 : k' ≤ 60 := by omega
      go_wp2_with fail
      with_reducible refine hc.out.mono ?_
      clear hc
      rintro e w3 hp
      obtain ⟨g1, j1, dp1, rfl, b1, b2, b3, b4, b5, b6, b7, b8, b9, b10⟩ := hp
      obtain ⟨a5, a6, a7, a8, a9, a10, a11, a12⟩ := A.out
      have hV : SameV (dn g1 j1 * 2 ^ k) (dp1 - j1) (dn f nd) (dp - nd) := by
        have := b7.mul (2 ^ c)
        rw [Nat.mul_assoc, ← Nat.pow_add, show k' + c = k by omega] at this
        exact this.trans a7
      have HN := fhid (And.intro b1 (And.intro b2 (And.intro b3 (And.intro b4 (And.intro b5 (And.intro b6 (And.intro hV (And.intro (show dp - k - 20 ≤ dp1 by omega) (And.intro (show dp1 ≤ dp by omega) (a12.trans b10))))))))))
      clear b1 b2 b3 b4 b5 b6 b7 b8 b9 b10 a5 a6 a7 a8 a9 a10 a11 a12 hV
      go_wp2_with fail
      go_end0
      exact ⟨g1, j1, dp1, rfl, HN.out⟩
end Go.Proofs.YtgbldjbkapaclaaDoor.fl
