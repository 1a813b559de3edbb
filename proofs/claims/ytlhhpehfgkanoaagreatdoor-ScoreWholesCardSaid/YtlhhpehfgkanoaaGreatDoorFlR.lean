/- The tables of the slow road, from what the rows list. -/
import Derived.Test.YtlhhpehfgkanoaaGreatDoorFlQ
import Derived.Deep.QuietTactic
import Derived.BigQuiet
import Derived.Test.YtlhhpehfgkanoaaGreatDoorFlE
import Derived.Deep.DeepCutAuto
import Derived.Test.YtlhhpehfgkanoaaGreatDoorFlG
/- strconv's decimal in memory, and the walk of its trim. -/
namespace Go.Proofs.YtlhhpehfgkanoaaGreatDoor.fl
open Go.ChangeShapes Go.WideShapes Go.ChangeAt Go.RowKit
set_option linter.unusedVariables false
set_option linter.unusedSimpArgs false
/-- A decimal lies in block b: its 800 bytes, how many are used, its point, its sign, whether something was left out. -/
structure DecIs (w : World) (b : Nat) (f : Nat → Nat) (nd : Nat) (dp : Int) (ng tr : Bool) : Prop where
  at_ : ∀ i, i < 800 → w.cell? ⟨b, i, none⟩ = some (.int .u8 (f i))
  nd : w.cell? ⟨b, 800, none⟩ = some (.int .i64 nd)
  dp : w.cell? ⟨b, 801, none⟩ = some (.int .i64 dp)
  ng : w.cell? ⟨b, 802, none⟩ = some (.bool ng)
  tr : w.cell? ⟨b, 803, none⟩ = some (.bool tr)
  fz : ∀ i, i < 804 → w.frozen? ⟨b, i, none⟩ = false
def setAt (f : Nat → Nat) (i v : Nat) : Nat → Nat := fun j => if j = i then v else f j
theorem DecIs.drew {w : World} {b : Nat} {f : Nat → Nat} {nd : Nat} {dp : Int} {ng tr : Bool} (h : DecIs w b f nd dp ng tr) (n : Nat) : DecIs (w.drewN n) b f nd dp ng tr :=
  ⟨h.at_, h.nd, h.dp, h.ng, h.tr, h.fz⟩
theorem cell_same {w : World} {b i j : Nat} {v : Value} (h : i ≠ j) : (w.setCell ⟨b, j, none⟩ v).cell? ⟨b, i, none⟩ = w.cell? ⟨b, i, none⟩ := by
  go_simp
theorem cell_here {w : World} {b j : Nat} {v u : Value} (h : w.cell? ⟨b, j, none⟩ = some u) : (w.setCell ⟨b, j, none⟩ v).cell? ⟨b, j, none⟩ = some v := by
  go_simp
theorem DecIs.setD {w : World} {b : Nat} {f : Nat → Nat} {nd : Nat} {dp : Int} {ng tr : Bool} (h : DecIs w b f nd dp ng tr) {i : Nat} (hi : i < 800) (v : Nat) :
    DecIs (w.setCell ⟨b, i, none⟩ (.int .u8 v)) b (setAt f i v) nd dp ng tr := by
  refine ⟨fun j hj => ?_, ?_, ?_, ?_, ?_, fun j hj => ?_⟩
  · unfold setAt
    by_cases e : j = i
    · subst e
      rw [if_pos rfl]
      exact cell_here (h.at_ j hj)
    · rw [if_neg e, cell_same e]
      exact h.at_ j hj
  · rw [cell_same (by omega)]; exact h.nd
  · rw [cell_same (by omega)]; exact h.dp
  · rw [cell_same (by omega)]; exact h.ng
  · rw [cell_same (by omega)]; exact h.tr
  · rw [World.frozen?_setCell]; exact h.fz j hj
theorem DecIs.setN {w : World} {b : Nat} {f : Nat → Nat} {nd : Nat} {dp : Int} {ng tr : Bool} (h : DecIs w b f nd dp ng tr) {v : Int} (m : Nat) (hv : v = m) :
    DecIs (w.setCell ⟨b, 800, none⟩ (.int .i64 v)) b f m dp ng tr := by
  subst hv
  refine ⟨fun j hj => ?_, cell_here h.nd, ?_, ?_, ?_, fun j hj => ?_⟩
  · rw [cell_same (by omega)]; exact h.at_ j hj
  · rw [cell_same (by omega)]; exact h.dp
  · rw [cell_same (by omega)]; exact h.ng
  · rw [cell_same (by omega)]; exact h.tr
  · rw [World.frozen?_setCell]; exact h.fz j hj
theorem DecIs.setP {w : World} {b : Nat} {f : Nat → Nat} {nd : Nat} {dp : Int} {ng tr : Bool} (h : DecIs w b f nd dp ng tr) (v : Int) :
    DecIs (w.setCell ⟨b, 801, none⟩ (.int .i64 v)) b f nd v ng tr := by
  refine ⟨fun j hj => ?_, ?_, cell_here h.dp, ?_, ?_, fun j hj => ?_⟩
  · rw [cell_same (by omega)]; exact h.at_ j hj
  · rw [cell_same (by omega)]; exact h.nd
  · rw [cell_same (by omega)]; exact h.ng
  · rw [cell_same (by omega)]; exact h.tr
  · rw [World.frozen?_setCell]; exact h.fz j hj
theorem DecIs.setG {w : World} {b : Nat} {f : Nat → Nat} {nd : Nat} {dp : Int} {ng tr : Bool} (h : DecIs w b f nd dp ng tr) (v : Bool) :
    DecIs (w.setCell ⟨b, 802, none⟩ (.bool v)) b f nd dp v tr := by
  refine ⟨fun j hj => ?_, ?_, ?_, cell_here h.ng, ?_, fun j hj => ?_⟩
  · rw [cell_same (by omega)]; exact h.at_ j hj
  · rw [cell_same (by omega)]; exact h.nd
  · rw [cell_same (by omega)]; exact h.dp
  · rw [cell_same (by omega)]; exact h.tr
  · rw [World.frozen?_setCell]; exact h.fz j hj
theorem DecIs.setT {w : World} {b : Nat} {f : Nat → Nat} {nd : Nat} {dp : Int} {ng tr : Bool} (h : DecIs w b f nd dp ng tr) (v : Bool) :
    DecIs (w.setCell ⟨b, 803, none⟩ (.bool v)) b f nd dp ng v := by
  refine ⟨fun j hj => ?_, ?_, ?_, ?_, cell_here h.tr, fun j hj => ?_⟩
  · rw [cell_same (by omega)]; exact h.at_ j hj
  · rw [cell_same (by omega)]; exact h.nd
  · rw [cell_same (by omega)]; exact h.dp
  · rw [cell_same (by omega)]; exact h.ng
  · rw [World.frozen?_setCell]; exact h.fz j hj
/-- The number that the first k digits make. -/
def dn (f : Nat → Nat) : Nat → Nat
  | 0 => 0
  | k + 1 => dn f k * 10 + (f k - 48)
/-- The first n bytes are digits. -/
def DigF (f : Nat → Nat) (n : Nat) : Prop := ∀ i, i < n → 48 ≤ f i ∧ f i ≤ 57
/-- What trim's loop keeps. -/
def TrimF (f : Nat → Nat) (n j : Nat) : Prop := j ≤ n ∧ dn f n = dn f j * 10 ^ (n - j)
theorem TrimF.next {f : Nat → Nat} {n j : Nat} (h : TrimF f n j) (hp : 0 < j) (hz : f (j - 1) = 48) : TrimF f n (j - 1) := by
  obtain ⟨h1, h2⟩ := h
  obtain ⟨i, rfl⟩ : ∃ i, j = i + 1 := ⟨j - 1, by omega⟩
  rw [Nat.add_sub_cancel] at hz ⊢
  refine ⟨by omega, ?_⟩
  rw [h2, show n - i = n - (i + 1) + 1 by omega, Nat.pow_succ]
  show (dn f i * 10 + (f i - 48)) * _ = _
  rw [hz, Nat.sub_self, Nat.add_zero, Nat.mul_assoc, Nat.mul_comm 10]
def ndOf (w : World) (b : Nat) : Nat := match w.cell? ⟨b, 800, none⟩ with
  | some (.int _ v) => v.toNat
  | _ => 0
theorem ndOf_eq {w : World} {b : Nat} {f : Nat → Nat} {nd : Nat} {dp : Int} {ng tr : Bool} (h : DecIs w b f nd dp ng tr) : ndOf w b = nd := by
  unfold ndOf
  rw [h.nd]
  rfl
/-- What trim leaves. -/
def TrPost (b : Nat) (f : Nat → Nat) (n : Nat) (dp : Int) (ng tr : Bool) (w : World) (e : Ending) (w' : World) : Prop :=
  ∃ j, e = .returned (.tuple #[]) ∧ DecIs w' b f j (if j = 0 then 0 else dp) ng tr ∧ TrimF f n j ∧ (0 < j → f (j - 1) ≠ 48) ∧ Below b w w'
set_option maxHeartbeats 1000000 in
theorem trimD (b : Nat) (f : Nat → Nat) (n : Nat) (dp : Int) (ng tr : Bool) (w : World) (h : DecIs w b f n dp ng tr) (hd : DigF f n) (hn : n ≤ 800) :
    Calls Tryz.prog 174 #[.pointer (some ⟨b, 0, none⟩)] w (TrPost b f n dp ng tr w) := by
  have H0 := fhid h
  have HD := fhid hd
  clear h hd
  go_enter Tryz.func174, Tryz.ntmps174
  go_wp2_with fail
  go_loopw [] (fun wr => ∃ j, Hid (DecIs wr b f j dp ng tr) ∧ Hid (TrimF f n j) ∧ j ≤ n ∧ Hid (Below b w wr)) (fun wr => ndOf wr b)
  case atStart => exact ⟨n, H0, fhid ⟨Nat.le_refl _, by rw [Nat.sub_self, Nat.pow_zero, Nat.mul_one]⟩, Nat.le_refl _, fhid (Below.refl _ _)⟩
  case round =>
    obtain ⟨j, hI, hT, hj, hB⟩ := hrel
    have k1 := hI.out.nd
    have k2 := hI.out.fz 800 (by omega)
    have k3 := hI.out.dp
    have k4 := hI.out.fz 801 (by omega)
    by_cases hp : 0 < j
    · have k5 := hI.out.at_ (j - 1) (by omega)
      have hj1 : (j : Int) - 1 = ((j - 1 : Nat) : Int) := by omega
      obtain ⟨d, hd⟩ : ∃ d, f (j - 1) = d := ⟨_, rfl⟩
      rw [hd] at k5
      have HDD := fhid hd
      clear hd
      have g1 : (0 : Int) < (j : Int) := by omega
      have g2 : (0 : Int) ≤ ((j - 1 : Nat) : Int) := by omega
      have g3 : ((j - 1 : Nat) : Int) < 800 := by omega
      by_cases hz : d = 48
      · subst hz
        go_wp2_with fail
        go_quiet (fail)
        go_wp2_with fail
        have hN := (hI.out.drew nq).setN (v := ((j - 1 : Nat) : Int)) (j - 1) rfl
        refine ⟨⟨j - 1, fhid hN, fhid (hT.out.next hp HDD.out), by omega, fhid ((below_dn hB.out nq).setCell (Nat.le_refl _) _)⟩, ?_⟩
        rw [ndOf_eq hN, ndOf_eq hI.out]
        omega
      · have hz' : ((d : Int) == 48) = false := by simp; omega
        have hp' : ((j : Int) == 0) = false := by simp; omega
        go_wp2_with fail
        go_quiet (fail)
        go_wp2_with fail
        go_end0
        refine ⟨j, rfl, ?_, hT.out, fun _ => by rw [HDD.out]; exact hz, below_dn hB.out nq⟩
        rw [if_neg (by omega)]
        exact hI.out.drew nq
    · obtain rfl : j = 0 := by omega
      go_wp2_with fail
      go_quiet (fail)
      go_wp2_with fail
      go_end0
      exact ⟨0, rfl, (hI.out.drew nq).setP 0, hT.out, fun h => absurd h (by omega), (below_dn hB.out nq).setCell (Nat.le_refl _) _⟩
end Go.Proofs.YtlhhpehfgkanoaaGreatDoor.fl
/- strconv's rightShift, plain: digits that are halved k times. -/
namespace Go.Proofs.YtlhhpehfgkanoaaGreatDoor.fl
set_option linter.unusedVariables false
set_option linter.unusedSimpArgs false
theorem dn_lt {f : Nat → Nat} : ∀ {n : Nat}, DigF f n → dn f n < 10 ^ n
  | 0, _ => Nat.one_pos
  | n + 1, h => by
    have ih := dn_lt (fun i hi => h i (by omega) : DigF f n)
    have := h n (by omega)
    show dn f n * 10 + (f n - 48) < _
    rw [Nat.pow_succ]
    omega
theorem dn_congr {f g : Nat → Nat} : ∀ {n : Nat}, (∀ i, i < n → f i = g i) → dn f n = dn g n
  | 0, _ => rfl
  | n + 1, h => by
    show dn f n * 10 + (f n - 48) = dn g n * 10 + (g n - 48)
    rw [dn_congr (fun i hi => h i (by omega)), h n (by omega)]
theorem dn_set {f : Nat → Nat} {n i v : Nat} (h : n ≤ i) : dn (setAt f i v) n = dn f n :=
  dn_congr fun j hj => by unfold setAt; rw [if_neg (by omega)]
theorem dn_ge {f : Nat → Nat} (h : 49 ≤ f 0) : ∀ n, 10 ^ n ≤ dn f (n + 1)
  | 0 => by show 1 ≤ 0 * 10 + (f 0 - 48); omega
  | n + 1 => by
    have ih := dn_ge h n
    show _ ≤ dn f (n + 1) * 10 + (f (n + 1) - 48)
    rw [Nat.pow_succ]
    omega
/-- The digits, noughts behind the last. -/
def pad (f : Nat → Nat) (nd : Nat) : Nat → Nat := fun i => if i < nd then f i else 48
theorem dn_pad_le {f : Nat → Nat} {nd r : Nat} (h : r ≤ nd) : dn (pad f nd) r = dn f r :=
  dn_congr fun i hi => by unfold pad; rw [if_pos (by omega)]
theorem dn_pad_add (f : Nat → Nat) (nd : Nat) : ∀ j, dn (pad f nd) (nd + j) = dn f nd * 10 ^ j
  | 0 => by rw [Nat.add_zero, dn_pad_le (Nat.le_refl _), Nat.pow_zero, Nat.mul_one]
  | j + 1 => by
    have e : pad f nd (nd + j) = 48 := by unfold pad; rw [if_neg (by omega)]
    show dn (pad f nd) (nd + j) * 10 + (pad f nd (nd + j) - 48) = _
    rw [dn_pad_add f nd j, e, Nat.sub_self, Nat.add_zero, Nat.pow_succ, Nat.mul_assoc]
theorem dn_pad_ge {f : Nat → Nat} {nd r : Nat} (h : nd ≤ r) : dn (pad f nd) r = dn f nd * 10 ^ (r - nd) := by
  obtain ⟨j, rfl⟩ : ∃ j, r = nd + j := ⟨r - nd, by omega⟩
  rw [dn_pad_add, Nat.add_sub_cancel_left]
theorem dn_succ (f : Nat → Nat) (n : Nat) : dn f (n + 1) = dn f n * 10 + (f n - 48) := rfl
theorem dn_pad_read {f : Nat → Nat} {nd r : Nat} (h : r < nd) : dn (pad f nd) (r + 1) = dn (pad f nd) r * 10 + (f r - 48) := by
  rw [dn_succ]; unfold pad; rw [if_pos h]
theorem dn_pad_none {f : Nat → Nat} {nd r : Nat} (h : nd ≤ r) : dn (pad f nd) (r + 1) = dn (pad f nd) r * 10 := by
  rw [dn_succ]; unfold pad; rw [if_neg (by omega)]; rfl
/-- The digits that are written: T is 2^k, r0 how many digits were taken first. -/
structure RS (f : Nat → Nat) (nd T r0 : Nat) (g : Nat → Nat) (w n : Nat) : Prop where
  eq : dn g w * (10 * T) + n = dn (pad f nd) (r0 + w)
  lt : n < 10 * T
  dig : DigF g w
  rest : ∀ i, w ≤ i → g i = f i
  top : (w = 0 ∧ T ≤ n) ∨ (0 < w ∧ 49 ≤ g 0)
theorem RS.next {f : Nat → Nat} {nd T r0 : Nat} {g : Nat → Nat} {w n : Nat} (h : RS f nd T r0 g w n) (hT : 0 < T) (hd : DigF f nd) :
    RS f nd T r0 (setAt g w (n / T + 48)) (w + 1) (n % T * 10 + (pad f nd (r0 + w) - 48)) := by
  obtain ⟨q, hq⟩ : ∃ q, n / T = q := ⟨_, rfl⟩
  have h9 : q ≤ 9 := by
    have := (Nat.div_lt_iff_lt_mul hT).2 h.lt
    omega
  have hq1 : T ≤ n → 1 ≤ q := fun h => by rw [← hq]; exact (Nat.le_div_iff_mul_le hT).2 (by omega)
  have hm : n % T < T := Nat.mod_lt _ hT
  have he : T * q + n % T = n := by rw [← hq]; exact Nat.div_add_mod n T
  rw [hq]
  clear hq
  have hp : pad f nd (r0 + w) - 48 ≤ 9 := by
    unfold pad
    by_cases hh : r0 + w < nd
    · rw [if_pos hh]; have := hd _ hh; omega
    · rw [if_neg hh]; omega
  refine ⟨?_, by omega, ?_, ?_, ?_⟩
  · have e1 : setAt g w (q + 48) w = q + 48 := by unfold setAt; rw [if_pos rfl]
    rw [dn_succ, dn_set (Nat.le_refl _), e1, Nat.add_sub_cancel, ← Nat.add_assoc, show r0 + (w + 1) = r0 + w + 1 from rfl, dn_succ (pad f nd), ← h.eq]
    have e2 : (dn g w * 10 + q) * (10 * T) = dn g w * (10 * T) * 10 + T * (q) * 10 := by
      rw [Nat.add_mul, Nat.mul_right_comm (dn g w), ← Nat.mul_assoc (q), Nat.mul_comm (q * 10), ← Nat.mul_assoc T]
    rw [e2]
    omega
  · intro i hi
    unfold setAt
    by_cases hh : i = w
    · rw [if_pos hh]; omega
    · rw [if_neg hh]; exact h.dig i (by omega)
  · intro i hi
    unfold setAt
    rw [if_neg (by omega)]
    exact h.rest i (by omega)
  · right
    refine ⟨by omega, ?_⟩
    unfold setAt
    rcases h.top with ⟨h0, h1⟩ | ⟨h0, h1⟩
    · subst h0
      rw [if_pos rfl]
      have := hq1 h1
      omega
    · rw [if_neg (by omega)]; exact h1
/-- Where 2^k divides, nothing is left. -/
theorem RS.done {f : Nat → Nat} {nd T r0 : Nat} {g : Nat → Nat} {w n m : Nat} (h : RS f nd T r0 g w n) (hT : 0 < T) (hm : T ∣ dn f nd * 10 ^ m) (hw : nd + m + 1 ≤ r0 + w) : n = 0 := by
  have h1 := h.eq
  rw [dn_pad_ge (by omega), show r0 + w - nd = m + ((r0 + w - nd - m - 1) + 1) by omega, Nat.pow_add, Nat.pow_succ, ← Nat.mul_assoc (dn f nd)] at h1
  obtain ⟨c, hc⟩ := hm
  rw [hc] at h1
  have h2 : (10 * T) ∣ dn g w * (10 * T) + n := by
    rw [h1]
    refine ⟨c * 10 ^ (r0 + w - nd - m - 1), ?_⟩
    generalize 10 ^ (r0 + w - nd - m - 1) = Z
    rw [Nat.mul_comm 10 T, Nat.mul_assoc T c, Nat.mul_assoc T 10, Nat.mul_left_comm 10 c Z, Nat.mul_comm Z 10]
  have h3 : (10 * T) ∣ n := (Nat.dvd_add_right (Nat.dvd_mul_left _ _)).1 h2
  rcases Nat.eq_zero_or_pos n with h0 | h0
  · exact h0
  · have := Nat.le_of_dvd h0 h3
    have := h.lt
    omega
/-- One value, twice. -/
def SameV (X : Nat) (e : Int) (Y : Nat) (e' : Int) : Prop := valN X e * valD e' = valN Y e' * valD e
theorem SameV.symm {X Y : Nat} {e e' : Int} (h : SameV X e Y e') : SameV Y e' X e := Eq.symm h
theorem SameV.refl (X : Nat) (e : Int) : SameV X e X e := rfl
theorem SameV.trans {X Y Z : Nat} {a b c : Int} (h : SameV X a Y b) (g : SameV Y b Z c) : SameV X a Z c := by
  unfold SameV at h g ⊢
  have hb := valD_pos b
  refine Nat.eq_of_mul_eq_mul_right hb ?_
  rw [Nat.mul_right_comm, h, Nat.mul_right_comm, g, Nat.mul_right_comm]
theorem SameV.pow (X j : Nat) (e : Int) : SameV (X * 10 ^ j) e X (e + j) := val_shift X j e
theorem valN_mul (X c : Nat) (e : Int) : valN (X * c) e = valN X e * c := by
  unfold valN
  generalize 2 ^ K74 = kk
  rw [Nat.mul_right_comm X c, Nat.mul_right_comm _ c]
theorem SameV.mul {X Y : Nat} {e e' : Int} (h : SameV X e Y e') (c : Nat) : SameV (X * c) e (Y * c) e' := by
  unfold SameV at h ⊢
  rw [valN_mul, valN_mul, Nat.mul_right_comm, h, Nat.mul_right_comm]
theorem SameV.eq {X Y : Nat} {e : Int} (h : SameV X e Y e) : X = Y := by
  unfold SameV at h
  have h1 := Nat.eq_of_mul_eq_mul_right (valD_pos e) h
  have key : ∀ c P : Nat, 0 < c → 0 < P → X * c * P = Y * c * P → X = Y := fun c P hc hP h => Nat.eq_of_mul_eq_mul_right hc (Nat.eq_of_mul_eq_mul_right hP h)
  refine key _ _ ?_ (Nat.two_pow_pos K74) h1
  split
  · exact Nat.pow_pos (by decide)
  · decide
/-- What is left in the end. -/
theorem RS.fin {f : Nat → Nat} {nd T r0 : Nat} {g : Nat → Nat} {w j : Nat} {dp : Int} (h : RS f nd T r0 g w 0) (hT : 0 < T) (hw : nd ≤ r0 + w) (ht : TrimF g w j) :
    1 ≤ j ∧ 49 ≤ g 0 ∧ SameV (dn g j * T) (dp - ((r0 : Int) - 1) - j) (dn f nd) (dp - nd) := by
  have hw1 : 0 < w ∧ 49 ≤ g 0 := by
    rcases h.top with ⟨_, h1⟩ | h1
    · omega
    · exact h1
  obtain ⟨hw0, hg⟩ := hw1
  obtain ⟨hj, he⟩ := ht
  have hj1 : 1 ≤ j := by
    rcases Nat.eq_zero_or_pos j with hh | hh
    · subst hh
      obtain ⟨i, rfl⟩ : ∃ i, w = i + 1 := ⟨w - 1, by omega⟩
      have h2 := dn_ge hg i
      have h3 := Nat.pow_pos (n := i) (show 0 < 10 by decide)
      have h4 : dn g 0 = 0 := rfl
      rw [he, h4, Nat.zero_mul] at h2
      omega
    · exact hh
  refine ⟨hj1, hg, ?_⟩
  have h1 := h.eq
  rw [Nat.add_zero, dn_pad_ge hw, he] at h1
  have hC : dn g j * T * 10 ^ (w - j + 1) = dn f nd * 10 ^ (r0 + w - nd) := by
    rw [← h1, Nat.pow_succ, Nat.mul_comm 10 T, ← Nat.mul_assoc, ← Nat.mul_assoc, Nat.mul_right_comm (dn g j) T]
  have hA := SameV.pow (dn f nd) (r0 + w - nd) (dp - r0 - w)
  have hB := SameV.pow (dn g j * T) (w - j + 1) (dp - r0 - w)
  rw [hC] at hB
  rw [show dp - r0 - w + ((r0 + w - nd : Nat) : Int) = dp - nd by omega] at hA
  rw [show dp - r0 - w + ((w - j + 1 : Nat) : Int) = dp - ((r0 : Int) - 1) - j by omega] at hB
  exact hB.symm.trans hA
end Go.Proofs.YtlhhpehfgkanoaaGreatDoor.fl
/- The walk of strconv's rightShift. -/
namespace Go.Proofs.YtlhhpehfgkanoaaGreatDoor.fl
open Go.ChangeShapes Go.WideShapes Go.ChangeAt Go.RowKit
set_option linter.unusedVariables false
set_option linter.unusedSimpArgs false
/-- What rightShift leaves. -/
def RsPost (b : Nat) (f : Nat → Nat) (nd : Nat) (dp : Int) (T : Nat) (ng tr : Bool) (w : World) (e : Ending) (w' : World) : Prop :=
  ∃ g j dp', e = .returned (.tuple #[]) ∧ DecIs w' b g j dp' ng tr ∧ DigF g j ∧ 1 ≤ j ∧ 49 ≤ g 0 ∧ g (j - 1) ≠ 48 ∧ j ≤ 800 ∧ SameV (dn g j * T) (dp' - j) (dn f nd) (dp - nd) ∧ dp - 20 ≤ dp' ∧ dp' ≤ dp ∧ Below b w w'
/-- The digits that are taken first. -/
def R1 (f : Nat → Nat) (nd T r n : Nat) : Prop := n = dn (pad f nd) r ∧ ((r = 0) ∨ (1 ≤ r ∧ dn (pad f nd) (r - 1) < T)) ∧ r ≤ 20
theorem R1.low {f : Nat → Nat} {nd T r n : Nat} (h : R1 f nd T r n) (hT : T ≤ 1152921504606846976) (hd : DigF f nd) : n < 11529215046068469760 := by
  obtain ⟨h1, h2, -⟩ := h
  rcases h2 with rfl | ⟨h2, h3⟩
  · have : n = 0 := h1
    omega
  · obtain ⟨i, rfl⟩ : ∃ i, r = i + 1 := ⟨r - 1, by omega⟩
    rw [Nat.add_sub_cancel] at h3
    rw [dn_succ] at h1
    have hp : pad f nd i - 48 ≤ 9 := by
      unfold pad
      by_cases hh : i < nd
      · rw [if_pos hh]; have := hd _ hh; omega
      · rw [if_neg hh]; omega
    omega
theorem R1.ten {f : Nat → Nat} {nd T r n : Nat} (h : R1 f nd T r n) (hT : 0 < T) (hd : DigF f nd) (hn : T ≤ n) : n < 10 * T ∧ 1 ≤ r := by
  obtain ⟨h1, h2, -⟩ := h
  rcases h2 with rfl | ⟨h2, h3⟩
  · have : n = 0 := h1
    omega
  · obtain ⟨i, rfl⟩ : ∃ i, r = i + 1 := ⟨r - 1, by omega⟩
    rw [Nat.add_sub_cancel] at h3
    rw [dn_succ] at h1
    have hp : pad f nd i - 48 ≤ 9 := by
      unfold pad
      by_cases hh : i < nd
      · rw [if_pos hh]; have := hd _ hh; omega
      · rw [if_neg hh]; omega
    omega
theorem pad_top {f : Nat → Nat} {nd : Nat} (h1 : 1 ≤ nd) (h0 : 49 ≤ f 0) : 49 ≤ pad f nd 0 := by
  unfold pad; rw [if_pos (by omega)]; exact h0
theorem R1.next {f : Nat → Nat} {nd T r n : Nat} (h : R1 f nd T r n) (hT : T ≤ 1152921504606846976) (h1 : 1 ≤ nd) (h0 : 49 ≤ f 0) (hn : n < T) : R1 f nd T (r + 1) (n * 10 + (pad f nd r - 48)) := by
  obtain ⟨e, -, h3⟩ := h
  refine ⟨by rw [dn_succ, e], .inr ⟨by omega, by rw [Nat.add_sub_cancel, ← e]; exact hn⟩, ?_⟩
  rcases Nat.lt_or_ge r 20 with hh | hh
  · omega
  · exfalso
    obtain rfl : r = 20 := by omega
    have : 10 ^ 19 ≤ dn (pad f nd) 20 := dn_ge (pad_top h1 h0) 19
    omega
theorem R1.pos {f : Nat → Nat} {nd T r n : Nat} (h : R1 f nd T r n) (h1 : 1 ≤ nd) (h0 : 49 ≤ f 0) (hr : 1 ≤ r) : 1 ≤ n := by
  obtain ⟨i, rfl⟩ : ∃ i, r = i + 1 := ⟨r - 1, by omega⟩
  rw [h.1]
  have := dn_ge (pad_top h1 h0) i
  have := Nat.pow_pos (n := i) (show 0 < 10 by decide)
  omega
theorem and_mask (k n T : Nat) (hT : 2 ^ k = T) (hk : k ≤ 60) (hn : n < 18446744073709551616) : bits BinOp.and IntKind.u64 (n : Int) ((T : Int) - 1) = ((n % T : Nat) : Int) := by
  have h1 : 0 < T := by rw [← hT]; exact Nat.two_pow_pos k
  have h2 : T ≤ 1152921504606846976 := by rw [← hT]; exact Nat.pow_le_pow_right (by decide) hk
  have h := u64_and_nat n (T - 1) hn (by omega)
  rw [show (T : Int) - 1 = ((T - 1 : Nat) : Int) by omega, h, ← hT, Nat.and_two_pow_sub_one_eq_mod]
set_option maxRecDepth 100000 in
set_option maxHeartbeats 2000000 in
theorem rightC (b : Nat) (f : Nat → Nat) (nd : Nat) (dp : Int) (k m T : Nat) (ng tr : Bool) (w : World) (h : DecIs w b f nd dp ng tr) (hd : DigF f nd) (h1 : 1 ≤ nd) (h0 : 49 ≤ f 0) (hk : k ≤ 60) (hT : 2 ^ k = T) (hm : T ∣ dn f nd * 10 ^ m) (hfit : nd + m ≤ 800) (hdp : -100000 ≤ dp ∧ dp ≤ 100000) :
    Calls Tryz.prog 170 #[.pointer (some ⟨b, 0, none⟩), .int .u64 k] w (RsPost b f nd dp T ng tr w) := by
  have H0 := fhid h
  have HD := fhid hd
  have HM := fhid hm
  have HTOP := fhid h0
  have hT1 : 0 < T := by rw [← hT]; exact Nat.two_pow_pos k
  have hT2 : T ≤ 1152921504606846976 := by rw [← hT]; exact Nat.pow_le_pow_right (by decide) hk
  have hTz : (2 : Int) ^ k = (T : Int) := by rw [← hT, Int.natCast_pow]; rfl
  have HAND := fhid (fun n (hn : n < 18446744073709551616) => and_mask k n T hT hk hn)
  have HT1 := fhid hT1
  have HT2 := fhid hT2
  have HNF := fhid (show nd ≤ 800 by omega)
  have HFT := fhid hfit
  clear h hd hm h0 hT hT1 hT2 hfit
  go_enter Tryz.func170, Tryz.ntmps170
  go_upto_block 0 with fail
  go_cut [4, 6] (fun r n wx => ∃ (r' n' : Nat), r = .int .i64 r' ∧ n = .int .u64 n' ∧ Hid (R1 f nd T r' n') ∧ Hid (T ≤ n') ∧ wx = w)
  case first => as_aux_lemma =>
    go_wp2_with fail
    go_loopw [4, 6] (fun r n wr => ∃ (r' n' : Nat), r = .int .i64 r' ∧ n = .int .u64 n' ∧ Hid (R1 f nd T r' n') ∧ r' ≤ nd ∧ wr = w) (fun r _ _ => 30 - (intOf r).toNat)
    case atStart => exact ⟨0, 0, rfl, rfl, fhid ⟨rfl, .inl rfl, by omega⟩, by omega, rfl⟩
    case round =>
      obtain ⟨r, n, rfl, rfl, hR, hr, rfl⟩ := hrel
      have hn1 := hR.out.low HT2.out HD.out
      have hr20 := hR.out.2.2
      by_cases hlt : n < T
      · have hq : ((n : Int) / (T : Int) == 0) = true := by
          rw [← Int.natCast_ediv, Nat.div_eq_of_lt hlt]; rfl
        have k1 := H0.out.nd
        have HLT := fhid hlt
        by_cases hrn : r < nd
        · have k2 := H0.out.at_ r (by have := HNF.out; omega)
          have hdr := HD.out r hrn
          have hnx := hR.out.next HT2.out h1 HTOP.out hlt
          have hr800 : (r : Int) < 800 := by have := HNF.out; omega
          have epd : pad f nd r = f r := by unfold pad; rw [if_pos hrn]
          rw [epd] at hnx
          have HNX := fhid hnx
          obtain ⟨c, hc⟩ : ∃ c, f r = c := ⟨_, rfl⟩
          rw [hc] at k2 hdr
          have HC := fhid hc
          obtain ⟨hd1, hd2⟩ := hdr
          have hn60 : n < 1152921504606846976 := Nat.lt_of_lt_of_le hlt HT2.out
          clear hc hnx epd hlt hn1
          go_wp2_with fail
          go_roundw
          case rel => exact ⟨r + 1, n * 10 + (c - 48), by go_num, by go_num, fhid (by have := HNX.out; rw [HC.out] at this; exact this), by omega, by first | trivial | rfl⟩
          case measure => simp [intOf]; omega
        · have hn0 : ((n : Int) == 0) = false := by
            have := hR.out.pos h1 HTOP.out (by omega)
            simp; omega
          have hrr : ((nd : Int) ≤ (r : Int)) := by omega
          have hnr := hrr
          clear hlt hn1 hrn
          go_wp2_with fail
          go_loopw [4, 6] (fun r n w2 => ∃ (r' n' : Nat), r = .int .i64 r' ∧ n = .int .u64 n' ∧ Hid (R1 f nd T r' n') ∧ nd ≤ r' ∧ w2 = wr) (fun r _ _ => 30 - (intOf r).toNat)
          case atStart => exact ⟨r, n, rfl, rfl, hR, by omega, rfl⟩
          case round =>
            clear hn0 hrr hnr hq HLT hR hr hr20 k1
            obtain ⟨r, n, rfl, rfl, hR, hr, rfl⟩ := hrel
            have hn1 := hR.out.low HT2.out HD.out
            have hr20 := hR.out.2.2
            by_cases hlt : n < T
            · have hq : ((n : Int) / (T : Int) == 0) = true := by
                rw [← Int.natCast_ediv, Nat.div_eq_of_lt hlt]; rfl
              have hnx := hR.out.next HT2.out h1 HTOP.out hlt
              have epd : pad f nd r = 48 := by unfold pad; rw [if_neg (by omega)]
              rw [epd] at hnx
              have HNX := fhid hnx
              have hn60 : n < 1152921504606846976 := Nat.lt_of_lt_of_le hlt HT2.out
              clear hnx epd hlt hn1
              go_wp2_with fail
              go_roundw
              case rel => exact ⟨r + 1, n * 10, by go_num, by go_num, HNX, by omega, by first | trivial | rfl⟩
              case measure => simp [intOf]; omega
            · have hq : ((n : Int) / (T : Int) == 0) = false := by
                have h9 : 1 ≤ n / T := (Nat.le_div_iff_mul_le HT1.out).2 (by omega)
                rw [← Int.natCast_ediv]
                simp; omega
              have HGE := fhid (Nat.le_of_not_lt hlt)
              clear hlt
              go_wp2_with fail
              go_meet
              exact ⟨r, n, rfl, rfl, hR, HGE, rfl⟩
      · have hq : ((n : Int) / (T : Int) == 0) = false := by
          have h9 : 1 ≤ n / T := (Nat.le_div_iff_mul_le HT1.out).2 (by omega)
          rw [← Int.natCast_ediv]
          simp; omega
        have HGE := fhid (Nat.le_of_not_lt hlt)
        clear hlt
        go_wp2_with fail
        go_meet
        exact ⟨r, n, rfl, rfl, hR, HGE, rfl⟩
  case rest =>
    obtain ⟨r0, n0, rfl, rfl, hR, hGE, rfl⟩ := hcut
    obtain ⟨hn10, hr1⟩ := hR.out.ten HT1.out HD.out hGE.out
    have hr20 := hR.out.2.2
    have H1 := fhid (H0.out.setP (dp - ((r0 : Int) - 1)))
    have HB1 := fhid ((Below.refl b wc).setCell (p := ⟨b, 801, none⟩) (Nat.le_refl _) (.int .i64 (dp - ((r0 : Int) - 1))))
    have HRS : Hid (RS f nd T r0 f 0 n0) := fhid ⟨by show 0 * _ + n0 = _; rw [Nat.zero_mul, Nat.zero_add]; exact hR.out.1, hn10, fun i hi => absurd hi (by omega), fun i _ => rfl, .inl ⟨rfl, hGE.out⟩⟩
    have k1 := H0.out.dp
    have k2 := H0.out.fz 801 (by omega)
    have hT1 : (0 : Int) < (T : Int) := by have := HT1.out; omega
    have hT2 : (T : Int) ≤ 1152921504606846976 := by have := HT2.out; omega
    clear hn10
    go_wp2_with fail
    clear k1 k2
    go_loopw [4, 5, 6] (fun r x n wr => ∃ (wi n' : Nat) (g : Nat → Nat), r = .int .i64 ((r0 + wi : Nat) : Int) ∧ x = .int .i64 wi ∧ n = .int .u64 n' ∧ Hid (RS f nd T r0 g wi n') ∧ Hid (DecIs wr b g nd (dp - ((r0 : Int) - 1)) ng tr) ∧ wi ≤ 800 ∧ Hid (Below b wc wr)) (fun r _ _ _ => 1000 - (intOf r).toNat)
    case atStart => exact ⟨0, n0, f, rfl, rfl, rfl, HRS, H1, by omega, HB1⟩
    case round =>
      obtain ⟨wi, n, g, rfl, rfl, rfl, hS, hI, hw, hB⟩ := hrel
      have k1 := hI.out.nd
      by_cases hlt : r0 + wi < nd
      · have hn := hS.out.lt
        have hnd := HNF.out
        have hnb : n < 18446744073709551616 := by have := HT2.out; omega
        have hand := HAND.out n hnb
        obtain ⟨q, hq⟩ : ∃ q, n / T = q := ⟨_, rfl⟩
        have hq9 : q ≤ 9 := by
          have := (Nat.div_lt_iff_lt_mul HT1.out).2 hn
          omega
        have hqi : (n : Int) / (T : Int) = (q : Int) := by rw [← Int.natCast_ediv, hq]
        obtain ⟨z, hz⟩ : ∃ z, n % T = z := ⟨_, rfl⟩
        rw [hz] at hand
        have hzT : z < 1152921504606846976 := by rw [← hz]; exact Nat.lt_of_lt_of_le (Nat.mod_lt _ HT1.out) HT2.out
        have k5 := hI.out.at_ (r0 + wi) (by omega)
        rw [hS.out.rest _ (by omega)] at k5
        have hdr := HD.out (r0 + wi) hlt
        have k6 := hI.out.fz wi (by omega)
        have k7 := hI.out.at_ wi (by omega)
        have hnx := hS.out.next HT1.out HD.out
        have epd : pad f nd (r0 + wi) = f (r0 + wi) := by unfold pad; rw [if_pos hlt]
        rw [epd, hq, hz] at hnx
        obtain ⟨c, hc⟩ : ∃ c, f (r0 + wi) = c := ⟨_, rfl⟩
        rw [hc] at k5 hdr hnx
        obtain ⟨hd1, hd2⟩ := hdr
        have HNX := fhid hnx
        have HI := fhid (hI.out.setD (show wi < 800 by omega) (q + 48))
        obtain ⟨R, hR⟩ : ∃ R, r0 + wi = R := ⟨_, rfl⟩
        have HRR := fhid hR
        rw [hR] at k5 hlt ⊢
        have hR8 : R < 800 := by omega
        have hw8 : wi < 800 := by omega
        clear hnx epd hq hz hn hc hR
        go_wp2_with fail
        go_roundw
        case rel => exact ⟨wi + 1, z * 10 + (c - 48), setAt g wi (q + 48), by have := HRR.out; congr 1; omega, by go_num, by congr 1; omega, HNX, HI, by omega, fhid (hB.out.setCell (Nat.le_refl _) _)⟩
        case measure => simp [intOf]; omega
      · have hge : ¬ ((r0 + wi : Nat) : Int) < (nd : Int) := by omega
        have HGE2 := fhid (Nat.le_of_not_lt hlt)
        clear hlt
        go_wp2_with fail
        clear hge k1
        go_loopw [5, 6] (fun x n w2 => ∃ (wi n' : Nat) (g : Nat → Nat), x = .int .i64 wi ∧ n = .int .u64 n' ∧ Hid (RS f nd T r0 g wi n') ∧ Hid (DecIs w2 b g nd (dp - ((r0 : Int) - 1)) ng tr) ∧ wi ≤ 800 ∧ Hid (nd ≤ r0 + wi) ∧ Hid (Below b wc w2)) (fun x _ _ => 1000 - (intOf x).toNat)
        case atStart => exact ⟨wi, n, g, rfl, rfl, hS, hI, hw, HGE2, hB⟩
        case round =>
          clear hS hI hB HGE2 hw
          obtain ⟨wi, n, g, rfl, rfl, hS, hI, hw, hG, hB⟩ := hrel
          by_cases hpos : 0 < n
          · have hn := hS.out.lt
            have hw8 : wi < 800 := by
              rcases Nat.lt_or_ge wi 800 with hh | hh
              · exact hh
              · exfalso
                have := hS.out.done HT1.out HM.out (by have := HFT.out; omega)
                omega
            have hnb : n < 18446744073709551616 := by have := HT2.out; omega
            have hand := HAND.out n hnb
            obtain ⟨q, hq⟩ : ∃ q, n / T = q := ⟨_, rfl⟩
            have hq9 : q ≤ 9 := by
              have := (Nat.div_lt_iff_lt_mul HT1.out).2 hn
              omega
            have hqi : (n : Int) / (T : Int) = (q : Int) := by rw [← Int.natCast_ediv, hq]
            obtain ⟨z, hz⟩ : ∃ z, n % T = z := ⟨_, rfl⟩
            rw [hz] at hand
            have hzT : z < 1152921504606846976 := by rw [← hz]; exact Nat.lt_of_lt_of_le (Nat.mod_lt _ HT1.out) HT2.out
            have k6 := hI.out.fz wi (by omega)
            have k7 := hI.out.at_ wi (by omega)
            have hnx := hS.out.next HT1.out HD.out
            have epd : pad f nd (r0 + wi) = 48 := by unfold pad; rw [if_neg (by have := hG.out; omega)]
            rw [epd, hq, hz, Nat.sub_self, Nat.add_zero] at hnx
            have HNX := fhid hnx
            have HI := fhid (hI.out.setD hw8 (q + 48))
            have hG2 : Hid (nd ≤ r0 + (wi + 1)) := fhid (by have := hG.out; omega)
            clear hnx epd hq hz hn
            go_wp2_with fail
            go_roundw
            case rel => exact ⟨wi + 1, z * 10, setAt g wi (q + 48), by go_num, by go_num, HNX, HI, by omega, hG2, fhid (hB.out.setCell (Nat.le_refl _) _)⟩
            case measure => simp [intOf]; omega
          · obtain rfl : n = 0 := by omega
            have k1 := hI.out.nd
            have k2 := hI.out.fz 800 (by omega)
            have HI := fhid (hI.out.setN (v := (wi : Int)) wi rfl)
            have HB := fhid (hB.out.setCell (p := ⟨b, 800, none⟩) (Nat.le_refl _) (.int .i64 wi))
            have hw8 := hw
            clear hpos
            go_wp2_with fail
            with_reducible refine (trimD b g wi _ ng tr _ HI.out hS.out.dig hw8).mono ?_
            rintro e w3 ⟨j, rfl, hd3, ht3, hl3, hb3⟩
            obtain ⟨f1, f2, f3⟩ := hS.out.fin (dp := dp) HT1.out hG.out ht3
            rw [if_neg (by omega)] at hd3
            have HP := fhid (⟨g, j, _, rfl, hd3, fun i hi => hS.out.dig i (by have := ht3.1; omega), f1, f2, hl3 (by omega), by have := ht3.1; omega, f3, by omega, by omega, HB.out.trans (hb3.mono (Nat.le_refl _))⟩ : RsPost b f nd dp T ng tr wc (.returned (.tuple #[])) w3)
            clear hd3 ht3 hl3 hb3 f1 f2 f3
            go_wp2_with fail
            go_end0
            obtain ⟨g', j', dp', -, hh⟩ := HP.out
            exact ⟨g', j', dp', rfl, hh⟩
end Go.Proofs.YtlhhpehfgkanoaaGreatDoor.fl
/- strconv's leftShift, plain: its table, and digits that are doubled k times. -/
namespace Go.Proofs.YtlhhpehfgkanoaaGreatDoor.fl
set_option linter.unusedVariables false
set_option linter.unusedSimpArgs false
/-- The table's rows. -/
def chD (i : Nat) : Nat := (Go.Pinned.cheatRows.getD i (0, [])).1
def chL (i : Nat) : List UInt8 := (Go.Pinned.cheatRows.getD i (0, [])).2
def chS (i : Nat) : ByteArray := ⟨(chL i).toArray⟩
/-- The number that a row's digits make. -/
def chF (i : Nat) : Nat → Nat := fun j => ((chL i).map UInt8.toNat).getD j 48
def chB (k : Nat) : Bool := decide (1 ≤ chD k) && decide (10 ^ (chD k - 1) ≤ 2 ^ k) && decide (2 ^ k < 10 ^ chD k) && decide ((chL k).length + chD k = k + 1) && decide (dn (chF k) (chL k).length = 5 ^ k) &&
  (chL k).all (fun c => decide (48 ≤ c.toNat ∧ c.toNat ≤ 57)) && decide (chF k ((chL k).length - 1) ≠ 48)
set_option maxRecDepth 100000 in
theorem ch_all : (List.range 61).all (fun k => k == 0 || chB k) = true := by decide +kernel
structure Cheat (k D L : Nat) (c : Nat → Nat) : Prop where
  pos : 1 ≤ D
  lo : 10 ^ (D - 1) ≤ 2 ^ k
  hi : 2 ^ k < 10 ^ D
  len : L + D = k + 1
  val : dn c L = 5 ^ k
  dig : DigF c L
  last : c (L - 1) ≠ 48
theorem cheat_ok {k : Nat} (h1 : 1 ≤ k) (h2 : k ≤ 60) : Cheat k (chD k) (chL k).length (chF k) := by
  have h := List.all_eq_true.1 ch_all k (by simp; omega)
  rw [Bool.or_eq_true] at h
  have h := h.resolve_left (by simp; omega)
  unfold chB at h
  simp only [Bool.and_eq_true, decide_eq_true_eq, List.all_eq_true] at h
  obtain ⟨⟨⟨⟨⟨⟨a, b⟩, c⟩, d⟩, e⟩, f⟩, g⟩ := h
  refine ⟨a, b, c, d, e, fun i hi => ?_, g⟩
  unfold chF
  rw [List.getD_eq_getElem?_getD, List.getElem?_map, List.getElem?_eq_getElem hi]
  exact f _ (List.getElem_mem hi)
theorem dn_div {f : Nat → Nat} {n : Nat} (hd : DigF f n) : ∀ d, d ≤ n → dn f n / 10 ^ d = dn f (n - d)
  | 0, _ => by rw [Nat.pow_zero, Nat.div_one, Nat.sub_zero]
  | d + 1, h => by
    have ih := dn_div hd d (by omega)
    rw [Nat.pow_succ, ← Nat.div_div_eq_div_mul, ih]
    obtain ⟨m, hm⟩ : ∃ m, n - d = m + 1 := ⟨n - d - 1, by omega⟩
    rw [hm, show n - (d + 1) = m by omega, dn_succ]
    have := hd m (by omega)
    omega
theorem dn_mod {f : Nat → Nat} {n : Nat} (hd : DigF f n) (j : Nat) (hj : j < n) : dn f n % 10 ^ (n - j) = (f j - 48) * 10 ^ (n - (j + 1)) + dn f n % 10 ^ (n - (j + 1)) := by
  have h1 := dn_div hd (n - j) (by omega)
  have h2 := dn_div hd (n - (j + 1)) (by omega)
  rw [show n - (n - j) = j by omega] at h1
  rw [show n - (n - (j + 1)) = j + 1 by omega, dn_succ] at h2
  have e1 := Nat.div_add_mod (dn f n) (10 ^ (n - j))
  have e2 := Nat.div_add_mod (dn f n) (10 ^ (n - (j + 1)))
  have hp : 10 ^ (n - j) = 10 * 10 ^ (n - (j + 1)) := by
    rw [show n - j = n - (j + 1) + 1 by omega, Nat.pow_succ, Nat.mul_comm]
  rw [h1] at e1
  rw [h2] at e2
  obtain ⟨Q, hQ⟩ : ∃ Q, 10 ^ (n - (j + 1)) = Q := ⟨_, rfl⟩
  rw [hp, hQ] at e1 ⊢
  rw [hQ] at e2
  have e3 : Q * (dn f j * 10 + (f j - 48)) = 10 * Q * dn f j + (f j - 48) * Q := by
    rw [Nat.mul_add, Nat.mul_comm Q (f j - 48), Nat.mul_comm (dn f j) 10, ← Nat.mul_assoc, Nat.mul_comm Q 10]
  omega
/-- The digits of Z. -/
def tgt (Z N : Nat) : Nat → Nat := fun i => Z / 10 ^ (N - 1 - i) % 10 + 48
theorem dn_tgt {Z N : Nat} (h : Z < 10 ^ N) : ∀ i, i ≤ N → dn (tgt Z N) i = Z / 10 ^ (N - i)
  | 0, _ => by
    rw [Nat.sub_zero, Nat.div_eq_of_lt h]; rfl
  | i + 1, hi => by
    rw [dn_succ, dn_tgt h i (by omega)]
    unfold tgt
    rw [Nat.add_sub_cancel, show N - i = N - 1 - i + 1 by omega, Nat.pow_succ, ← Nat.div_div_eq_div_mul, show N - (i + 1) = N - 1 - i by omega]
    have := Nat.div_add_mod (Z / 10 ^ (N - 1 - i)) 10
    omega
theorem tgt_dig (Z N n : Nat) : DigF (tgt Z N) n := fun i _ => by unfold tgt; omega
theorem tgt_top {Z N : Nat} (h1 : 10 ^ (N - 1) ≤ Z) (h2 : Z < 10 ^ N) : 49 ≤ tgt Z N 0 := by
  unfold tgt
  rw [Nat.sub_zero]
  have hp := Nat.pow_pos (n := N - 1) (show 0 < 10 by decide)
  have h3 : 1 ≤ Z / 10 ^ (N - 1) := (Nat.le_div_iff_mul_le hp).2 (by omega)
  have h4 : Z / 10 ^ (N - 1) < 10 := by
    rw [Nat.div_lt_iff_lt_mul hp]
    rcases Nat.eq_zero_or_pos N with h0 | h0
    · subst h0; simp at h2 h1; omega
    · obtain ⟨m, rfl⟩ : ∃ m, N = m + 1 := ⟨N - 1, by omega⟩
      rw [Nat.add_sub_cancel]
      rw [Nat.pow_succ] at h2
      omega
  omega
/-- What leftShift's first loop keeps: j digits are still to be read, n is carried. -/
structure LS (f : Nat → Nat) (nd T D : Nat) (g : Nat → Nat) (j n : Nat) : Prop where
  car : n = dn f nd % 10 ^ (nd - j) * T / 10 ^ (nd - j)
  le : j ≤ nd
  out : ∀ i, j + D ≤ i → i < nd + D → g i = tgt (dn f nd * T) (nd + D) i
  rest : ∀ i, i < j + D → g i = f i
theorem LS.low {f : Nat → Nat} {nd T D : Nat} {g : Nat → Nat} {j n : Nat} (h : LS f nd T D g j n) (hT : 0 < T) : n < T := by
  rw [h.car]
  have hp := Nat.pow_pos (n := nd - j) (show 0 < 10 by decide)
  rw [Nat.div_lt_iff_lt_mul hp, Nat.mul_comm T]
  exact Nat.mul_lt_mul_of_pos_right (Nat.mod_lt _ hp) hT
theorem LS.next {f : Nat → Nat} {nd T D : Nat} {g : Nat → Nat} {j n : Nat} (h : LS f nd T D g (j + 1) n) (hd : DigF f nd) :
    LS f nd T D (setAt g (j + D) ((n + (f j - 48) * T) % 10 + 48)) j ((n + (f j - 48) * T) / 10) := by
  have hle := h.le
  have hcar := h.car
  obtain ⟨Q, hQ⟩ : ∃ Q, 10 ^ (nd - (j + 1)) = Q := ⟨_, rfl⟩
  have hQp : 0 < Q := by rw [← hQ]; exact Nat.pow_pos (by decide)
  have hp : 10 ^ (nd - j) = Q * 10 := by rw [← hQ, show nd - j = nd - (j + 1) + 1 by omega, Nat.pow_succ]
  have hm := dn_mod hd j (by omega)
  rw [hQ] at hcar hm
  have hkey : dn f nd % 10 ^ (nd - j) * T / Q = n + (f j - 48) * T := by
    rw [hm, Nat.add_mul, Nat.mul_right_comm, Nat.add_comm, Nat.add_mul_div_right _ _ hQp, ← hcar]
  refine ⟨?_, by omega, ?_, ?_⟩
  · rw [hp, ← Nat.div_div_eq_div_mul, ← hp, hkey]
  · intro i h1 h2
    unfold setAt
    by_cases hi : i = j + D
    · subst hi
      rw [if_pos rfl]
      unfold tgt
      rw [show nd + D - 1 - (j + D) = nd - (j + 1) by omega, hQ]
      have e := Nat.div_add_mod (dn f nd) (10 ^ (nd - j))
      have e2 : dn f nd * T / Q = dn f nd / 10 ^ (nd - j) * T * 10 + (n + (f j - 48) * T) := by
        rw [← hkey]
        have e3 : dn f nd * T = dn f nd % 10 ^ (nd - j) * T + dn f nd / 10 ^ (nd - j) * T * 10 * Q := by
          have e4 : dn f nd / 10 ^ (nd - j) * T * 10 * Q = 10 ^ (nd - j) * (dn f nd / 10 ^ (nd - j)) * T := by
            rw [hp, Nat.mul_assoc (dn f nd / _ * T), Nat.mul_comm 10 Q, Nat.mul_right_comm, Nat.mul_comm (dn f nd / _)]
          rw [e4, ← Nat.add_mul, Nat.add_comm (dn f nd % _), e]
        rw [e3, Nat.add_mul_div_right _ _ hQp, Nat.add_comm]
      rw [e2]
      omega
    · rw [if_neg hi]
      exact h.out i (by omega) h2
  · intro i hi
    unfold setAt
    rw [if_neg (by omega)]
    exact h.rest i (by omega)
theorem LS.start (f : Nat → Nat) (nd T D : Nat) : LS f nd T D f nd 0 :=
  ⟨by rw [Nat.sub_self, Nat.pow_zero, Nat.mod_one, Nat.zero_mul, Nat.zero_div], Nat.le_refl _, fun i h1 h2 => by omega, fun _ _ => rfl⟩
/-- What leftShift's second loop keeps. -/
structure LX (Z N D : Nat) (g : Nat → Nat) (w n : Nat) : Prop where
  car : n = Z / 10 ^ (N - w)
  le : w ≤ D
  out : ∀ i, w ≤ i → i < N → g i = tgt Z N i
theorem LS.turn {f : Nat → Nat} {nd T D : Nat} {g : Nat → Nat} {n : Nat} (h : LS f nd T D g 0 n) (hd : DigF f nd) : LX (dn f nd * T) (nd + D) D g D n := by
  refine ⟨?_, Nat.le_refl _, fun i h1 h2 => h.out i (by omega) h2⟩
  have := h.car
  rw [Nat.sub_zero, Nat.mod_eq_of_lt (dn_lt hd)] at this
  rw [Nat.add_sub_cancel]
  exact this
theorem LX.next {Z N D : Nat} {g : Nat → Nat} {w n : Nat} (h : LX Z N D g (w + 1) n) (hN : D ≤ N) : LX Z N D (setAt g w (n % 10 + 48)) w (n / 10) := by
  have hle := h.le
  refine ⟨?_, by omega, fun i h1 h2 => ?_⟩
  · rw [h.car, Nat.div_div_eq_div_mul, ← Nat.pow_succ, show (N - (w + 1)).succ = N - w by omega]
  · unfold setAt
    by_cases hi : i = w
    · subst hi
      rw [if_pos rfl, h.car]
      unfold tgt
      rw [show N - 1 - i = N - (i + 1) by omega]
    · rw [if_neg hi]
      exact h.out i (by omega) h2
theorem LX.pos {Z N D : Nat} {g : Nat → Nat} {w n : Nat} (h : LX Z N D g w n) (hZ : Z < 10 ^ N) (hn : 0 < n) : 0 < w := by
  rcases Nat.eq_zero_or_pos w with h0 | h0
  · subst h0
    have := h.car
    rw [Nat.sub_zero, Nat.div_eq_of_lt hZ] at this
    omega
  · exact h0
theorem LX.fin {Z N D : Nat} {g : Nat → Nat} {w : Nat} (h : LX Z N D g w 0) (h1 : 10 ^ (N - 1) ≤ Z) (h2 : Z < 10 ^ N) (hN : D ≤ N) (hN1 : 1 ≤ N) : dn g N = Z ∧ DigF g N ∧ 49 ≤ g 0 := by
  have hw : w = 0 := by
    rcases Nat.eq_zero_or_pos w with h0 | h0
    · exact h0
    · exfalso
      have hp := Nat.pow_pos (n := N - w) (show 0 < 10 by decide)
      have h3 : Z < 10 ^ (N - w) := (Nat.div_eq_zero_iff_lt hp).1 h.car.symm
      have h4 : 10 ^ (N - w) ≤ 10 ^ (N - 1) := Nat.pow_le_pow_right (by decide) (by omega)
      omega
  subst hw
  have hg : ∀ i, i < N → g i = tgt Z N i := fun i hi => h.out i (by omega) hi
  refine ⟨?_, fun i hi => by rw [hg i hi]; exact tgt_dig Z N (i + 1) i (by omega), by rw [hg 0 (by omega)]; exact tgt_top h1 h2⟩
  rw [dn_congr hg, dn_tgt h2 N (Nat.le_refl _), Nat.sub_self, Nat.pow_zero, Nat.div_one]
theorem lex_lt {a c : Nat → Nat} {L i : Nat} (ha : DigF a L) (hc : DigF c L) (he : dn a i = dn c i) (hl : a i < c i) : ∀ m, i + 1 + m ≤ L → dn a (i + 1 + m) < dn c (i + 1 + m)
  | 0, h => by
    show dn a i * 10 + (a i - 48) < dn c i * 10 + (c i - 48)
    have := ha i (by omega)
    have := hc i (by omega)
    omega
  | m + 1, h => by
    have ih := lex_lt ha hc he hl m (by omega)
    show dn a (i + 1 + m) * 10 + (a (i + 1 + m) - 48) < dn c (i + 1 + m) * 10 + (c (i + 1 + m) - 48)
    have := ha (i + 1 + m) (by omega)
    omega
theorem pad_dig {f : Nat → Nat} {nd : Nat} (hd : DigF f nd) (L : Nat) : DigF (pad f nd) L := fun i _ => by
  unfold pad
  by_cases h : i < nd
  · rw [if_pos h]; exact hd i h
  · rw [if_neg h]; omega
/-- Where the first word is at its end. -/
theorem lex_short {f c : Nat → Nat} {nd L i : Nat} (hd : DigF f nd) (hc : DigF c L) (he : dn (pad f nd) i = dn c i) (hi : nd ≤ i) (hL : i < L) (hlast : c (L - 1) ≠ 48) : dn (pad f nd) L < dn c L := by
  obtain ⟨M, rfl⟩ : ∃ M, L = M + 1 := ⟨L - 1, by omega⟩
  have key : ∀ m, i + m ≤ M → dn (pad f nd) (i + m) ≤ dn c (i + m) := by
    intro m
    induction m with
    | zero => intro _; rw [Nat.add_zero, he]; exact Nat.le_refl _
    | succ m ih =>
      intro hm
      have ih := ih (by omega)
      have e : pad f nd (i + m) = 48 := by unfold pad; rw [if_neg (by omega)]
      show dn (pad f nd) (i + m) * 10 + (pad f nd (i + m) - 48) ≤ dn c (i + m) * 10 + (c (i + m) - 48)
      rw [e]
      omega
  have h1 := key (M - i) (by omega)
  rw [show i + (M - i) = M by omega] at h1
  have e : pad f nd M = 48 := by unfold pad; rw [if_neg (by omega)]
  show dn (pad f nd) M * 10 + (pad f nd M - 48) < dn c M * 10 + (c M - 48)
  rw [e]
  rw [Nat.add_sub_cancel] at hlast
  have := hc M (by omega)
  omega
/-- The table tells how many digits there are. -/
theorem cheat_cmp {f : Nat → Nat} {nd L C : Nat} (hd : DigF f nd) : dn (pad f nd) L < C ↔ dn f nd * 10 ^ L < C * 10 ^ nd := by
  rcases Nat.le_total L nd with h | h
  · rw [dn_pad_le h]
    have h1 := dn_div hd (nd - L) (by omega)
    rw [show nd - (nd - L) = L by omega] at h1
    have hp := Nat.pow_pos (n := nd - L) (show 0 < 10 by decide)
    have hq := Nat.pow_pos (n := L) (show 0 < 10 by decide)
    rw [← h1, Nat.div_lt_iff_lt_mul hp, ← Nat.mul_lt_mul_right hq, Nat.mul_assoc C, ← Nat.pow_add, show nd - L + L = nd by omega]
  · rw [dn_pad_ge h]
    have hq := Nat.pow_pos (n := nd) (show 0 < 10 by decide)
    rw [← Nat.mul_lt_mul_right hq, Nat.mul_assoc, ← Nat.pow_add, show L - nd + nd = L by omega]
theorem cheat_len {k D L : Nat} {c f : Nat → Nat} {nd : Nat} (h : Cheat k D L c) (hd : DigF f nd) (h1 : 1 ≤ nd) (h0 : 49 ≤ f 0) :
    (dn (pad f nd) L < dn c L → 10 ^ (nd + (D - 1) - 1) ≤ dn f nd * 2 ^ k ∧ dn f nd * 2 ^ k < 10 ^ (nd + (D - 1))) ∧
    (¬ dn (pad f nd) L < dn c L → 10 ^ (nd + D - 1) ≤ dn f nd * 2 ^ k ∧ dn f nd * 2 ^ k < 10 ^ (nd + D)) := by
  have hpos := h.pos
  have hlen := h.len
  have hX1 : 10 ^ (nd - 1) ≤ dn f nd := by
    obtain ⟨m, rfl⟩ : ∃ m, nd = m + 1 := ⟨nd - 1, by omega⟩
    exact dn_ge h0 m
  have hX2 := dn_lt hd
  have hcmp : dn (pad f nd) L < dn c L ↔ dn f nd * 2 ^ k < 10 ^ (nd + (D - 1)) := by
    rw [cheat_cmp hd, h.val]
    have hk : 0 < 2 ^ k := Nat.two_pow_pos k
    have hL := Nat.pow_pos (n := L) (show 0 < 10 by decide)
    have e1 : 5 ^ k * 10 ^ nd * 2 ^ k = 10 ^ (nd + (D - 1)) * 10 ^ L := by
      rw [Nat.mul_right_comm, ← Nat.mul_pow, ← Nat.pow_add, ← Nat.pow_add]
      congr 1
      omega
    rw [← Nat.mul_lt_mul_right hk, e1, Nat.mul_right_comm, Nat.mul_lt_mul_right hL]
  have hlow : 10 ^ (nd + (D - 1) - 1) ≤ dn f nd * 2 ^ k := by
    rw [show nd + (D - 1) - 1 = nd - 1 + (D - 1) by omega, Nat.pow_add]
    exact Nat.mul_le_mul hX1 h.lo
  have hup : dn f nd * 2 ^ k < 10 ^ (nd + D) := by
    rw [Nat.pow_add]
    exact Nat.mul_lt_mul_of_lt_of_le hX2 (Nat.le_of_lt h.hi) (Nat.pow_pos (by decide))
  refine ⟨fun hh => ⟨hlow, hcmp.1 hh⟩, fun hh => ⟨?_, hup⟩⟩
  have := fun h' => hh (hcmp.2 h')
  rw [show nd + D - 1 = nd + (D - 1) by omega]
  omega
end Go.Proofs.YtlhhpehfgkanoaaGreatDoor.fl
/- The walks of strconv's prefixIsLessThan and leftShift. -/
namespace Go.Proofs.YtlhhpehfgkanoaaGreatDoor.fl
open Go.ChangeShapes Go.WideShapes Go.ChangeAt Go.RowKit
set_option linter.unusedVariables false
set_option linter.unusedSimpArgs false
theorem drewN_add (w : World) (n m : Nat) : (w.drewN n).drewN m = w.drewN (n + m) := by
  simp [World.drewN, Nat.add_assoc]
theorem ch_at (k i : Nat) (h : i < (chS k).size) : (chS k)[i].toNat = chF k i := by
  unfold chF
  have h2 : i < (chL k).length := by
    have : (chS k).size = (chL k).length := by unfold chS; exact List.size_toArray
    omega
  rw [List.getD_eq_getElem?_getD, List.getElem?_map, List.getElem?_eq_getElem h2]
  rfl
set_option maxRecDepth 100000 in
set_option maxHeartbeats 2000000 in
theorem prefLessC (b : Nat) (f c : Nat → Nat) (nd L : Nat) (dp : Int) (ng tr : Bool) (s : ByteArray) (cap : Nat) (w : World) (h : DecIs w b f nd dp ng tr) (hd : DigF f nd) (hn : nd ≤ 800) (hL : s.size = L) (hL6 : L ≤ 60) (hc : DigF c L) (hs : ∀ i (h : i < s.size), s[i].toNat = c i) (hlast : 0 < L → c (L - 1) ≠ 48) :
    Calls Tryz.prog 173 #[.slice (some ⟨b, 0, none⟩) nd cap, .string s] w fun e w' => e = .returned (.bool (decide (dn (pad f nd) L < dn c L))) ∧ ∃ n, w' = w.drewN n := by
  have H0 := fhid h
  have HD := fhid hd
  have HC := fhid hc
  have HS := fhid hs
  have HLA := fhid hlast
  have HL := fhid hL
  clear h hd hc hs hlast
  go_enter Tryz.func173, Tryz.ntmps173
  go_wp2_with fail
  clear hL
  go_loopw [5] (fun i wr => ∃ (i' n : Nat), i = .int .i64 i' ∧ i' ≤ L ∧ Hid (dn (pad f nd) i' = dn c i') ∧ wr = w.drewN n) (fun i _ => 100 - (intOf i).toNat)
  case atStart => exact ⟨0, 0, rfl, by omega, fhid rfl, rfl⟩
  case round =>
    obtain ⟨i, n, rfl, hi, hE, rfl⟩ := hrel
    have hLz : (s.size : Int) = (L : Int) := by have := HL.out; omega
    by_cases hlt : i < L
    · have hlt' : (i : Int) < (L : Int) := by omega
      by_cases hin : i < nd
      · have k1 := H0.out.at_ i (by omega)
        have hin' : ¬ (nd : Int) ≤ (i : Int) := by omega
        have hin2 : (i : Int) < (nd : Int) := by omega
        have hsz : i < s.size := by rw [HL.out]; exact hlt
        have hsi := HS.out i hsz
        have epd : pad f nd i = f i := by unfold pad; rw [if_pos hin]
        have HEP := fhid epd
        obtain ⟨d, hd⟩ : ∃ d, f i = d := ⟨_, rfl⟩
        obtain ⟨e, he⟩ : ∃ e, c i = e := ⟨_, rfl⟩
        rw [hd] at k1
        rw [he] at hsi
        have HDD := fhid hd
        have HEE := fhid he
        clear hd he epd
        by_cases hde : d = e
        · subst hde
          go_wp2_with fail
          go_quiet (fail)
          go_wp2_with fail
          refine ⟨⟨i + 1, n + nq, by go_num, by omega, fhid ?_, rfl⟩, by simp [intOf]; omega⟩
          rw [dn_succ, dn_succ, hE.out, HEP.out, HDD.out, HEE.out]
        · have hne : ((d : Int) == (e : Int)) = false := by simp; omega
          have hres : decide (d < e) = decide (dn (pad f nd) L < dn c L) := by
            rw [Bool.eq_iff_iff, decide_eq_true_iff, decide_eq_true_iff]
            constructor
            · intro h
              have := lex_lt (pad_dig HD.out L) HC.out hE.out (by rw [HEP.out, HDD.out, HEE.out]; omega) (L - (i + 1)) (by omega)
              rwa [show i + 1 + (L - (i + 1)) = L by omega] at this
            · intro h
              rcases Nat.lt_or_ge d e with hh | hh
              · omega
              · exfalso
                have := lex_lt HC.out (pad_dig HD.out L) hE.out.symm (by rw [HEP.out, HDD.out, HEE.out]; omega) (L - (i + 1)) (by omega)
                rw [show i + 1 + (L - (i + 1)) = L by omega] at this
                omega
          have HR := fhid hres
          clear hres
          go_wp2_with fail
          go_quiet (fail)
          go_wp2_with fail
          go_quiet (fail)
          go_wp2_with fail
          go_ret
          exact ⟨ret_b HR.out, _, (congrArg (World.drewN · _) (drewN_add _ _ _)).trans (drewN_add _ _ _)⟩
      · have hin' : (nd : Int) ≤ (i : Int) := by omega
        have hL1 := HLA.out (by omega)
        have hres := lex_short HD.out HC.out hE.out (by omega) hlt hL1
        have HR := fhid hres
        clear hres
        go_wp2_with fail
        go_ret
        exact ⟨ret_b (decide_eq_true HR.out).symm, n, rfl⟩
    · obtain rfl : i = L := by omega
      have hge : ¬ (i : Int) < (i : Int) := by omega
      go_wp2_with fail
      go_ret
      exact ⟨ret_b (decide_eq_false (by rw [hE.out]; omega)).symm, n, rfl⟩
end Go.Proofs.YtlhhpehfgkanoaaGreatDoor.fl
/- The walk of strconv's leftShift. -/
namespace Go.Proofs.YtlhhpehfgkanoaaGreatDoor.fl
open Go.ChangeShapes Go.WideShapes Go.ChangeAt Go.RowKit
set_option linter.unusedVariables false
set_option linter.unusedSimpArgs false
/-- The tables of the slow road lie as they are laid. -/
structure FX (w : World) : Prop where
  cheat : ∃ g o cap, w.cell? ⟨19, 0, none⟩ = some (.slice (some ⟨g, o, none⟩) 61 cap) ∧ ∀ i, i < 61 → w.cell? ⟨g, o + i * 2, none⟩ = some (.int .i64 (chD i)) ∧ w.cell? ⟨g, o + i * 2 + 1, none⟩ = some (.string (chS i))
  pow : ∃ g o cap, w.cell? ⟨14, 0, none⟩ = some (.slice (some ⟨g, o, none⟩) 9 cap) ∧ ∀ i, i < 9 → w.cell? ⟨g, o + i, none⟩ = some (.int .i64 (([1, 3, 6, 9, 13, 16, 19, 23, 26] : List Nat).getD i 0 : Nat))
  expb : w.cell? ⟨11, 1, none⟩ = some (.int .u64 11)
  bias : w.cell? ⟨11, 2, none⟩ = some (.int .i64 (-1023))
  mant : w.cell? ⟨11, 0, none⟩ = some (.int .u64 52)
theorem FX.on {w w' : World} (h : FX w) (hb : Below w.heap.size w w') : FX w' := by
  have k : ∀ {p : Addr} {v : Value}, w.cell? p = some v → w'.cell? p = some v := fun hc => (hb.cell (World.block_lt_of_cell? _ _ hc)).trans hc
  obtain ⟨g, o, c, g1, g2⟩ := h.cheat
  obtain ⟨g', o', c', g1', g2'⟩ := h.pow
  exact ⟨⟨g, o, c, k g1, fun i hi => ⟨k (g2 i hi).1, k (g2 i hi).2⟩⟩, ⟨g', o', c', k g1', fun i hi => k (g2' i hi)⟩, k h.expb, k h.bias, k h.mant⟩
/-- .. below block b. -/
def FXb (w : World) (b : Nat) : Prop := ∃ w0, FX w0 ∧ w0.heap.size ≤ b ∧ Below w0.heap.size w0 w
theorem FXb.fx {w : World} {b : Nat} (h : FXb w b) : FX w := by
  obtain ⟨w0, h1, _, h3⟩ := h
  exact h1.on h3
theorem FXb.on {w w' : World} {b : Nat} (h : FXb w b) (hb : Below b w w') : FXb w' b := by
  obtain ⟨w0, h1, h2, h3⟩ := h
  exact ⟨w0, h1, h2, h3.trans (hb.mono h2)⟩
/-- What leftShift leaves. -/
def LsPost (b : Nat) (f : Nat → Nat) (nd : Nat) (dp : Int) (T : Nat) (ng tr : Bool) (w : World) (e : Ending) (w' : World) : Prop :=
  ∃ g j dp', e = .returned (.tuple #[]) ∧ DecIs w' b g j dp' ng tr ∧ DigF g j ∧ 1 ≤ j ∧ 49 ≤ g 0 ∧ g (j - 1) ≠ 48 ∧ j ≤ 800 ∧ SameV (dn g j) (dp' - j) (dn f nd * T) (dp - nd) ∧ dp ≤ dp' ∧ dp' ≤ dp + 20 ∧ Below b w w'
set_option maxRecDepth 100000 in
set_option maxHeartbeats 2000000 in
theorem leftSC (b : Nat) (f : Nat → Nat) (nd : Nat) (dp : Int) (k T : Nat) (ng tr : Bool) (w : World) (hx : FXb w b) (h : DecIs w b f nd dp ng tr) (hd : DigF f nd) (h1 : 1 ≤ nd) (h0 : 49 ≤ f 0) (hk1 : 1 ≤ k) (hk : k ≤ 60) (hT : 2 ^ k = T) (hfit : nd + chD k < 800) (hdp : -100000 ≤ dp ∧ dp ≤ 100000) :
    Calls Tryz.prog 169 #[.pointer (some ⟨b, 0, none⟩), .int .u64 k] w (LsPost b f nd dp T ng tr w) := by
  have H0 := fhid h
  have HD := fhid hd
  have HX := fhid hx
  have HTOP := fhid h0
  have HCH := fhid (cheat_ok hk1 hk)
  obtain ⟨cg, co, cc, hc1, hc2⟩ := hx.fx.cheat
  obtain ⟨hc3, hc4⟩ := hc2 k (by omega)
  obtain ⟨D, hDD⟩ : ∃ D, chD k = D := ⟨_, rfl⟩
  have HDD := fhid hDD
  rw [hDD] at hc3 hfit
  have k1 := h.nd
  have kk : (k : Int) < 61 := by omega
  have hnd8 : (nd : Int) ≤ 800 := by omega
  have hCS : (chS k).size = (chL k).length := by unfold chS; exact List.size_toArray
  have hLlen : (chL k).length ≤ 60 := by have := HCH.out.len; have := HCH.out.pos; omega
  obtain ⟨p, hp⟩ : ∃ p, decide (dn (pad f nd) (chL k).length < dn (chF k) (chL k).length) = p := ⟨_, rfl⟩
  have cp : Hid (∀ (cap n : Nat), Calls Tryz.prog 173 #[.slice (some ⟨b, 0, none⟩) nd cap, .string (chS k)] (w.drewN n) fun e w'' => e = .returned (.bool p) ∧ ∃ m, w'' = w.drewN m) := fhid fun cap n => by
    refine (prefLessC b f (chF k) nd (chL k).length dp ng tr (chS k) cap _ (h.drew n) hd (by omega) hCS hLlen HCH.out.dig (fun i hi => ch_at k i hi) (fun _ => HCH.out.last)).mono ?_
    rintro e w' ⟨rfl, m, rfl⟩
    exact ⟨by rw [hp], _, drewN_add _ _ _⟩
  have HP := fhid hp
  clear hx h hd h0 hc2 hDD hCS hLlen hp
  go_enter Tryz.func169, Tryz.ntmps169
  go_wp2_with fail
  go_quiet ((go_at_call 173; exact cp.out _ _))
  go_upto_if 30 with fail
  have HB0 : Hid (Below b w (w.drewN nq)) := fhid (below_dn (Below.refl _ _) nq)
  have HI0 := fhid (H0.out.drew nq)
  obtain ⟨w1, hw1⟩ : ∃ w1, w.drewN nq = w1 := ⟨_, rfl⟩
  rw [hw1] at HB0 HI0 ⊢
  clear hw1
  obtain ⟨D1, hD1⟩ : ∃ D1, (if p then D - 1 else D) = D1 := ⟨_, rfl⟩
  have hD0 : 1 ≤ D ∧ D ≤ 20 := by
    have h1 := HCH.out.pos
    have h2 := HCH.out.lo
    rw [HDD.out] at h1 h2
    refine ⟨h1, ?_⟩
    rcases Nat.lt_or_ge 20 D with hh | hh
    · exfalso
      have h3 : 10 ^ 20 ≤ 10 ^ (D - 1) := Nat.pow_le_pow_right (by decide) (by omega)
      have h4 : 2 ^ k ≤ 2 ^ 60 := Nat.pow_le_pow_right (by decide) hk
      omega
    · exact hh
  have hZ : Hid (10 ^ (nd + D1 - 1) ≤ dn f nd * T ∧ dn f nd * T < 10 ^ (nd + D1)) := fhid (by
    obtain ⟨a1, a2⟩ := cheat_len HCH.out HD.out h1 HTOP.out
    rw [HDD.out, hT] at a1 a2
    have hp := HP.out
    cases p
    · rw [if_neg (by decide)] at hD1
      subst hD1
      exact a2 (of_decide_eq_false hp)
    · rw [if_pos rfl] at hD1
      subst hD1
      exact a1 (of_decide_eq_true hp))
  go_cut [4] (fun v wx => v = .int .i64 (D1 : Int) ∧ wx = w1)
  case first => as_aux_lemma =>
    obtain ⟨hD1a, hD1b⟩ := hD0
    have hDm : (D : Int) - 1 = ((D - 1 : Nat) : Int) := by omega
    cases p
    · rw [if_neg (by decide)] at hD1
      subst hD1
      go_wp2_with fail
      go_meet
      exact ⟨rfl, rfl⟩
    · rw [if_pos rfl] at hD1
      subst hD1
      go_wp2_with fail
      go_meet
      exact ⟨rfl, rfl⟩
  case rest =>
    obtain ⟨rfl, rfl⟩ := hcut
    have hD20 : D1 ≤ 20 := by
      cases p
      · rw [if_neg (by decide)] at hD1; omega
      · rw [if_pos rfl] at hD1; omega
    have hD1D : D1 ≤ D := by
      cases p
      · rw [if_neg (by decide)] at hD1; omega
      · rw [if_pos rfl] at hD1; omega
    have hT1 : 0 < T := by rw [← hT]; exact Nat.two_pow_pos k
    have hT2 : T ≤ 1152921504606846976 := by rw [← hT]; exact Nat.pow_le_pow_right (by decide) hk
    have hTz : (2 : Int) ^ k = (T : Int) := by rw [← hT, Int.natCast_pow]; rfl
    have HT1 := fhid hT1
    have HT2 := fhid hT2
    have k1 := HI0.out.nd
    clear hT hT1 hT2 hc1 hc3 hc4 cp HP HCH hD1 hD0 HDD kk
    have HLS : Hid (LS f nd T D1 f nd 0) := fhid (LS.start f nd T D1)
    have HT20 : Hid (T ≤ 1152921504606846976) := HT2
    go_wp2_with fail
    clear k1
    go_loopw [5, 6, 7] (fun r x n wr => ∃ (j n' : Nat) (g : Nat → Nat), r = .int .i64 ((j : Int) - 1) ∧ x = .int .i64 ((j + D1 : Nat) : Int) ∧ n = .int .u64 n' ∧ Hid (LS f nd T D1 g j n') ∧ j ≤ nd ∧ Hid (DecIs wr b g nd dp ng tr) ∧ Hid (Below b w wr)) (fun r _ _ _ => (intOf r + 1).toNat)
    case atStart => exact ⟨nd, 0, f, rfl, by go_num, rfl, HLS, Nat.le_refl _, HI0, HB0⟩
    case round =>
      clear HLS HI0 HB0
      obtain ⟨j, n, g, rfl, rfl, rfl, hS, hj, hI, hB⟩ := hrel
      by_cases hpos : 0 < j
      · obtain ⟨i, rfl⟩ : ∃ i, j = i + 1 := ⟨j - 1, by omega⟩
        have hn := hS.out.low HT1.out
        have hT2 := HT2.out
        have k5 := hI.out.at_ i (by omega)
        rw [hS.out.rest i (by omega)] at k5
        have hdr := HD.out i (by omega)
        have hnx := hS.out.next HD.out
        obtain ⟨c, hc⟩ : ∃ c, f i = c := ⟨_, rfl⟩
        rw [hc] at k5 hdr hnx
        obtain ⟨hd1, hd2⟩ := hdr
        obtain ⟨d, hdd⟩ : ∃ d, c - 48 = d := ⟨_, rfl⟩
        rw [hdd] at hnx
        have hcd : (c : Int) - 48 = (d : Int) := by omega
        have hd9 : d ≤ 9 := by omega
        obtain ⟨M, hM⟩ : ∃ M, d * T = M := ⟨_, rfl⟩
        have hMi : (d : Int) * (T : Int) = (M : Int) := by rw [← hM, Int.natCast_mul]
        have hM9 : M ≤ 10376293541461622784 := by
          rw [← hM]; exact Nat.mul_le_mul hd9 hT2
        rw [hM] at hnx
        obtain ⟨S, hS1⟩ : ∃ S, n + M = S := ⟨_, rfl⟩
        have hSi : (n : Int) + (M : Int) = (S : Int) := by omega
        rw [hS1] at hnx
        have hSb : S < 18446744073709551616 := by omega
        obtain ⟨Q, hQ⟩ : ∃ Q, S / 10 = Q := ⟨_, rfl⟩
        obtain ⟨R, hR⟩ : ∃ R, S % 10 = R := ⟨_, rfl⟩
        have hQi : (S : Int) / 10 = (Q : Int) := by omega
        have hRi : (S : Int) - 10 * (Q : Int) = (R : Int) := by omega
        have hQb : Q < 1844674407370955162 := by omega
        have hR9 : R ≤ 9 := by omega
        rw [hQ, hR] at hnx
        have HNX := fhid hnx
        obtain ⟨J, hJ⟩ : ∃ J, i + 1 + D1 = J := ⟨_, rfl⟩
        obtain ⟨J', hJ'⟩ : ∃ J', i + D1 = J' := ⟨_, rfl⟩
        have hJi : (J : Int) - 1 = (J' : Int) := by omega
        have hJ8 : J' < 800 := by omega
        have hJ9 : (J' : Int) < 800 := by omega
        have HJ' := fhid hJ'
        have HI := fhid (hI.out.setD hJ8 (R + 48))
        have k6 := hI.out.fz J' (by omega)
        have k7 := hI.out.at_ J' hJ8
        have hi0 : ((i + 1 : Nat) : Int) - 1 = (i : Int) := by omega
        have hi8 : (i : Int) < 800 := by omega
        have hi1 : (0 : Int) ≤ (i : Int) := by omega
        rw [hi0, hJ]
        clear hS1 hQ hR hM hc hnx hn hT2 hJ hJ' hi0 hdd
        go_wp2_with fail
        have HNX2 := HNX.out
        rw [HJ'.out] at HNX2
        refine ⟨⟨i, Q, setAt g J' (R + 48), rfl, by rw [HJ'.out], rfl, fhid HNX2, by omega, HI, fhid (hB.out.setCell (Nat.le_refl _) _)⟩, by simp [intOf]⟩
      · obtain rfl : j = 0 := by omega
        have hneg : ¬ (0 : Int) ≤ ((0 : Nat) : Int) - 1 := by omega
        have HLX := fhid (hS.out.turn HD.out)
        clear hpos
        go_wp2_with fail
        clear hneg
        go_loopw [6, 7] (fun x n w2 => ∃ (wi n' : Nat) (g : Nat → Nat), x = .int .i64 (wi : Int) ∧ n = .int .u64 n' ∧ Hid (LX (dn f nd * T) (nd + D1) D1 g wi n') ∧ Hid (DecIs w2 b g nd dp ng tr) ∧ Hid (Below b w w2) ∧ n' < 11529215046068469760) (fun x _ _ => (intOf x).toNat)
        case atStart => exact ⟨D1, n, g, by go_num, rfl, HLX, hI, hB, by have := hS.out.low HT1.out; have := HT2.out; omega⟩
        case round =>
          clear HLX hI hB hS hj
          obtain ⟨wi, n, g, rfl, rfl, hX, hI, hB, hnb⟩ := hrel
          by_cases hpos : 0 < n
          · have hw := hX.out.pos hZ.out.2 hpos
            obtain ⟨i, rfl⟩ : ∃ i, wi = i + 1 := ⟨wi - 1, by omega⟩
            have hwD := hX.out.le
            have hnx := hX.out.next (by omega)
            obtain ⟨Q, hQ⟩ : ∃ Q, n / 10 = Q := ⟨_, rfl⟩
            obtain ⟨R, hR⟩ : ∃ R, n % 10 = R := ⟨_, rfl⟩
            have hQi : (n : Int) / 10 = (Q : Int) := by omega
            have hRi : (n : Int) - 10 * (Q : Int) = (R : Int) := by omega
            have hQb : Q < 1152921504606846976 := by omega
            have hR9 : R ≤ 9 := by omega
            rw [hQ, hR] at hnx
            have HNX := fhid hnx
            have hJ8 : i < 800 := by omega
            have HI := fhid (hI.out.setD hJ8 (R + 48))
            have k6 := hI.out.fz i (by omega)
            have k7 := hI.out.at_ i hJ8
            have hi0 : ((i + 1 : Nat) : Int) - 1 = (i : Int) := by omega
            obtain ⟨J, hJ⟩ : ∃ J, i + 1 = J := ⟨_, rfl⟩
            rw [hJ] at hi0 ⊢
            clear hnx hQ hR hX hwD hJ hw
            go_wp2_with fail
            refine ⟨⟨i, Q, setAt g i (R + 48), rfl, rfl, HNX, HI, fhid (hB.out.setCell (Nat.le_refl _) _), by omega⟩, by simp [intOf] <;> omega⟩
          · obtain rfl : n = 0 := by omega
            obtain ⟨f1, f2, f3⟩ := hX.out.fin hZ.out.1 hZ.out.2 (by omega) (by omega)
            have k1 := hI.out.nd
            have k2 := hI.out.fz 800 (by omega)
            have k3 := hI.out.dp
            have k4 := hI.out.fz 801 (by omega)
            have HI := fhid ((hI.out.setN (v := (nd : Int) + (D1 : Int)) (nd + D1) (by omega)).setP (dp + (D1 : Int)))
            have HB := fhid ((hB.out.setCell (p := ⟨b, 800, none⟩) (Nat.le_refl _) (.int .i64 ((nd : Int) + (D1 : Int)))).setCell (p := ⟨b, 801, none⟩) (Nat.le_refl _) (.int .i64 (dp + (D1 : Int))))
            have F1 := fhid f1
            have F2 := fhid f2
            have F3 := fhid f3
            clear hpos f1 f2 f3
            go_wp2_with fail
            with_reducible refine (trimD b g (nd + D1) _ ng tr _ HI.out F2.out (by omega)).mono ?_
            rintro e w3 ⟨j, rfl, hd3, ht3, hl3, hb3⟩
            have hj1 : 1 ≤ j := by
              rcases Nat.eq_zero_or_pos j with hh | hh
              · exfalso
                subst hh
                have h2 := ht3.2
                have h4 : dn g 0 = 0 := rfl
                rw [h4, Nat.zero_mul, F1.out] at h2
                have h5 := Nat.pow_pos (n := nd + D1 - 1) (show 0 < 10 by decide)
                have := hZ.out.1
                omega
              · exact hh
            rw [if_neg (by omega)] at hd3
            have hV := SameV.pow (dn g j) (nd + D1 - j) (dp - nd)
            rw [← ht3.2, F1.out, show dp - (nd : Int) + ((nd + D1 - j : Nat) : Int) = dp + (D1 : Int) - j by have := ht3.1; omega] at hV
            have HP := fhid (⟨g, j, _, rfl, hd3, fun i hi => F2.out i (by have := ht3.1; omega), hj1, F3.out, hl3 (by omega), by have := ht3.1; omega, hV.symm, by omega, by omega, HB.out.trans hb3⟩ : LsPost b f nd dp T ng tr w (.returned (.tuple #[])) w3)
            clear hd3 ht3 hl3 hb3 hV
            go_wp2_with fail
            go_end0
            obtain ⟨g', j', dp', -, hh⟩ := HP.out
            exact ⟨g', j', dp', rfl, hh⟩
end Go.Proofs.YtlhhpehfgkanoaaGreatDoor.fl
/- The walk of strconv's (decimal).Shift. -/
namespace Go.Proofs.YtlhhpehfgkanoaaGreatDoor.fl
open Go.ChangeShapes Go.WideShapes Go.ChangeAt Go.RowKit
set_option linter.unusedVariables false
set_option linter.unusedSimpArgs false
theorem fit_next {X X1 nd nd1 m a c : Nat} {dp dp1 : Int} (h : SameV (X1 * 2 ^ a) (dp1 - nd1) X (dp - nd)) (hm : 2 ^ (a + c) ∣ X * 10 ^ m) (h1 : nd + m ≤ 800) (h2 : nd1 ≤ 800) (h3 : dp1 ≤ dp) :
    ∃ m1, 2 ^ c ∣ X1 * 10 ^ m1 ∧ nd1 + m1 ≤ 800 := by
  have ha : 0 < 2 ^ a := Nat.two_pow_pos a
  have key : ∀ Y, 2 ^ (a + c) ∣ Y * 2 ^ a → 2 ^ c ∣ Y := fun Y hY => by
    rw [Nat.pow_add, Nat.mul_comm Y] at hY
    exact (Nat.mul_dvd_mul_iff_left ha).1 hY
  rcases Int.le_total 0 ((m : Int) + (nd - dp) - (nd1 - dp1)) with ht | ht
  · obtain ⟨m1, hm1⟩ : ∃ m1 : Nat, (m1 : Int) = (m : Int) + (nd - dp) - (nd1 - dp1) := ⟨((m : Int) + (nd - dp) - (nd1 - dp1)).toNat, by omega⟩
    refine ⟨m1, key _ ?_, by omega⟩
    have e1 := SameV.pow (X1 * 2 ^ a) m1 (dp1 - nd1 - m1)
    have e2 := SameV.pow X m (dp - nd - m)
    rw [show dp1 - (nd1 : Int) - m1 + m1 = dp1 - nd1 by omega] at e1
    rw [show dp - (nd : Int) - m + m = dp - nd by omega] at e2
    have e3 := (e1.trans h).trans e2.symm
    rw [show dp1 - (nd1 : Int) - m1 = dp - nd - m by omega] at e3
    rw [Nat.mul_right_comm, e3.eq]
    exact hm
  · obtain ⟨s, hs⟩ : ∃ s : Nat, (s : Int) = -((m : Int) + (nd - dp) - (nd1 - dp1)) := ⟨(-((m : Int) + (nd - dp) - (nd1 - dp1))).toNat, by omega⟩
    refine ⟨0, key _ ?_, by omega⟩
    have e2 := SameV.pow X (m + s) (dp - nd - (m + s : Nat))
    rw [show dp - (nd : Int) - ((m + s : Nat) : Int) + ((m + s : Nat) : Int) = dp - nd by omega] at e2
    have e3 := h.trans e2.symm
    rw [show dp1 - (nd1 : Int) = dp - nd - ((m + s : Nat) : Int) by omega] at e3
    rw [Nat.pow_zero, Nat.mul_one, e3.eq, Nat.pow_add 10, ← Nat.mul_assoc]
    exact Nat.dvd_mul_right_of_dvd hm _
set_option maxHeartbeats 1000000 in
theorem shiftLC (b : Nat) (f : Nat → Nat) (nd : Nat) (dp : Int) (k : Nat) (ng tr : Bool) (w : World) (hx : FXb w b) (h : DecIs w b f nd dp ng tr) (hd : DigF f nd) (h1 : 1 ≤ nd) (h0 : 49 ≤ f 0) (hk1 : 1 ≤ k) (hk : k ≤ 60) (hfit : nd + chD k < 800) (hdp : -100000 ≤ dp ∧ dp ≤ 100000) :
    Calls Tryz.prog 163 #[.pointer (some ⟨b, 0, none⟩), .int .i64 k] w (LsPost b f nd dp (2 ^ k) ng tr w) := by
  have c := fhid (leftSC b f nd dp k (2 ^ k) ng tr w hx h hd h1 h0 hk1 hk rfl hfit hdp)
  have k1 := h.nd
  have e1 : ((nd : Int) == 0) = false := by simp; omega
  have e2 : (0 : Int) < (k : Int) := by omega
  have e3 : ¬ (60 : Int) < (k : Int) := by omega
  clear hx h hd h0 hfit hdp
  go_enter Tryz.func163, Tryz.ntmps163
  go_wp2_with fail
  clear k1 e1
  go_loopw [1] (fun x wr => x = .int .i64 (k : Int) ∧ wr = w) (fun _ _ => 0)
  case atStart => exact ⟨rfl, rfl⟩
  obtain ⟨rfl, rfl⟩ := hrel
  go_wp2_with fail
  with_reducible refine c.out.mono ?_
  clear c
  rintro e w3 hp
  obtain ⟨g, j, dp', rfl, hh⟩ := hp
  have HP := fhid hh
  clear hh
  go_wp2_with fail
  go_end0
  exact ⟨g, j, dp', rfl, HP.out⟩
theorem right60 (b : Nat) (f : Nat → Nat) (nd : Nat) (dp : Int) (m : Nat) (ng tr : Bool) (w : World) (h : DecIs w b f nd dp ng tr) (hd : DigF f nd) (h1 : 1 ≤ nd) (h0 : 49 ≤ f 0) (hm : 2 ^ 60 ∣ dn f nd * 10 ^ m) (hfit : nd + m ≤ 800) (hdp : -100000 ≤ dp ∧ dp ≤ 100000) :
    Calls Tryz.prog 170 #[.pointer (some ⟨b, 0, none⟩), .int .u64 60] w (RsPost b f nd dp (2 ^ 60) ng tr w) :=
  rightC b f nd dp 60 m (2 ^ 60) ng tr w h hd h1 h0 (by omega) rfl hm hfit hdp
set_option maxHeartbeats 1000000 in
theorem shiftRC (b : Nat) (f : Nat → Nat) (nd : Nat) (dp : Int) (k m : Nat) (ng tr : Bool) (w : World) (h : DecIs w b f nd dp ng tr) (hd : DigF f nd) (h1 : 1 ≤ nd) (h0 : 49 ≤ f 0) (hk1 : 1 ≤ k) (hk : k ≤ 2000) (hm : 2 ^ k ∣ dn f nd * 10 ^ m) (hfit : nd + m ≤ 800) (hdp : -10000 ≤ dp ∧ dp ≤ 10000) :
    Calls Tryz.prog 163 #[.pointer (some ⟨b, 0, none⟩), .int .i64 (-(k : Int))] w
      fun e w' => ∃ g j dp', e = .returned (.tuple #[]) ∧ DecIs w' b g j dp' ng tr ∧ DigF g j ∧ 1 ≤ j ∧ 49 ≤ g 0 ∧ g (j - 1) ≠ 48 ∧ j ≤ 800 ∧ SameV (dn g j * 2 ^ k) (dp' - j) (dn f nd) (dp - nd) ∧ dp - k - 20 ≤ dp' ∧ dp' ≤ dp ∧ Below b w w' := by
  have k1 := h.nd
  have e1 : ((nd : Int) == 0) = false := by simp; omega
  have e2 : ¬ (0 : Int) < -(k : Int) := by omega
  have e3 : -(k : Int) < 0 := by omega
  have HST : Hid (∃ g j dp' c m1, DecIs w b g j dp' ng tr ∧ DigF g j ∧ 1 ≤ j ∧ 49 ≤ g 0 ∧ j ≤ 800 ∧ c + k = k ∧ SameV (dn g j * 2 ^ c) (dp' - j) (dn f nd) (dp - nd) ∧ dp - c ≤ dp' ∧ dp' ≤ dp ∧ 2 ^ k ∣ dn g j * 10 ^ m1 ∧ j + m1 ≤ 800 ∧ Below b w w) :=
    fhid ⟨f, nd, dp, 0, m, h, hd, h1, h0, by omega, by omega, by rw [Nat.pow_zero, Nat.mul_one]; exact SameV.refl _ _, by omega, Int.le_refl _, hm, hfit, Below.refl _ _⟩
  have HDP := fhid hdp
  clear h hd h0 hfit hdp hm
  go_enter Tryz.func163, Tryz.ntmps163
  go_wp2_with fail
  clear k1 e1
  go_loopw [1] (fun x wr => ∃ (k' : Nat), x = .int .i64 (-(k' : Int)) ∧ 1 ≤ k' ∧ k' ≤ k ∧ Hid (∃ g j dp' c m1, DecIs wr b g j dp' ng tr ∧ DigF g j ∧ 1 ≤ j ∧ 49 ≤ g 0 ∧ j ≤ 800 ∧ c + k' = k ∧ SameV (dn g j * 2 ^ c) (dp' - j) (dn f nd) (dp - nd) ∧ dp - c ≤ dp' ∧ dp' ≤ dp ∧ 2 ^ k' ∣ dn g j * 10 ^ m1 ∧ j + m1 ≤ 800 ∧ Below b w wr)) (fun x _ => (-intOf x).toNat)
  case atStart => exact ⟨k, rfl, hk1, Nat.le_refl _, HST⟩
  case round =>
    clear HST e2 e3
    obtain ⟨k', rfl, hk1', hkk, hS⟩ := hrel
    obtain ⟨g, j, dp', c, m1, a1, a2, a3, a4, a5, a6, a7, a8, a9, a10, a11, a12⟩ := hS.out
    by_cases hbig : 60 < k'
    · obtain ⟨r, rfl⟩ : ∃ r, k' = 60 + r := ⟨k' - 60, by omega⟩
      have hc := fhid (right60 b g j dp' m1 ng tr wr a1 a2 a3 a4 (Nat.dvd_trans (Nat.pow_dvd_pow 2 (by omega)) a10) a11 (by have := HDP.out; omega))
      have A := fhid (And.intro a5 (And.intro a6 (And.intro a7 (And.intro a8 (And.intro a9 (And.intro a10 (And.intro a11 a12)))))))
      clear a1 a2 a3 a4 a5 a6 a7 a8 a9 a10 a11 a12 hS
      have hb1 : -((60 + r : Nat) : Int) < -60 := by omega
      go_wp2_with fail
      with_reducible refine hc.out.mono ?_
      clear hc
      rintro e w3 hp
      obtain ⟨g1, j1, dp1, rfl, b1, b2, b3, b4, b5, b6, b7, b8, b9, b10⟩ := hp
      obtain ⟨a5, a6, a7, a8, a9, a10, a11, a12⟩ := A.out
      obtain ⟨m2, c1, c2⟩ := fit_next b7 a10 a11 b6 b9
      have hV : SameV (dn g1 j1 * 2 ^ (c + 60)) (dp1 - j1) (dn f nd) (dp - nd) := by
        have := b7.mul (2 ^ c)
        rw [Nat.mul_assoc, ← Nat.pow_add, Nat.add_comm 60 c] at this
        exact this.trans a7
      have HN : Hid (∃ g j dp' c m1, DecIs w3 b g j dp' ng tr ∧ DigF g j ∧ 1 ≤ j ∧ 49 ≤ g 0 ∧ j ≤ 800 ∧ c + r = k ∧ SameV (dn g j * 2 ^ c) (dp' - j) (dn f nd) (dp - nd) ∧ dp - c ≤ dp' ∧ dp' ≤ dp ∧ 2 ^ r ∣ dn g j * 10 ^ m1 ∧ j + m1 ≤ 800 ∧ Below b w w3) :=
        fhid ⟨g1, j1, dp1, c + 60, m2, b1, b2, b3, b4, b6, by omega, hV, by omega, by omega, c1, c2, a12.trans b10⟩
      clear b1 b2 b3 b4 b5 b6 b7 b8 b9 b10 a5 a6 a7 a8 a9 a10 a11 a12 c1 c2 hV
      go_wp2_with fail
      go_roundw
      case rel => exact ⟨r, by congr 1; omega, by omega, by omega, HN⟩
      case measure => simp [intOf]; omega
    · have hc := fhid (rightC b g j dp' k' m1 (2 ^ k') ng tr wr a1 a2 a3 a4 (by omega) rfl a10 a11 (by have := HDP.out; omega))
      have A := fhid (And.intro a5 (And.intro a6 (And.intro a7 (And.intro a8 (And.intro a9 (And.intro a10 (And.intro a11 a12)))))))
      clear a1 a2 a3 a4 a5 a6 a7 a8 a9 a10 a11 a12 hS
      have hb1 : ¬ -(k' : Int) < -60 := by omega
      have hneg : -(-(k' : Int)) = (k' : Int) := by omega
      have hk60 : k' ≤ 60 := by omega
      go_wp2_with fail
      with_reducible refine hc.out.mono ?_
      clear hc
      rintro e w3 hp
      obtain ⟨g1, j1, dp1, rfl, b1, b2, b3, b4, b5, b6, b7, b8, b9, b10⟩ := hp
      obtain ⟨a5, a6, a7, a8, a9, a10, a11, a12⟩ := A.out
      have hV : SameV (dn g1 j1 * 2 ^ k) (dp1 - j1) (dn f nd) (dp - nd) := by
        have := b7.mul (2 ^ c)
        rw [Nat.mul_assoc, ← Nat.pow_add, show k' + c = k by omega] at this
        exact this.trans a7
      have HN := fhid (And.intro b1 (And.intro b2 (And.intro b3 (And.intro b4 (And.intro b5 (And.intro b6 (And.intro hV (And.intro (show dp - k - 20 ≤ dp1 by omega) (And.intro (show dp1 ≤ dp by omega) (a12.trans b10))))))))))
      clear b1 b2 b3 b4 b5 b6 b7 b8 b9 b10 a5 a6 a7 a8 a9 a10 a11 a12 hV
      go_wp2_with fail
      go_end0
      exact ⟨g1, j1, dp1, rfl, HN.out⟩
end Go.Proofs.YtlhhpehfgkanoaaGreatDoor.fl
/- The walks of strconv's shouldRoundUp and (decimal).RoundedInteger. -/
namespace Go.Proofs.YtlhhpehfgkanoaaGreatDoor.fl
open Go.ChangeShapes Go.WideShapes Go.ChangeAt Go.RowKit
set_option linter.unusedVariables false
set_option linter.unusedSimpArgs false
/-- Is the number, cut at a digits, rounded up? -/
def upF (f : Nat → Nat) (nd : Nat) (a : Int) : Bool :=
  if a < 0 ∨ (nd : Int) ≤ a then false
  else if f a.toNat = 53 ∧ a + 1 = nd then decide (0 < a) && decide ((f (a.toNat - 1) - 48) % 2 ≠ 0)
  else decide (53 ≤ f a.toNat)
set_option maxHeartbeats 1000000 in
theorem shouldC (b : Nat) (f : Nat → Nat) (nd : Nat) (dp a : Int) (ng : Bool) (w : World) (h : DecIs w b f nd dp ng false) (hd : DigF f nd) (hn : nd ≤ 800) (ha : -100000 ≤ a ∧ a ≤ 100000) :
    Calls Tryz.prog 171 #[.pointer (some ⟨b, 0, none⟩), .int .i64 a] w fun e w' => e = .returned (.bool (upF f nd a)) ∧ w' = w := by
  have k1 := h.nd
  have k2 := h.tr
  have H0 := fhid h
  have HD := fhid hd
  clear h hd
  unfold upF
  by_cases hneg : a < 0
  · rw [if_pos (.inl hneg)]
    go_enter Tryz.func171, Tryz.ntmps171
    go_wp2_with fail
    go_ret
    exact ⟨rfl, rfl⟩
  · by_cases hge : (nd : Int) ≤ a
    · rw [if_pos (.inr hge)]
      go_enter Tryz.func171, Tryz.ntmps171
      go_wp2_with fail
      go_ret
      exact ⟨rfl, rfl⟩
    · rw [if_neg (by omega)]
      obtain ⟨i, rfl⟩ : ∃ i : Nat, a = i := ⟨a.toNat, by omega⟩
      rw [Int.toNat_natCast]
      have hi8 : (i : Int) < 800 := by omega
      have k3 := H0.out.at_ i (by omega)
      have hdi := HD.out i (by omega)
      obtain ⟨d, hdd⟩ : ∃ d, f i = d := ⟨_, rfl⟩
      rw [hdd] at k3 hdi ⊢
      by_cases h5 : d = 53 ∧ (i : Int) + 1 = nd
      · rw [if_pos h5]
        obtain ⟨rfl, h6⟩ := h5
        by_cases hi0 : 0 < i
        · have k4 := H0.out.at_ (i - 1) (by omega)
          have hdj := HD.out (i - 1) (by omega)
          obtain ⟨c, hc⟩ : ∃ c, f (i - 1) = c := ⟨_, rfl⟩
          rw [hc] at k4 hdj ⊢
          obtain ⟨c1, c2⟩ := hdj
          have hi1 : (i : Int) - 1 = ((i - 1 : Nat) : Int) := by omega
          have hi2 : (0 : Int) < (i : Int) := by omega
          have hi3 : ((i - 1 : Nat) : Int) < 800 := by omega
          have h6' : ((i : Int) + 1 == (nd : Int)) = true := by simp; omega
          clear h6
          go_enter Tryz.func171, Tryz.ntmps171
          go_wp2_with fail
          go_ret
          refine ⟨ret_b ?_, rfl⟩
          rw [Bool.eq_iff_iff]
          simp
          omega
        · have hi0' : ¬ (0 : Int) < (i : Int) := by omega
          have h6' : ((i : Int) + 1 == (nd : Int)) = true := by simp; omega
          clear h6
          go_enter Tryz.func171, Tryz.ntmps171
          go_wp2_with fail
          go_ret
          refine ⟨ret_b ?_, rfl⟩
          first | rfl | (rw [Bool.eq_iff_iff]; simp <;> omega)
      · rw [if_neg h5]
        by_cases h53 : d = 53
        · subst h53
          have h6' : ((i : Int) + 1 == (nd : Int)) = false := by simp; omega
          clear h5
          go_enter Tryz.func171, Tryz.ntmps171
          go_wp2_with fail
          go_ret
          exact ⟨ret_b rfl, rfl⟩
        · have h6' : ((d : Int) == 53) = false := by simp; omega
          clear h5
          go_enter Tryz.func171, Tryz.ntmps171
          go_wp2_with fail
          go_ret
          refine ⟨ret_b ?_, rfl⟩
          first | rfl | (rw [Bool.eq_iff_iff]; simp <;> omega)
/-- The whole number that RoundedInteger answers. -/
def intF (f : Nat → Nat) (nd : Nat) (dp : Int) : Nat := dn (pad f nd) dp.toNat + (if upF f nd dp then 1 else 0)
theorem dn_pad_lt {f : Nat → Nat} {nd : Nat} (hd : DigF f nd) (r : Nat) : dn (pad f nd) r < 10 ^ r := dn_lt (pad_dig hd r)
set_option maxRecDepth 100000 in
set_option maxHeartbeats 1000000 in
theorem roundedC (b : Nat) (f : Nat → Nat) (nd : Nat) (dp : Int) (ng : Bool) (w : World) (h : DecIs w b f nd dp ng false) (hd : DigF f nd) (hn : nd ≤ 800) (h1 : -100000 ≤ dp) (h2 : dp ≤ 18) :
    Calls Tryz.prog 164 #[.pointer (some ⟨b, 0, none⟩)] w fun e w' => e = .returned (.int .u64 (intF f nd dp)) ∧ w' = w := by
  have k1 := h.nd
  have k2 := h.dp
  have H0 := fhid h
  have HD := fhid hd
  have cs := fhid (shouldC b f nd dp dp ng w h hd hn ⟨h1, by omega⟩)
  clear h hd
  unfold intF
  go_enter Tryz.func164, Tryz.ntmps164
  obtain ⟨t, ht⟩ : ∃ t, dp.toNat = t := ⟨_, rfl⟩
  rw [ht]
  have hlow : Hid (∀ r, r ≤ 18 → dn (pad f nd) r < 1000000000000000000) := fhid fun r hr => Nat.lt_of_lt_of_le (dn_pad_lt HD.out r) ((by have := Nat.pow_le_pow_right (n := 10) (by decide) hr; exact this))
  have e1 : ¬ (20 : Int) < dp := by omega
  go_upto_block 0 with fail
  go_cut [3, 4] (fun i n wx => ∃ i' : Nat, i = .int .i64 i' ∧ n = .int .u64 (dn (pad f nd) i' : Nat) ∧ i' ≤ t ∧ (i' < t → nd ≤ i') ∧ wx = w)
  case first => as_aux_lemma =>
    go_wp2_with fail
    go_loopw [3, 4] (fun i n wr => ∃ (i' n' : Nat), i = .int .i64 i' ∧ n = .int .u64 n' ∧ Hid (n' = dn (pad f nd) i') ∧ i' ≤ t ∧ i' ≤ nd ∧ wr = w) (fun i _ _ => 1000 - (intOf i).toNat)
    case atStart => exact ⟨0, 0, rfl, rfl, fhid rfl, Nat.zero_le _, by omega, rfl⟩
    case round =>
      obtain ⟨i, n, rfl, rfl, hE, hi, hin, rfl⟩ := hrel
      by_cases hlt : i < t
      · have g1 : (i : Int) < dp := by omega
        by_cases hln : i < nd
        · have g2 : (i : Int) < (nd : Int) := by omega
          have k3 := H0.out.at_ i (by omega)
          have hdi := HD.out i hln
          have hb := hlow.out i (by omega)
          rw [← hE.out] at hb
          have hnx := dn_pad_read (f := f) hln
          rw [← hE.out] at hnx
          obtain ⟨c, hc⟩ : ∃ c, f i = c := ⟨_, rfl⟩
          rw [hc] at k3 hdi hnx
          obtain ⟨c1, c2⟩ := hdi
          obtain ⟨d, hd⟩ : ∃ d, c - 48 = d := ⟨_, rfl⟩
          have hcd : (c : Int) - 48 = (d : Int) := by omega
          have hd9 : d ≤ 9 := by omega
          rw [hd] at hnx
          have HNX := fhid hnx
          have hi8 : (i : Int) < 800 := by omega
          clear hnx hd hc
          go_wp2_with fail
          refine ⟨⟨i + 1, n * 10 + d, by go_num, by go_num, fhid HNX.out.symm, by omega, by omega, by first | trivial | rfl⟩, by simp [intOf]; omega⟩
        · have g2 : ¬ (i : Int) < (nd : Int) := by omega
          go_wp2_with fail
          go_meet
          exact ⟨i, rfl, by rw [hE.out], by omega, fun _ => by omega, rfl⟩
      · have g1 : ¬ (i : Int) < dp := by omega
        go_wp2_with fail
        go_meet
        exact ⟨i, rfl, by rw [hE.out], by omega, fun h => absurd h (by omega), rfl⟩
  case rest =>
    obtain ⟨i0, rfl, rfl, hi0, hi1, rfl⟩ := hcut
    go_wp2_with fail
    go_loopw [3, 4] (fun i n wr => ∃ (i' n' : Nat), i = .int .i64 i' ∧ n = .int .u64 n' ∧ Hid (n' = dn (pad f nd) i') ∧ i' ≤ t ∧ (i' < t → nd ≤ i') ∧ wr = wc) (fun i _ _ => 1000 - (intOf i).toNat)
    case atStart => exact ⟨i0, _, rfl, rfl, fhid rfl, hi0, hi1, rfl⟩
    case round =>
      obtain ⟨i, n, rfl, rfl, hE, hi, hin, rfl⟩ := hrel
      have hb := hlow.out i (by omega)
      rw [← hE.out] at hb
      by_cases hlt : i < t
      · have g1 : (i : Int) < dp := by omega
        have hnx := dn_pad_none (f := f) (hin hlt)
        rw [← hE.out] at hnx
        have HNX := fhid hnx
        have hin' := hin hlt
        clear hnx
        go_wp2_with fail
        refine ⟨⟨i + 1, n * 10, by go_num, by go_num, fhid HNX.out.symm, by omega, fun _ => by omega, by first | trivial | rfl⟩, by simp [intOf]; omega⟩
      · have g1 : ¬ (i : Int) < dp := by omega
        have hit : i = t := by omega
        have HIT := fhid hit
        clear hlt hit
        go_wp2_with fail
        with_reducible refine cs.out.mono ?_
        rintro e w3 ⟨rfl, rfl⟩
        obtain ⟨u, hu⟩ : ∃ u, upF f nd dp = u := ⟨_, rfl⟩
        rw [hu]
        cases u
        · go_wp2_with fail
          all_goals
            go_ret
            refine ⟨?_, rfl⟩
            rw [← HIT.out, ← hE.out]
            rfl
        · go_wp2_with fail
          all_goals
            go_ret
            refine ⟨?_, rfl⟩
            rw [← HIT.out, ← hE.out]
            rfl
end Go.Proofs.YtlhhpehfgkanoaaGreatDoor.fl
/- The whole number that RoundedInteger answers is the nearest one, the even one of two. Plain. -/
namespace Go.Proofs.YtlhhpehfgkanoaaGreatDoor.fl
set_option linter.unusedVariables false
set_option linter.unusedSimpArgs false
/-- What stands behind the first a digits. -/
theorem dn_tail {f : Nat → Nat} {n : Nat} (hd : DigF f n) (a : Nat) (ha : a ≤ n) : dn f n = dn f a * 10 ^ (n - a) + dn f n % 10 ^ (n - a) := by
  have h := dn_div hd (n - a) (by omega)
  rw [show n - (n - a) = a by omega] at h
  have := Nat.div_add_mod (dn f n) (10 ^ (n - a))
  rw [h, Nat.mul_comm] at this
  exact this.symm
/-- Where the last digit is no nought, something stands behind. -/
theorem tail_pos {f : Nat → Nat} {n : Nat} (hd : DigF f n) (hl : f (n - 1) ≠ 48) : ∀ j, j < n → 0 < dn f n % 10 ^ (n - j) := by
  intro j hj
  have h1 := dn_mod hd (n - 1) (by omega)
  rw [show n - (n - 1 + 1) = 0 by omega, Nat.pow_zero, Nat.mod_one, Nat.mul_one, Nat.add_zero, show n - (n - 1) = 1 by omega] at h1
  have h2 := hd (n - 1) (by omega)
  have h3 : dn f n % 10 ^ (n - j) % 10 ^ 1 = dn f n % 10 ^ 1 := Nat.mod_mod_of_dvd _ (Nat.pow_dvd_pow 10 (by omega))
  rcases Nat.eq_zero_or_pos (dn f n % 10 ^ (n - j)) with h0 | h0
  · rw [h0, h1] at h3
    simp at h3
    omega
  · exact h0
theorem intF_rd {f : Nat → Nat} {nd : Nat} {dp : Int} (hd : DigF f nd) (h1 : 1 ≤ nd) (hl : f (nd - 1) ≠ 48) : intF f nd dp = rd (dn f nd * 10 ^ (dp - nd).toNat) (10 ^ ((nd : Int) - dp).toNat) := by
  unfold intF
  by_cases hneg : dp < 0
  · have hu : upF f nd dp = false := by unfold upF; rw [if_pos (.inl hneg)]
    rw [hu, show dp.toNat = 0 by omega, show (dp - nd).toNat = 0 by omega]
    have hX := dn_lt hd
    have hp := Nat.pow_le_pow_right (n := 10) (by decide) (show nd + 1 ≤ ((nd : Int) - dp).toNat by omega)
    rw [Nat.pow_succ] at hp
    unfold rd
    rw [Nat.pow_zero, Nat.mul_one, Nat.div_eq_of_lt (by omega), Nat.mod_eq_of_lt (by omega), if_neg (by decide), if_neg (by omega)]
    rfl
  · obtain ⟨a, rfl⟩ : ∃ a : Nat, dp = a := ⟨dp.toNat, by omega⟩
    rw [Int.toNat_natCast]
    by_cases hge : nd ≤ a
    · have hu : upF f nd a = false := by unfold upF; rw [if_pos (.inr (by omega))]
      rw [hu, show ((a : Int) - nd).toNat = a - nd by omega, show ((nd : Int) - a).toNat = 0 by omega, dn_pad_ge hge, Nat.pow_zero]
      unfold rd
      rw [Nat.div_one, Nat.mod_one, if_neg (by decide), if_neg (by omega)]
    · rw [show ((a : Int) - nd).toNat = 0 by omega, show ((nd : Int) - a).toNat = nd - a by omega, dn_pad_le (by omega), Nat.pow_zero, Nat.mul_one]
      have hdiv := dn_div hd (nd - a) (by omega)
      rw [show nd - (nd - a) = a by omega] at hdiv
      have hm := dn_mod hd a (by omega)
      have hda := hd a (by omega)
      have hu : upF f nd a = if f a = 53 ∧ (a : Int) + 1 = nd then decide ((0 : Int) < a) && decide ((f (a - 1) - 48) % 2 ≠ 0) else decide (53 ≤ f a) := by
        unfold upF
        rw [if_neg (by omega), Int.toNat_natCast]
      obtain ⟨Q, hQ⟩ : ∃ Q, 10 ^ (nd - (a + 1)) = Q := ⟨_, rfl⟩
      have hp : 10 ^ (nd - a) = 10 * Q := by rw [← hQ, show nd - a = nd - (a + 1) + 1 by omega, Nat.pow_succ, Nat.mul_comm]
      rw [hQ] at hm
      have hQp : 0 < Q := by rw [← hQ]; exact Nat.pow_pos (by decide)
      have hr := Nat.mod_lt (dn f nd) hQp
      unfold rd
      rw [hdiv, hm]
      rw [hp]
      congr 1
      obtain ⟨d, hdd⟩ : ∃ d, f a = d := ⟨_, rfl⟩
      rw [hdd] at hda hu ⊢
      obtain ⟨e, he⟩ : ∃ e, d - 48 = e := ⟨_, rfl⟩
      obtain ⟨t, ht⟩ : ∃ t, dn f nd % Q = t := ⟨_, rfl⟩
      rw [he]
      rw [ht] at hr ⊢
      have fin : ∀ (u : Bool) (P : Prop) [Decidable P], (u = true ↔ P) → (if u = true then 1 else 0) = (if P then 1 else 0 : Nat) := by
        intro u P _ h
        by_cases hP : P
        · rw [if_pos hP, if_pos (h.2 hP)]
        · rw [if_neg hP, if_neg (fun h' => hP (h.1 h'))]
      refine fin _ _ ?_
      rw [hu]
      by_cases h5 : d = 53 ∧ (a : Int) + 1 = nd
      · rw [if_pos h5]
        obtain ⟨rfl, h6⟩ := h5
        have hQ1 : Q = 1 := by rw [← hQ, show nd - (a + 1) = 0 by omega, Nat.pow_zero]
        subst hQ1
        have he5 : e = 5 := by omega
        have ht0 : t = 0 := by omega
        subst he5 ht0
        by_cases ha0 : 0 < a
        · obtain ⟨i, rfl⟩ : ∃ i, a = i + 1 := ⟨a - 1, by omega⟩
          rw [Nat.add_sub_cancel]
          have hdi := hd i (by omega)
          have e1 : dn f (i + 1) = dn f i * 10 + (f i - 48) := rfl
          rw [e1, Bool.and_eq_true, decide_eq_true_eq, decide_eq_true_eq]
          generalize dn f i = z
          generalize f i - 48 = y
          constructor
          · intro h; right; refine ⟨by omega, ?_⟩; have := h.2; omega
          · intro h; refine ⟨by omega, ?_⟩; rcases h with h | h <;> omega
        · obtain rfl : a = 0 := by omega
          have e0 : dn f 0 = 0 := rfl
          rw [e0]
          simp
      · rw [if_neg h5, decide_eq_true_eq]
        have hgt : 53 ≤ d → 10 * Q < 2 * (e * Q + t) := by
          intro h
          rcases Nat.lt_or_ge 53 d with hh | hh
          · have : 6 * Q ≤ e * Q := Nat.mul_le_mul_right Q (by omega)
            omega
          · have hlt : a + 1 < nd := by omega
            have htp := tail_pos hd hl (a + 1) hlt
            rw [hQ, ht] at htp
            have : 5 * Q ≤ e * Q := Nat.mul_le_mul_right Q (by omega)
            omega
        have hle : ¬ 53 ≤ d → 2 * (e * Q + t) < 10 * Q := by
          intro h
          have : e * Q ≤ 4 * Q := Nat.mul_le_mul_right Q (by omega)
          omega
        constructor
        · intro h; exact .inl (hgt h)
        · intro h
          by_cases hh : 53 ≤ d
          · exact hh
          · have := hle hh
            omega
end Go.Proofs.YtlhhpehfgkanoaaGreatDoor.fl
/- What floatBits makes of its digits in the end is the nearest rung. Plain. -/
namespace Go.Proofs.YtlhhpehfgkanoaaGreatDoor.fl
set_option linter.unusedVariables false
set_option linter.unusedSimpArgs false
theorem rd_wide (n d k : Nat) (hd : 0 < d) (hk : 0 < k) : rd (n * k) (d * k) = rd n d := by
  unfold rd
  rw [Nat.mul_div_mul_right _ _ hk, Nat.mul_mod_mul_right]
  congr 1
  have e1 : d * k < 2 * (n % d * k) ↔ d < 2 * (n % d) := by
    rw [← Nat.mul_assoc]
    exact Nat.mul_lt_mul_right hk
  have e2 : 2 * (n % d * k) = d * k ↔ 2 * (n % d) = d := by
    rw [← Nat.mul_assoc]
    exact ⟨fun h => Nat.eq_of_mul_eq_mul_right hk h, fun h => by rw [h]⟩
  simp only [e1, e2]
theorem rd_same {n d n' d' : Nat} (hd : 0 < d) (hd' : 0 < d') (h : n * d' = n' * d) : rd n d = rd n' d' := by
  rw [← rd_wide n d d' hd hd', ← rd_wide n' d' d hd' hd, h, Nat.mul_comm d d']
theorem valD_pow (p : Int) : valD p = 10 ^ (-p).toNat := by
  unfold valD
  by_cases h : 0 ≤ p
  · rw [if_pos h, show (-p).toNat = 0 by omega, Nat.pow_zero]
  · rw [if_neg h]
theorem valN_pow (X : Nat) (p : Int) : valN X p = X * 10 ^ p.toNat * 2 ^ K74 := by
  unfold valN
  generalize 2 ^ K74 = kk
  by_cases h : 0 ≤ p
  · rw [if_pos h]
  · rw [if_neg h, show p.toNat = 0 by omega, Nat.pow_zero]
/-- The whole number and the rung: value times 2^53, e the rung's binade. -/
theorem rd_rung {Y X0 e : Nat} {p e0 : Int} (h : SameV (Y * 2 ^ e) p (X0 * 2 ^ K74) e0) : rd (Y * 10 ^ p.toNat) (10 ^ (-p).toNat) = rd (valN X0 e0) (valD e0 * 2 ^ e) := by
  have hK : 0 < 2 ^ K74 := Nat.two_pow_pos K74
  refine rd_same (Nat.pow_pos (by decide)) (Nat.mul_pos (valD_pos _) (Nat.two_pow_pos e)) ?_
  unfold SameV at h
  rw [valN_mul, valN_mul, valN_pow Y p, valD_pow p] at h
  generalize 2 ^ K74 = K at h hK
  refine Nat.eq_of_mul_eq_mul_right hK ?_
  have e1 : Y * 10 ^ p.toNat * (valD e0 * 2 ^ e) * K = Y * 10 ^ p.toNat * K * 2 ^ e * valD e0 := by
    rw [Nat.mul_right_comm _ _ K, Nat.mul_assoc _ (2 ^ e), Nat.mul_comm (2 ^ e)]
  rw [e1, h, Nat.mul_right_comm]
/-- The float. -/
theorem fb_near {Y X0 e m : Nat} {p e0 : Int} (h : SameV (Y * 2 ^ e) p (X0 * 2 ^ K74) e0) (hm : rd (Y * 10 ^ p.toNat) (10 ^ (-p).toNat) = m) (hlo : e = 0 ∨ (B ≤ m ∧ (m = B → 2 * B * (valD e0 * 2 ^ e) ≤ 2 * valN X0 e0))) (hhi : m ≤ 2 * B) :
    Near (valN X0 e0) (valD e0) (e * B + m) :=
  near_of_rd (valD_pos _) (by rw [← rd_rung h]; exact hm) hlo hhi
end Go.Proofs.YtlhhpehfgkanoaaGreatDoor.fl
/- Plain facts for floatBits: how far the digits reach. -/
namespace Go.Proofs.YtlhhpehfgkanoaaGreatDoor.fl
set_option linter.unusedVariables false
set_option linter.unusedSimpArgs false
/-- The digits of a value that was halved S times have room when it is halved k times more. -/
theorem fit_of {X X0 nd S k : Nat} {dp E : Int} (h : SameV (X * 2 ^ S) (dp - nd) X0 E) (hb : (S : Int) + k + dp - E ≤ 800) (hn : nd ≤ 800) : ∃ m, 2 ^ k ∣ X * 10 ^ m ∧ nd + m ≤ 800 := by
  obtain ⟨m, hm⟩ : ∃ m : Nat, (m : Int) = max 0 ((S : Int) + k - (E - (dp - nd))) := ⟨(max 0 ((S : Int) + k - (E - (dp - nd)))).toNat, by omega⟩
  obtain ⟨r, hr⟩ : ∃ r : Nat, (r : Int) = E - (dp - nd) + m := ⟨(E - (dp - nd) + m).toNat, by omega⟩
  refine ⟨m, ?_, by omega⟩
  have e1 := SameV.pow (X * 2 ^ S) m (dp - nd - m)
  have e2 := SameV.pow X0 r (E - r)
  rw [show dp - (nd : Int) - m + m = dp - nd by omega] at e1
  rw [show E - (r : Int) + r = E by omega] at e2
  have e3 := (e1.trans h).trans e2.symm
  rw [show dp - (nd : Int) - m = E - r by omega] at e3
  have e4 := e3.eq
  have hS : 0 < 2 ^ S := Nat.two_pow_pos S
  have h10 : (2 : Nat) ^ (S + k) ∣ 10 ^ r := by
    have : (10 : Nat) ^ r = 2 ^ r * 5 ^ r := by rw [← Nat.mul_pow]
    rw [this]
    exact Nat.dvd_mul_right_of_dvd (Nat.pow_dvd_pow 2 (by omega)) _
  have h5 : 2 ^ (S + k) ∣ X * 10 ^ m * 2 ^ S := by
    rw [Nat.mul_right_comm, e4]
    exact Nat.dvd_mul_left_of_dvd h10 _
  rw [Nat.pow_add, Nat.mul_comm (X * _)] at h5
  exact (Nat.mul_dvd_mul_iff_left hS).1 h5
/-- How often a number below a power of ten can be halved. -/
theorem s_bound {S n : Nat} (h : 2 ^ S < 10 ^ n) : 3 * S < 10 * n := by
  rcases Nat.lt_or_ge (3 * S) (10 * n) with hh | hh
  · exact hh
  · exfalso
    have h1 : (2 ^ S) ^ 3 < (10 ^ n) ^ 3 := Nat.pow_lt_pow_left h (by decide)
    rw [← Nat.pow_mul, ← Nat.pow_mul, Nat.mul_comm S 3, Nat.mul_comm n 3, Nat.pow_mul 10 3 n] at h1
    have h2 : (10 ^ 3) ^ n ≤ (2 ^ 10) ^ n := Nat.pow_le_pow_left (by decide) n
    rw [← Nat.pow_mul 2 10 n] at h2
    have h3 : 2 ^ (10 * n) ≤ 2 ^ (3 * S) := Nat.pow_le_pow_right (by decide) hh
    exact absurd h1 (Nat.not_lt.2 (Nat.le_trans h2 h3))
/-- A value below 10^p0 that was halved S times and is not below 10^(dp-1). -/
theorem halved {X X0 nd n0 S a b : Nat} {dp E : Int} (h : SameV (X * 2 ^ S) (dp - nd) X0 E) (hX : 10 ^ (nd - 1) ≤ X) (h1 : 1 ≤ nd) (hX0 : X0 < 10 ^ n0) (ha : (a : Int) = dp - 1) (hb : (b : Int) = E + n0) : 2 ^ S * 10 ^ a < 10 ^ b := by
  obtain ⟨c, hc⟩ : ∃ c : Nat, (c : Int) = max 0 (-E) + max 0 ((nd : Int) - dp) := ⟨(max 0 (-E) + max 0 ((nd : Int) - dp)).toNat, by omega⟩
  obtain ⟨i, hi⟩ : ∃ i : Nat, (i : Int) = dp - nd + c := ⟨(dp - nd + c).toNat, by omega⟩
  obtain ⟨j, hj⟩ : ∃ j : Nat, (j : Int) = E + c := ⟨(E + c).toNat, by omega⟩
  have e1 := SameV.pow (X * 2 ^ S) i (dp - nd - i)
  have e2 := SameV.pow X0 j (E - j)
  rw [show dp - (nd : Int) - i + i = dp - nd by omega] at e1
  rw [show E - (j : Int) + j = E by omega] at e2
  have e3 := (e1.trans h).trans e2.symm
  rw [show dp - (nd : Int) - i = E - j by omega] at e3
  have e4 := e3.eq
  have hp := Nat.pow_pos (n := c) (show 0 < 10 by decide)
  refine Nat.lt_of_mul_lt_mul_right (a := 10 ^ c) ?_
  have l1 : 2 ^ S * 10 ^ a * 10 ^ c ≤ X * 2 ^ S * 10 ^ i := by
    have : 10 ^ a * 10 ^ c = 10 ^ (nd - 1) * 10 ^ i := by rw [← Nat.pow_add, ← Nat.pow_add]; congr 1; omega
    rw [Nat.mul_assoc, this, Nat.mul_comm X, Nat.mul_assoc]
    exact Nat.mul_le_mul_left _ (Nat.mul_le_mul_right _ hX)
  have l2 : X0 * 10 ^ j < 10 ^ b * 10 ^ c := by
    have : 10 ^ b * 10 ^ c = 10 ^ n0 * 10 ^ j := by rw [← Nat.pow_add, ← Nat.pow_add]; congr 1; omega
    rw [this]
    exact Nat.mul_lt_mul_of_pos_right hX0 (Nat.pow_pos (by decide))
  rw [e4] at l1
  exact Nat.lt_of_le_of_lt l1 l2
end Go.Proofs.YtlhhpehfgkanoaaGreatDoor.fl
/- Plain laws for the walk of floatBits. -/
namespace Go.Proofs.YtlhhpehfgkanoaaGreatDoor.fl
set_option linter.unusedVariables false
set_option linter.unusedSimpArgs false
theorem SameV.nat {X Y i j : Nat} {p q c : Int} (h : SameV X p Y q) (hi : (i : Int) = p + c) (hj : (j : Int) = q + c) : X * 10 ^ i = Y * 10 ^ j := by
  have e1 := SameV.pow X i (-c)
  have e2 := SameV.pow Y j (-c)
  rw [show -c + (i : Int) = p by omega] at e1
  rw [show -c + (j : Int) = q by omega] at e2
  exact ((e1.trans h).trans e2.symm).eq
theorem SameV.of_nat {X Y i j : Nat} {p q c : Int} (h : X * 10 ^ i = Y * 10 ^ j) (hi : (i : Int) = p + c) (hj : (j : Int) = q + c) : SameV X p Y q := by
  have e1 := SameV.pow X i (-c)
  have e2 := SameV.pow Y j (-c)
  rw [show -c + (i : Int) = p by omega] at e1
  rw [show -c + (j : Int) = q by omega, ← h] at e2
  exact e1.symm.trans e2
theorem ten_two (r : Nat) : (10 : Nat) ^ r = 2 ^ r * 5 ^ r := by rw [← Nat.mul_pow]
/-- The digits have room when they are halved k times more. -/
theorem fit2 {X X0 nd S1 S2 k : Nat} {dp E : Int} (h : SameV (X * 2 ^ S1) (dp - nd) (X0 * 2 ^ S2) E) (hb1 : dp - E ≤ 800) (hb2 : (S1 : Int) + k - S2 + dp - E ≤ 800) (hn : nd ≤ 800) : ∃ m, 2 ^ k ∣ X * 10 ^ m ∧ nd + m ≤ 800 := by
  obtain ⟨m, hm⟩ : ∃ m : Nat, (m : Int) = max 0 (max (dp - nd - E) ((S1 : Int) + k - S2 - E + (dp - nd))) := ⟨(max 0 (max (dp - nd - E) ((S1 : Int) + k - S2 - E + (dp - nd)))).toNat, by omega⟩
  obtain ⟨r, hr⟩ : ∃ r : Nat, (r : Int) = E + m - (dp - nd) := ⟨(E + m - (dp - nd)).toNat, by omega⟩
  refine ⟨m, ?_, by omega⟩
  have e4 := h.nat (i := m) (j := r) (c := m - (dp - nd)) (by omega) (by omega)
  have hS : 0 < 2 ^ S1 := Nat.two_pow_pos S1
  have h5 : 2 ^ (S1 + k) ∣ X * 10 ^ m * 2 ^ S1 := by
    rw [Nat.mul_right_comm, e4, ten_two r, Nat.mul_assoc, ← Nat.mul_assoc (2 ^ S2), ← Nat.pow_add]
    exact Nat.dvd_mul_left_of_dvd (Nat.dvd_mul_right_of_dvd (Nat.pow_dvd_pow 2 (by omega)) _) _
  rw [Nat.pow_add, Nat.mul_comm (X * _)] at h5
  exact (Nat.mul_dvd_mul_iff_left hS).1 h5
/-- How many digits there are. -/
theorem nd_le {X X0 nd S1 S2 : Nat} {dp E : Int} (h : SameV (X * 2 ^ S1) (dp - nd) (X0 * 2 ^ S2) E) (hl : X % 10 ≠ 0) : (nd : Int) - dp ≤ max (-E) ((S1 : Int) - S2 - E) := by
  rcases Int.lt_or_le (max (-E) ((S1 : Int) - S2 - E)) ((nd : Int) - dp) with hh | hh
  · exfalso
    obtain ⟨t, ht⟩ : ∃ t : Nat, ((t : Int) + 1) = nd - dp + E := ⟨((nd : Int) - dp + E - 1).toNat, by omega⟩
    obtain ⟨z, hz⟩ : ∃ z : Nat, S2 + t = S1 + z := ⟨S2 + t - S1, by omega⟩
    have e := h.nat (i := 0) (j := t + 1) (c := nd - dp) (by omega) (by omega)
    rw [Nat.pow_zero, Nat.mul_one, Nat.pow_succ, ten_two t, ← Nat.mul_assoc, Nat.mul_assoc X0, ← Nat.mul_assoc (2 ^ S2), ← Nat.pow_add, hz, Nat.pow_add, Nat.mul_comm (2 ^ S1), Nat.mul_right_comm (2 ^ z), ← Nat.mul_assoc X0, Nat.mul_right_comm _ (2 ^ S1)] at e
    have e2 := Nat.eq_of_mul_eq_mul_right (Nat.two_pow_pos S1) e
    omega
  · exact hh
theorem last_dn {f : Nat → Nat} {nd : Nat} (hd : DigF f nd) (h1 : 1 ≤ nd) (hl : f (nd - 1) ≠ 48) : dn f nd % 10 ≠ 0 := by
  obtain ⟨i, rfl⟩ : ∃ i, nd = i + 1 := ⟨nd - 1, by omega⟩
  rw [Nat.add_sub_cancel] at hl
  have := hd i (by omega)
  rw [dn_succ]
  omega
/-- How the points stand. -/
theorem hav {X X0 nd n0 S1 S2 a b : Nat} {dp E c : Int} (h : SameV (X * 2 ^ S1) (dp - nd) (X0 * 2 ^ S2) E) (hX : 10 ^ (nd - 1) ≤ X) (h1 : 1 ≤ nd) (hX0 : X0 < 10 ^ n0) (ha : (a : Int) = dp - 1 + c) (hb : (b : Int) = E + n0 + c) : 2 ^ S1 * 10 ^ a < 2 ^ S2 * 10 ^ b := by
  obtain ⟨q, hq⟩ : ∃ q : Nat, (q : Int) = max 0 (max ((nd : Int) - dp) (-E) - c) := ⟨(max 0 (max ((nd : Int) - dp) (-E) - c)).toNat, by omega⟩
  obtain ⟨i, hi⟩ : ∃ i : Nat, (i : Int) = dp - nd + (c + q) := ⟨(dp - nd + (c + q)).toNat, by omega⟩
  obtain ⟨j, hj⟩ : ∃ j : Nat, (j : Int) = E + (c + q) := ⟨(E + (c + q)).toNat, by omega⟩
  have e := h.nat hi hj
  refine Nat.lt_of_mul_lt_mul_right (a := 10 ^ q) ?_
  have l1 : 2 ^ S1 * 10 ^ a * 10 ^ q ≤ X * 2 ^ S1 * 10 ^ i := by
    have : 10 ^ a * 10 ^ q = 10 ^ (nd - 1) * 10 ^ i := by rw [← Nat.pow_add, ← Nat.pow_add]; congr 1; omega
    rw [Nat.mul_assoc, this, Nat.mul_comm X, Nat.mul_assoc]
    exact Nat.mul_le_mul_left _ (Nat.mul_le_mul_right _ hX)
  have l2 : X0 * 2 ^ S2 * 10 ^ j < 2 ^ S2 * 10 ^ b * 10 ^ q := by
    have : 10 ^ b * 10 ^ q = 10 ^ n0 * 10 ^ j := by rw [← Nat.pow_add, ← Nat.pow_add]; congr 1; omega
    rw [Nat.mul_comm X0, Nat.mul_assoc, Nat.mul_assoc, this]
    exact Nat.mul_lt_mul_of_pos_left (Nat.mul_lt_mul_of_pos_right hX0 (Nat.pow_pos (by decide))) (Nat.two_pow_pos S2)
  rw [e] at l1
  exact Nat.lt_of_le_of_lt l1 l2
theorem s_lin {s a b : Nat} (h : 2 ^ s * 10 ^ a < 10 ^ b) : 3 * s + 10 * a < 10 * b := by
  have h0 : 10 ^ a < 10 ^ b := Nat.lt_of_le_of_lt (Nat.le_mul_of_pos_left _ (Nat.two_pow_pos s)) h
  have hab : a < b := (Nat.pow_lt_pow_iff_right (by decide)).1 h0
  obtain ⟨d, rfl⟩ : ∃ d, b = a + d := ⟨b - a, by omega⟩
  rw [Nat.pow_add, Nat.mul_comm (2 ^ s)] at h
  have := s_bound (Nat.lt_of_mul_lt_mul_left h)
  omega
/-- .. in small numbers. -/
theorem s_lin2 {S1 S2 a b : Nat} (h : 2 ^ S1 * 10 ^ a < 2 ^ S2 * 10 ^ b) (hs : S2 ≤ S1) : 3 * S1 + 10 * a < 10 * b + 3 * S2 := by
  obtain ⟨s, rfl⟩ : ∃ s, S1 = S2 + s := ⟨S1 - S2, by omega⟩
  rw [Nat.pow_add, Nat.mul_assoc] at h
  have := s_lin (Nat.lt_of_mul_lt_mul_left h)
  omega
theorem SameV.unmul {X Y c : Nat} {p q : Int} (h : SameV (X * c) p (Y * c) q) (hc : 0 < c) : SameV X p Y q := by
  unfold SameV at h ⊢
  rw [valN_mul, valN_mul, Nat.mul_right_comm, Nat.mul_right_comm _ c] at h
  exact Nat.eq_of_mul_eq_mul_right hc h
/-- A step to the right. -/
theorem stepR {X X1 X0 S1 S2 n : Nat} {p1 p E : Int} (h : SameV (X * 2 ^ S1) p (X0 * 2 ^ S2) E) (h1 : SameV (X1 * 2 ^ n) p1 X p) : SameV (X1 * 2 ^ (S1 + n)) p1 (X0 * 2 ^ S2) E := by
  have := h1.mul (2 ^ S1)
  rw [Nat.mul_assoc, ← Nat.pow_add, Nat.add_comm n] at this
  exact this.trans h
/-- A step to the left. -/
theorem stepL {X X1 X0 S1 S2 n : Nat} {p1 p E : Int} (h : SameV (X * 2 ^ S1) p (X0 * 2 ^ S2) E) (h1 : SameV X1 p1 (X * 2 ^ n) p) : SameV (X1 * 2 ^ S1) p1 (X0 * 2 ^ (S2 + n)) E := by
  have g1 := h1.mul (2 ^ S1)
  rw [Nat.mul_right_comm X] at g1
  have g2 := h.mul (2 ^ n)
  rw [Nat.mul_assoc X0, ← Nat.pow_add] at g2
  exact g1.trans g2
/-- The point moves no further than .. -/
theorem dp_step {X X0 nd n0 : Nat} {dp E : Int} {k : Int} (h : SameV X (dp - nd) X0 (E - n0)) (hX : 10 ^ (nd - 1) ≤ X) (h1 : 1 ≤ nd) {t : Nat} (hX0 : X0 < 10 ^ t) (ht : (t : Int) = n0 + k) : dp ≤ E + k := by
  have h' : SameV (X * 2 ^ 0) (dp - nd) (X0 * 2 ^ 0) (E - n0) := by rw [Nat.pow_zero, Nat.mul_one, Nat.mul_one]; exact h
  obtain ⟨a, ha⟩ : ∃ a : Nat, (a : Int) = dp - 1 + max (1 - dp) (-(E - n0) - t) := ⟨(dp - 1 + max (1 - dp) (-(E - n0) - t)).toNat, by omega⟩
  obtain ⟨b, hb⟩ : ∃ b : Nat, (b : Int) = E - n0 + t + max (1 - dp) (-(E - n0) - t) := ⟨(E - n0 + t + max (1 - dp) (-(E - n0) - t)).toNat, by omega⟩
  have := hav h' hX h1 hX0 ha hb
  rw [Nat.pow_zero, Nat.one_mul, Nat.one_mul] at this
  have := (Nat.pow_lt_pow_iff_right (by decide)).1 this
  omega
/-- The program's table of powers. -/
def ptab (i : Nat) : Nat := if i < 9 then ([1, 3, 6, 9, 13, 16, 19, 23, 26] : List Nat).getD i 0 else 27
theorem ptab_pos (i : Nat) : 1 ≤ ptab i ∧ ptab i ≤ 27 := by
  rcases Nat.lt_or_ge i 9 with h | h
  · have : ∀ i, i < 9 → 1 ≤ ptab i ∧ ptab i ≤ 27 := by decide
    exact this i h
  · unfold ptab
    rw [if_neg (by omega)]
    omega
theorem ptab_le {i : Nat} (hi : 1 ≤ i) : 2 ^ ptab i ≤ 10 ^ i := by
  rcases Nat.lt_or_ge i 9 with h | h
  · have : ∀ i, i < 9 → 1 ≤ i → 2 ^ ptab i ≤ 10 ^ i := by decide
    exact this i h hi
  · unfold ptab
    rw [if_neg (by omega)]
    exact Nat.le_trans (by decide : 2 ^ 27 ≤ 10 ^ 9) (Nat.pow_le_pow_right (by decide) h)
theorem ptab_fit {i : Nat} (hi : 1 ≤ i) (h : i ≤ 310) : 7 * (310 - i) + 3 * ptab i + 9 ≤ 2205 := by
  rcases Nat.lt_or_ge i 9 with h | h
  · have : ∀ i, i < 9 → 1 ≤ i → 7 * (310 - i) + 3 * ptab i + 9 ≤ 2205 := by decide
    exact this i h hi
  · unfold ptab
    rw [if_neg (by omega)]
    omega
theorem chD_27 : ∀ k, k < 28 → chD k ≤ 9 := by decide
theorem chD_53 : chD 53 = 16 := by decide
/-- What the rung's place says. -/
theorem rung_cross {Y X0 e : Nat} {p e0 : Int} (h : SameV (Y * 2 ^ e) p (X0 * 2 ^ K74) e0) : Y * 10 ^ p.toNat * (valD e0 * 2 ^ e) = valN X0 e0 * 10 ^ (-p).toNat := by
  have hK : 0 < 2 ^ K74 := Nat.two_pow_pos K74
  unfold SameV at h
  rw [valN_mul, valN_mul, valN_pow Y p, valD_pow p] at h
  generalize 2 ^ K74 = K at h hK
  refine Nat.eq_of_mul_eq_mul_right hK ?_
  have e1 : Y * 10 ^ p.toNat * (valD e0 * 2 ^ e) * K = Y * 10 ^ p.toNat * K * 2 ^ e * valD e0 := by
    rw [Nat.mul_right_comm _ _ K, Nat.mul_assoc _ (2 ^ e), Nat.mul_comm (2 ^ e)]
  rw [e1, h, Nat.mul_right_comm]
theorem rd_le {n d k : Nat} (hd : 0 < d) (h : n ≤ k * d) : rd n d ≤ k := by
  have h1 := (rd_spec n d hd).1
  rcases Nat.lt_or_ge k (rd n d) with hh | hh
  · exfalso
    obtain ⟨r, hr⟩ : ∃ r, rd n d = k + 1 + r := ⟨rd n d - (k + 1), by omega⟩
    rw [hr] at h1
    have e1 : (2 * (k + 1 + r) - 1) * d = 2 * (k * d) + d + 2 * (r * d) := by
      rw [show 2 * (k + 1 + r) - 1 = 2 * k + 1 + 2 * r by omega, Nat.add_mul, Nat.add_mul, Nat.one_mul, Nat.mul_assoc, Nat.mul_assoc]
    rw [e1] at h1
    omega
  · exact hh
theorem le_rd {n d k : Nat} (hd : 0 < d) (h : k * d ≤ n) : k ≤ rd n d := by
  have h1 : k ≤ n / d := (Nat.le_div_iff_mul_le hd).2 h
  unfold rd
  omega
/-- The digits behind the last shift: below 2^53. -/
theorem top53 {Y X nd : Nat} {p dp : Int} (h : SameV Y p (X * 2 ^ 53) (dp - nd)) (hX : X < 10 ^ nd) (hdp : dp ≤ 0) : Y * 10 ^ p.toNat ≤ 2 * B * 10 ^ (-p).toNat := by
  obtain ⟨c, hc⟩ : ∃ c : Nat, (c : Int) = max ((nd : Int) - dp) (-p) := ⟨(max ((nd : Int) - dp) (-p)).toNat, by omega⟩
  obtain ⟨i, hi⟩ : ∃ i : Nat, (i : Int) = p + c := ⟨(p + c).toNat, by omega⟩
  obtain ⟨j, hj⟩ : ∃ j : Nat, (j : Int) = dp - nd + c := ⟨(dp - nd + c).toNat, by omega⟩
  have e := h.nat hi hj
  refine Nat.le_of_mul_le_mul_right ?_ (Nat.pow_pos (n := c) (show 0 < 10 by decide))
  have e1 : 10 ^ p.toNat * 10 ^ c = 10 ^ i * 10 ^ (-p).toNat := by rw [← Nat.pow_add, ← Nat.pow_add]; congr 1; omega
  rw [Nat.mul_assoc, e1, ← Nat.mul_assoc, e, Nat.mul_right_comm _ _ (10 ^ c)]
  refine Nat.mul_le_mul_right _ ?_
  have e2 : 10 ^ nd * 10 ^ j ≤ 10 ^ c := by rw [← Nat.pow_add]; exact Nat.pow_le_pow_right (by decide) (by omega)
  have e3 : (2 : Nat) ^ 53 = 2 * B := by decide
  rw [Nat.mul_right_comm, e3, Nat.mul_comm]
  exact Nat.mul_le_mul_left _ (Nat.le_trans (Nat.mul_le_mul_right _ (Nat.le_of_lt hX)) e2)
/-- .. and not below 2^52 where the first digit is 5 or more. -/
theorem half53 {Y X nd : Nat} {p : Int} (h : SameV Y p (X * 2 ^ 53) (0 - nd)) (hX : 10 ^ nd ≤ 2 * X) : B * 10 ^ (-p).toNat ≤ Y * 10 ^ p.toNat := by
  obtain ⟨c, hc⟩ : ∃ c : Nat, (c : Int) = max (nd : Int) (-p) := ⟨(max (nd : Int) (-p)).toNat, by omega⟩
  obtain ⟨i, hi⟩ : ∃ i : Nat, (i : Int) = p + c := ⟨(p + c).toNat, by omega⟩
  obtain ⟨j, hj⟩ : ∃ j : Nat, (j : Int) = 0 - nd + c := ⟨(0 - (nd : Int) + c).toNat, by omega⟩
  have e := h.nat hi hj
  refine Nat.le_of_mul_le_mul_right ?_ (Nat.pow_pos (n := c) (show 0 < 10 by decide))
  have e1 : 10 ^ p.toNat * 10 ^ c = 10 ^ i * 10 ^ (-p).toNat := by rw [← Nat.pow_add, ← Nat.pow_add]; congr 1; omega
  rw [Nat.mul_assoc Y, e1, ← Nat.mul_assoc, e, Nat.mul_right_comm B]
  refine Nat.mul_le_mul_right _ ?_
  have e2 : 10 ^ nd * 10 ^ j = 10 ^ c := by rw [← Nat.pow_add]; congr 1; omega
  have e3 : (2 : Nat) ^ 53 = 2 * B := by decide
  have a1 : X * (2 * B) * 10 ^ j = B * (2 * X * 10 ^ j) := by
    generalize 10 ^ j = J
    generalize B = b'
    simp only [Nat.mul_assoc, Nat.mul_comm, Nat.mul_left_comm]
  rw [← e2, e3, a1]
  exact Nat.mul_le_mul_left _ (Nat.mul_le_mul_right _ hX)
theorem half_dn {f : Nat → Nat} {nd : Nat} (hd : DigF f nd) (h1 : 1 ≤ nd) (h0 : 53 ≤ f 0) : 10 ^ nd ≤ 2 * dn f nd := by
  have h := dn_tail hd 1 h1
  have e : dn f 1 = f 0 - 48 := by show 0 * 10 + (f 0 - 48) = _; omega
  rw [e] at h
  have e2 : 10 ^ nd = 10 * 10 ^ (nd - 1) := by rw [Nat.mul_comm, ← Nat.pow_succ]; congr 1; omega
  have e3 : 5 * 10 ^ (nd - 1) ≤ (f 0 - 48) * 10 ^ (nd - 1) := Nat.mul_le_mul_right _ (by omega)
  omega
theorem half_dn' {f : Nat → Nat} {nd : Nat} (hd : DigF f nd) (h1 : 1 ≤ nd) (h0 : f 0 < 53) : dn f nd * 2 ^ 1 < 10 ^ nd := by
  have h := dn_tail hd 1 h1
  have e : dn f 1 = f 0 - 48 := by show 0 * 10 + (f 0 - 48) = _; omega
  rw [e] at h
  have e2 : 10 ^ nd = 10 * 10 ^ (nd - 1) := by rw [Nat.mul_comm, ← Nat.pow_succ]; congr 1; omega
  have e3 : (f 0 - 48) * 10 ^ (nd - 1) ≤ 4 * 10 ^ (nd - 1) := Nat.mul_le_mul_right _ (by omega)
  have e4 : dn f nd % 10 ^ (nd - 1) < 10 ^ (nd - 1) := Nat.mod_lt _ (Nat.pow_pos (by decide))
  omega
theorem pow_split {s a k r : Nat} (h : s = a + 1 + r) : 2 ^ (s + k) = 2 * (2 ^ (a + k) * 2 ^ r) := by
  rw [← Nat.pow_add, Nat.mul_comm, ← Nat.pow_succ]
  congr 1
  omega
/-- From half on and 1025 doublings: infinite. -/
theorem over_inf {X X0 nd S1 S2 u : Nat} {E : Int} (h : SameV (X * 2 ^ S1) (0 - nd) (X0 * 2 ^ S2) E) (hX : 10 ^ nd ≤ 2 * X) (hs : S2 + 1025 ≤ S1) (hu : Near (valN X0 E) (valD E) u) : infR ≤ u := by
  obtain ⟨s, rfl⟩ : ∃ s, S1 = S2 + s := ⟨S1 - S2, by omega⟩
  have h2 : SameV (X * 2 ^ s) (0 - nd) X0 E := by
    refine SameV.unmul (c := 2 ^ S2) ?_ (Nat.two_pow_pos _)
    rw [Nat.mul_assoc, ← Nat.pow_add, Nat.add_comm s]
    exact h
  have h3 := h2.mul (2 ^ K74)
  rw [Nat.mul_assoc, ← Nat.pow_add] at h3
  have h4 := rung_cross h3
  rw [show ((0 : Int) - nd).toNat = 0 by omega, show (-((0 : Int) - nd)).toNat = nd by omega, Nat.pow_zero, Nat.mul_one] at h4
  refine inf_of (valD_pos _) ?_ hu
  have hD := valD_pos E
  have hV : V infR = 2 ^ (1024 + K74) := by decide +kernel
  have hV2 : V (infR - 1) < V infR := V_lt (by decide)
  have h5 : 2 ^ (1024 + K74) * valD E ≤ valN X0 E := by
    refine Nat.le_of_mul_le_mul_right ?_ (Nat.pow_pos (n := nd) (show 0 < 10 by decide))
    rw [← h4]
    obtain ⟨r, hr⟩ : ∃ r, s = 1024 + 1 + r := ⟨s - 1025, by omega⟩
    rw [pow_split (k := K74) hr]
    generalize 2 ^ (1024 + K74) = K
    have e2 : X * (valD E * (2 * (K * 2 ^ r))) = K * valD E * (2 * X) * 2 ^ r := by
      simp only [Nat.mul_assoc, Nat.mul_comm, Nat.mul_left_comm]
    rw [e2]
    exact Nat.le_trans (Nat.mul_le_mul_left _ hX) (Nat.le_mul_of_pos_right _ (Nat.two_pow_pos r))
  rw [← hV] at h5
  have h6 : (V (infR - 1) + V infR) * valD E < 2 * (V infR * valD E) := by
    rw [Nat.add_mul, Nat.two_mul]
    exact Nat.add_lt_add_right (Nat.mul_lt_mul_of_pos_right hV2 hD) _
  exact Nat.lt_of_lt_of_le h6 (Nat.mul_le_mul_left 2 h5)
def K310 : Nat := 310
theorem K310_eq : K310 = 310 := rfl
theorem big_310 : (V (infR - 1) + V infR) * 1 < 2 * (10 ^ K310 * 2 ^ K74) := by decide +kernel
/-- The point past 310: infinite. -/
theorem dp_up {X nd u : Nat} {dp : Int} (hX : 10 ^ (nd - 1) ≤ X) (h1 : 1 ≤ nd) (hq : 310 < dp) (hu : Near (valN X (dp - nd)) (valD (dp - nd)) u) : infR ≤ u := by
  refine inf_of (valD_pos _) ?_ hu
  have hk := K310_eq
  obtain ⟨i, hi⟩ : ∃ i, nd - 1 + (dp - nd).toNat = K310 + ((-(dp - nd)).toNat + i) := ⟨nd - 1 + (dp - nd).toNat - (K310 + (-(dp - nd)).toNat), by omega⟩
  rw [valN_pow, valD_pow]
  have h2 : 10 ^ K310 * 10 ^ (-(dp - nd)).toNat ≤ X * 10 ^ (dp - nd).toNat := by
    refine Nat.le_trans ?_ (Nat.mul_le_mul_right _ hX)
    rw [← Nat.pow_add, ← Nat.pow_add]
    exact Nat.pow_le_pow_right (by decide) (by omega)
  clear hk hi
  have h3 := big_310
  rw [Nat.mul_one] at h3
  have hP := Nat.pow_pos (n := (-(dp - nd)).toNat) (show 0 < 10 by decide)
  have h4 := Nat.mul_lt_mul_of_pos_right h3 hP
  refine Nat.lt_of_lt_of_le h4 ?_
  rw [Nat.mul_assoc 2, Nat.mul_right_comm]
  exact Nat.mul_le_mul_left 2 (Nat.mul_le_mul_right _ h2)
/-- The rung and its word. -/
theorem fin53 {Y X X0 nd S1 S2 e : Nat} {p dp E : Int} (h : SameV (X * 2 ^ S1) (dp - nd) (X0 * 2 ^ S2) E) (h53 : SameV Y p (X * 2 ^ 53) (dp - nd)) (hX : X < 10 ^ nd) (hdp : dp ≤ 0) (he : S2 + e = S1 + 1021) (hh : e = 0 ∨ (dp = 0 ∧ 10 ^ nd ≤ 2 * X)) :
    ∃ m, rd (Y * 10 ^ p.toNat) (10 ^ (-p).toNat) = m ∧ m ≤ 2 * B ∧ (e = 0 ∨ B ≤ m) ∧ Near (valN X0 E) (valD E) (e * B + m) := by
  have hP := Nat.pow_pos (n := (-p).toNat) (show 0 < 10 by decide)
  have k1 := top53 h53 hX hdp
  have k2 : SameV (Y * 2 ^ e) p (X0 * 2 ^ K74) E := by
    have g := stepL h h53
    refine SameV.unmul (c := 2 ^ S2) ?_ (Nat.two_pow_pos _)
    obtain ⟨Z, hZ⟩ : ∃ Z : Nat, Z = 1021 := ⟨_, rfl⟩
    have g2 := g.mul (2 ^ Z)
    rw [Nat.mul_assoc, ← Nat.pow_add, Nat.mul_assoc X0, ← Nat.pow_add] at g2
    rw [Nat.mul_assoc, ← Nat.pow_add, Nat.mul_assoc X0, ← Nat.pow_add]
    have e1 : e + S2 = S1 + Z := by omega
    have e2 : K74 + S2 = S2 + 53 + Z := by have := K74_eq; omega
    rw [e1, e2]
    exact g2
  have k3 : e = 0 ∨ B * 10 ^ (-p).toNat ≤ Y * 10 ^ p.toNat := by
    rcases hh with hh | ⟨rfl, hh⟩
    · exact .inl hh
    · exact .inr (half53 h53 hh)
  refine ⟨_, rfl, rd_le hP k1, ?_, fb_near k2 rfl ?_ (rd_le hP k1)⟩
  · rcases k3 with k3 | k3
    · exact .inl k3
    · exact .inr (le_rd hP k3)
  · rcases k3 with k3 | k3
    · exact .inl k3
    · refine .inr ⟨le_rd hP k3, fun _ => ?_⟩
      have k4 := rung_cross k2
      have k5 : B * (valD E * 2 ^ e) ≤ valN X0 E := by
        refine Nat.le_of_mul_le_mul_right ?_ hP
        rw [← k4, Nat.mul_right_comm]
        exact Nat.mul_le_mul_right _ k3
      rw [Nat.mul_assoc 2]
      exact Nat.mul_le_mul_left 2 k5
end Go.Proofs.YtlhhpehfgkanoaaGreatDoor.fl
/- The tables of the slow road, from what the rows list. -/
namespace Go.Proofs.YtlhhpehfgkanoaaGreatDoor.fl
open Go.ChangeShapes Go.WideShapes Go.ChangeAt Go.RowKit Go.Lib
set_option linter.unusedVariables false
set_option linter.unusedSimpArgs false
theorem info3_of {W : World} (h : VarReads Tryz.prog W "internal/strconv.float64info" Rows.laid_internal_strconv_float64info) :
    W.cell? ⟨11, 0, none⟩ = some (.int .u64 52) ∧ W.cell? ⟨11, 1, none⟩ = some (.int .u64 11) ∧ W.cell? ⟨11, 2, none⟩ = some (.int .i64 (-1023)) := by
  obtain ⟨cs, fuel, p, hv, hd⟩ := reads_open h (g := 11) (t := 185) (by kernel_rfl) (by kernel_rfl)
  have h1 := fld Tryz.underlying185 hd 0 _ rfl (k := .u64) (by kernel_rfl) (by kernel_rfl) (z := 52) rfl
  have h2 := fld Tryz.underlying185 hd 1 _ rfl (k := .u64) (by kernel_rfl) (by kernel_rfl) (z := 11) rfl
  have h3 := fld Tryz.underlying185 hd 2 _ rfl (k := .i64) (by kernel_rfl) (by kernel_rfl) (z := -1023) rfl
  refine ⟨?_, ?_, ?_⟩
  · rw [World.var?_cell (by kernel_rfl) hv 0, ← Array.getElem?_toList]; exact h1
  · rw [World.var?_cell (by kernel_rfl) hv 1, ← Array.getElem?_toList]; exact h2
  · rw [World.var?_cell (by kernel_rfl) hv 2, ← Array.getElem?_toList]; exact h3
section
variable {P : Program} {w : World} {sp : Nat → Bool} {held : Bool}
/-- A field that is a string. -/
theorem fldS {fuel : Nat} {t : TypeId} {cs : List Value} {ds : List (DataW Unit)} {p : List MemPlace} {fs : Array Field} (ht : P.underlying t = some (.struct fs)) (h : DataW.trod (fun _ => ()) P w 0 sp held fuel t cs = some (.agg ds, p))
    (i : Nat) (f : Field) (hf : fs[i]? = some f) (hk : P.underlying f.type = some .string) (hc : P.cellsOf f.type = 1) {z : List UInt8} (hz : ds[i]? = some (.lit (.string z))) : cs[f.offset]? = some (.string ⟨z.toArray⟩) := by
  obtain ⟨xs, n, rfl, hx, hl, hxl, hfs⟩ := DataW.trod_struct ht h
  have h0 := hfs i f hf
  have e := congrArg Prod.fst hx
  simp only [DataW.agg.injEq] at e
  subst e
  rw [List.getElem?_map] at hz
  cases hb : xs[i]? with
  | none => rw [hb] at hz; cases hz
  | some b =>
    rw [hb] at hz h0
    simp only [Option.map_some, Option.some.injEq] at hz
    obtain ⟨m, hm, rfl, _⟩ := DataW.trod_string hk h0
    simp only [DataW.lit.injEq, Lit.string.injEq] at hz
    subst hz
    rw [hc] at hm
    have := congrArg (·[0]?) hm
    simpa [List.getElem?_take, List.getElem?_drop] using this
end
def pw2 : List Nat := [1, 3, 6, 9, 13, 16, 19, 23, 26]
theorem pow_of {W : World} (h : VarReads Tryz.prog W "internal/strconv.powtab" Rows.laid_internal_strconv_powtab) :
    ∃ g o cap, W.cell? ⟨14, 0, none⟩ = some (.slice (some ⟨g, o, none⟩) 9 cap) ∧ ∀ i, i < 9 → W.cell? ⟨g, o + i, none⟩ = some (.int .i64 (pw2.getD i 0 : Nat)) := by
  obtain ⟨cs, fuel, p, hv, hd⟩ := reads_open h (g := 14) (t := 219) (by kernel_rfl) (by kernel_rfl)
  have hdd : (Rows.laid_internal_strconv_powtab : DataW Unit) = .slice (pw2.map fun b => .lit (.int .i64 (b : Nat))) [] := by rfl
  rw [hdd] at hd
  have hc : Tryz.prog.cellsOf 3 = 1 := by kernel_rfl
  rcases DataW.trod_slice Tryz.underlying219 hd with ⟨_, hx⟩ | ⟨a, len, cap, el, rs, m, rfl, hcs, hx, _, hlc, _, hel, helem, hsp, _⟩
  · cases hx
  have e0 := congrArg Prod.fst hx
  simp only [DataW.slice.injEq] at e0
  obtain ⟨eE, eR⟩ := e0
  have hlen : len = 9 := by
    have := congrArg List.length eE
    simp only [List.length_map] at this
    rw [hel] at this
    exact this.symm
  have hcell : ∀ i, i < 9 → W.cell? (a.add i) = some (.int .i64 (pw2.getD i 0 : Nat)) := by
    intro i hi
    have h1 := helem i (by omega)
    rw [hc] at h1
    obtain ⟨b, hb⟩ : ∃ b, el[i]? = some b := ⟨el[i]'(by omega), List.getElem?_eq_getElem (by omega)⟩
    rw [hb] at h1
    obtain ⟨ce, hce, hte⟩ := Option.bind_eq_some_iff.1 h1
    obtain ⟨z, hz, hbz, _⟩ := DataW.trod_int Tryz.underlying3 hte
    have hb1 : b.1 = .lit (.int .i64 (pw2.getD i 0 : Nat)) := by
      have := congrArg (·[i]?) eE
      have hl2 : pw2.length = 9 := rfl
      simp only [List.getElem?_map, hb, Option.map_some] at this
      rw [List.getElem?_eq_getElem (by omega)] at this
      simp only [Option.map_some, Option.some.injEq] at this
      rw [List.getD_eq_getElem?_getD, List.getElem?_eq_getElem (by omega)]
      exact this.symm
    rw [hbz] at hb1
    simp only [DataW.lit.injEq, Lit.int.injEq, true_and] at hb1
    obtain ⟨_, _, hcc⟩ := World.cells?_some hce
    have := hcc 0 (by omega)
    rw [hz] at this
    simp only [Nat.mul_one] at this
    have e1 : (a.add i).add 0 = a.add i := by simp [Addr.add]
    rw [e1] at this
    rw [this, ← hb1]
    rfl
  obtain ⟨R, o, sR⟩ := a
  obtain rfl : sR = none := by
    have h00 := hcell 0 (by decide)
    have : (Addr.add ⟨R, o, sR⟩ 0) = ⟨R, o, sR⟩ := by simp [Addr.add]
    rw [this] at h00
    exact Go.Proofs.cell_spot h00
  refine ⟨R, o, cap, ?_, fun j hj => ?_⟩
  · rw [World.var?_cell (by kernel_rfl) hv 0, ← Array.getElem?_toList, hcs, hlen]
    rfl
  · have := hcell j (by omega)
    rwa [Addr.add_lit] at this
theorem cheats_of {W : World} (h : VarReads Tryz.prog W "internal/strconv.leftcheats" Rows.laid_internal_strconv_leftcheats) :
    ∃ g o cap, W.cell? ⟨19, 0, none⟩ = some (.slice (some ⟨g, o, none⟩) 61 cap) ∧ ∀ i, i < 61 → W.cell? ⟨g, o + i * 2, none⟩ = some (.int .i64 (chD i)) ∧ W.cell? ⟨g, o + i * 2 + 1, none⟩ = some (.string (chS i)) := by
  obtain ⟨cs, fuel, p, hv, hd⟩ := reads_open h (g := 19) (t := 230) (by kernel_rfl) (by kernel_rfl)
  have hdd : (Rows.laid_internal_strconv_leftcheats : DataW Unit) = .slice (Go.Pinned.cheatRows.map fun x => .agg [.lit (.int .i64 x.1), .lit (.string x.2)]) [] := by rfl
  rw [hdd] at hd
  have hc : Tryz.prog.cellsOf 229 = 2 := by kernel_rfl
  rcases DataW.trod_slice Tryz.underlying230 hd with ⟨_, hx⟩ | ⟨a, len, cap, el, rs, m, rfl, hcs, hx, _, hlc, _, hel, helem, hsp, _⟩
  · cases hx
  have e0 := congrArg Prod.fst hx
  simp only [DataW.slice.injEq] at e0
  obtain ⟨eE, eR⟩ := e0
  have hlen : len = 61 := by
    have := congrArg List.length eE
    simp only [List.length_map] at this
    rw [hel] at this
    exact this.symm
  have hrow : ∀ i, i < 61 → ∃ ce, W.cells? 0 (a.add (i * 2)) 2 = some ce ∧ ce[0]? = some (Value.int .i64 (chD i)) ∧ ce[1]? = some (Value.string (chS i)) := by
    intro i hi
    have h1 := helem i (by omega)
    rw [hc] at h1
    obtain ⟨⟨bd, bp⟩, hb⟩ : ∃ b, el[i]? = some b := ⟨el[i]'(by omega), List.getElem?_eq_getElem (by omega)⟩
    rw [hb] at h1
    obtain ⟨ce, hce, hte⟩ := Option.bind_eq_some_iff.1 h1
    have hr : Go.Pinned.cheatRows[i]? = some (chD i, chL i) := by
      unfold chD chL
      have hl : Go.Pinned.cheatRows.length = 61 := by kernel_rfl
      rw [List.getD_eq_getElem?_getD, List.getElem?_eq_getElem (by omega)]
      rfl
    have e2 := congrArg (·[i]?) eE
    simp only [List.getElem?_map, hr, hb, Option.map_some, Option.some.injEq] at e2
    subst e2
    refine ⟨ce, hce, ?_, ?_⟩
    · exact fld Tryz.underlying229 hte 0 _ rfl (k := .i64) (by kernel_rfl) (by kernel_rfl) (z := (chD i : Nat)) rfl
    · exact fldS Tryz.underlying229 hte 1 _ rfl (by kernel_rfl) (by kernel_rfl) (z := chL i) rfl
  have hcell : ∀ i, i < 61 → W.cell? ((a.add (i * 2)).add 0) = some (.int .i64 (chD i)) ∧ W.cell? ((a.add (i * 2)).add 1) = some (.string (chS i)) := by
    intro i hi
    obtain ⟨ce, h1, h2, h3⟩ := hrow i hi
    obtain ⟨_, _, hcc⟩ := World.cells?_some h1
    exact ⟨(hcc 0 (by omega)).trans h2, (hcc 1 (by omega)).trans h3⟩
  obtain ⟨R, o, sR⟩ := a
  obtain rfl : sR = none := by
    have h00 := (hcell 0 (by decide)).1
    have : (Addr.add (Addr.add ⟨R, o, sR⟩ (0 * 2)) 0) = ⟨R, o, sR⟩ := by simp [Addr.add]
    rw [this] at h00
    exact Go.Proofs.cell_spot h00
  refine ⟨R, o, cap, ?_, fun j hj => ?_⟩
  · rw [World.var?_cell (by kernel_rfl) hv 0, ← Array.getElem?_toList, hcs, hlen]
    rfl
  · have := hcell j hj
    rw [Addr.add_lit, Addr.add_lit, Addr.add_lit] at this
    exact this
theorem fx_of {W : World} {l : List (String × DataW Unit)} (h : laidMet Tryz.prog l W)
    (h1 : ("internal/strconv.float64info", Rows.laid_internal_strconv_float64info) ∈ l) (h2 : ("internal/strconv.powtab", Rows.laid_internal_strconv_powtab) ∈ l) (h3 : ("internal/strconv.leftcheats", Rows.laid_internal_strconv_leftcheats) ∈ l) : FX W := by
  obtain ⟨a, b, c⟩ := info3_of (Lib.laidMet.reads h h1)
  exact ⟨cheats_of (Lib.laidMet.reads h h3), pow_of (Lib.laidMet.reads h h2), b, c, a⟩
end Go.Proofs.YtlhhpehfgkanoaaGreatDoor.fl
