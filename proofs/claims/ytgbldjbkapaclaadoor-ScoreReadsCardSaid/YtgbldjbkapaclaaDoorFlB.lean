/- The contracts of internal/strconv.special and of commonPrefixLenIgnoreCase at a word that opens a number. -/
import Derived.Test.YtgbldjbkapaclaaDoorRows
import Derived.WalkKit
import Derived.WalkLawsBesides
import Derived.WalkSpells
import Derived.Deep.QuietTactic
import Derived.BigQuiet
import Derived.Handy
import Derived.Lib.Hide
import Derived.Test.YtgbldjbkapaclaaDoorFlA
import Derived.Test.YtgbldjbkapaclaaDoorShelf
import Derived.Laws.BitsAllLaws
import Derived.Deep.DeepCutAuto
import Derived.Deep.CutBlock
import Derived.Lib.Strings
/- What the walks of these claims import. -/
namespace Go.Proofs.YtgbldjbkapaclaaDoor.fl
open Go.RowKit Go.ChangeShapes
theorem fhid {p : Prop} (h : p) : Hid p := h
end Go.Proofs.YtgbldjbkapaclaaDoor.fl
/- Contracts of the small functions of internal/strconv's unrounded scaling. -/
namespace Go.Proofs.YtgbldjbkapaclaaDoor.fl
open Go.ChangeShapes Go.WideShapes Go.ChangeAt Go.RowKit
set_option linter.unusedVariables false

theorem ret_u64 {a b : Int} (h : a = b) : Ending.returned (.int .u64 a) = .returned (.int .u64 b) := by rw [h]
theorem log2Pow10C (x : Int) (w : World) (h1 : -1000 ≤ x) (h2 : x ≤ 1000) :
    Calls Tryd.prog 69 #[.int .i64 x] w fun e w' => e = .returned (.int .i64 (lpI x)) ∧ w = w' := by
  go_enter Tryd.func69, Tryd.ntmps69
  go_wp2
  go_ret
  exact ⟨rfl, rfl⟩
theorem unminC (x : Nat) (w : World) (h1 : 1 ≤ x) (h2 : x < 4611686018427387904) :
    Calls Tryd.prog 73 #[.int .u64 x] w fun e w' => e = .returned (.int .u64 (4 * x - 2 : Nat)) ∧ w = w' := by
  go_enter Tryd.func73, Tryd.ntmps73
  go_wp2
  go_ret
  exact ⟨ret_u64 (by omega), rfl⟩
theorem roundC (x : Nat) (w : World) (h2 : x < 9223372036854775808) :
    Calls Tryd.prog 75 #[.int .u64 x] w fun e w' => e = .returned (.int .u64 ((x + 1 + x / 4 % 2) / 4 : Nat)) ∧ w = w' := by
  have hb := and_one_u64 ((x : Int) / 4) (by omega) (by omega)
  go_enter Tryd.func75, Tryd.ntmps75
  go_wp2
  go_ret
  refine ⟨ret_u64 ?_, rfl⟩
  first | omega | (rw [IntWalk.u64_in _ (by omega)]; omega)
theorem bool2u (b : Bool) (w : World) :
    Calls Tryd.prog 58 #[.bool b] w fun e w' => e = .returned (.int .u64 (if b then 1 else 0)) ∧ w = w' := by
  cases b <;>
  · go_enter Tryd.func58, Tryd.ntmps58
    go_wp2
    go_ret
    exact ⟨rfl, rfl⟩
theorem bool2i (b : Bool) (w : World) :
    Calls Tryd.prog 72 #[.bool b] w fun e w' => e = .returned (.int .i64 (if b then 1 else 0)) ∧ w = w' := by
  cases b <;>
  · go_enter Tryd.func72, Tryd.ntmps72
    go_wp2
    go_ret
    exact ⟨rfl, rfl⟩
/-- The library's powers of ten lie as their initialiser lays them. -/
def P10 (w : World) : Prop := ∀ i, i < 696 → w.cell? ⟨14, i * 2, none⟩ = some (.int .u64 (tHi i)) ∧ w.cell? ⟨14, i * 2 + 1, none⟩ = some (.int .u64 (tLo i))
theorem prescaleC (p e s : Int) (w : World) (h1 : -345 ≤ p) (h2 : p ≤ 310) (he1 : -10000 ≤ e) (he2 : e ≤ 10000) (hp : P10 w) :
    Calls Tryd.prog 70 #[.pointer (some ⟨w.heap.size, 0, none⟩), .int .i64 e, .int .i64 p, .int .i64 (lpI p)] (w.alloc (.cells #[.int .u64 0, .int .u64 0, .int .i64 0] 134)) fun e' w' => e' = .returned (.tuple #[]) ∧ w.alloc (.cells #[.int .u64 (tHi (p + 348).toNat), .int .u64 (tLo (p + 348).toNat), .int .i64 (-(e + lpI p + 3))] 134) = w' := by
  have hl1 : -1200 ≤ lpI p := by unfold lpI; omega
  have hl2 : lpI p ≤ 1100 := by unfold lpI; omega
  obtain ⟨i, hi⟩ : ∃ i : Nat, p = (i : Int) - 348 := ⟨(p + 348).toNat, by omega⟩
  obtain ⟨l, hl⟩ : ∃ l, lpI p = l := ⟨_, rfl⟩
  rw [hl] at hl1 hl2 ⊢
  clear hl
  subst hi
  rw [show ((i : Int) - 348 + 348).toNat = i by omega]
  obtain ⟨c1, c2⟩ := hp i (by omega)
  have c1 : ∀ o, (w.alloc o).cell? ⟨14, i * 2, none⟩ = some (.int .u64 (tHi i)) := fun o => (World.cell?_alloc_lt _ _ _ (World.block_lt_of_cell? _ _ c1)).trans c1
  have c2 : ∀ o, (w.alloc o).cell? ⟨14, i * 2 + 1, none⟩ = some (.int .u64 (tLo i)) := fun o => (World.cell?_alloc_lt _ _ _ (World.block_lt_of_cell? _ _ c2)).trans c2
  clear hp
  go_enter Tryd.func70, Tryd.ntmps70
  go_wp2
  go_end0
  exact ⟨rfl, rfl⟩
theorem i64_and_63 (s : Nat) (hs : s < 64) : bits BinOp.and IntKind.i64 (s : Int) 63 = s := by
  show IntKind.i64.wrap ((BitVec.ofInt 64 (s : Int) &&& BitVec.ofInt 64 63).toNat : Int) = _
  have e : (BitVec.ofInt 64 (63 : Int)).toNat = 63 := by decide
  rw [BitVec.toNat_and, ofInt_u64 s (by omega), e, nat_mask6, Nat.mod_eq_of_lt hs, IntWalk.i64_in _ (by omega)]
theorem uscaleC (x hi lo s : Nat) (b : Nat) (w : World) (hx : x < 18446744073709551616) (hh : hi < 18446744073709551616) (hl : lo < 18446744073709551616) (hs : s < 64) (hpos : 18446744073709551616 ≤ x * hi)
    (c0 : w.cell? ⟨b, 0, none⟩ = some (.int .u64 hi)) (c1 : w.cell? ⟨b, 1, none⟩ = some (.int .u64 lo)) (c2 : w.cell? ⟨b, 2, none⟩ = some (.int .i64 s)) :
    Calls Tryd.prog 71 #[.int .u64 x, .pointer (some ⟨b, 0, none⟩)] w fun e w' => e = .returned (.int .u64 (usc x hi lo s)) ∧ ∃ n, w' = w.drewN n := by
  have hand := i64_and_63 s hs
  obtain ⟨H, hH⟩ : ∃ H, x * hi / 18446744073709551616 = H := ⟨_, rfl⟩
  obtain ⟨M, hM⟩ : ∃ H, x * hi % 18446744073709551616 = H := ⟨_, rfl⟩
  obtain ⟨L, hL⟩ : ∃ H, x * lo / 18446744073709551616 = H := ⟨_, rfl⟩
  obtain ⟨L2, hL2⟩ : ∃ H, x * lo % 18446744073709551616 = H := ⟨_, rfl⟩
  have hM1 : M < 18446744073709551616 := by omega
  have hH1 : H < 18446744073709551616 := by
    have : x * hi < 18446744073709551616 * 18446744073709551616 := Nat.mul_lt_mul'' hx hh
    omega
  have hH0 : 1 ≤ H := by omega
  have hL1 : L < 18446744073709551616 := by
    have : x * lo < 18446744073709551616 * 18446744073709551616 := Nat.mul_lt_mul'' hx hl
    omega
  obtain ⟨D, hD⟩ : ∃ D, (M + 18446744073709551616 - L) % 18446744073709551616 = D := ⟨_, rfl⟩
  have hwr : IntKind.u64.wrap ((M : Int) - L) = D := by rw [IntKind.wrap_u64]; omega
  have hus : usc x hi lo s = if H / 2 ^ s * 2 ^ s ≠ H then H / 2 ^ s ||| 1 else (H - (if M < L then 1 else 0)) / 2 ^ s ||| (if 1 < D then 1 else 0) := by
    unfold usc; simp only [W, hH, hM, hL, hD]
  have cM := Tryd.bits_Mul64 x hi hx hh w
  have cL := Tryd.bits_Mul64 x lo hx hl w
  rw [hH, hM] at cM
  rw [hL, hL2] at cL
  have HU := fhid hus
  have h2 : (2 : Nat) ^ s ≥ 1 := Nat.pow_pos (by decide)
  have hq : H / 2 ^ s ≤ H := Nat.div_le_self _ _
  have hqm : H / 2 ^ s * 2 ^ s ≤ H := Nat.div_mul_le_self _ _
  have ewr : IntKind.u64.wrap ((H : Int) / 2 ^ s * 2 ^ s) = ((H / 2 ^ s * 2 ^ s : Nat) : Int) := by
    rw [show (H : Int) / 2 ^ s * 2 ^ s = ((H / 2 ^ s * 2 ^ s : Nat) : Int) by simp]
    exact IntWalk.u64_in _ (by omega)
  have eor : ∀ q d : Nat, q < 18446744073709551616 → d ≤ 1 → bits BinOp.or IntKind.u64 (q : Int) (d : Int) = ((q ||| d : Nat) : Int) := fun q d hq hd => u64_or_nat q d hq (by omega)
  have eq1 : ∀ d : Nat, d ≤ 1 → bits BinOp.or IntKind.u64 (((H : Int) - 1) / 2 ^ s) (d : Int) = (((H - 1) / 2 ^ s ||| d : Nat) : Int) := fun d hd => by
    rw [← eor _ d (Nat.lt_of_le_of_lt (Nat.div_le_self (H - 1) (2 ^ s)) (by omega)) hd]
    rw [Int.natCast_ediv, Int.natCast_sub hH0]; simp
  have eq0 : ∀ d : Nat, d ≤ 1 → bits BinOp.or IntKind.u64 ((H : Int) / 2 ^ s) (d : Int) = ((H / 2 ^ s ||| d : Nat) : Int) := fun d hd => by
    rw [← eor _ d (Nat.lt_of_le_of_lt (Nat.div_le_self H (2 ^ s)) (by omega)) hd]; simp
  have e11 := eq1 1 (by decide)
  have e10 := eq1 0 (by decide)
  have e01 := eq0 1 (by decide)
  have e00 := eq0 0 (by decide)
  simp only [Int.natCast_one, Int.natCast_zero] at e11 e10 e01 e00
  clear hH hM hL hL2 hD hus eor eq0 eq1 hh hl
  by_cases hc : H / 2 ^ s * 2 ^ s = H
  · have hb : (IntKind.u64.wrap ((H : Int) / 2 ^ s * 2 ^ s) != (H : Int)) = false := by rw [ewr, hc]; simp
    have hu : Hid (usc x hi lo s = (H - if M < L then 1 else 0) / 2 ^ s ||| if 1 < D then 1 else 0) := fhid (by rw [HU.out, if_neg (by simpa using hc)])
    clear ewr hqm HU hc
    by_cases hlt : M < L <;> by_cases hd : 1 < D
    · have h2 : decide ((1 : Int) < D) = true := by simp; omega
      have hf : Hid ((usc x hi lo s : Nat) = (H - 1) / 2 ^ s ||| 1) := fhid (by rw [hu.out, if_pos hlt, if_pos hd])
      clear hd hu e10 e01 e00
      go_enter Tryd.func71, Tryd.ntmps71
      go_wp2_with fail
      refine cM.mono ?_
      clear cM
      rintro e w1 ⟨rfl, rfl⟩
      go_wp2_with fail
      refine cL.mono ?_
      clear cL
      rintro e w1 ⟨rfl, rfl⟩
      go_wp2_with (go_at_call 58; refine (bool2u _ _).mono ?_; rintro e w' ⟨rfl, rfl⟩)
      go_quiet ((go_at_call 58; exact Calls.quiet_of_same ((bool2u _ _).mono fun _ _ h => ⟨h.1, h.2.symm⟩)))
      go_wp2
      go_ret
      exact ⟨ret_u64 (by rw [hf.out]), _, rfl⟩
    · have h2 : decide ((1 : Int) < D) = false := by simp; omega
      have hf : Hid ((usc x hi lo s : Nat) = (H - 1) / 2 ^ s ||| 0) := fhid (by rw [hu.out, if_pos hlt, if_neg hd])
      clear hd hu e11 e01 e00
      go_enter Tryd.func71, Tryd.ntmps71
      go_wp2_with fail
      refine cM.mono ?_
      clear cM
      rintro e w1 ⟨rfl, rfl⟩
      go_wp2_with fail
      refine cL.mono ?_
      clear cL
      rintro e w1 ⟨rfl, rfl⟩
      go_wp2_with (go_at_call 58; refine (bool2u _ _).mono ?_; rintro e w' ⟨rfl, rfl⟩)
      go_quiet ((go_at_call 58; exact Calls.quiet_of_same ((bool2u _ _).mono fun _ _ h => ⟨h.1, h.2.symm⟩)))
      go_wp2
      go_ret
      exact ⟨ret_u64 (by rw [hf.out, Nat.or_zero]; simp), _, rfl⟩
    · have hle : L ≤ M := by omega
      have h2 : decide ((1 : Int) < D) = true := by simp; omega
      have hf : Hid ((usc x hi lo s : Nat) = H / 2 ^ s ||| 1) := fhid (by rw [hu.out, if_neg hlt, if_pos hd]; rfl)
      clear hd hu e11 e10 e00
      go_enter Tryd.func71, Tryd.ntmps71
      go_wp2_with fail
      refine cM.mono ?_
      clear cM
      rintro e w1 ⟨rfl, rfl⟩
      go_wp2_with fail
      refine cL.mono ?_
      clear cL
      rintro e w1 ⟨rfl, rfl⟩
      go_wp2_with (go_at_call 58; refine (bool2u _ _).mono ?_; rintro e w' ⟨rfl, rfl⟩)
      go_quiet ((go_at_call 58; exact Calls.quiet_of_same ((bool2u _ _).mono fun _ _ h => ⟨h.1, h.2.symm⟩)))
      go_wp2
      go_ret
      exact ⟨ret_u64 (by rw [hf.out]), _, rfl⟩
    · have hle : L ≤ M := by omega
      have h2 : decide ((1 : Int) < D) = false := by simp; omega
      have hf : Hid ((usc x hi lo s : Nat) = H / 2 ^ s ||| 0) := fhid (by rw [hu.out, if_neg hlt, if_neg hd]; rfl)
      clear hd hu e11 e10 e01
      go_enter Tryd.func71, Tryd.ntmps71
      go_wp2_with fail
      refine cM.mono ?_
      clear cM
      rintro e w1 ⟨rfl, rfl⟩
      go_wp2_with fail
      refine cL.mono ?_
      clear cL
      rintro e w1 ⟨rfl, rfl⟩
      go_wp2_with (go_at_call 58; refine (bool2u _ _).mono ?_; rintro e w' ⟨rfl, rfl⟩)
      go_quiet ((go_at_call 58; exact Calls.quiet_of_same ((bool2u _ _).mono fun _ _ h => ⟨h.1, h.2.symm⟩)))
      go_wp2
      go_ret
      exact ⟨ret_u64 (by rw [hf.out, Nat.or_zero]; simp), _, rfl⟩
  · have hb : (IntKind.u64.wrap ((H : Int) / 2 ^ s * 2 ^ s) != (H : Int)) = true := by rw [ewr, bne_iff_ne]; exact fun e => hc (Int.natCast_inj.1 e)
    have hf : Hid ((usc x hi lo s : Nat) = H / 2 ^ s ||| 1) := fhid (by rw [HU.out, if_pos (by simpa using hc)])
    clear ewr hqm HU hc e11 e10 e00 cL
    go_enter Tryd.func71, Tryd.ntmps71
    go_wp2_with fail
    refine cM.mono ?_
    clear cM
    rintro e w1 ⟨rfl, rfl⟩
    go_wp2
    go_ret
    exact ⟨ret_u64 (by rw [hf.out]), 0, rfl⟩
end Go.Proofs.YtgbldjbkapaclaaDoor.fl
/- The contract of internal/strconv.pack64 and of parseFloat64: the nearest rung. -/
namespace Go.Proofs.YtgbldjbkapaclaaDoor.fl
open Go.ChangeShapes Go.WideShapes Go.ChangeAt Go.RowKit
set_option linter.unusedVariables false

theorem ffb (a : Int) (w : World) : (callFunc 59 #[.int .u64 a]).run Tryd.prog w = .ok (.value (.float .f64 a.toNat)) w := by kernel_rfl
theorem and_shl (x y n : Nat) : x &&& (y * 2 ^ n) = (x / 2 ^ n &&& y) * 2 ^ n := by
  rw [← Nat.shiftLeft_eq, ← Nat.shiftLeft_eq, ← Nat.shiftRight_eq_div_pow]
  apply Nat.eq_of_testBit_eq
  intro i
  simp only [Nat.testBit_and, Nat.testBit_shiftLeft, Nat.testBit_shiftRight]
  by_cases h : n ≤ i
  · simp [h, Nat.add_sub_of_le h]
  · simp [h]
theorem and_not52 (X : Nat) (hX : X < 18446744073709551616) : X &&& (18446744073709551615 - 4503599627370496) = X / 9007199254740992 * 9007199254740992 + X % 4503599627370496 := by
  have e : (18446744073709551615 - 4503599627370496 : Nat) = (2047 * 2 ^ 53) ||| (2 ^ 52 - 1) := by decide
  rw [e, Nat.and_or_distrib_left, and_shl, Nat.and_two_pow_sub_one_eq_mod]
  rw [show (2047 : Nat) = 2 ^ 11 - 1 by decide, Nat.and_two_pow_sub_one_eq_mod, Nat.mod_eq_of_lt (by omega)]
  rw [nat_join 53 _ _ (by omega) (by omega)]
theorem and_52 (X : Nat) : X &&& 4503599627370496 = X / 4503599627370496 % 2 * 4503599627370496 := nat_bit 52 X
theorem and_63 (X : Nat) : X &&& 9223372036854775808 = X / 9223372036854775808 % 2 * 9223372036854775808 := nat_bit 63 X

theorem zand_52 (X : Nat) (hX : X < 18446744073709551616) : bits BinOp.and IntKind.u64 (X : Int) 4503599627370496 = ((X / 4503599627370496 % 2 * 4503599627370496 : Nat) : Int) := by
  rw [← and_52]; exact u64_and_nat X 4503599627370496 hX (by decide)
theorem zand_63 (X : Nat) (hX : X < 18446744073709551616) : bits BinOp.and IntKind.u64 (X : Int) 9223372036854775808 = ((X / 9223372036854775808 % 2 * 9223372036854775808 : Nat) : Int) := by
  rw [← and_63]; exact u64_and_nat X 9223372036854775808 hX (by decide)
theorem znot_52 (X : Nat) (hX : X < 18446744073709551616) : bits BinOp.andNot IntKind.u64 (X : Int) 4503599627370496 = ((X / 9007199254740992 * 9007199254740992 + X % 4503599627370496 : Nat) : Int) := by
  rw [← and_not52 X hX]; exact u64_andNot_nat X 4503599627370496 hX (by decide)
theorem zor_inf (X : Nat) (hX : X = 0 ∨ X = 9223372036854775808) : bits BinOp.or IntKind.u64 (X : Int) 9218868437227405312 = ((X + infR : Nat) : Int) := by
  have := u64_or_nat X 9218868437227405312 (by omega) (by decide)
  rw [nat_join 63 X 9218868437227405312 (by omega) (by decide)] at this
  exact this
/-- What becomes of a significand and a place: the float, or infinity and the error. -/
def packV (neg : Bool) (m : Nat) (k : Int) : Value :=
  if m < B then .tuple #[.float .f64 (sgw neg + m), .nilIface]
  else if 972 ≤ k then .tuple #[.float .f64 (sgw neg + infR), .iface 77 (.int .i64 1)]
  else .tuple #[.float .f64 (sgw neg + ((1074 + k).toNat * B + m)), .nilIface]
theorem pack64C (neg : Bool) (m : Nat) (k : Int) (w : World) (hm : m < 2 * B) (hk : -1074 ≤ k) (hk2 : k ≤ 100000) :
    Calls Tryd.prog 78 #[.int .u64 ((sgw neg + m : Nat) : Int), .int .i64 k] w fun e w' => e = .returned (packV neg m k) ∧ w = w' := by
  have hfb := ffb
  have hB : B = 4503599627370496 := rfl
  rw [hB] at hm
  have hs : sgw neg = 0 ∨ sgw neg = 9223372036854775808 := by cases neg <;> simp [sgw]
  obtain ⟨X, hX⟩ : ∃ X, sgw neg + m = X := ⟨_, rfl⟩
  have hXlt : X < 18446744073709551616 := by omega
  rw [hX]
  have a52 := zand_52 X hXlt
  by_cases h1 : m < B
  · have e1 : X / 4503599627370496 % 2 = 0 := by omega
    rw [e1, Nat.zero_mul] at a52; replace a52 : _ = (0 : Int) := a52
    have hf : Hid (packV neg m k = .tuple #[.float .f64 X, .nilIface]) := fhid (by unfold packV; rw [if_pos h1, hX])
    clear hm hs h1 e1 hB hX
    go_enter Tryd.func78, Tryd.ntmps78
    go_wp2
    go_ret2
    exact ⟨by rw [hf.out]; rfl, rfl⟩
  · have e1 : X / 4503599627370496 % 2 = 1 := by omega
    rw [e1, Nat.one_mul] at a52; replace a52 : _ = (4503599627370496 : Int) := a52
    by_cases h2 : 972 ≤ k
    · have a63 := zand_63 X hXlt
      have e2 : X / 9223372036854775808 % 2 * 9223372036854775808 = sgw neg := by omega
      rw [e2] at a63
      have oinf := zor_inf (sgw neg) hs
      have hf : Hid (packV neg m k = .tuple #[.float .f64 (sgw neg + infR), .iface 77 (.int .i64 1)]) := fhid (by unfold packV; rw [if_neg h1, if_pos h2])
      generalize sgw neg = S at *
      clear hm hs h1 e1 e2 hB hX
      go_enter Tryd.func78, Tryd.ntmps78
      go_wp2
      go_ret2
      exact ⟨by rw [hf.out]; rfl, rfl⟩
    · have an := znot_52 X hXlt
      have e2 : X / 9007199254740992 * 9007199254740992 + X % 4503599627370496 = X - 4503599627370496 := by omega
      rw [e2] at an
      obtain ⟨K, hK⟩ : ∃ K : Nat, 1075 + k = K := ⟨(1075 + k).toNat, by omega⟩
      have hK2 : 1 ≤ K ∧ K ≤ 2046 := by omega
      have oo := u64_or_nat (X - 4503599627370496) (K * 4503599627370496) (by omega) (by omega)
      have e3 : (X - 4503599627370496) ||| (K * 4503599627370496) = sgw neg + ((K - 1) * 4503599627370496 + m) := by
        have e4 : X - 4503599627370496 = sgw neg ||| (m - 4503599627370496) := by
          rw [nat_join 63 _ _ (by omega) (by omega)]; omega
        rw [e4, Nat.or_assoc, Nat.or_comm (m - _), nat_join 52 (K * _) _ (by omega) (by omega), nat_join 63 _ _ (by omega) (by omega)]
        omega
      rw [e3] at oo
      have hf : Hid (packV neg m k = .tuple #[.float .f64 (sgw neg + ((K - 1) * 4503599627370496 + m)), .nilIface]) := fhid (by
        unfold packV; rw [if_neg h1, if_neg h2, show (1074 + k).toNat = K - 1 by omega]; rfl)
      have hk9 : k < 972 := by omega
      obtain rfl : k = (K : Int) - 1075 := by omega
      have AN : bits BinOp.andNot IntKind.u64 (X : Int) 4503599627370496 = (X : Int) - 4503599627370496 := by rw [an]; omega
      have OO : Hid (bits BinOp.or IntKind.u64 ((X : Int) - 4503599627370496) ((K : Int) * 4503599627370496) = ((sgw neg + ((K - 1) * 4503599627370496 + m) : Nat) : Int)) := by
        have e5 : (X : Int) - 4503599627370496 = ((X - 4503599627370496 : Nat) : Int) := by omega
        have e6 : (K : Int) * 4503599627370496 = ((K * 4503599627370496 : Nat) : Int) := by rw [Int.natCast_mul]; rfl
        rw [e5, e6]
        exact fhid oo
      have hX0 : 4503599627370496 ≤ X := by omega
      clear an oo hm hs h1 h2 e1 e2 e3 hB hX hK
      go_enter Tryd.func78, Tryd.ntmps78
      go_wp2
      go_ret2
      exact ⟨by rw [hf.out, show (1075 : Int) + ((K : Int) - 1075) = K by omega, OO.out]; rfl, rfl⟩

theorem drewN_below {B : Nat} {w W : World} (h : Below B w W) (n : Nat) : Below B w (W.drewN n) := below_drewN h n
/-- What parseFloat64 answers: a rung, or infinity and the error. -/
def pfV (neg : Bool) (u : Nat) : Value :=
  if u < infR then .tuple #[.float .f64 (sgw neg + u), .nilIface] else .tuple #[.float .f64 (sgw neg + infR), .iface 77 (.int .i64 1)]
theorem pf_form (neg : Bool) (u : Nat) : ∃ a b, pfV neg u = .tuple #[a, b] := by unfold pfV; split <;> exact ⟨_, _, rfl⟩
theorem packV_pf {neg : Bool} {d m : Nat} {p e : Int} (h : Parsed d p m e) : packV neg m (-e) = pfV neg ((1074 - e).toNat * B + m) := by
  unfold packV pfV
  have hB : B = 4503599627370496 := rfl
  have hi : infR = 9218868437227405312 := rfl
  have h2 := h.lt
  have h3 := h.le
  by_cases h1 : m < B
  · have := h.sub h1
    subst this
    rw [if_pos h1, if_pos (by rw [hi]; rw [hB] at h1; simp; omega)]
    simp
  · rw [if_neg h1]
    by_cases h4 : 972 ≤ -e
    · have : 2046 * B ≤ (1074 - e).toNat * B := Nat.mul_le_mul_right _ (by omega)
      rw [if_pos h4, if_neg (by rw [hi]; rw [hB] at *; omega)]
    · have : (1074 - e).toNat * B ≤ 2045 * B := Nat.mul_le_mul_right _ (by omega)
      rw [if_neg h4, if_pos (by rw [hi]; rw [hB] at *; omega)]
      rw [show 1074 + -e = 1074 - e by omega]

theorem bitLen_facts (d : Nat) (h0 : 0 < d) (h1 : d < 18446744073709551616) : 1 ≤ Lib.bitLen d ∧ Lib.bitLen d ≤ 64 ∧ 2 ^ Lib.bitLen d ≤ 2 * d ∧ d < 2 ^ Lib.bitLen d := by
  obtain ⟨a, b, c⟩ := Lib.bitLenAux_bounds 64 d (by omega) (by omega)
  refine ⟨a, Lib.bitLen_le d 64 (by omega) (by omega), ?_, c⟩
  have : 2 ^ Lib.bitLen d = 2 * 2 ^ (Lib.bitLen d - 1) := by
    have e : Lib.bitLen d = (Lib.bitLen d - 1) + 1 := by have : 1 ≤ Lib.bitLen d := a; omega
    conv => lhs; rw [e, Nat.pow_succ, Nat.mul_comm]
  rw [this]
  exact Nat.mul_le_mul_left 2 b
theorem unmin53 (w : World) : Calls Tryd.prog 73 #[.int .u64 9007199254740992] w fun e w' => e = .returned (.int .u64 36028797018963966) ∧ w = w' := unminC 9007199254740992 w (by decide) (by decide)
theorem or_self2 (u : Nat) : u ||| u % 2 = u := by rw [or_one _ _ (by omega)]; split <;> omega
theorem zor_sg {neg : Bool} {m : Nat} (hm : m < 9223372036854775808) : bits BinOp.or IntKind.u64 (sgw neg : Int) (m : Int) = ((sgw neg + m : Nat) : Int) := by
  have hs : sgw neg = 0 ∨ sgw neg = 9223372036854775808 := by cases neg <;> simp [sgw]
  have := u64_or_nat (sgw neg) m (by omega) (by omega)
  rwa [nat_join 63 (sgw neg) m (by omega) hm] at this
theorem usc_lt {x hi lo s : Nat} (hx : x < 18446744073709551616) (hh : hi < 18446744073709551616) (hs : 8 ≤ s) : usc x hi lo s ≤ 72057594037927936 := by
  have hH : x * hi / W < 18446744073709551616 := by
    have : x * hi < 18446744073709551616 * 18446744073709551616 := Nat.mul_lt_mul'' hx hh
    have hW : W = 18446744073709551616 := rfl
    rw [hW]
    omega
  have h2 : 256 ≤ 2 ^ s := by
    have : 2 ^ 8 ≤ 2 ^ s := Nat.pow_le_pow_right (by decide) hs
    omega
  have hd : ∀ q, q ≤ x * hi / W → q / 2 ^ s ≤ 72057594037927935 := fun q hq => by
    have : q / 2 ^ s ≤ q / 256 := Nat.div_le_div_left h2 (by decide)
    omega
  have ho : ∀ q b, q ≤ 72057594037927935 → b ≤ 1 → q ||| b ≤ 72057594037927936 := fun q b hq hb => by
    rw [or_one q b hb]; split <;> omega
  unfold usc
  simp only []
  split
  · exact ho _ _ (hd _ (Nat.le_refl _)) (Nat.le_refl _)
  · exact ho _ _ (hd _ (by split <;> omega)) (by split <;> omega)
theorem zor_half (u : Nat) (hu : u < 9223372036854775808) : bits BinOp.or IntKind.u64 ((u : Int) / 2) ((u : Int) % 2) = ((u / 2 ||| u % 2 : Nat) : Int) := by
  have := u64_or_nat (u / 2) (u % 2) (by omega) (by omega)
  rw [← this]; rfl
theorem zor_same (u : Nat) (hu : u < 9223372036854775808) : bits BinOp.or IntKind.u64 (u : Int) ((u : Int) % 2) = (u : Int) := by
  have := u64_or_nat u (u % 2) (by omega) (by omega)
  rw [or_self2] at this
  exact this
theorem half_le (u : Nat) : u / 2 ||| u % 2 ≤ u / 2 + 1 := by rw [or_one _ _ (by omega)]; split <;> omega
set_option maxHeartbeats 1000000 in
theorem parseFloat64C (d : Nat) (p : Int) (neg : Bool) (w : World) (h0 : 0 < d) (hd : d < 18446744073709551616) (h1 : -345 ≤ p) (h2 : p ≤ 310) (hp : P10 w) :
    Calls Tryd.prog 61 #[.int .u64 d, .int .i64 p, .int .u64 (sgw neg)] w fun e w' => ∃ u, Near (valN d p) (valD p) u ∧ e = .returned (pfV neg u) ∧ Below w.heap.size w w' := by
  obtain ⟨b0, b1, b2, b3⟩ := bitLen_facts d h0 hd
  have cL := Tryd.bits_Len64 (d : Int) w (by omega) (by omega)
  rw [Int.toNat_natCast] at cL
  generalize Lib.bitLen d = b at *
  obtain ⟨l, hl⟩ : ∃ l, lpI p = l := ⟨_, rfl⟩
  have cl := log2Pow10C p w (by omega) (by omega)
  have hl1 : -1200 ≤ l := by rw [← hl]; unfold lpI; omega
  have hl2 : l ≤ 1100 := by rw [← hl]; unfold lpI; omega
  rw [hl] at cl
  obtain ⟨e, he⟩ : ∃ e : Int, min 1074 (53 - (b : Int) - l) = e := ⟨_, rfl⟩
  have he3 : Hid (e = if 1074 ≤ 53 - (b : Int) - lpI p then 1074 else 53 - b - lpI p) := fhid (by rw [hl, ← he]; split <;> omega)
  have he1 : e ≤ 1074 := by omega
  have he2 : -2000 ≤ e := by omega
  obtain ⟨c, hc⟩ : ∃ c : Nat, 64 - b = c := ⟨_, rfl⟩
  have hci : (64 : Int) - b = c := by omega
  have hc64 : c ≤ 63 := by omega
  obtain ⟨s, hs⟩ : ∃ s : Int, -(e - c + l + 3) = s := ⟨_, rfl⟩
  have hs1 : Hid (s = -(e - (64 - (b : Int)) + lpI p + 3)) := fhid (by rw [hl, hci]; omega)
  have cP := prescaleC p (e - c) 0 w h1 h2 (by omega) (by omega) hp
  rw [hl, hs] at cP
  have hs8 : 8 ≤ s := by omega
  have HB1 := fhid b2
  have HB2 := fhid b3
  have HL := fhid hl
  have HC := fhid hc
  have hfb := ffb
  clear hl b2 b3 hc hs
  go_enter Tryd.func61, Tryd.ntmps61
  go_wp2_with fail
  refine cL.mono ?_
  clear cL
  rintro e' w1 ⟨rfl, rfl⟩
  go_wp2_with fail
  refine cl.mono ?_
  clear cl
  rintro e' w1 ⟨rfl, rfl⟩
  go_wp2_with fail
  refine cP.mono ?_
  clear cP
  rintro e' w2 ⟨rfl, rfl⟩
  by_cases h64 : 64 ≤ s
  · have hnr := tiny_near HB2.out b1 h1 h2 he3.out hs1.out h64
    have HNR := fhid hnr
    have hz : bits BinOp.or IntKind.u64 (sgw neg : Int) 0 = ((sgw neg + 0 : Nat) : Int) := zor_sg (m := 0) (by decide)
    clear hnr he
    go_wp2_with fail
    go_ret2
    refine ⟨0, HNR.out, ?_, (Below.refl _ _).alloc (Nat.le_refl _) _⟩
    unfold pfV
    rw [if_pos (by decide)]
    rfl
  · obtain ⟨k, hk⟩ : ∃ k : Nat, s = 8 + k := ⟨(s - 8).toNat, by omega⟩
    obtain ⟨sn, hsn⟩ : ∃ sn : Nat, s = sn := ⟨s.toNat, by omega⟩
    have hus := usc_at (s := s) HB1.out HB2.out b1 h1 h2 k hk
    have hpar := parsed_of (u := unr (d * 2 ^ (64 - b) * PA p) (PM p * 2 ^ k)) HB1.out HB2.out b0 b1 h1 h2 he3.out hs1.out k hk rfl
    have hx1 : 9223372036854775808 ≤ d * 2 ^ (64 - b) := by
      have e1 : 2 ^ b * 2 ^ (64 - b) ≤ 2 * d * 2 ^ (64 - b) := Nat.mul_le_mul_right _ HB1.out
      rw [← Nat.pow_add, Nat.add_sub_of_le b1, Nat.mul_assoc] at e1
      omega
    have hx2 : d * 2 ^ (64 - b) < 18446744073709551616 := by
      have e1 : d * 2 ^ (64 - b) < 2 ^ b * 2 ^ (64 - b) := Nat.mul_lt_mul_of_pos_right HB2.out (Nat.pow_pos (by decide))
      rw [← Nat.pow_add, Nat.add_sub_of_le b1] at e1
      omega
    rw [← hus, hsn, Int.toNat_natCast] at hpar
    obtain ⟨i, hi⟩ : ∃ i : Nat, (p + 348).toNat = i := ⟨_, rfl⟩
    obtain ⟨t1, t2, t3, t4, t5⟩ := tab_at p (by omega) (by omega)
    have hhi : 2 ≤ tHi (p + 348).toNat := t3
    rw [hi] at hpar t3 t4 t5 hhi ⊢
    rw [HC.out] at hpar hx1 hx2
    obtain ⟨x, hx⟩ : ∃ x, d * 2 ^ c = x := ⟨_, rfl⟩
    have hwx : IntKind.u64.wrap ((d : Int) * 2 ^ c) = (x : Int) := by
      rw [← hx, show (d : Int) * 2 ^ c = ((d * 2 ^ c : Nat) : Int) by simp]
      exact IntWalk.u64_in _ (by omega)
    rw [hx] at hpar hx1 hx2
    subst hsn
    have cU := uscaleC x (tHi i) (tLo i) sn w1.heap.size (w1.alloc (.cells #[.int .u64 (tHi i), .int .u64 (tLo i), .int .i64 sn] 134)) hx2 t4 t5 (by omega) (Nat.le_trans (by omega) (Nat.mul_le_mul hx1 hhi)) (by simp) (by simp) (by simp)
    obtain ⟨u, hu⟩ : ∃ u, usc x (tHi i) (tLo i) sn = u := ⟨_, rfl⟩
    have hub : u ≤ 72057594037927936 := by rw [← hu]; exact usc_lt hx2 t4 (by omega)
    rw [hu] at cU hpar
    have HPAR := fhid hpar
    clear hus hpar t1 t2 t3 t4 t5 hhi hx hu hi he hk hx1 hx2
    go_wp2_with fail
    refine cU.mono ?_
    clear cU
    rintro e' w2 ⟨rfl, n1, rfl⟩
    have hand := and_one_u64 (u : Int) (by omega) (by omega)
    by_cases hge : 36028797018963966 ≤ u
    · have hP := HPAR.out.1 hge
      have hdec : decide ((36028797018963966 : Int) ≤ u) = true := by simp; omega
      have zh := zor_half u (by omega)
      obtain ⟨v, hv⟩ : ∃ v, u / 2 ||| u % 2 = v := ⟨_, rfl⟩
      have hvb := half_le u
      rw [hv] at hP zh hvb
      obtain ⟨m, hm⟩ : ∃ m, (v + 1 + v / 4 % 2) / 4 = m := ⟨_, rfl⟩
      have cr := fun w => roundC v w (by omega)
      simp only [hm] at cr
      rw [hm] at hP
      have hml := hP.lt
      have hBv : B = 4503599627370496 := rfl
      have zs := zor_sg (neg := neg) (m := m) (by omega)
      have HP := fhid hP
      have hv8 : v ≤ 9223372036854775807 := by omega
      clear hP hm hv HPAR hBv
      go_wp2_with fail
      refine (unmin53 _).mono ?_
      rintro e' w2 ⟨rfl, rfl⟩
      go_wp2_with fail
      refine (bool2i true _).mono ?_
      rintro e' w2 ⟨rfl, rfl⟩
      go_wp2_with fail
      refine (cr _).mono ?_
      rintro e' w2 ⟨rfl, rfl⟩
      go_wp2_with fail
      have cp := fun w => pack64C neg m (-(e - 1)) w hml (by omega) (by omega)
      refine (cp _).mono ?_
      rintro e' w2 ⟨rfl, rfl⟩
      rw [packV_pf HP.out]
      obtain ⟨ra, rb, hab⟩ := pf_form neg ((1074 - (e - 1)).toNat * B + m)
      have HAB := fhid hab
      rw [hab]
      clear hab cp
      go_wp2_with fail
      go_ret2
      exact ⟨_, HP.out.near, by rw [HAB.out]; rfl, drewN_below ((Below.refl _ _).alloc (Nat.le_refl _) _) _⟩
    · have hP := HPAR.out.2 (by omega)
      have hdec : decide ((36028797018963966 : Int) ≤ u) = false := by simp; omega
      have zh := zor_same u (by omega)
      obtain ⟨m, hm⟩ : ∃ m, (u + 1 + u / 4 % 2) / 4 = m := ⟨_, rfl⟩
      have cr := fun w => roundC u w (by omega)
      simp only [hm] at cr
      rw [hm] at hP
      have hml := hP.lt
      have hBv : B = 4503599627370496 := rfl
      have zs := zor_sg (neg := neg) (m := m) (by omega)
      have HP := fhid hP
      clear hP hm HPAR hBv hge
      go_wp2_with fail
      refine (unmin53 _).mono ?_
      rintro e' w2 ⟨rfl, rfl⟩
      go_wp2_with fail
      refine (bool2i false _).mono ?_
      rintro e' w2 ⟨rfl, rfl⟩
      go_wp2_with fail
      refine (cr _).mono ?_
      rintro e' w2 ⟨rfl, rfl⟩
      go_wp2_with fail
      have cp := fun w => pack64C neg m (-e) w hml (by omega) (by omega)
      refine (cp _).mono ?_
      rintro e' w2 ⟨rfl, rfl⟩
      rw [packV_pf HP.out]
      obtain ⟨ra, rb, hab⟩ := pf_form neg ((1074 - e).toNat * B + m)
      have HAB := fhid hab
      rw [hab]
      clear hab cp
      go_wp2_with fail
      go_ret2
      exact ⟨_, HP.out.near, by rw [HAB.out]; rfl, drewN_below ((Below.refl _ _).alloc (Nat.le_refl _) _) _⟩
end Go.Proofs.YtgbldjbkapaclaaDoor.fl
/- The contract of internal/strconv.atof64exact: where it says so, the nearest rung. -/
namespace Go.Proofs.YtgbldjbkapaclaaDoor.fl
open Go.ChangeShapes Go.WideShapes Go.ChangeAt Go.RowKit
set_option linter.unusedVariables false

/-- The library's small float tables lie as their initialisers lay them. -/
structure FT (w : World) : Prop where
  info : w.cell? ⟨10, 0, none⟩ = some (.int .u64 52)
  p10 : ∃ g o, w.cell? ⟨13, 0, none⟩ = some (.slice (some ⟨g, o, none⟩) 23 23) ∧ ∀ i, i ≤ 22 → w.cell? ⟨g, o + i, none⟩ = some (.float .f64 (p10bits.getD i 0))
theorem near_mono {N N' D u u' : Nat} (hD : 0 < D) (h : N ≤ N') (hu : Near N D u) (hu' : Near N' D u') : u ≤ u' := by
  rcases Nat.lt_or_ge u' u with hlt | hge
  · have h1 : 2 * N' ≤ (V u' + V (u' + 1)) * D := by rcases hu'.hi with h | h <;> omega
    have h2 : (V (u - 1) + V u) * D ≤ 2 * N := by rcases hu.lo with h | h | h <;> omega
    have h3 : V u' ≤ V (u - 1) := V_le (by omega)
    have h4 : V (u' + 1) ≤ V u := V_le (by omega)
    have h6 : (V u' + V (u' + 1)) * D ≤ (V (u - 1) + V u) * D := Nat.mul_le_mul_right _ (by omega)
    have : N = N' := by omega
    subst this
    exact Nat.le_of_eq (near_unique hD hu hu')
  · exact hge
theorem near_lt_inf {N D u : Nat} (hD : 0 < D) (h : N ≤ V (infR - 1) * D) (hu : Near N D u) : u < infR := by
  rcases Nat.lt_or_ge u infR with h2 | h2
  · exact h2
  · have h3 : (V (u - 1) + V u) * D ≤ 2 * N := by
      have : infR = 9218868437227405312 := rfl
      rcases hu.lo with h | h | h <;> omega
    have h4 : V (infR - 1) ≤ V (u - 1) := V_le (by omega)
    have h5 : V (infR - 1) < V u := V_lt (by have : infR = 9218868437227405312 := rfl
                                             omega)
    have h6 : 2 * (V (infR - 1) * D) < (V (u - 1) + V u) * D := by
      rw [← Nat.mul_assoc]
      exact Nat.mul_lt_mul_of_pos_right (by omega) hD
    omega
def ExPost (d : Nat) (p : Int) (neg : Bool) (w : World) (e : Ending) (w' : World) : Prop :=
  ∃ x ok, e = .returned (.tuple #[.float .f64 x, .bool ok]) ∧ (ok = true → ∃ u, u < infR ∧ Near (valN d p) (valD p) u ∧ x = sgw neg + u) ∧ w = w'
@[go_sem] theorem run_neg_float {P : Program} (w : World) (k : FloatKind) (b : Nat) : (Op.unary .neg (.float k b)).run P w = .ok (.float k (Op.negFloat k b)) w := by simp [Op.unary]
theorem neg_word (u : Nat) (h : u < infR) : Op.negFloat .f64 u = sgw true + u := by
  have hi : infR = 9218868437227405312 := rfl
  have e : u ||| 9223372036854775808 = u + 9223372036854775808 := by
    rw [Nat.or_comm, nat_join 63 9223372036854775808 u (by decide) (by omega)]; omega
  show u ^^^ 9223372036854775808 = 9223372036854775808 + u
  have ha : u &&& 9223372036854775808 = 0 := by
    rw [and_63]; have : u / 9223372036854775808 = 0 := by omega
    rw [this]
  have hx : u ^^^ 9223372036854775808 = u ||| 9223372036854775808 := by
    apply Nat.eq_of_testBit_eq
    intro i
    have h1 : (u &&& 9223372036854775808).testBit i = false := by rw [ha]; simp
    rw [Nat.testBit_and] at h1
    rw [Nat.testBit_xor, Nat.testBit_or]
    cases hA : u.testBit i <;> cases hB : Nat.testBit 9223372036854775808 i <;> simp_all
  rw [hx, e]; omega
/-- 10^15. -/
def c15 : Nat := 4831355200913801216
theorem c15_int : IsInt c15 1000000000000000 ∧ c15 < infR := p10_at 15 (by decide)
theorem ord_pos (u : Nat) (hu : u < infR) : ∃ o, Ieee.double.order u 4831355200913801216 = some o ∧ Ieee.double.order u 14054727237768577024 = some .gt ∧ (o = .gt ↔ 1000000000000000 * 2 ^ K74 < V u) := by
  have h1 := order_val false false u c15 hu c15_int.2
  have h2 := order_val false true u c15 hu c15_int.2
  have hV : V c15 = 1000000000000000 * 2 ^ K74 := c15_int.1
  have hp : 0 < 2 ^ K74 := Nat.pow_pos (by decide)
  rw [hV] at h1 h2
  have z : sgw false = 0 := rfl
  have z1 : sgw true = 9223372036854775808 := rfl
  rw [z, Nat.zero_add, Nat.zero_add] at h1
  rw [z, z1, Nat.zero_add] at h2
  generalize 2 ^ K74 = T at *
  refine ⟨_, h1, ?_, ?_⟩
  · refine h2.trans ?_
    rw [compare_gt]
    simp only [sI, if_true]
    simp; omega
  · rw [Int.compare_eq_gt]; simp only [sI]; simp; omega
theorem ord_neg (u : Nat) (hu : u < infR) : ∃ o, Ieee.double.order (sgw true + u) 4831355200913801216 = some .lt ∧ Ieee.double.order (sgw true + u) 14054727237768577024 = some o ∧ (o = .lt ↔ 1000000000000000 * 2 ^ K74 < V u) := by
  have h1 := order_val true false u c15 hu c15_int.2
  have h2 := order_val true true u c15 hu c15_int.2
  have hV : V c15 = 1000000000000000 * 2 ^ K74 := c15_int.1
  have hp : 0 < 2 ^ K74 := Nat.pow_pos (by decide)
  rw [hV] at h1 h2
  have z : sgw false = 0 := rfl
  rw [z, Nat.zero_add] at h1
  generalize 2 ^ K74 = T at *
  refine ⟨_, ?_, h2, ?_⟩
  · refine h1.trans ?_
    rw [compare_lt]
    simp only [sI, if_true]
    simp; omega
  · rw [Int.compare_eq_lt]; simp only [sI]; simp; omega
theorem small_inf {n : Nat} (h : n ≤ 10 ^ 300) : n * 2 ^ K74 ≤ V (infR - 1) * 1 := by
  have : 10 ^ 300 * 2 ^ K74 ≤ V (infR - 1) * 1 := by decide +kernel
  exact Nat.le_trans (Nat.mul_le_mul_right _ h) this
theorem e300 : 4503599627370496 ≤ 10 ^ 300 := by decide +kernel
theorem foi (d : Nat) (h0 : 0 < d) (h : d < 9007199254740992) : ∃ u, u < infR ∧ IsInt u d ∧ floatOfInt FloatKind.f64 (d : Int) = u := by
  obtain ⟨u, hu, hV, hfl⟩ := int_rung false d h0 h
  refine ⟨u, hu, hV, ?_⟩
  have e : floatOfInt FloatKind.f64 (d : Int) = Ieee.double.nearest false d 0 := by
    show Ieee.double.write (.number (decide ((d : Int) < 0)) (d : Int).natAbs 0) = _
    have : decide ((d : Int) < 0) = false := by simp
    rw [this]; rfl
  rw [e, hfl]; simp [sgw]
set_option maxHeartbeats 1000000 in
theorem ex_no (d : Nat) (p : Int) (neg : Bool) (w : World) (hd : d < 18446744073709551616) (hb : 4503599627370496 ≤ d) (hf : FT w) :
    Calls Tryd.prog 60 #[.int .u64 d, .int .i64 p, .bool neg] w (ExPost d p neg w) := by
  have hi := hf.info
  have hn : ((d : Int) / 4503599627370496 != 0) = true := by simp; omega
  go_enter Tryd.func60, Tryd.ntmps60
  go_wp2
  go_ret2
  exact ⟨_, false, rfl, (fun h => by cases h), rfl⟩
set_option maxHeartbeats 1000000 in
theorem ex_zero (d : Nat) (neg : Bool) (w : World) (h0 : 0 < d) (hb : d < 4503599627370496) (hf : FT w) :
    Calls Tryd.prog 60 #[.int .u64 d, .int .i64 0, .bool neg] w (ExPost d 0 neg w) := by
  have hi := hf.info
  have hn : ((d : Int) / 4503599627370496 != 0) = false := by simp; omega
  obtain ⟨u, hu, hV, hfl⟩ := foi d h0 (by omega)
  have hneg := neg_word u hu
  have hfin : Hid (∃ u', u' < infR ∧ Near (valN d 0) (valD 0) u' ∧ sgw neg + u = sgw neg + u') := fhid ⟨u, hu, by
    have : valN d 0 = d * 2 ^ K74 := by unfold valN; simp
    rw [this]; exact near_exact hV, rfl⟩
  clear hV hu
  cases neg
  · go_enter Tryd.func60, Tryd.ntmps60
    go_wp2
    go_ret2
    refine ⟨u, true, rfl, fun _ => ?_, rfl⟩
    have := hfin.out
    rwa [show sgw false + u = u from Nat.zero_add u] at this
  · go_enter Tryd.func60, Tryd.ntmps60
    go_wp2
    go_ret2
    exact ⟨_, true, rfl, fun _ => hfin.out, rfl⟩
set_option maxHeartbeats 1000000 in
theorem ex_far (d : Nat) (p : Int) (neg : Bool) (w : World) (hb : d < 4503599627370496) (hp : p < -22 ∨ 37 < p) (hf : FT w) :
    Calls Tryd.prog 60 #[.int .u64 d, .int .i64 p, .bool neg] w (ExPost d p neg w) := by
  have hi := hf.info
  have hn : ((d : Int) / 4503599627370496 != 0) = false := by simp; omega
  have hz : (p == 0) = false := by simp; omega
  cases neg <;> rcases hp with hp | hp
  all_goals
    go_enter Tryd.func60, Tryd.ntmps60
    go_wp2
    go_ret2
    exact ⟨_, false, rfl, (fun h => by cases h), rfl⟩
set_option maxHeartbeats 1000000 in
theorem ex_div (d k : Nat) (neg : Bool) (w : World) (h0 : 0 < d) (hb : d < 4503599627370496) (hk : 1 ≤ k) (hk2 : k ≤ 22) (hf : FT w) :
    Calls Tryd.prog 60 #[.int .u64 d, .int .i64 (-(k : Int)), .bool neg] w (ExPost d (-(k : Int)) neg w) := by
  have hi := hf.info
  obtain ⟨g, o, hg, hcA⟩ := hf.p10
  have hc := hcA k hk2
  clear hcA
  have hn : ((d : Int) / 4503599627370496 != 0) = false := by simp; omega
  have hz : (-(k : Int) == 0) = false := by simp; omega
  obtain ⟨u, hu, hV, hfl⟩ := foi d h0 (by omega)
  have hneg := neg_word u hu
  obtain ⟨i1, i2⟩ := p10_at k hk2
  obtain ⟨v, hv⟩ : ∃ v, p10bits.getD k 0 = v := ⟨_, rfl⟩
  rw [hv] at hc i1 i2
  obtain ⟨r, hr, er⟩ := div_ints (s := neg) (t := false) hu i2 hV i1 h0 (Nat.pow_pos (by decide))
  have hnear : Near (valN d (-(k : Int))) (valD (-(k : Int))) r := by
    unfold valN valD
    rw [if_neg (by omega), if_neg (by omega), Nat.mul_one, show (- -(k : Int)).toNat = k by omega]
    exact hr
  have hri : r < infR := by
    refine near_lt_inf (Nat.pow_pos (by decide)) ?_ hr
    have := small_inf (n := d) (Nat.le_trans (Nat.le_of_lt hb) e300)
    rw [Nat.mul_one] at this
    exact Nat.le_trans this (Nat.le_mul_of_pos_right _ (Nat.pow_pos (by decide)))
  rw [Nat.min_eq_left (Nat.le_of_lt hri)] at er
  have hfin : Hid (∃ u', u' < infR ∧ Near (valN d (-(k : Int))) (valD (-(k : Int))) u' ∧ sgw neg + r = sgw neg + u') := fhid ⟨r, hri, hnear, rfl⟩
  have zf : sgw false = 0 := rfl
  clear hV hu i1 i2 hr hnear hri hv hb
  cases neg
  · have hq := fun w => run_float_arith (P := Tryd.prog) w .quo 22 .f64 u v r (by show Ieee.double.div u v = some r; simpa [sgw] using er)
    clear er
    go_enter Tryd.func60, Tryd.ntmps60
    go_wp2
    go_ret2
    refine ⟨r, true, rfl, fun _ => ?_, rfl⟩
    have := hfin.out
    rwa [show sgw false + r = r from Nat.zero_add r] at this
  · have hq := fun w => run_float_arith (P := Tryd.prog) w .quo 22 .f64 (sgw true + u) v (sgw true + r) (by show Ieee.double.div (sgw true + u) v = some (sgw true + r); simpa [sgw] using er)
    clear er zf
    go_enter Tryd.func60, Tryd.ntmps60
    go_wp2
    go_ret2
    exact ⟨_, true, rfl, fun _ => hfin.out, rfl⟩
set_option maxHeartbeats 2000000 in
theorem ex_mul (d k : Nat) (neg : Bool) (w : World) (h0 : 0 < d) (hb : d < 4503599627370496) (hk : 1 ≤ k) (hk2 : k ≤ 22) (hf : FT w) :
    Calls Tryd.prog 60 #[.int .u64 d, .int .i64 (k : Int), .bool neg] w (ExPost d (k : Int) neg w) := by
  have hi := hf.info
  obtain ⟨g, o, hg, hcA⟩ := hf.p10
  have hc := hcA k hk2
  clear hcA
  have hn : ((d : Int) / 4503599627370496 != 0) = false := by simp; omega
  have hz : ((k : Int) == 0) = false := by simp; omega
  obtain ⟨u, hu, hV, hfl⟩ := foi d h0 (by omega)
  have hneg := neg_word u hu
  obtain ⟨i1, i2⟩ := p10_at k hk2
  obtain ⟨v, hv⟩ : ∃ v, p10bits.getD k 0 = v := ⟨_, rfl⟩
  rw [hv] at hc i1 i2
  obtain ⟨r, hr, er⟩ := mul_ints (s := neg) (t := false) hu i2 hV i1 h0 (Nat.pow_pos (by decide))
  have hnear : Near (valN d (k : Int)) (valD (k : Int)) r := by
    unfold valN valD
    rw [if_pos (by omega), if_pos (by omega), Int.toNat_natCast]
    exact hr
  have hri : r < infR := by
    refine near_lt_inf (by decide) (small_inf ?_) hr
    have : 10 ^ k ≤ 10 ^ 22 := Nat.pow_le_pow_right (by decide) hk2
    exact Nat.le_trans (Nat.mul_le_mul (Nat.le_of_lt hb) this) (by decide +kernel)
  rw [Nat.min_eq_left (Nat.le_of_lt hri)] at er
  have hfin : Hid (∃ u', u' < infR ∧ Near (valN d (k : Int)) (valD (k : Int)) u' ∧ sgw neg + r = sgw neg + u') := fhid ⟨r, hri, hnear, rfl⟩
  have hop := ord_pos u hu
  have hon := ord_neg u hu
  clear hV hu i1 i2 hr hnear hri hv hb
  cases neg
  · have hq := fun w => run_float_arith (P := Tryd.prog) w .mul 22 .f64 u v r (by show Ieee.double.mul u v = some r; simpa [sgw] using er)
    obtain ⟨o, o1, o2, _⟩ := hop
    replace o1 : FloatKind.f64.format.order u 4831355200913801216 = some o := o1
    replace o2 : FloatKind.f64.format.order u 14054727237768577024 = some .gt := o2
    clear er hon
    rcases o with _ | _ | _
    all_goals
      go_enter Tryd.func60, Tryd.ntmps60
      go_wp2
      go_ret2
      first
        | exact ⟨_, false, rfl, (fun h => by cases h), rfl⟩
        | exact ⟨r, true, rfl, (fun _ => by have := hfin.out; rwa [show sgw false + r = r from Nat.zero_add r] at this), rfl⟩
  · have hq := fun w => run_float_arith (P := Tryd.prog) w .mul 22 .f64 (sgw true + u) v (sgw true + r) (by show Ieee.double.mul (sgw true + u) v = some (sgw true + r); simpa [sgw] using er)
    obtain ⟨o, o1, o2, _⟩ := hon
    replace o1 : FloatKind.f64.format.order (sgw true + u) 4831355200913801216 = some .lt := o1
    replace o2 : FloatKind.f64.format.order (sgw true + u) 14054727237768577024 = some o := o2
    clear er hop
    rcases o with _ | _ | _
    all_goals
      go_enter Tryd.func60, Tryd.ntmps60
      go_wp2
      go_ret2
      first
        | exact ⟨_, false, rfl, (fun h => by cases h), rfl⟩
        | exact ⟨_, true, rfl, (fun _ => hfin.out), rfl⟩
end Go.Proofs.YtgbldjbkapaclaaDoor.fl
/- The contract of internal/strconv.atof64exact, whole. -/
namespace Go.Proofs.YtgbldjbkapaclaaDoor.fl
open Go.ChangeShapes Go.WideShapes Go.ChangeAt Go.RowKit
set_option linter.unusedVariables false

theorem rung_big {P w : Nat} (hw : Near (P * 2 ^ K74) 1 w) (h : 1000000000000000 < P) : 1000000000000000 * 2 ^ K74 < V w := by
  obtain ⟨q, hq, hV, _⟩ := int_rung false 1000000000000001 (by decide) (by decide)
  have h1 : Near (1000000000000001 * 2 ^ K74) 1 q := near_exact hV
  have hle : 1000000000000001 ≤ P := by omega
  have h2 := near_mono (by decide) (Nat.mul_le_mul_right (2 ^ K74) hle) h1 hw
  have h3 := V_le h2
  rw [hV] at h3
  refine Nat.lt_of_lt_of_le ?_ h3
  exact Nat.mul_lt_mul_of_pos_right (by decide) (Nat.pow_pos (by decide))
theorem rung_small {P w : Nat} (hw : Near (P * 2 ^ K74) 1 w) (h0 : 0 < P) (h : P ≤ 1000000000000000) : IsInt w P := by
  obtain ⟨q, hq, hV, _⟩ := int_rung false P h0 (by omega)
  have h1 : Near (P * 2 ^ K74) 1 q := near_exact hV
  rw [near_unique (by decide) hw h1]
  exact hV
set_option maxHeartbeats 2000000 in
theorem ex_mul2 (d k : Nat) (neg : Bool) (w : World) (h0 : 0 < d) (hb : d < 4503599627370496) (hk : 1 ≤ k) (hk2 : k ≤ 15) (hf : FT w) :
    Calls Tryd.prog 60 #[.int .u64 d, .int .i64 ((k : Int) + 22), .bool neg] w (ExPost d ((k : Int) + 22) neg w) := by
  have hi := hf.info
  obtain ⟨g, o, hg, hcA⟩ := hf.p10
  have hc := hcA k (by omega)
  have hc22 := hcA 22 (by omega)
  clear hcA
  have hn : ((d : Int) / 4503599627370496 != 0) = false := by simp; omega
  have hz : ((k : Int) + 22 == 0) = false := by simp; omega
  obtain ⟨u, hu, hV, hfl⟩ := foi d h0 (by omega)
  have hneg := neg_word u hu
  obtain ⟨i1, i2⟩ := p10_at k (by omega)
  obtain ⟨j1, j2⟩ := p10_at 22 (by omega)
  obtain ⟨v, hv⟩ : ∃ v, p10bits.getD k 0 = v := ⟨_, rfl⟩
  obtain ⟨v22, hv22⟩ : ∃ v, p10bits.getD 22 0 = v := ⟨_, rfl⟩
  rw [hv] at hc i1 i2
  rw [hv22] at hc22 j1 j2
  obtain ⟨r, hr, er⟩ := mul_ints (s := neg) (t := false) hu i2 hV i1 h0 (Nat.pow_pos (by decide))
  have hdk : d * 10 ^ k ≤ 4503599627370496 * 10 ^ 15 := Nat.mul_le_mul (Nat.le_of_lt hb) (Nat.pow_le_pow_right (by decide) hk2)
  have hri : r < infR := near_lt_inf (by decide) (small_inf (Nat.le_trans hdk (by decide +kernel))) hr
  rw [Nat.min_eq_left (Nat.le_of_lt hri)] at er
  have hP0 : 0 < d * 10 ^ k := Nat.mul_pos h0 (Nat.pow_pos (by decide))
  have hop := ord_pos r hri
  have hon := ord_neg r hri
  by_cases hbig : 1000000000000000 < d * 10 ^ k
  · have hbg := rung_big hr hbig
    clear hV hu i1 i2 j1 j2 hr hri hv hv22 hb hdk hP0 hbig
    cases neg
    · have hq := fun w => run_float_arith (P := Tryd.prog) w .mul 22 .f64 u v r (by show Ieee.double.mul u v = some r; simpa [sgw] using er)
      obtain ⟨o, o1, o2, o3⟩ := hop
      have ho := o3.2 hbg
      subst ho
      replace o1 : FloatKind.f64.format.order r 4831355200913801216 = some .gt := o1
      replace o2 : FloatKind.f64.format.order r 14054727237768577024 = some .gt := o2
      clear er hon o3 hbg
      go_enter Tryd.func60, Tryd.ntmps60
      go_wp2
      go_ret2
      exact ⟨_, false, rfl, (fun h => by cases h), rfl⟩
    · have hq := fun w => run_float_arith (P := Tryd.prog) w .mul 22 .f64 (sgw true + u) v (sgw true + r) (by show Ieee.double.mul (sgw true + u) v = some (sgw true + r); simpa [sgw] using er)
      obtain ⟨o, o1, o2, o3⟩ := hon
      have ho := o3.2 hbg
      subst ho
      replace o1 : FloatKind.f64.format.order (sgw true + r) 4831355200913801216 = some .lt := o1
      replace o2 : FloatKind.f64.format.order (sgw true + r) 14054727237768577024 = some .lt := o2
      clear er hop o3 hbg
      go_enter Tryd.func60, Tryd.ntmps60
      go_wp2
      go_ret2
      exact ⟨_, false, rfl, (fun h => by cases h), rfl⟩
  · have hsm := rung_small hr hP0 (by omega)
    have hns : ¬ 1000000000000000 * 2 ^ K74 < V r := by
      rw [hsm]
      have : d * 10 ^ k * 2 ^ K74 ≤ 1000000000000000 * 2 ^ K74 := Nat.mul_le_mul_right _ (by omega)
      omega
    obtain ⟨q, hq, eq⟩ := mul_ints (s := neg) (t := false) hri j2 hsm j1 hP0 (Nat.pow_pos (by decide))
    have hqi : q < infR := near_lt_inf (by decide) (small_inf (Nat.le_trans (Nat.mul_le_mul_right (10 ^ 22) (show d * 10 ^ k ≤ 1000000000000000 by omega)) (by decide +kernel))) hq
    rw [Nat.min_eq_left (Nat.le_of_lt hqi)] at eq
    have hnear : Near (valN d ((k : Int) + 22)) (valD ((k : Int) + 22)) q := by
      unfold valN valD
      rw [if_pos (by omega), if_pos (by omega), show ((k : Int) + 22).toNat = k + 22 by omega, Nat.pow_add, ← Nat.mul_assoc]
      exact hq
    have hfin : Hid (∃ u', u' < infR ∧ Near (valN d ((k : Int) + 22)) (valD ((k : Int) + 22)) u' ∧ sgw neg + q = sgw neg + u') := fhid ⟨q, hqi, hnear, rfl⟩
    clear hV hu i1 i2 j1 j2 hr hri hv hv22 hb hdk hP0 hbig hsm hq hqi hnear
    cases neg
    · have hq := fun w => run_float_arith (P := Tryd.prog) w .mul 22 .f64 u v r (by show Ieee.double.mul u v = some r; simpa [sgw] using er)
      have hq2 := fun w => run_float_arith (P := Tryd.prog) w .mul 22 .f64 r v22 q (by show Ieee.double.mul r v22 = some q; simpa [sgw] using eq)
      obtain ⟨o, o1, o2, o3⟩ := hop
      replace o1 : FloatKind.f64.format.order r 4831355200913801216 = some o := o1
      replace o2 : FloatKind.f64.format.order r 14054727237768577024 = some .gt := o2
      have ho : o ≠ .gt := fun h => hns (o3.1 h)
      clear er eq hon o3 hns
      rcases o with _ | _ | _
      · go_enter Tryd.func60, Tryd.ntmps60
        go_wp2
        go_ret2
        exact ⟨q, true, rfl, (fun _ => by have := hfin.out; rwa [show sgw false + q = q from Nat.zero_add q] at this), rfl⟩
      · go_enter Tryd.func60, Tryd.ntmps60
        go_wp2
        go_ret2
        exact ⟨q, true, rfl, (fun _ => by have := hfin.out; rwa [show sgw false + q = q from Nat.zero_add q] at this), rfl⟩
      · exact (ho rfl).elim
    · have hq := fun w => run_float_arith (P := Tryd.prog) w .mul 22 .f64 (sgw true + u) v (sgw true + r) (by show Ieee.double.mul (sgw true + u) v = some (sgw true + r); simpa [sgw] using er)
      have hq2 := fun w => run_float_arith (P := Tryd.prog) w .mul 22 .f64 (sgw true + r) v22 (sgw true + q) (by show Ieee.double.mul (sgw true + r) v22 = some (sgw true + q); simpa [sgw] using eq)
      obtain ⟨o, o1, o2, o3⟩ := hon
      replace o1 : FloatKind.f64.format.order (sgw true + r) 4831355200913801216 = some .lt := o1
      replace o2 : FloatKind.f64.format.order (sgw true + r) 14054727237768577024 = some o := o2
      have ho : o ≠ .lt := fun h => hns (o3.1 h)
      clear er eq hop o3 hns
      rcases o with _ | _ | _
      · exact (ho rfl).elim
      · go_enter Tryd.func60, Tryd.ntmps60
        go_wp2
        go_ret2
        exact ⟨_, true, rfl, (fun _ => hfin.out), rfl⟩
      · go_enter Tryd.func60, Tryd.ntmps60
        go_wp2
        go_ret2
        exact ⟨_, true, rfl, (fun _ => hfin.out), rfl⟩
theorem atof64exactC (d : Nat) (p : Int) (neg : Bool) (w : World) (h0 : 0 < d) (hd : d < 18446744073709551616) (hf : FT w) :
    Calls Tryd.prog 60 #[.int .u64 d, .int .i64 p, .bool neg] w (ExPost d p neg w) := by
  rcases Nat.lt_or_ge d 4503599627370496 with hb | hb
  · by_cases h1 : p < -22 ∨ 37 < p
    · exact ex_far d p neg w hb h1 hf
    · rcases Int.lt_trichotomy p 0 with h2 | h2 | h2
      · obtain ⟨k, rfl⟩ : ∃ k : Nat, p = -(k : Int) := ⟨(-p).toNat, by omega⟩
        exact ex_div d k neg w h0 hb (by omega) (by omega) hf
      · subst h2
        exact ex_zero d neg w h0 hb hf
      · by_cases h3 : p ≤ 22
        · obtain ⟨k, rfl⟩ : ∃ k : Nat, p = (k : Int) := ⟨p.toNat, by omega⟩
          exact ex_mul d k neg w h0 hb (by omega) (by omega) hf
        · obtain ⟨k, rfl⟩ : ∃ k : Nat, p = (k : Int) + 22 := ⟨(p - 22).toNat, by omega⟩
          exact ex_mul2 d k neg w h0 hb (by omega) (by omega) hf
  · exact ex_no d p neg w hd hb hf
end Go.Proofs.YtgbldjbkapaclaaDoor.fl
/- Decimal words as strings; what internal/strconv.readFloat's contract speaks of. -/
namespace Go.Proofs.YtgbldjbkapaclaaDoor.fl
open Go.ChangeShapes Go.WideShapes Go.ChangeAt Go.RowKit
set_option linter.unusedVariables false

/-- The bytes of a string, as numbers. -/
def bl (s : ByteArray) : List Nat := s.data.toList.map UInt8.toNat
theorem bl_length (s : ByteArray) : (bl s).length = s.size := by unfold bl; simp
theorem bl_at (s : ByteArray) (k : Nat) (h : k < s.size) : s[k].toNat = (bl s).getD k 0 := by
  unfold bl
  rw [List.getD_eq_getElem?_getD, List.getElem?_map]
  have : s.data.toList[k]? = some s[k] := by
    rw [List.getElem?_eq_getElem (by simpa using h)]; rfl
  rw [this]; rfl
/-- What may stand behind a mantissa: nothing, or a power of ten of at most five digits. -/
inductive Ex : List Nat → Int → Prop
  | none : Ex [] 0
  | some {c : Nat} {sg ds : List Nat} {neg : Bool} : (c = 101 ∨ c = 69) → (sg = [] ∧ neg = false ∨ sg = [43] ∧ neg = false ∨ sg = [45] ∧ neg = true) → 1 ≤ ds.length → ds.length ≤ 5 → (∀ x ∈ ds, isDig x) → Ex (c :: (sg ++ ds)) (if neg then -(dnum ds : Int) else dnum ds)
/-- A decimal word. -/
structure DecW (s : ByteArray) (neg : Bool) (m : List Nat) (p : Bool) (e : Int) : Prop where
  bytes : ∃ sg xs, bl s = sg ++ m ++ xs ∧ (sg = [] ∧ neg = false ∨ sg = [43] ∧ neg = false ∨ sg = [45] ∧ neg = true) ∧ Ex xs e
  mant : Mant m p
  some : (rf m).dig = true
  short : s.size ≤ 100
/-- The power that is read beside the mantissa. -/
def rfExp (m : List Nat) (e : Int) : Int := if (rf m).mant = 0 then 0 else (if (rf m).dot then (rf m).dp else (rf m).nd) + e - (rf m).ndm
theorem lowerC (c : Nat) (w : World) (h : c < 256) : Calls Tryd.prog 66 #[.int .u8 c] w fun e w' => e = .returned (.int .u8 ((c ||| 32 : Nat) : Int)) ∧ w = w' := by
  have h2 := u8_or_nat c 32 h (by decide)
  go_enter Tryd.func66, Tryd.ntmps66
  go_wp2
  go_ret
  exact ⟨by rw [← h2]; rfl, rfl⟩
def isDigB (c : Nat) : Bool := decide (48 ≤ c) && decide (c ≤ 57)
theorem dig_not (c : Nat) (h : isDig c ∨ c = 46) : ((c : Int) == 43) = false ∧ ((c : Int) == 45) = false := by
  unfold isDig at h; constructor <;> simp <;> omega
/-- What stands where in a decimal word. -/
structure At (s : ByteArray) (a n : Nat) (m xs : List Nat) : Prop where
  size : s.size = n
  len : n = a + m.length + xs.length
  man : ∀ k (h : k < s.size), a ≤ k → k < a + m.length → s[k].toNat = m.getD (k - a) 0
  ex : ∀ k (h : k < s.size), a + m.length ≤ k → s[k].toNat = xs.getD (k - (a + m.length)) 0
theorem at_of {s : ByteArray} {sg m xs : List Nat} (hb : bl s = sg ++ m ++ xs) : At s sg.length s.size m xs := by
  have hl : s.size = sg.length + m.length + xs.length := by rw [← bl_length, hb]; simp [Nat.add_assoc]
  refine ⟨rfl, hl, fun k h h1 h2 => ?_, fun k h h1 => ?_⟩
  · rw [bl_at s k h, hb, List.append_assoc, List.getD_eq_getElem?_getD, List.getElem?_append_right h1, List.getElem?_append_left (by omega), ← List.getD_eq_getElem?_getD]
  · rw [bl_at s k h, hb, List.getD_eq_getElem?_getD, List.getElem?_append_right (by simp; omega), ← List.getD_eq_getElem?_getD]; simp
theorem low_not (c : Nat) (h : isDig c ∨ c = 46 ∨ c = 101 ∨ c = 69) : (((c ||| 32 : Nat) : Int) == 120) = false := by
  have : ∀ c : Fin 128, (isDigB c.val || c.val == 46 || c.val == 101 || c.val == 69) = true → (((c.val ||| 32 : Nat) : Int) == 120) = false := by decide
  unfold isDig at h
  exact this ⟨c, by omega⟩ (by simp only [isDigB, Bool.or_eq_true, Bool.and_eq_true, decide_eq_true_eq, beq_iff_eq]; omega)
/-- The reader's slots. -/
def RdRel (m : List Nat) (a : Nat) (j : Nat) (w0 : World) (mt tr i un dot dig nd ndm dp : Value) (wx : World) : Prop :=
  wx = w0 ∧ ∃ S : RF, rf (m.take j) = S ∧ i = .int .i64 ((a + j : Nat) : Int) ∧ un = .bool false ∧ mt = .int .u64 S.mant ∧ tr = .bool S.tr ∧ dot = .bool S.dot ∧ dig = .bool S.dig ∧ nd = .int .i64 S.nd ∧ ndm = .int .i64 S.ndm ∧ dp = .int .i64 S.dp
theorem rd_mk {m : List Nat} {a j MT ND NDM : Nat} {DP mt nd ndm dp i : Int} {DOT DIG TR tr dot dig : Bool} {w : World} (hS : rf (m.take j) = ⟨MT, ND, NDM, DP, DOT, DIG, TR⟩) (h1 : i = a + j) (h2 : mt = MT) (h3 : nd = ND) (h4 : ndm = NDM) (h5 : dp = DP) (h6 : tr = TR) (h7 : dot = DOT) (h8 : dig = DIG) :
    RdRel m a j w (.int .u64 mt) (.bool tr) (.int .i64 i) (.bool false) (.bool dot) (.bool dig) (.int .i64 nd) (.int .i64 ndm) (.int .i64 dp) w := by
  subst h1 h2 h3 h4 h5 h6 h7 h8
  exact ⟨rfl, _, hS, by simp, rfl, rfl, rfl, rfl, rfl, rfl, rfl, rfl⟩
theorem take_snoc {m : List Nat} {j : Nat} (h : j < m.length) : m.take (j + 1) = m.take j ++ [m.getD j 0] := by
  rw [List.take_succ_eq_append_getElem h, List.getD_eq_getElem?_getD, List.getElem?_eq_getElem h]; rfl
theorem dnum_lt' : ∀ (l : List Nat) (a : Nat), (∀ x ∈ l, isDig x) → l.foldl (fun a c => if c = 46 then a else a * 10 + (c - 48)) a < (a + 1) * 10 ^ l.length
  | [], a, _ => by simp
  | c :: l, a, h => by
    obtain ⟨c1, c2⟩ := h c (by simp)
    have := dnum_lt' l (a * 10 + (c - 48)) (fun x hx => h x (by simp [hx]))
    rw [List.foldl_cons, if_neg (by omega)]
    refine Nat.lt_of_lt_of_le this ?_
    rw [List.length_cons, Nat.pow_succ, Nat.mul_comm (10 ^ l.length), ← Nat.mul_assoc]
    exact Nat.mul_le_mul_right _ (by omega)
theorem dnum_lt (l : List Nat) (h : ∀ x ∈ l, isDig x) : dnum l < 10 ^ l.length := by
  have := dnum_lt' l 0 h
  rwa [Nat.zero_add, Nat.one_mul] at this
theorem rf_fin {s : ByteArray} {m : List Nat} {S : RF} {E x mt n : Int} {neg tr : Bool} (hS : rf m = S) (h1 : mt = S.mant) (h2 : tr = S.tr) (hx : rfExp m E = x) (hn : s.size = n) :
    Ending.returned (.tuple #[.int .u64 mt, .int .i64 x, .bool neg, .bool tr, .bool false, .int .i64 n, .bool true]) = Ending.returned (.tuple #[.int .u64 (rf m).mant, .int .i64 (rfExp m E), .bool neg, .bool (rf m).tr, .bool false, .int .i64 s.size, .bool true]) := by
  rw [hS, hx, hn, h1, h2]
/-- The digits of a power: where they lie, what they are. -/
structure ExD (s : ByteArray) (g : Nat) (ds : List Nat) : Prop where
  len : s.size = g + ds.length
  one : 1 ≤ ds.length
  five : ds.length ≤ 5
  dig : ∀ x ∈ ds, isDig x
  at' : ∀ k (h : k < s.size), g ≤ k → s[k].toNat = ds.getD (k - g) 0
/-- What the reader ends with. -/
def rfDp (m : List Nat) : Int := if (rf m).dot then (rf m).dp else (rf m).nd
/-- What readFloat answers at a decimal word. -/
def RfPost (s : ByteArray) (neg : Bool) (m : List Nat) (E : Int) (w : World) (e : Ending) (w' : World) : Prop :=
  e = .returned (.tuple #[.int .u64 (rf m).mant, .int .i64 (rfExp m E), .bool neg, .bool (rf m).tr, .bool false, .int .i64 s.size, .bool true]) ∧ ∃ n, w' = w.drewN n
end Go.Proofs.YtgbldjbkapaclaaDoor.fl
/- The contracts of internal/strconv.special and of commonPrefixLenIgnoreCase at a word that opens a number. -/
namespace Go.Proofs.YtgbldjbkapaclaaDoor.fl
open Go.ChangeShapes Go.WideShapes Go.ChangeAt Go.RowKit
set_option linter.unusedVariables false

theorem cpreC (s : ByteArray) (c : Nat) (w : World) (h0 : 0 < s.size) (hs : s[0].toNat = c) (hc : c < 65) (hlen : s.size ≤ 1000) :
    Calls Tryd.prog 63 #[.string s, .string ⟨#[105, 110, 102, 105, 110, 105, 116, 121]⟩] w fun e w' => e = .returned (.int .i64 0) ∧ w = w' := by
  have hci : (c : Int) < 65 := by omega
  have hne : ((c : Int) != (((⟨#[105, 110, 102, 105, 110, 105, 116, 121]⟩ : ByteArray)[0]'(by decide)).toNat : Int)) = true := by
    show ((c : Int) != 105) = true
    rw [bne_iff_ne]; omega
  have hmin : (0 : Int) < min 8 (s.size : Int) := by omega
  go_enter Tryd.func63, Tryd.ntmps63
  go_wp2
  go_loop [6] (fun i => i = .int .i64 0) (fun _ => 0)
  case atStart => exact rfl
  case round =>
    obtain rfl := hrel
    go_wp2
    go_ret
    exact ⟨rfl, rfl⟩
theorem specialC (s : ByteArray) (w : World) (h0 : 0 < s.size) (hlen : s.size ≤ 1000)
    (h : (((s[0].toNat : Int) == 43) = true ∨ ((s[0].toNat : Int) == 45) = true) ∧ (∃ h1 : 1 < s.size, s[1].toNat < 65) ∨ s[0].toNat < 65 ∧ ((s[0].toNat : Int) == 43) = false ∧ ((s[0].toNat : Int) == 45) = false) :
    Calls Tryd.prog 49 #[.string s] w fun e w' => e = .returned (.tuple #[.float .f64 0, .int .i64 0, .bool false]) ∧ w = w' := by
  have hz : ((s.size : Int) == 0) = false := beq_eq_false_iff_ne.2 (by omega)
  rcases h with ⟨h, h1, h2⟩ | ⟨h1, h2, h3⟩
  · have hs : (s.extract 1 s.size).size = s.size - 1 := by simp
    have hx0 : 0 < (s.extract 1 s.size).size := by omega
    have hx : (s.extract 1 s.size)[0].toNat = s[1].toNat := by rw [ByteArray.getElem_extract]
    have cp := fun w => cpreC (s.extract 1 s.size) _ w hx0 hx h2 (by omega)
    clear hs hx0 hx
    rcases h with h | h
    · have n45 : ((s[0].toNat : Int) == 45) = false := beq_eq_false_iff_ne.2 (by have := beq_iff_eq.1 h; omega)
      go_enter Tryd.func49, Tryd.ntmps49
      go_wp2_with (go_at_call 63; refine (cp _).mono ?_; rintro e w' ⟨rfl, rfl⟩)
      go_outline
      go_ret3
      exact ⟨rfl, rfl⟩
    · have n43 : ((s[0].toNat : Int) == 43) = false := beq_eq_false_iff_ne.2 (by have := beq_iff_eq.1 h; omega)
      go_enter Tryd.func49, Tryd.ntmps49
      go_wp2_with (go_at_call 63; refine (cp _).mono ?_; rintro e w' ⟨rfl, rfl⟩)
      go_ret3
      exact ⟨rfl, rfl⟩
  · have n105 : ((s[0].toNat : Int) == 105) = false := beq_eq_false_iff_ne.2 (by omega)
    have n73 : ((s[0].toNat : Int) == 73) = false := beq_eq_false_iff_ne.2 (by omega)
    have n110 : ((s[0].toNat : Int) == 110) = false := beq_eq_false_iff_ne.2 (by omega)
    have n78 : ((s[0].toNat : Int) == 78) = false := beq_eq_false_iff_ne.2 (by omega)
    go_enter Tryd.func49, Tryd.ntmps49
    go_wp2
    go_ret3
    exact ⟨rfl, rfl⟩
end Go.Proofs.YtgbldjbkapaclaaDoor.fl
