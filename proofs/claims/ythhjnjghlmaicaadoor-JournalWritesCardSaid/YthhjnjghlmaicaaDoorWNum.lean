/- The contracts of digit.Text and of the reference's Text at a number that is no negative one: its decimal digits. -/
import Derived.Test.YthhjnjghlmaicaaDoorOwn2
import Derived.Test.YthhjnjghlmaicaaDoorShelf
import Derived.Lib.ItoaLen
import Derived.Lib.AppendIntMem
namespace Go.Proofs.YthhjnjghlmaicaaDoor.jr
open Go.ChangeShapes Go.WideShapes Go.ChangeAt Go.RowKit
set_option linter.unusedVariables false

def dec (n : Nat) : ByteArray := ⟨(Lib.decDigits n).toArray⟩

theorem text25 (n : Nat) (hn : n ≤ 9223372036854775807) (w : World) (htab : Lib.TabIs Tryd.prog w "internal/strconv.uint64pow10" .u64 Lib.pow10Tab) :
    Calls Tryd.prog 25 #[.int .i64 (n : Int), .int .i64 10] w fun e w' => e = .returned (.string (dec n)) ∧ Below w.heap.size w w' := by
  have c := Tryd.internal_strconv_FormatInt_10 (n : Int) (by omega) (by omega) w htab
  rw [Lib.itoa_nonneg] at c
  clear htab
  go_enter Tryd.func25, Tryd.ntmps25
  go_wp2_with fail
  refine c.mono ?_
  rintro e w1 ⟨rfl, k, os, rfl⟩
  clear c
  go_wp2_with fail
  go_ret
  exact ⟨rfl, Lib.below_grow _ _ (Nat.le_refl _) _ _⟩

theorem text23 (n : Nat) (hn : n ≤ 9223372036854775807) (w : World) (htab : Lib.TabIs Tryd.prog w "internal/strconv.uint64pow10" .u64 Lib.pow10Tab) :
    Calls Tryd.prog 23 #[.int .i64 (n : Int)] w fun e w' => e = .returned (.string (dec n)) ∧ Below w.heap.size w w' := by
  have c := text25 n hn w htab
  clear htab
  go_enter Tryd.func23, Tryd.ntmps23
  go_wp2_with fail
  refine c.mono ?_
  rintro e w1 ⟨rfl, hb⟩
  clear c
  go_wp2_with fail
  go_ret
  exact ⟨rfl, hb⟩

theorem dig_fin : ∀ d : Fin 10, ({ data := #[48, 49, 50, 51, 52, 53, 54, 55, 56, 57] } : ByteArray).extract d.val (d.val + 1) = ⟨#[UInt8.ofNat (48 + d.val)]⟩ := by decide +kernel
theorem dig_at (d : Nat) (h : d < 10) (s : List UInt8) : ({ data := #[48, 49, 50, 51, 52, 53, 54, 55, 56, 57] } : ByteArray).extract d (d + 1) ++ ⟨s.toArray⟩ = ⟨(UInt8.ofNat (48 + d) :: s).toArray⟩ := by
  rw [dig_fin ⟨d, h⟩]
  apply ByteArray.ext
  simp [ByteArray.data_append]
def TRel (n : Nat) (w : World) (tmp left : Value) (wr : World) : Prop :=
  ∃ (u : Nat) (s : List UInt8), tmp = .string ⟨s.toArray⟩ ∧ left = .int .i64 (u : Int) ∧ u ≤ 9223372036854775807 ∧ Lib.decDigits n = Lib.decDigits u ++ s ∧ ∃ j, wr = w.drewN j
theorem dec_length (n : Nat) (hn : n ≤ 9223372036854775807) : (Lib.decDigits n).length ≤ 21 := by
  have := Lib.itoa_length_le (n : Int) (by omega) (by omega)
  rwa [Lib.itoa_nonneg] at this
theorem dec_big {u : Nat} (h : ¬ u < 10) : Lib.decDigits u = Lib.decDigits (u / 10) ++ [UInt8.ofNat (48 + u % 10)] := by rw [Lib.decDigits, dif_neg h]
theorem dec_small {u : Nat} (h : u < 10) : Lib.decDigits u = [UInt8.ofNat (48 + u)] := by rw [Lib.decDigits, dif_pos h]
theorem text20 (n : Nat) (hn : n ≤ 9223372036854775807) (w : World) :
    Calls Tryd.prog 20 #[.int .i64 (n : Int)] w fun e w' => e = .returned (.string (dec n)) ∧ ∃ j, w' = w.drewN j := by
  go_enter Tryd.func20, Tryd.ntmps20
  go_wp2_with fail
  go_loopw [3, 4, 5] (fun t l _ wr => TRel n w t l wr) (fun _ l _ _ => (intOf l).toNat)
  case atStart => exact ⟨n, [], rfl, rfl, hn, by simp, 0, rfl⟩
  case round =>
    obtain ⟨u, s, rfl, rfl, hu, hs, j, rfl⟩ := hrel
    have hsl : s.length ≤ 21 := by
      have := dec_length n hn
      rw [hs, List.length_append] at this
      omega
    go_wp2_with fail
    · have hz : u / 10 = 0 := by
        rename_i h _
        have h := eq_of_beq h
        omega
      go_ret
      refine ⟨?_, j, rfl⟩
      rw [dig_at _ (by omega)]
      unfold dec
      rw [hs, dec_small (show u < 10 by omega), show u % 10 = u by omega]
      rfl
    case roundEnd =>
      rename_i h
      have hz : u / 10 ≠ 0 := by
        intro hz
        rw [show ((u : Int) / 10) = 0 by omega] at h
        cases h
      rw [dig_at _ (by omega)]
      refine ⟨⟨u / 10, _, rfl, by rfl, by omega, ?_, j, rfl⟩, ?_⟩
      · rw [hs, dec_big (show ¬ u < 10 by omega)]; simp
      · simp [intOf]; omega

end Go.Proofs.YthhjnjghlmaicaaDoor.jr
