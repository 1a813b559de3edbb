/- The walk of score's shortest. -/
import Derived.Test.YtgbldjbkapaclaaDoorFlE
import Derived.Test.YtgbldjbkapaclaaDoorFlC
import Derived.Test.YtgbldjbkapaclaaDoorFlD
/- The walks of math's small functions: IsNaN, IsInf, Abs, Copysign, Signbit. -/
namespace Go.Proofs.YtgbldjbkapaclaaDoor.fl
open Go.ChangeShapes Go.WideShapes Go.ChangeAt Go.RowKit Ieee
set_option linter.unusedVariables false
theorem f64bits (a : Nat) (w : World) : (callFunc 16 #[.float .f64 a]).run Tryd.prog w = .ok (.value (.int .u64 a)) w := by kernel_rfl
theorem f64from (a : Int) (w : World) : (callFunc 10 #[.int .u64 a]).run Tryd.prog w = .ok (.value (.float .f64 a.toNat)) w := by kernel_rfl
theorem read_inf (s : Bool) : Ieee.double.read (sgw s + infR) = .infinity s := by cases s <;> decide +kernel
theorem read_nan (s : Bool) (u : Nat) (h1 : infR < u) (h2 : u < 9223372036854775808) : ∃ a b, Ieee.double.read (sgw s + u) = .nan a b := by
  have hi : infR = 9218868437227405312 := rfl
  have hB : B = 4503599627370496 := rfl
  have e1 : (sgw s + u) % 9223372036854775808 = u := by cases s <;> simp [sgw] <;> omega
  unfold Format.read
  simp only [d_sw, d_bin, d_inf, d_least, e1]
  rw [if_neg (by omega), if_neg (by omega), if_neg (by omega)]
  exact ⟨_, _, rfl⟩
theorem ord_self (s : Bool) (u : Nat) (h : u ≤ infR) : Ieee.double.order (sgw s + u) (sgw s + u) = some .eq := by
  rcases Nat.lt_or_eq_of_le h with h1 | h1
  · rw [order_val s s u u h1 h1]; simp
  · subst h1
    unfold Format.order
    rw [read_inf]
    simp [Datum.order]
theorem ord_nan (s : Bool) (u v : Nat) (h1 : infR < u) (h2 : u < 9223372036854775808) : Ieee.double.order (sgw s + u) v = none := by
  obtain ⟨a, b, e⟩ := read_nan s u h1 h2
  unfold Format.order
  rw [e]
  simp [Datum.order]
end Go.Proofs.YtgbldjbkapaclaaDoor.fl
/- The walks of math's normalize, Frexp, Ldexp. -/
namespace Go.Proofs.YtgbldjbkapaclaaDoor.fl
open Go.ChangeShapes Go.WideShapes Go.ChangeAt Go.RowKit Ieee
set_option linter.unusedVariables false
end Go.Proofs.YtgbldjbkapaclaaDoor.fl
/- The walk of math.Floor: the library's own entry. -/
namespace Go.Proofs.YtgbldjbkapaclaaDoor.fl
open Go.ChangeShapes Go.WideShapes Go.ChangeAt Go.RowKit Ieee
set_option linter.unusedVariables false
end Go.Proofs.YtgbldjbkapaclaaDoor.fl
/- The walks of score's parts and above. -/
namespace Go.Proofs.YtgbldjbkapaclaaDoor.fl
open Go.ChangeShapes Go.WideShapes Go.ChangeAt Go.RowKit Ieee
set_option linter.unusedVariables false
end Go.Proofs.YtgbldjbkapaclaaDoor.fl
/- The walk of score's means: is this a word of the float? -/
namespace Go.Proofs.YtgbldjbkapaclaaDoor.fl
open Go.ChangeShapes Go.WideShapes Go.ChangeAt Go.RowKit
set_option linter.unusedVariables false
/-- The library's tables lie as their initialisers lay them. -/
structure FS (w : World) : Prop where
  fo : FO w
  tab : Lib.TabIs Tryd.prog w "internal/strconv.uint64pow10" .u64 Lib.pow10Tab
theorem FS.on {w w' : World} (h : FS w) (hb : Below w.heap.size w w') : FS w' := ⟨h.fo.on hb, Lib.tabBelow_of_tabIs h.tab w' hb⟩
theorem bl_extract (s : ByteArray) (a b : Nat) : bl (s.extract a b) = ((bl s).drop a).take (b - a) := by
  unfold bl
  rw [Lib.extract_data, List.map_take, List.map_drop]
theorem mant_digs (l : List Nat) (h : ∀ x ∈ l, isDig x) : Mant l false := by
  have key : ∀ n, ∀ l : List Nat, l.length = n → (∀ x ∈ l, isDig x) → Mant l false := by
    intro n
    induction n with
    | zero => intro l hl _; rw [List.length_eq_zero_iff.1 hl]; exact .nil
    | succ n ih =>
      intro l hl h
      rcases List.eq_nil_or_concat l with e | ⟨t, c, e⟩
      · rw [e] at hl; simp at hl
      · rw [List.concat_eq_append] at e
        subst e
        exact .dig (ih t (by simpa using hl) (fun x hx => h x (by simp [hx]))) (h c (by simp))
  exact key _ l rfl h
end Go.Proofs.YtgbldjbkapaclaaDoor.fl
/- The walk of score's shortest. -/
namespace Go.Proofs.YtgbldjbkapaclaaDoor.fl
open Go.ChangeShapes Go.WideShapes Go.ChangeAt Go.RowKit
set_option linter.unusedVariables false
end Go.Proofs.YtgbldjbkapaclaaDoor.fl
