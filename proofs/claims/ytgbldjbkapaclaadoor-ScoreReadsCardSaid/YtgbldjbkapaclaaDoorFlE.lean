/- The contract of strconv.FormatUint at base ten. -/
import Derived.Test.YtgbldjbkapaclaaDoorFlD
import Derived.Test.YtgbldjbkapaclaaDoorFlB
import Derived.Deep.RegionHeld3
import Derived.Deep.AppendLies
import Derived.Lib.ItoaNum
import Derived.Lib.TrimByte
import Derived.Test.YtgbldjbkapaclaaDoorShelf
import Derived.Lib.ItoaMem
import Derived.Lib.AppendIntMem
/- The walk of the reference's whole. -/
namespace Go.Proofs.YtgbldjbkapaclaaDoor.fl
open Go.ChangeShapes Go.WideShapes Go.ChangeAt Go.RowKit
set_option linter.unusedVariables false
end Go.Proofs.YtgbldjbkapaclaaDoor.fl
/- The walk of the reference's floor. -/
namespace Go.Proofs.YtgbldjbkapaclaaDoor.fl
open Go.ChangeShapes Go.WideShapes Go.ChangeAt Go.RowKit
set_option linter.unusedVariables false
end Go.Proofs.YtgbldjbkapaclaaDoor.fl
/- The walk of the reference's up. -/
namespace Go.Proofs.YtgbldjbkapaclaaDoor.fl
open Go.ChangeShapes Go.WideShapes Go.ChangeAt Go.RowKit
set_option linter.unusedVariables false
theorem dnum_fold : ∀ (b : List Nat) (a : Nat), (∀ c ∈ b, isDig c) → b.foldl (fun a c => if c = 46 then a else a * 10 + (c - 48)) a = a * 10 ^ b.length + dnum b := by
  intro b
  induction b with
  | nil => intro a _; simp [dnum]
  | cons c t ih =>
    intro a h
    have hc := h c (by simp)
    unfold isDig at hc
    have ht : ∀ x ∈ t, isDig x := fun x hx => h x (by simp [hx])
    have h1 := ih (a * 10 + (c - 48)) ht
    have h2 := ih (0 * 10 + (c - 48)) ht
    unfold dnum
    simp only [List.foldl_cons, if_neg (show ¬ c = 46 by omega), List.length_cons, Nat.pow_succ]
    rw [h1, h2, Nat.add_mul, Nat.zero_mul, Nat.zero_add, Nat.mul_assoc, Nat.mul_comm 10 (10 ^ t.length)]
    omega
end Go.Proofs.YtgbldjbkapaclaaDoor.fl
/- Shortest digits: what is picked at k digits; that 17 digits do. Plain. -/
namespace Go.Proofs.YtgbldjbkapaclaaDoor.fl
set_option linter.unusedVariables false
end Go.Proofs.YtgbldjbkapaclaaDoor.fl
/- The walk of score's left. -/
namespace Go.Proofs.YtgbldjbkapaclaaDoor.fl
open Go.ChangeShapes Go.WideShapes Go.ChangeAt Go.RowKit
set_option linter.unusedVariables false
end Go.Proofs.YtgbldjbkapaclaaDoor.fl
/- The walk of score's below. -/
namespace Go.Proofs.YtgbldjbkapaclaaDoor.fl
open Go.ChangeShapes Go.WideShapes Go.ChangeAt Go.RowKit
set_option linter.unusedVariables false
end Go.Proofs.YtgbldjbkapaclaaDoor.fl
/- The walk of the reference's noughts. -/
namespace Go.Proofs.YtgbldjbkapaclaaDoor.fl
open Go.ChangeShapes Go.WideShapes Go.ChangeAt Go.RowKit
set_option linter.unusedVariables false
end Go.Proofs.YtgbldjbkapaclaaDoor.fl
/- Rows of decimal digits: which number has which row, and what is left of it without the noughts behind. Plain. -/
namespace Go.Proofs.YtgbldjbkapaclaaDoor.fl
set_option linter.unusedVariables false
theorem bl_mk (l : List UInt8) : bl ⟨l.toArray⟩ = l.map UInt8.toNat := by unfold bl; simp
end Go.Proofs.YtgbldjbkapaclaaDoor.fl
/- What is told of a float: the digits and the point. Plain. -/
namespace Go.Proofs.YtgbldjbkapaclaaDoor.fl
set_option linter.unusedVariables false
end Go.Proofs.YtgbldjbkapaclaaDoor.fl
/- More of the model's floats: exact products, sums, and the whole numbers cut out of them. Plain. -/
namespace Go.Proofs.YtgbldjbkapaclaaDoor.fl
open Ieee
set_option linter.unusedVariables false
set_option linter.unusedSimpArgs false
end Go.Proofs.YtgbldjbkapaclaaDoor.fl
/- Frexp and Ldexp in rungs: what becomes of a float's bits. Plain. -/
namespace Go.Proofs.YtgbldjbkapaclaaDoor.fl
open Go.ChangeShapes Go.WideShapes Go.ChangeAt Go.RowKit
set_option linter.unusedVariables false
theorem zor_at (c m : Nat) (hc : c % 4503599627370496 = 0) (hc2 : c < 18446744073709551616) (hm : m < 4503599627370496) : bits BinOp.or IntKind.u64 (m : Int) (c : Int) = ((m + c : Nat) : Int) := by
  have h := u64_or_nat m c (by omega) hc2
  rw [Nat.or_comm, nat_join52 c m hc hm, Nat.add_comm] at h
  exact h
theorem iand_2047 (q : Nat) (hq : q < 2048) : bits BinOp.and IntKind.i64 (q : Int) 2047 = (q : Int) := by
  show IntKind.i64.wrap ((BitVec.ofInt 64 (q : Int) &&& BitVec.ofInt 64 2047).toNat : Int) = _
  have e : (BitVec.ofInt 64 (2047 : Int)).toNat = 2047 := by decide
  rw [BitVec.toNat_and, ofInt_u64 q (by omega), e, nat_mask11, Nat.mod_eq_of_lt hq, IntWalk.i64_in _ (by omega)]
end Go.Proofs.YtgbldjbkapaclaaDoor.fl
/- A float as a fraction: between which powers of ten it lies, and its digits by division. Plain. -/
namespace Go.Proofs.YtgbldjbkapaclaaDoor.fl
set_option linter.unusedVariables false
/-- Is a / b < 10^p? -/
def bel (a b : Nat) (p : Int) : Prop := a * 10 ^ (-p).toNat < b * 10 ^ p.toNat
end Go.Proofs.YtgbldjbkapaclaaDoor.fl
/- The contract of strconv.FormatUint at base ten. -/
namespace Go.Proofs.YtgbldjbkapaclaaDoor.fl
open Go.ChangeShapes Go.WideShapes Go.ChangeAt Go.RowKit Go.Sort Go.Lib
set_option linter.unusedVariables false
end Go.Proofs.YtgbldjbkapaclaaDoor.fl
