/- Contracts of the two functions Within (score and pantryref02): both give one Bool function of how the float stands to the two ends. No condition on the floats. -/
import Derived.Test.YthhjnjghlmaicaaRows
import Derived.WalkKit
import Derived.ProofKit
import Derived.OpenShut
import Derived.ShutString
import Derived.WalkLawsBesides
import Derived.Deep.QuietTactic
import Derived.BigQuiet
import Derived.Handy
namespace Go.Proofs.Ythhjnjghlmaicaa.Floats
open Go.ChangeShapes Go.WideShapes Go.ChangeAt Go.RowKit
open Ieee

theorem order_refl (x : Nat) : Ieee.double.order x x = some .eq ∨ Ieee.double.order x x = none := by
  unfold Format.order
  cases h : Ieee.double.read x with
  | number s m i => left; simp [Datum.order]
  | infinity s => left; simp [Datum.order]
  | nan s f => right; simp [Datum.order]

theorem order_none (x y : Nat) : Ieee.double.order x y = none ↔ (Ieee.double.order x x = none ∨ Ieee.double.order y y = none) := by
  unfold Format.order
  cases hx : Ieee.double.read x <;> cases hy : Ieee.double.read y <;> simp [Datum.order]

/-- Does a float lie in a stretch: c, d: how it stands to the two ends. -/
def inB (c d : Option Ordering) (ol oh : Bool) : Bool :=
  (c == some .gt || (c == some .eq && !ol)) && (d == some .lt || (d == some .eq && !oh))

set_option maxHeartbeats 1000000 in
theorem within1 (x lo hi : Nat) (ol oh : Bool) (c d : Option Ordering) (w : World)
   (h1 : FloatKind.f64.format.order x lo = c) (h2 : FloatKind.f64.format.order x hi = d) :
    Calls Try.prog 7 #[.float .f64 x, .agg #[.float .f64 lo, .bool ol], .agg #[.float .f64 hi, .bool oh]] w
      fun e w' => e = .returned (.bool (inB c d ol oh)) ∧ Below w.heap.size w w' := by
  rcases c with _ | _ | _ | _ <;> rcases d with _ | _ | _ | _
  all_goals cases ol
  all_goals cases oh
  all_goals
    go_enter Try.func7, Try.ntmps7
    go_wp2
    go_ret
    exact ⟨rfl, by go_grown⟩

set_option maxHeartbeats 1000000 in
theorem withinR (x lo hi : Nat) (ol oh : Bool) (c d nx nl nh : Option Ordering) (w : World)
   (h1 : FloatKind.f64.format.order x lo = c) (h2 : FloatKind.f64.format.order x hi = d) 
   (h3 : FloatKind.f64.format.order x x = nx) (h4 : FloatKind.f64.format.order lo lo = nl) (h5 : FloatKind.f64.format.order hi hi = nh)
   (k : (nx = none ∧ c = none ∧ d = none) ∨ (nx = some .eq ∧ nl = none ∧ c = none) ∨ (nx = some .eq ∧ nl = some .eq ∧ nh = none ∧ d = none) ∨ (nx = some .eq ∧ nl = some .eq ∧ nh = some .eq ∧ c.isSome ∧ d.isSome)) :
    Calls Try.prog 8 #[.float .f64 x, .agg #[.float .f64 lo, .bool ol], .agg #[.float .f64 hi, .bool oh]] w
      fun e w' => e = .returned (.bool (inB c d ol oh)) ∧ Below w.heap.size w w' := by
  rcases k with ⟨rfl, rfl, rfl⟩ | ⟨rfl, rfl, rfl⟩ | ⟨rfl, rfl, rfl, rfl⟩ | ⟨rfl, rfl, rfl, k1, k2⟩
  · go_enter Try.func8, Try.ntmps8
    go_wp2
    go_ret
    exact ⟨rfl, by go_grown⟩
  · rcases d with _ | _ | _ | _
    all_goals
      go_enter Try.func8, Try.ntmps8
      go_wp2
      go_ret
      exact ⟨rfl, by go_grown⟩
  · rcases c with _ | _ | _ | _
    all_goals
      go_enter Try.func8, Try.ntmps8
      go_wp2
      go_ret
      exact ⟨by simp [inB], by go_grown⟩
  · rcases c with _ | _ | _ | _ <;> rcases d with _ | _ | _ | _ <;> first | (cases k1; done) | (cases k2; done) | skip
    all_goals cases ol
    all_goals cases oh
    all_goals
      go_enter Try.func8, Try.ntmps8
      go_wp2
      go_ret
      exact ⟨rfl, by go_grown⟩

/-- Both contracts, over plain floats. -/
def inF (x lo hi : Nat) (ol oh : Bool) : Bool := inB (FloatKind.f64.format.order x lo) (FloatKind.f64.format.order x hi) ol oh

theorem within_any (x lo hi : Nat) (ol oh : Bool) (w : World) :
    Calls Try.prog 7 #[.float .f64 x, .agg #[.float .f64 lo, .bool ol], .agg #[.float .f64 hi, .bool oh]] w
      fun e w' => e = .returned (.bool (inF x lo hi ol oh)) ∧ Below w.heap.size w w' := within1 x lo hi ol oh _ _ w rfl rfl

theorem withinR_any (x lo hi : Nat) (ol oh : Bool) (w : World) :
    Calls Try.prog 8 #[.float .f64 x, .agg #[.float .f64 lo, .bool ol], .agg #[.float .f64 hi, .bool oh]] w
      fun e w' => e = .returned (.bool (inF x lo hi ol oh)) ∧ Below w.heap.size w w' := by
  refine withinR x lo hi ol oh _ _ _ _ _ w rfl rfl rfl rfl rfl ?_
  show (Ieee.double.order x x = none ∧ Ieee.double.order x lo = none ∧ Ieee.double.order x hi = none) ∨ (Ieee.double.order x x = some .eq ∧ Ieee.double.order lo lo = none ∧ Ieee.double.order x lo = none) ∨ (Ieee.double.order x x = some .eq ∧ Ieee.double.order lo lo = some .eq ∧ Ieee.double.order hi hi = none ∧ Ieee.double.order x hi = none) ∨ (Ieee.double.order x x = some .eq ∧ Ieee.double.order lo lo = some .eq ∧ Ieee.double.order hi hi = some .eq ∧ (Ieee.double.order x lo).isSome ∧ (Ieee.double.order x hi).isSome)
  have a1 := order_none x lo
  have a2 := order_none x hi
  rcases order_refl x with hx | hx
  · rcases order_refl lo with hl | hl
    · rcases order_refl hi with hh | hh
      · simp_all [Option.isSome_iff_ne_none]
      · simp_all
    · simp_all
  · simp_all
end Go.Proofs.Ythhjnjghlmaicaa.Floats
