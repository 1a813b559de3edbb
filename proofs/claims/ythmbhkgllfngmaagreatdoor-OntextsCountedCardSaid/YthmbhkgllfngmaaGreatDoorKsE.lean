/- verbs: the table of commands as plain data, and in memory. -/
import Derived.WalkKit
import Derived.Test.YthmbhkgllfngmaaGreatDoorKsB
import Derived.Deep.DeepCutAuto
/- A list of plain operations, run at once: for regions that the kernel can reckon out. -/
namespace Go.Proofs.YthmbhkgllfngmaaGreatDoor.ks
open Go.ChangeShapes Go.WideShapes Go.RowKit
set_option linter.unusedVariables false
/-- What plain operations come to, one behind the other (none: one of them calls, or halts). -/
def execs (P : Program) : List Oper → Act → World → Option (Act × World)
  | [], a, w => some (a, w)
  | o :: r, a, w => if o.guard.isSome then none else match (execOp a.eval o).run P w with
    | .ok (.value v) w' => execs P r (a.put o.dst v) w'
    | .ok .skip w' => execs P r (a.put o.dst undef) w'
    | _ => none
theorem wpList_execs {P : Program} {ops : Array Oper} {Q : Exit → Act → World → Prop} : ∀ {l : List Oper} {a a' : Act} {w w' : World}, execs P l a w = some (a', w') → Q .normal a' w' → wpList P ops Q l a w
  | [], a, a', w, w', h, hq => by
    obtain ⟨rfl, rfl⟩ : a = a' ∧ w = w' := by simpa [execs] using h
    exact wpList_nil hq
  | o :: r, a, a', w, w', h, hq => by
    unfold execs at h
    split at h
    · cases h
    · rename_i hg
      have hg2 : o.guard = none := by simpa using hg
      refine wpList_plain hg2 (fun K hK => ?_)
      unfold Oper.wp
      split at h
      · rename_i v w2 hr
        rw [hr]
        exact hK _ _ (wpList_execs h hq)
      · rename_i w2 hr
        rw [hr]
        exact hK _ _ (wpList_execs h hq)
      · cases h
theorem wp_region_execs {P : Program} {Q : Exit → Act → World → Prop} {id : Nat} {l : List Oper} {a : Act} {w : World} {v : Value} {W : World} {i : Nat}
    (h : (execs P l a w).map (fun x => (x.1.tmps.getD i undef, x.1.defers, x.2)) = some (v, [], W)) (hq : ∀ a' : Act, a'.tmps.getD i undef = v → a'.defers = [] → Q .normal a' W) : (Code.region id l.toArray false).wp P Q a w := by
  refine wp_region_lit ?_
  obtain ⟨⟨a', w'⟩, hx, he⟩ := Option.map_eq_some_iff.1 h
  simp only [Prod.mk.injEq] at he
  obtain ⟨e1, e2, rfl⟩ := he
  exact wpList_execs hx (hq a' e1 e2)
end Go.Proofs.YthmbhkgllfngmaaGreatDoor.ks
/- verbs: the table of commands as plain data, and in memory. -/
namespace Go.Proofs.YthmbhkgllfngmaaGreatDoor.ks
open Go.ChangeShapes Go.WideShapes Go.RowKit
set_option linter.unusedVariables false
set_option linter.unusedSimpArgs false
/-- A row of the table. -/
structure VRow where
  name : List UInt8
  arity : Int
  flags : Int
  first : Int
  last : Int
  jump : Int
def VRow.cells (r : VRow) : List Value := [.string ⟨r.name.toArray⟩, .int .i64 r.arity, .int .i64 r.flags, .int .i64 r.first, .int .i64 r.last, .int .i64 r.jump]

def rowsA : List VRow := [
  ⟨[65, 80, 80, 69, 78, 68], 3, 3, 1, 1, 1⟩,
  ⟨[66, 73, 84, 67, 79, 85, 78, 84], -2, 0, 1, 1, 1⟩,
  ⟨[67, 79, 80, 89], -3, 3, 1, 2, 1⟩,
  ⟨[68, 66, 83, 73, 90, 69], 1, 0, 0, 0, 0⟩,
  ⟨[68, 69, 67, 82], 2, 3, 1, 1, 1⟩,
  ⟨[68, 69, 67, 82, 66, 89], 3, 3, 1, 1, 1⟩,
  ⟨[68, 69, 76], -2, 1, 1, -1, 1⟩,
  ⟨[68, 73, 83, 67, 65, 82, 68], 1, 4, 0, 0, 0⟩,
  ⟨[69, 67, 72, 79], 2, 0, 0, 0, 0⟩,
  ⟨[69, 88, 69, 67], 1, 4, 0, 0, 0⟩,
  ⟨[69, 88, 73, 83, 84, 83], -2, 0, 1, -1, 1⟩,
  ⟨[69, 88, 80, 73, 82, 69], 3, 3, 1, 1, 1⟩,
  ⟨[69, 88, 80, 73, 82, 69, 65, 84], 3, 3, 1, 1, 1⟩,
  ⟨[70, 76, 85, 83, 72, 65, 76, 76], 1, 1, 0, 0, 0⟩,
  ⟨[71, 69, 84], 2, 0, 1, 1, 1⟩,
  ⟨[71, 69, 84, 66, 73, 84], 3, 0, 1, 1, 1⟩,
  ⟨[71, 69, 84, 68, 69, 76], 2, 1, 1, 1, 1⟩,
  ⟨[71, 69, 84, 82, 65, 78, 71, 69], 4, 0, 1, 1, 1⟩,
  ⟨[71, 69, 84, 83, 69, 84], 3, 3, 1, 1, 1⟩,
  ⟨[72, 68, 69, 76], -3, 1, 1, 1, 1⟩,
  ⟨[72, 69, 88, 73, 83, 84, 83], 3, 0, 1, 1, 1⟩,
  ⟨[72, 71, 69, 84], 3, 0, 1, 1, 1⟩,
  ⟨[72, 71, 69, 84, 65, 76, 76], 2, 0, 1, 1, 1⟩,
  ⟨[72, 73, 78, 67, 82, 66, 89], 4, 3, 1, 1, 1⟩,
  ⟨[72, 73, 78, 67, 82, 66, 89, 70, 76, 79, 65, 84], 4, 3, 1, 1, 1⟩,
  ⟨[72, 75, 69, 89, 83], 2, 0, 1, 1, 1⟩,
  ⟨[72, 76, 69, 78], 2, 0, 1, 1, 1⟩,
  ⟨[72, 77, 71, 69, 84], -3, 0, 1, 1, 1⟩,
  ⟨[72, 82, 65, 78, 68, 70, 73, 69, 76, 68], -2, 0, 1, 1, 1⟩,
  ⟨[72, 83, 67, 65, 78], -3, 0, 1, 1, 1⟩,
  ⟨[72, 83, 69, 84], -4, 3, 1, 1, 1⟩,
  ⟨[72, 83, 69, 84, 78, 88], 4, 3, 1, 1, 1⟩,
  ⟨[72, 83, 84, 82, 76, 69, 78], 3, 0, 1, 1, 1⟩,
  ⟨[72, 86, 65, 76, 83], 2, 0, 1, 1, 1⟩,
  ⟨[73, 78, 67, 82], 2, 3, 1, 1, 1⟩,
  ⟨[73, 78, 67, 82, 66, 89], 3, 3, 1, 1, 1⟩,
  ⟨[73, 78, 67, 82, 66, 89, 70, 76, 79, 65, 84], 3, 3, 1, 1, 1⟩,
  ⟨[75, 69, 89, 83], 2, 0, 0, 0, 0⟩,
  ⟨[76, 73, 78, 68, 69, 88], 3, 0, 1, 1, 1⟩,
  ⟨[76, 73, 78, 83, 69, 82, 84], 5, 3, 1, 1, 1⟩]
def rowsB : List VRow := [
  ⟨[76, 76, 69, 78], 2, 0, 1, 1, 1⟩,
  ⟨[76, 77, 79, 86, 69], 5, 3, 1, 2, 1⟩,
  ⟨[76, 80, 79, 80], -2, 1, 1, 1, 1⟩,
  ⟨[76, 80, 79, 83], -3, 0, 1, 1, 1⟩,
  ⟨[76, 80, 85, 83, 72], -3, 3, 1, 1, 1⟩,
  ⟨[76, 80, 85, 83, 72, 88], -3, 3, 1, 1, 1⟩,
  ⟨[76, 82, 65, 78, 71, 69], 4, 0, 1, 1, 1⟩,
  ⟨[76, 82, 69, 77], 4, 1, 1, 1, 1⟩,
  ⟨[76, 83, 69, 84], 4, 3, 1, 1, 1⟩,
  ⟨[76, 84, 82, 73, 77], 4, 1, 1, 1, 1⟩,
  ⟨[77, 71, 69, 84], -2, 0, 1, -1, 1⟩,
  ⟨[77, 83, 69, 84], -3, 3, 1, -1, 2⟩,
  ⟨[77, 83, 69, 84, 78, 88], -3, 3, 1, -1, 2⟩,
  ⟨[77, 85, 76, 84, 73], 1, 4, 0, 0, 0⟩,
  ⟨[80, 69, 82, 83, 73, 83, 84], 2, 1, 1, 1, 1⟩,
  ⟨[80, 69, 88, 80, 73, 82, 69], 3, 3, 1, 1, 1⟩,
  ⟨[80, 69, 88, 80, 73, 82, 69, 65, 84], 3, 3, 1, 1, 1⟩,
  ⟨[80, 73, 78, 71], -1, 8, 0, 0, 0⟩,
  ⟨[80, 83, 85, 66, 83, 67, 82, 73, 66, 69], -2, 12, 0, 0, 0⟩,
  ⟨[80, 84, 84, 76], 2, 0, 1, 1, 1⟩,
  ⟨[80, 85, 66, 76, 73, 83, 72], 3, 0, 0, 0, 0⟩,
  ⟨[80, 85, 78, 83, 85, 66, 83, 67, 82, 73, 66, 69], -1, 12, 0, 0, 0⟩,
  ⟨[81, 85, 73, 84], 1, 12, 0, 0, 0⟩,
  ⟨[82, 65, 78, 68, 79, 77, 75, 69, 89], 1, 0, 0, 0, 0⟩,
  ⟨[82, 69, 78, 65, 77, 69], 3, 3, 1, 2, 1⟩,
  ⟨[82, 69, 78, 65, 77, 69, 78, 88], 3, 3, 1, 2, 1⟩,
  ⟨[82, 80, 79, 80], -2, 1, 1, 1, 1⟩,
  ⟨[82, 80, 85, 83, 72], -3, 3, 1, 1, 1⟩,
  ⟨[82, 80, 85, 83, 72, 88], -3, 3, 1, 1, 1⟩,
  ⟨[83, 65, 68, 68], -3, 3, 1, 1, 1⟩,
  ⟨[83, 67, 65, 78], -2, 0, 0, 0, 0⟩,
  ⟨[83, 67, 65, 82, 68], 2, 0, 1, 1, 1⟩,
  ⟨[83, 68, 73, 70, 70], -2, 0, 1, -1, 1⟩,
  ⟨[83, 68, 73, 70, 70, 83, 84, 79, 82, 69], -3, 3, 1, -1, 1⟩,
  ⟨[83, 69, 84], -3, 3, 1, 1, 1⟩,
  ⟨[83, 69, 84, 66, 73, 84], 4, 3, 1, 1, 1⟩,
  ⟨[83, 69, 84, 78, 88], 3, 3, 1, 1, 1⟩,
  ⟨[83, 69, 84, 82, 65, 78, 71, 69], 4, 3, 1, 1, 1⟩,
  ⟨[83, 73, 78, 84, 69, 82], -2, 0, 1, -1, 1⟩,
  ⟨[83, 73, 78, 84, 69, 82, 83, 84, 79, 82, 69], -3, 3, 1, -1, 1⟩]
def rowsC : List VRow := [
  ⟨[83, 73, 83, 77, 69, 77, 66, 69, 82], 3, 0, 1, 1, 1⟩,
  ⟨[83, 77, 69, 77, 66, 69, 82, 83], 2, 0, 1, 1, 1⟩,
  ⟨[83, 77, 73, 83, 77, 69, 77, 66, 69, 82], -3, 0, 1, 1, 1⟩,
  ⟨[83, 77, 79, 86, 69], 4, 3, 1, 2, 1⟩,
  ⟨[83, 80, 79, 80], -2, 1, 1, 1, 1⟩,
  ⟨[83, 82, 65, 78, 68, 77, 69, 77, 66, 69, 82], -2, 0, 1, 1, 1⟩,
  ⟨[83, 82, 69, 77], -3, 1, 1, 1, 1⟩,
  ⟨[83, 83, 67, 65, 78], -3, 0, 1, 1, 1⟩,
  ⟨[83, 84, 82, 76, 69, 78], 2, 0, 1, 1, 1⟩,
  ⟨[83, 85, 66, 83, 67, 82, 73, 66, 69], -2, 12, 0, 0, 0⟩,
  ⟨[83, 85, 78, 73, 79, 78], -2, 0, 1, -1, 1⟩,
  ⟨[83, 85, 78, 73, 79, 78, 83, 84, 79, 82, 69], -3, 3, 1, -1, 1⟩,
  ⟨[84, 79, 85, 67, 72], -2, 0, 1, -1, 1⟩,
  ⟨[84, 84, 76], 2, 0, 1, 1, 1⟩,
  ⟨[84, 89, 80, 69], 2, 0, 1, 1, 1⟩,
  ⟨[85, 78, 83, 85, 66, 83, 67, 82, 73, 66, 69], -1, 12, 0, 0, 0⟩,
  ⟨[85, 78, 87, 65, 84, 67, 72], 1, 0, 0, 0, 0⟩,
  ⟨[87, 65, 84, 67, 72], -2, 4, 1, -1, 1⟩,
  ⟨[90, 65, 68, 68], -4, 3, 1, 1, 1⟩,
  ⟨[90, 67, 65, 82, 68], 2, 0, 1, 1, 1⟩,
  ⟨[90, 67, 79, 85, 78, 84], 4, 0, 1, 1, 1⟩,
  ⟨[90, 73, 78, 67, 82, 66, 89], 4, 3, 1, 1, 1⟩,
  ⟨[90, 77, 83, 67, 79, 82, 69], -3, 0, 1, 1, 1⟩,
  ⟨[90, 80, 79, 80, 77, 65, 88], -2, 1, 1, 1, 1⟩,
  ⟨[90, 80, 79, 80, 77, 73, 78], -2, 1, 1, 1, 1⟩,
  ⟨[90, 82, 65, 78, 71, 69], -4, 0, 1, 1, 1⟩,
  ⟨[90, 82, 65, 78, 71, 69, 66, 89, 83, 67, 79, 82, 69], -4, 0, 1, 1, 1⟩,
  ⟨[90, 82, 65, 78, 75], 3, 0, 1, 1, 1⟩,
  ⟨[90, 82, 69, 77], -3, 1, 1, 1, 1⟩,
  ⟨[90, 82, 69, 77, 82, 65, 78, 71, 69, 66, 89, 82, 65, 78, 75], 4, 1, 1, 1, 1⟩,
  ⟨[90, 82, 69, 77, 82, 65, 78, 71, 69, 66, 89, 83, 67, 79, 82, 69], 4, 1, 1, 1, 1⟩,
  ⟨[90, 82, 69, 86, 82, 65, 78, 75], 3, 0, 1, 1, 1⟩,
  ⟨[90, 83, 67, 79, 82, 69], 3, 0, 1, 1, 1⟩]
def tabA : Obj := .cells (rowsA.flatMap VRow.cells).toArray 79 (0, 0)
set_option maxRecDepth 100000 in
set_option maxHeartbeats 4000000 in
theorem rowsAC (w : World) : Calls Tryz.prog 160 #[] w fun r w' => r = .returned (.slice (some ⟨w.heap.size, 0, none⟩) 40 40) ∧ w' = w.alloc tabA := by
  go_enter Tryz.func160, Tryz.ntmps160
  go_upto_region 1 with (fail)
  refine wp_region_execs (i := 0) (v := .slice (some ⟨w.heap.size, 0, none⟩) 40 40) (W := w.alloc tabA) (by kernel_rfl) (fun a' h1 h2 => ?_)
  go_wp2_with fail
  refine bodyPost_ret (results_tmp rfl _ _ _) h2 ?_
  exact ⟨by rw [h1], rfl⟩
def tabB : Obj := .cells (rowsB.flatMap VRow.cells).toArray 79 (0, 0)
set_option maxRecDepth 100000 in
set_option maxHeartbeats 4000000 in
theorem rowsBC (w : World) : Calls Tryz.prog 161 #[] w fun r w' => r = .returned (.slice (some ⟨w.heap.size, 0, none⟩) 40 40) ∧ w' = w.alloc tabB := by
  go_enter Tryz.func161, Tryz.ntmps161
  go_upto_region 1 with (fail)
  refine wp_region_execs (i := 0) (v := .slice (some ⟨w.heap.size, 0, none⟩) 40 40) (W := w.alloc tabB) (by kernel_rfl) (fun a' h1 h2 => ?_)
  go_wp2_with fail
  refine bodyPost_ret (results_tmp rfl _ _ _) h2 ?_
  exact ⟨by rw [h1], rfl⟩
def tabC : Obj := .cells (rowsC.flatMap VRow.cells).toArray 79 (0, 0)
set_option maxRecDepth 100000 in
set_option maxHeartbeats 4000000 in
theorem rowsCC (w : World) : Calls Tryz.prog 162 #[] w fun r w' => r = .returned (.slice (some ⟨w.heap.size, 0, none⟩) 33 33) ∧ w' = w.alloc tabC := by
  go_enter Tryz.func162, Tryz.ntmps162
  go_upto_region 1 with (fail)
  refine wp_region_execs (i := 0) (v := .slice (some ⟨w.heap.size, 0, none⟩) 33 33) (W := w.alloc tabC) (by kernel_rfl) (fun a' h1 h2 => ?_)
  go_wp2_with fail
  refine bodyPost_ret (results_tmp rfl _ _ _) h2 ?_
  exact ⟨by rw [h1], rfl⟩
end Go.Proofs.YthmbhkgllfngmaaGreatDoor.ks
