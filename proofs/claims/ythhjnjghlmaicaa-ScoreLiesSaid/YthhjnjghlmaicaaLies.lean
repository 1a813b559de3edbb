/- ScoreLies: score.Within and pantryref02.Within answer alike at every float and every two ends. No condition. -/
import Derived.Test.YthhjnjghlmaicaaWithin
import Derived.Deep.RegionHeld3
namespace Go.Proofs.Ythhjnjghlmaicaa.scoreLies
open Go.ChangeShapes Go.WideShapes Go.ChangeAt Go.RowKit
open Go.ChangeMaps (open_string shut_string)
open Floats
set_option linter.unusedVariables false

theorem own : ownKnob Try.prog.godebug = none := by kernel_rfl

theorem fb (a : Int) (w : World) : (callFunc 6 #[.int .u64 a]).run Try.prog w = .ok (.value (.float .f64 a.toNat)) w := by kernel_rfl

@[go_sem] theorem run_store_float {P : Program} {w : World} {a : Addr} {m : Mode} (k : FloatKind) (n : Nat) : (store a (.float k n) m).run P w = stored P w a (.float k n) m := run_store P w a _ m rfl

theorem keepS {n : Nat} {x y : Nat} {p q : Bool} {w w1 w2 : World} (h : w1.cell? ⟨n, 0, none⟩ = some (.float .f64 x) ∧ w1.cell? ⟨n, 1, none⟩ = some (.bool p) ∧ w1.cell? ⟨n + 1, 0, none⟩ = some (.float .f64 y) ∧ w1.cell? ⟨n + 1, 1, none⟩ = some (.bool q) ∧ n + 1 < w1.heap.size ∧ Below n w w1)
    (hb : Below w1.heap.size w1 w2) : w2.cell? ⟨n, 0, none⟩ = some (.float .f64 x) ∧ w2.cell? ⟨n, 1, none⟩ = some (.bool p) ∧ w2.cell? ⟨n + 1, 0, none⟩ = some (.float .f64 y) ∧ w2.cell? ⟨n + 1, 1, none⟩ = some (.bool q) ∧ n + 1 < w2.heap.size ∧ Below n w w2 := by
  obtain ⟨h1, h2, h3, h4, h5, h6⟩ := h
  have hc : ∀ b o, b ≤ n + 1 → w2.cell? ⟨b, o, none⟩ = w1.cell? ⟨b, o, none⟩ := fun b o h => hb.cell (p := ⟨b, o, none⟩) (by show b < _; omega)
  exact ⟨by rw [hc _ _ (by omega)]; exact h1, by rw [hc _ _ (by omega)]; exact h2, by rw [hc _ _ (by omega)]; exact h3, by rw [hc _ _ (by omega)]; exact h4, by have := hb.size; omega, h6.trans (hb.mono (by omega))⟩

set_option maxHeartbeats 1000000 in
theorem walk (a0 : Int) (a1 : Int) (a2 : Int) (a3 : Bool) (a4 : Bool) (w0 : (Lit.int .u64 a0).wf = true) (w1 : (Lit.int .u64 a1).wf = true) (w2 : (Lit.int .u64 a2).wf = true) (w : World) :
    Calls Try.prog 3 #[.int .u64 a0, .int .u64 a1, .int .u64 a2, .bool a3, .bool a4] w fun e w' => e = .returned (.bool true) ∧ Below w.heap.size w w' := by
  have hfb := fb
  clear w0 w1 w2
  go_enter Try.func3, Try.ntmps3
  go_wp2
  go_region_held3 (fun w' => w'.cell? ⟨w.heap.size, 0, none⟩ = some (.float .f64 a1.toNat) ∧ w'.cell? ⟨w.heap.size, 1, none⟩ = some (.bool a3) ∧ w'.cell? ⟨w.heap.size + 1, 0, none⟩ = some (.float .f64 a2.toNat) ∧ w'.cell? ⟨w.heap.size + 1, 1, none⟩ = some (.bool a4) ∧ w.heap.size + 1 < w'.heap.size ∧ Below w.heap.size w w') (first | exact keepS ‹_› ‹_› | (refine ⟨by simp, by simp, by simp, by simp, by simp, ?_⟩; go_grown))
    (first | (go_at_call 7; refine (within_any _ _ _ _ _ _).mono ?_; rintro e w' ⟨rfl, hb⟩) | (go_at_call 8; refine (withinR_any _ _ _ _ _ _).mono ?_; rintro e w' ⟨rfl, hb⟩))
  have hS : Below w.heap.size w w' := by
    rename_i hHeld
    exact hHeld.2.2.2.2.2
  clear hb
  go_wp2
  go_ret
  exact ⟨rfl, hS⟩

set_option maxRecDepth 100000 in
theorem lifted (os : Os) (started : os.Started) (H : Type) (enc : TypeId × Value → H) :
    ReturnsInHanded {} Try.checked os 3 .any (Rows.scoreLiesSpec.pre6 enc Try.prog Try.f3 Rows.scoreLiesRow.domain false) (Rows.scoreLiesSpec.post enc Try.prog Try.f3 false true false false) := by
  refine returnsInHanded_of_change (C := Try.checked) own started (by kernel_rfl) Try.func3
    (ChangeSpec.witness6 (enc := enc) (C := Try.checked) false ⟨#[], #[.int .u64 0, .int .u64 0, .int .u64 0, .bool false, .bool false], []⟩ 8 (by kernel_rfl) (by kernel_rfl) (by kernel_rfl) (by kernel_rfl)) ?_
  intro W base args ds gs before hval0 hW hcnd _
  have hval : ∀ (j : Nat) t v, Try.f3.params[j]? = some t → args[j]? = some v → Value.okWide Try.prog W .any base t v := hval0
  have hW' := hW
  obtain ⟨p, q, hA0, hV, rfl, hfz, hnd⟩ := hW
  have hA : DataW.TrodAll enc Try.prog W 0 (fun _ => true) true Try.f3.params.toList args.toList ds p := hA0
  rw [Try.params3] at hA hval
  obtain ⟨v0, vs0, d0, ds0, p0, q0, hargs, rfl, rfl, h0, r0⟩ := trodAll_cons hA
  obtain ⟨v1, vs1, d1, ds1, p1, q1, rfl, rfl, rfl, h1, r1⟩ := trodAll_cons r0
  obtain ⟨v2, vs2, d2, ds2, p2, q2, rfl, rfl, rfl, h2, r2⟩ := trodAll_cons r1
  obtain ⟨v3, vs3, d3, ds3, p3, q3, rfl, rfl, rfl, h3, r3⟩ := trodAll_cons r2
  obtain ⟨v4, vs4, d4, ds4, p4, q4, rfl, rfl, rfl, h4, r4⟩ := trodAll_cons r3
  obtain ⟨rfl, rfl, rfl⟩ := trodAll_nil r4
  obtain rfl : args = #[v0, v1, v2, v3, v4] := by cases args; simp_all
  obtain ⟨rfl, rfl⟩ := trodVars_none hV
  obtain ⟨a0, rfl, rfl, rfl, w0⟩ := open_int Try.underlying22 (hval 0 22 v0 rfl rfl) h0
  obtain ⟨a1, rfl, rfl, rfl, w1⟩ := open_int Try.underlying22 (hval 1 22 v1 rfl rfl) h1
  obtain ⟨a2, rfl, rfl, rfl, w2⟩ := open_int Try.underlying22 (hval 2 22 v2 rfl rfl) h2
  obtain ⟨a3, rfl, rfl, rfl⟩ := open_bool Try.underlying4 (hval 3 4 v3 rfl rfl) h3
  obtain ⟨a4, rfl, rfl, rfl⟩ := open_bool Try.underlying4 (hval 4 4 v4 rfl rfl) h4
  clear hA0 hval0
  refine (walk a0 a1 a2 a3 a4 w0 w1 w2 W).mono fun e W' ⟨he, bel⟩ => ?_
  subst he
  exact ⟨_, rfl, _, _, _, [], _, [], hW', trodAll_mk1 (shut_bool Try.underlying4 _), (trodAll_cons_mk (shut_int Try.underlying22 w0) (trodAll_cons_mk (shut_int Try.underlying22 w1) (trodAll_cons_mk (shut_int Try.underlying22 w2) (trodAll_cons_mk (shut_bool Try.underlying4 _) (trodAll_cons_mk (shut_bool Try.underlying4 _) trodAll_mk0))))), rfl, bel.frame _, fun h => by cases h⟩

theorem over : Rows.scoreLiesRow.holds Try.pinned (OpenSpec.ofChange Rows.scoreLiesSpec) :=
  OpenClaim.holds_of_wide 3 Try.f3 rfl rfl rfl rfl rfl rfl rfl ⟨rfl, rfl, rfl, rfl, rfl⟩ rfl rfl rfl rfl rfl (by kernel_rfl) Try.func3 (by kernel_rfl)
    (of_decide_eq_true (by kernel_rfl)) (by unfold Func.isWrapper; first | (rw [if_pos (by decide +kernel)]; kernel_rfl) | (rw [if_neg (by decide +kernel)]; exact ⟨rfl, rfl⟩))
    (fun os started H enc _ => lifted os started H enc)

theorem proved : Rows.ScoreLiesSaid := over
#print axioms proved
end Go.Proofs.Ythhjnjghlmaicaa.scoreLies
