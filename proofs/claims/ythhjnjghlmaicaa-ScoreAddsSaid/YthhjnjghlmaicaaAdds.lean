/- ScoreAdds: score.Add and pantryref02.Add answer alike at every two floats. No condition. -/
import Derived.Test.YthhjnjghlmaicaaWithin
namespace Go.Proofs.Ythhjnjghlmaicaa.scoreAdds
open Go.ChangeShapes Go.WideShapes Go.ChangeAt Go.RowKit
open Go.ChangeMaps (open_string shut_string)
open Floats Ieee
set_option linter.unusedVariables false

theorem own : ownKnob Try.prog.godebug = none := by kernel_rfl

theorem fb (a : Int) (w : World) : (callFunc 6 #[.int .u64 a]).run Try.prog w = .ok (.value (.float .f64 a.toNat)) w := by kernel_rfl
theorem fbits (a : Nat) (w : World) : (callFunc 19 #[.float .f64 a]).run Try.prog w = .ok (.value (.int .u64 a)) w := by kernel_rfl

theorem read_word (neg : Bool) (rung : Nat) (h : rung ≤ Ieee.double.infRung) : (Ieee.double.read (Ieee.double.word neg rung)).isNaN = false := by
  have hs : Ieee.double.infRung < Ieee.double.signWeight := Ieee.double.infRung_lt
  have e : Ieee.double.word neg rung % Ieee.double.signWeight = rung := by
    unfold Format.word
    cases neg
    · simp; exact Nat.mod_eq_of_lt (by omega)
    · simp; exact Nat.mod_eq_of_lt (by omega)
  unfold Format.read
  simp only [e]
  split
  · rfl
  · split
    · rfl
    · split
      · rfl
      · omega

theorem write_not_nan (d : Datum) (h : d.isNaN = false) : (Ieee.double.read (Ieee.double.write d)).isNaN = false := by
  cases d with
  | nan => cases h
  | infinity s => exact read_word _ _ (Nat.le_refl _)
  | number s m p =>
    unfold Format.write Format.nearest
    dsimp only
    split
    · exact read_word _ _ (Nat.zero_le _)
    · exact read_word _ _ (Nat.min_le_right _ _)

theorem order_self (x : Nat) (h : (Ieee.double.read x).isNaN = false) : Ieee.double.order x x = some .eq := by
  unfold Format.order
  cases hx : Ieee.double.read x with
  | nan => rw [hx] at h; cases h
  | infinity s => simp [Datum.order]
  | number s m p => simp [Datum.order]

theorem order_nan (x : Nat) (h : (Ieee.double.read x).isNaN = true) : Ieee.double.order x x = none := by
  unfold Format.order
  cases hx : Ieee.double.read x with
  | nan => simp [Datum.order]
  | infinity s => rw [hx] at h; cases h
  | number s m p => rw [hx] at h; cases h

theorem sum_not_nan (a b d : Datum) (h : a.sum b = some d) : d.isNaN = false := by
  cases a <;> cases b <;> simp [Datum.sum] at h
  · rw [← h]; rfl
  · rw [← h]; rfl
  · rw [← h]; rfl
  · rw [← h.2]; rfl

theorem add_self {a b r : Nat} (h : Ieee.double.add a b = some r) : Ieee.double.order r r = some .eq := by
  unfold Format.add at h
  obtain ⟨d, hd, rfl⟩ := Option.map_eq_some_iff.1 h
  exact order_self _ (write_not_nan d (sum_not_nan _ _ _ hd))

/-- The bits that the model draws for a NaN are those of a NaN. -/
theorem drawn_nan (t : Nat) : (Ieee.double.read ((t % 2) * 2 ^ 63 + 0x7ff0000000000000 + 1 + (t / 2) % (2 ^ 52 - 1))).isNaN = true := by
  have e : Ieee.double.signWeight = 2 ^ 63 := by decide
  have i : Ieee.double.infRung = 0x7ff0000000000000 := by decide
  have b : Ieee.double.binade = 2 ^ 52 := by decide
  have m : ((t % 2) * 2 ^ 63 + 0x7ff0000000000000 + 1 + (t / 2) % (2 ^ 52 - 1)) % 2 ^ 63 = 0x7ff0000000000000 + 1 + (t / 2) % (2 ^ 52 - 1) := by omega
  unfold Format.read
  simp only [e, i, b, m]
  rw [if_neg (by omega), if_neg (by omega), if_neg (by omega)]
  rfl

/-- A sum that is not valid: a NaN, whose bits are drawn. -/
theorem run_add_nan {P : Program} (t : TypeId) (a b : Nat) (h : Ieee.double.add a b = none) (w : World) :
    ∃ n, Ieee.double.order n n = none ∧ (binOp .add t (.float .f64 a) (.float .f64 b)).run P w = .ok (.float .f64 n) w.drew := by
  refine ⟨_, order_nan _ (drawn_nan (w.tape w.drawn (.nanBits .f64 a b))), ?_⟩
  have h' : FloatKind.f64.format.add a b = none := h
  simp [binOp, Op.floatArith, h', choose, Sem.run, Question.forced, Question.cut]

def addF (a b : Nat) : Nat := match Ieee.double.add a b with | some r => r | none => 0
def addC (a b : Nat) : Int := match Ieee.double.add a b with | some _ => 0 | none => 20

theorem refAdd (a b : Nat) (w : World) : Calls Try.prog 9 #[.float .f64 a, .float .f64 b] w fun e w' => e = .returned (.tuple #[.float .f64 (addF a b), .int .i64 (addC a b)]) ∧ Below w.heap.size w w' := by
  cases h : Ieee.double.add a b with
  | some r =>
    have hr := fun (w : World) => run_float_arith (P := Try.prog) w .add 23 .f64 a b r h
    have ho : FloatKind.f64.format.order r r = some .eq := add_self h
    have e1 : addF a b = r := by simp [addF, h]
    have e2 : addC a b = 0 := by simp [addC, h]
    rw [e1, e2]
    clear h e1 e2
    go_enter Try.func9, Try.ntmps9
    go_wp2
    go_ret2
    exact ⟨rfl, Below.refl _ _⟩
  | none =>
    have e1 : addF a b = 0 := by simp [addF, h]
    have e2 : addC a b = 20 := by simp [addC, h]
    rw [e1, e2]
    obtain ⟨n, hn, hr⟩ := run_add_nan (P := Try.prog) 23 a b h w
    have ho : FloatKind.f64.format.order n n = none := hn
    clear h e1 e2 hn
    go_enter Try.func9, Try.ntmps9
    go_wp2
    go_ret2
    exact ⟨rfl, (Below.refl _ _).drew⟩

theorem isNaN_any (a : Nat) (w : World) : Calls Try.prog 18 #[.float .f64 a] w fun e w' => e = .returned (.bool (FloatKind.f64.format.order a a != some .eq)) ∧ w = w' := by
  go_enter Try.func18, Try.ntmps18
  go_wp2
  go_ret
  exact ⟨rfl, rfl⟩

theorem add_any (a b : Nat) (w : World) : Calls Try.prog 10 #[.float .f64 a, .float .f64 b] w fun e w' => e = .returned (.tuple #[.float .f64 (addF a b), .int .i64 (addC a b)]) ∧ Below w.heap.size w w' := by
  cases h : Ieee.double.add a b with
  | some r =>
    have hr := fun (w : World) => run_float_arith (P := Try.prog) w .add 23 .f64 a b r h
    have ho : FloatKind.f64.format.order r r = some .eq := add_self h
    have e1 : addF a b = r := by simp [addF, h]
    have e2 : addC a b = 0 := by simp [addC, h]
    rw [e1, e2]
    clear h e1 e2
    go_enter Try.func10, Try.ntmps10
    go_wp2
    go_ret2
    exact ⟨rfl, Below.refl _ _⟩
  | none =>
    have e1 : addF a b = 0 := by simp [addF, h]
    have e2 : addC a b = 20 := by simp [addC, h]
    rw [e1, e2]
    obtain ⟨n, hn, hr⟩ := run_add_nan (P := Try.prog) 23 a b h w
    have ho : FloatKind.f64.format.order n n = none := hn
    clear h e1 e2 hn
    go_enter Try.func10, Try.ntmps10
    go_wp2
    go_ret2
    exact ⟨rfl, (Below.refl _ _).drew⟩

theorem order_zero : Ieee.double.order 0 0 = some .eq := by decide +kernel

theorem addF_self (a b : Nat) : FloatKind.f64.format.order (addF a b) (addF a b) = some .eq := by
  show Ieee.double.order (addF a b) (addF a b) = some .eq
  unfold addF
  split
  · rename_i r h; exact add_self h
  · exact order_zero

theorem alike_self (r : Nat) (h : FloatKind.f64.format.order r r = some .eq) (w : World) : Calls Try.prog 11 #[.float .f64 r, .float .f64 r] w fun e w' => e = .returned (.bool true) ∧ Below w.heap.size w w' := by
  have h1 := fbits
  go_enter Try.func11, Try.ntmps11
  go_wp2
  go_ret
  exact ⟨rfl, Below.refl _ _⟩

set_option maxHeartbeats 1000000 in
theorem walk (a0 : Int) (a1 : Int) (w : World) :
    Calls Try.prog 4 #[.int .u64 a0, .int .u64 a1] w fun e w' => e = .returned (.bool true) ∧ Below w.heap.size w w' := by
  have hfb := fb
  go_enter Try.func4, Try.ntmps4
  go_wp2_with fail
  refine (refAdd _ _ _).mono ?_
  rintro e w1 ⟨rfl, hb1⟩
  go_wp2_with fail
  refine (add_any _ _ _).mono ?_
  rintro e w2 ⟨rfl, hb2⟩
  go_wp2_with fail
  refine (alike_self _ (addF_self _ _) _).mono ?_
  rintro e w3 ⟨rfl, hb3⟩
  go_wp2_with fail
  go_ret
  exact ⟨rfl, hb1.trans ((hb2.mono hb1.size).trans (hb3.mono (Nat.le_trans hb1.size hb2.size)))⟩

set_option maxRecDepth 100000 in
theorem lifted (os : Os) (started : os.Started) (H : Type) (enc : TypeId × Value → H) :
    ReturnsInHanded {} Try.checked os 4 .any (Rows.scoreAddsSpec.pre6 enc Try.prog Try.f4 Rows.scoreAddsRow.domain false) (Rows.scoreAddsSpec.post enc Try.prog Try.f4 false true false false) := by
  refine returnsInHanded_of_change (C := Try.checked) own started (by kernel_rfl) Try.func4
    (ChangeSpec.witness6 (enc := enc) (C := Try.checked) false ⟨#[], #[.int .u64 0, .int .u64 0], []⟩ 8 (by kernel_rfl) (by kernel_rfl) (by kernel_rfl) (by kernel_rfl)) ?_
  intro W base args ds gs before hval0 hW hcnd _
  have hval : ∀ (j : Nat) t v, Try.f4.params[j]? = some t → args[j]? = some v → Value.okWide Try.prog W .any base t v := hval0
  have hW' := hW
  obtain ⟨p, q, hA0, hV, rfl, hfz, hnd⟩ := hW
  have hA : DataW.TrodAll enc Try.prog W 0 (fun _ => true) true Try.f4.params.toList args.toList ds p := hA0
  rw [Try.params4] at hA hval
  obtain ⟨v0, vs0, d0, ds0, p0, q0, hargs, rfl, rfl, h0, r0⟩ := trodAll_cons hA
  obtain ⟨v1, vs1, d1, ds1, p1, q1, rfl, rfl, rfl, h1, r1⟩ := trodAll_cons r0
  obtain ⟨rfl, rfl, rfl⟩ := trodAll_nil r1
  obtain rfl : args = #[v0, v1] := by cases args; simp_all
  obtain ⟨rfl, rfl⟩ := trodVars_none hV
  obtain ⟨a0, rfl, rfl, rfl, w0⟩ := open_int Try.underlying22 (hval 0 22 v0 rfl rfl) h0
  obtain ⟨a1, rfl, rfl, rfl, w1⟩ := open_int Try.underlying22 (hval 1 22 v1 rfl rfl) h1
  clear hA0 hval0
  refine (walk a0 a1 W).mono fun e W' ⟨he, bel⟩ => ?_
  subst he
  exact ⟨_, rfl, _, _, _, [], _, [], hW', trodAll_mk1 (shut_bool Try.underlying4 _), (trodAll_cons_mk (shut_int Try.underlying22 w0) (trodAll_cons_mk (shut_int Try.underlying22 w1) trodAll_mk0)), rfl, bel.frame _, fun h => by cases h⟩

theorem over : Rows.scoreAddsRow.holds Try.pinned (OpenSpec.ofChange Rows.scoreAddsSpec) :=
  OpenClaim.holds_of_wide 4 Try.f4 rfl rfl rfl rfl rfl rfl rfl ⟨rfl, rfl, rfl, rfl, rfl⟩ rfl rfl rfl rfl rfl (by kernel_rfl) Try.func4 (by kernel_rfl)
    (of_decide_eq_true (by kernel_rfl)) (by unfold Func.isWrapper; first | (rw [if_pos (by decide +kernel)]; kernel_rfl) | (rw [if_neg (by decide +kernel)]; exact ⟨rfl, rfl⟩))
    (fun os started H enc _ => lifted os started H enc)

theorem proved : Rows.ScoreAddsSaid := over
#print axioms proved
end Go.Proofs.Ythhjnjghlmaicaa.scoreAdds
