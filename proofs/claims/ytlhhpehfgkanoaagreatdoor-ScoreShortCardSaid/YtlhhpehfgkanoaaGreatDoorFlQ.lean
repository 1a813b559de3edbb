/- Score's ParseBound, Add and Within at given words and floats. -/
import Derived.Test.YtlhhpehfgkanoaaGreatDoorFlP
import Derived.Test.YtlhhpehfgkanoaaGreatDoorFlF
import Derived.Handy
import Derived.Laws.ResultCell
/- Small walks for the law ScoreKnown: math's Copysign, NaN and Ldexp at given floats; score's ParseBound, Add and Within at given ones. -/
namespace Go.Proofs.YtlhhpehfgkanoaaGreatDoor.fl
open Go.ChangeShapes Go.WideShapes Go.ChangeAt Go.RowKit
set_option linter.unusedVariables false
set_option linter.unusedSimpArgs false
theorem copysignK (w : World) :
    Calls Tryz.prog 19 #[.float .f64 0, .float .f64 13830554455654793216] w fun e w' => e = .returned (.float .f64 9223372036854775808) ∧ w = w' := by
  have hb := f64bits
  have hf := f64from
  have h1 : bits BinOp.andNot IntKind.u64 0 9223372036854775808 = 0 := by decide +kernel
  have h2 : bits BinOp.and IntKind.u64 13830554455654793216 9223372036854775808 = 9223372036854775808 := by decide +kernel
  have h3 : bits BinOp.or IntKind.u64 0 9223372036854775808 = 9223372036854775808 := by decide +kernel
  go_enter Tryz.func19, Tryz.ntmps19
  go_wp2_with fail
  go_ret
  exact ⟨rfl, rfl⟩
theorem nanP (w : World) : Calls Tryz.prog 21 #[] w fun e w' => e = .returned (.float .f64 9221120237041090561) ∧ w = w' := by
  have hf := f64from
  go_enter Tryz.func21, Tryz.ntmps21
  go_wp2_with fail
  go_ret
  exact ⟨rfl, rfl⟩
set_option maxHeartbeats 1000000 in
theorem ldexpIK (w : World) :
    Calls Tryz.prog 40 #[.float .f64 4607182418800017408, .int .i64 (-44)] w fun e w' => e = .returned (.float .f64 4409024035195715584) ∧ w = w' := by
  have hb := f64bits
  have hf := f64from
  have ci := isInfC false 4607182418800017408 0 false w (by decide) (by decide) (by decide)
  have ho : FloatKind.f64.format.order 4607182418800017408 4607182418800017408 = some .eq := by decide +kernel
  have ho0 : FloatKind.f64.format.order 4607182418800017408 0 = some .gt := by decide +kernel
  rw [show sgw false + 4607182418800017408 = 4607182418800017408 from rfl] at ci
  have cn := isNaNC 4607182418800017408 false w (by rw [ho]; rfl)
  have cm := normBig 4607182418800017408 w (by decide) (by decide)
  have hq : ∀ w, _ := fun w => run_float_arith (P := Tryz.prog) w .mul 23 .f64 4607182418800017408 4409024035195715584 _ (mul_one_f (z := 4409024035195715584) (by decide) (by decide))
  have h1 : bits BinOp.and IntKind.i64 1023 2047 = 1023 := by decide +kernel
  have h2 : bits BinOp.andNot IntKind.u64 4607182418800017408 9218868437227405312 = 0 := by decide +kernel
  have h3 : bits BinOp.or IntKind.u64 0 4409024035195715584 = 4409024035195715584 := by decide +kernel
  clear ho
  go_enter Tryz.func40, Tryz.ntmps40
  go_wp2_with fail
  refine ci.mono ?_
  rintro e w' ⟨rfl, rfl⟩
  go_wp2_with fail
  refine cn.mono ?_
  rintro e w' ⟨rfl, rfl⟩
  go_wp2_with fail
  refine cm.mono ?_
  clear cm ci cn
  rintro e w' ⟨rfl, rfl⟩
  go_wp2_with fail
  go_ret
  exact ⟨rfl, rfl⟩
theorem ldexpK (w : World) :
    Calls Tryz.prog 20 #[.float .f64 4607182418800017408, .int .i64 (-44)] w fun e w' => e = .returned (.float .f64 4409024035195715584) ∧ w = w' := by
  have c := ldexpIK w
  go_enter Tryz.func20, Tryz.ntmps20
  go_wp2_with fail
  refine c.mono ?_
  rintro e w' ⟨rfl, rfl⟩
  go_wp2_with fail
  go_ret
  exact ⟨rfl, rfl⟩
end Go.Proofs.YtlhhpehfgkanoaaGreatDoor.fl
/- Score's ParseBound, Add and Within at given words and floats. -/
namespace Go.Proofs.YtlhhpehfgkanoaaGreatDoor.fl
open Go.ChangeShapes Go.WideShapes Go.ChangeAt Go.RowKit
set_option linter.unusedVariables false
set_option linter.unusedSimpArgs false
@[go_sem] theorem run_store_float {P : Program} {w : World} {a : Addr} {m : Mode} (k : FloatKind) (n : Nat) : (store a (.float k n) m).run P w = stored P w a (.float k n) m := run_store P w a _ m rfl
/-- Two cells of a block that the call made, in a later world. -/
theorem pair_kept {w w2 : World} {v u : Value} {t : TypeId} (hb : Below (w.alloc (.cells #[v, u] t)).heap.size (w.alloc (.cells #[v, u] t)) w2) :
    w2.cell? ⟨w.heap.size, 0, none⟩ = some v ∧ w2.cell? ⟨w.heap.size, 1, none⟩ = some u ∧ w2.frozen? ⟨w.heap.size, 0, none⟩ = false ∧ w2.frozen? ⟨w.heap.size, 1, none⟩ = false := by
  have hs : (w.alloc (.cells #[v, u] t)).heap.size = w.heap.size + 1 := Array.size_push _
  have hc : ∀ o, w2.cell? ⟨w.heap.size, o, none⟩ = (w.alloc (.cells #[v, u] t)).cell? ⟨w.heap.size, o, none⟩ := fun o => hb.cell (p := ⟨w.heap.size, o, none⟩) (by rw [hs]; exact Nat.lt_succ_self _)
  have hf : ∀ o, w2.frozen? ⟨w.heap.size, o, none⟩ = (w.alloc (.cells #[v, u] t)).frozen? ⟨w.heap.size, o, none⟩ := fun o => hb.frozen (p := ⟨w.heap.size, o, none⟩) (by rw [hs]; exact Nat.lt_succ_self _)
  rw [hc, hc, hf, hf, World.cell?_alloc_at _ _ _ _ rfl, World.cell?_alloc_at _ _ _ _ rfl, World.frozen?_alloc_at _ _ _ _ rfl, World.frozen?_alloc_at _ _ _ _ rfl]
  exact ⟨rfl, rfl, rfl, rfl⟩
/-- ParseBound where Parse takes the word. -/
theorem boundC (s t : ByteArray) (o : Bool) (x : Nat) (w : World) (hf : FO w)
    (hc : ∀ w, Calls Tryz.prog 41 #[.string s, .string ⟨#[40]⟩] w fun e w' => e = .returned (.tuple #[.string t, .bool o]) ∧ w' = w)
    (cp : ∀ w, FO w → Calls Tryz.prog 14 #[.string t] w (MnPost x w)) :
    Calls Tryz.prog 22 #[.string s] w fun e w' => e = .returned (.tuple #[.agg #[.float .f64 x, .bool o], .int .i64 0]) ∧ Below w.heap.size w w' := by
  have HF := fhid (hf.on (Below.alloc (Below.refl _ _) (Nat.le_refl _) (Obj.cells #[Value.float FloatKind.f64 0, Value.bool false] 45)))
  have HC := fhid cp
  have HB := fhid (Below.alloc (Below.refl w.heap.size w) (Nat.le_refl _) (Obj.cells #[Value.float FloatKind.f64 0, Value.bool false] 45))
  clear hf cp
  go_enter Tryz.func22, Tryz.ntmps22
  go_wp2_with fail
  with_reducible refine (hc _).mono ?_
  clear hc
  rintro e w1 ⟨rfl, rfl⟩
  go_wp2_with fail
  with_reducible refine (HC.out _ HF.out).mono ?_
  rintro e w2 ⟨rfl, hb⟩
  have hk := pair_kept hb
  have HB2 := fhid (HB.out.trans (hb.mono HB.out.size))
  clear hb HF HC HB
  obtain ⟨k1, k2, k3, k4⟩ := hk
  obtain ⟨n, hn⟩ : ∃ n, w.heap.size = n := ⟨_, rfl⟩
  rw [hn] at k1 k2 k3 k4 HB2 ⊢
  have HN := fhid hn
  clear hn
  go_wp2_with fail
  refine bodyPost_ret (v := .tuple #[.agg #[.float .f64 x, .bool o], .int .i64 0]) (by rw [results_cell_tmp rfl]; go_simp) rfl ?_
  exact ⟨rfl, by rw [HN.out]; exact (HB2.out.setCell (Nat.le_refl _) _).setCell (Nat.le_refl _) _⟩
/-- .. and where it refuses. -/
theorem boundNo (s t : ByteArray) (o : Bool) (w : World)
    (hc : ∀ w, Calls Tryz.prog 41 #[.string s, .string ⟨#[40]⟩] w fun e w' => e = .returned (.tuple #[.string t, .bool o]) ∧ w' = w)
    (cp : ∀ w, Calls Tryz.prog 14 #[.string t] w (ErPost w)) :
    Calls Tryz.prog 22 #[.string s] w fun e w' => e = .returned (.tuple #[.agg #[.float .f64 0, .bool false], .int .i64 20]) ∧ Below w.heap.size w w' := by
  have HC := fhid cp
  have HB := fhid (Below.alloc (Below.refl w.heap.size w) (Nat.le_refl _) (Obj.cells #[Value.float FloatKind.f64 0, Value.bool false] 45))
  clear cp
  go_enter Tryz.func22, Tryz.ntmps22
  go_wp2_with fail
  with_reducible refine (hc _).mono ?_
  clear hc
  rintro e w1 ⟨rfl, rfl⟩
  go_wp2_with fail
  with_reducible refine (HC.out _).mono ?_
  rintro e w2 ⟨rfl, hb⟩
  have hk := pair_kept hb
  have HB2 := fhid (HB.out.trans (hb.mono HB.out.size))
  clear hb HC HB
  obtain ⟨k1, k2, k3, k4⟩ := hk
  obtain ⟨n, hn⟩ : ∃ n, w.heap.size = n := ⟨_, rfl⟩
  rw [hn] at k1 k2 k3 k4 HB2 ⊢
  have HN := fhid hn
  clear hn
  go_wp2_with fail
  refine bodyPost_ret (v := .tuple #[.agg #[.float .f64 0, .bool false], .int .i64 20]) (by rw [results_cell_tmp rfl]; go_simp) rfl ?_
  exact ⟨rfl, by rw [HN.out]; exact (HB2.out.setCell (Nat.le_refl _) _).setCell (Nat.le_refl _) _⟩
/-- Score's Within. -/
def inB (c d : Option Ordering) (ol oh : Bool) : Bool :=
  (c == some .gt || (c == some .eq && !ol)) && (d == some .lt || (d == some .eq && !oh))
set_option maxHeartbeats 1000000 in
theorem withinC (x lo hi : Nat) (ol oh : Bool) (c d : Option Ordering) (w : World)
   (h1 : FloatKind.f64.format.order x lo = c) (h2 : FloatKind.f64.format.order x hi = d) :
    Calls Tryz.prog 24 #[.float .f64 x, .agg #[.float .f64 lo, .bool ol], .agg #[.float .f64 hi, .bool oh]] w
      fun e w' => e = .returned (.bool (inB c d ol oh)) ∧ Below w.heap.size w w' := by
  rcases c with _ | _ | _ | _ <;> rcases d with _ | _ | _ | _
  all_goals cases ol
  all_goals cases oh
  all_goals
    go_enter Tryz.func24, Tryz.ntmps24
    go_wp2_with fail
    go_ret
    exact ⟨rfl, by go_grown⟩
/-- Score's Add, where the sum is a float. -/
theorem addC (a b r : Nat) (w : World) (h : Ieee.double.add a b = some r) (ho : FloatKind.f64.format.order r r = some .eq) :
    Calls Tryz.prog 23 #[.float .f64 a, .float .f64 b] w fun e w' => e = .returned (.tuple #[.float .f64 r, .int .i64 0]) ∧ Below w.heap.size w w' := by
  have hr := fun (w : World) => run_float_arith (P := Tryz.prog) w .add 23 .f64 a b r h
  have cn := fun w => isNaNC r false w (by rw [ho]; rfl)
  clear h ho
  go_enter Tryz.func23, Tryz.ntmps23
  go_wp2_with fail
  refine (cn _).mono ?_
  rintro e w' ⟨rfl, rfl⟩
  go_wp2_with fail
  go_ret2
  exact ⟨rfl, Below.refl _ _⟩
theorem drawn_nan (t : Nat) : (Ieee.double.read ((t % 2) * 2 ^ 63 + 0x7ff0000000000000 + 1 + (t / 2) % (2 ^ 52 - 1))).isNaN = true := by
  have e : Ieee.double.signWeight = 2 ^ 63 := by decide
  have i : Ieee.double.infRung = 0x7ff0000000000000 := by decide
  have b : Ieee.double.binade = 2 ^ 52 := by decide
  have m : ((t % 2) * 2 ^ 63 + 0x7ff0000000000000 + 1 + (t / 2) % (2 ^ 52 - 1)) % 2 ^ 63 = 0x7ff0000000000000 + 1 + (t / 2) % (2 ^ 52 - 1) := by omega
  unfold Ieee.Format.read
  simp only [e, i, b, m]
  rw [if_neg (by omega), if_neg (by omega), if_neg (by omega)]
  rfl
theorem order_nan (x : Nat) (h : (Ieee.double.read x).isNaN = true) : Ieee.double.order x x = none := by
  unfold Ieee.Format.order
  cases hx : Ieee.double.read x with
  | nan => simp [Ieee.Datum.order]
  | infinity s => rw [hx] at h; cases h
  | number s m p => rw [hx] at h; cases h
/-- A sum that is not valid: a NaN, whose bits are drawn. -/
theorem run_add_nan {P : Program} (t : TypeId) (a b : Nat) (h : Ieee.double.add a b = none) (w : World) :
    ∃ n, Ieee.double.order n n = none ∧ (binOp .add t (.float .f64 a) (.float .f64 b)).run P w = .ok (.float .f64 n) w.drew := by
  refine ⟨_, order_nan _ (drawn_nan (w.tape w.drawn (.nanBits .f64 a b))), ?_⟩
  have h' : FloatKind.f64.format.add a b = none := h
  simp [binOp, Op.floatArith, h', choose, Sem.run, Question.forced, Question.cut]
theorem addNo (a b : Nat) (w : World) (h : Ieee.double.add a b = none) :
    Calls Tryz.prog 23 #[.float .f64 a, .float .f64 b] w fun e w' => e = .returned (.tuple #[.float .f64 0, .int .i64 20]) ∧ Below w.heap.size w w' := by
  obtain ⟨n, hn, hr⟩ := run_add_nan (P := Tryz.prog) 23 a b h w
  have cn := fun w => isNaNC n true w (by
    have : FloatKind.f64.format.order n n = none := hn
    rw [this]; rfl)
  clear h hn
  go_enter Tryz.func23, Tryz.ntmps23
  go_wp2_with fail
  refine (cn _).mono ?_
  rintro e w' ⟨rfl, rfl⟩
  go_wp2_with fail
  go_ret2
  exact ⟨rfl, (Below.refl _ _).drew⟩
end Go.Proofs.YtlhhpehfgkanoaaGreatDoor.fl
