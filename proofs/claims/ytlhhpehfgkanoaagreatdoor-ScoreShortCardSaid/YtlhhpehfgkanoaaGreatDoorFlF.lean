/- The walk of score's shortest. -/
import Derived.Test.YtlhhpehfgkanoaaGreatDoorFlE
import Derived.Test.YtlhhpehfgkanoaaGreatDoorFlC
import Derived.Test.YtlhhpehfgkanoaaGreatDoorFlD
/- The walks of math's small functions: IsNaN, IsInf, Abs, Copysign, Signbit. -/
namespace Go.Proofs.YtlhhpehfgkanoaaGreatDoor.fl
open Go.ChangeShapes Go.WideShapes Go.ChangeAt Go.RowKit Ieee
set_option linter.unusedVariables false
theorem f64bits (a : Nat) (w : World) : (callFunc 31 #[.float .f64 a]).run Tryz.prog w = .ok (.value (.int .u64 a)) w := by kernel_rfl
theorem f64from (a : Int) (w : World) : (callFunc 9 #[.int .u64 a]).run Tryz.prog w = .ok (.value (.float .f64 a.toNat)) w := by kernel_rfl
theorem neg_any (s : Bool) (u : Nat) (h : u < 9223372036854775808) : Op.negFloat .f64 (sgw s + u) = sgw (!s) + u := by
  have key : u ^^^ 9223372036854775808 = 9223372036854775808 + u := by
    have ha : u &&& 9223372036854775808 = 0 := by
      rw [and_63]; have : u / 9223372036854775808 = 0 := by omega
      rw [this]
    have hx : u ^^^ 9223372036854775808 = u ||| 9223372036854775808 := by
      apply Nat.eq_of_testBit_eq
      intro i
      have h1 : (u &&& 9223372036854775808).testBit i = false := by rw [ha]; simp
      rw [Nat.testBit_and] at h1
      rw [Nat.testBit_xor, Nat.testBit_or]
      cases hA : u.testBit i <;> cases hB : Nat.testBit 9223372036854775808 i <;> simp_all
    rw [hx, Nat.or_comm, nat_join 63 9223372036854775808 u (by decide) (by omega)]
  show (sgw s + u) ^^^ 9223372036854775808 = sgw (!s) + u
  cases s
  · show (0 + u) ^^^ _ = 9223372036854775808 + u
    rw [Nat.zero_add, key]
  · show (9223372036854775808 + u) ^^^ _ = 0 + u
    rw [← key, Nat.xor_assoc, Nat.xor_self, Nat.xor_zero, Nat.zero_add]
theorem read_inf (s : Bool) : Ieee.double.read (sgw s + infR) = .infinity s := by cases s <;> decide +kernel
theorem read_nan (s : Bool) (u : Nat) (h1 : infR < u) (h2 : u < 9223372036854775808) : ∃ a b, Ieee.double.read (sgw s + u) = .nan a b := by
  have hi : infR = 9218868437227405312 := rfl
  have hB : B = 4503599627370496 := rfl
  have e1 : (sgw s + u) % 9223372036854775808 = u := by cases s <;> simp [sgw] <;> omega
  unfold Format.read
  simp only [d_sw, d_bin, d_inf, d_least, e1]
  rw [if_neg (by omega), if_neg (by omega), if_neg (by omega)]
  exact ⟨_, _, rfl⟩
theorem ord_self (s : Bool) (u : Nat) (h : u ≤ infR) : Ieee.double.order (sgw s + u) (sgw s + u) = some .eq := by
  rcases Nat.lt_or_eq_of_le h with h1 | h1
  · rw [order_val s s u u h1 h1]; simp
  · subst h1
    unfold Format.order
    rw [read_inf]
    simp [Datum.order]
theorem ord_nan (s : Bool) (u v : Nat) (h1 : infR < u) (h2 : u < 9223372036854775808) : Ieee.double.order (sgw s + u) v = none := by
  obtain ⟨a, b, e⟩ := read_nan s u h1 h2
  unfold Format.order
  rw [e]
  simp [Datum.order]
theorem ord_max (s : Bool) (u : Nat) (h : u ≤ infR) : ∃ o, Ieee.double.order (sgw s + u) 9218868437227405311 = some o ∧ (o = .gt ↔ s = false ∧ u = infR) := by
  have hm : (9218868437227405311 : Nat) = sgw false + (infR - 1) := by decide
  rcases Nat.lt_or_eq_of_le h with h1 | h1
  · have hv := order_val s false u (infR - 1) h1 (by decide)
    rw [← hm] at hv
    refine ⟨_, hv, ?_⟩
    have hle : V u ≤ V (infR - 1) := V_le (by omega)
    rw [Int.compare_eq_gt]
    simp only [sI]
    constructor
    · intro hh
      cases s <;> simp at hh <;> omega
    · rintro ⟨_, e⟩; omega
  · subst h1
    obtain ⟨m, i, r⟩ := reads false (infR - 1) (by decide)
    have hr := r.read
    rw [← hm] at hr
    unfold Format.order
    rw [read_inf, hr]
    refine ⟨_, rfl, ?_⟩
    cases s <;> simp
theorem ord_zero (s : Bool) (u : Nat) (h : u < infR) : ∃ o, Ieee.double.order (sgw s + u) 0 = some o ∧ (o = .eq ↔ u = 0) ∧ (o = .lt ↔ s = true ∧ 0 < u) := by
  have hv := order_val s false u 0 h (by decide)
  rw [show sgw false + 0 = 0 from rfl] at hv
  refine ⟨_, hv, ?_, ?_⟩
  · rw [Int.compare_eq_eq, V_zero]
    have hg := V_ge u
    have hz : u = 0 → V u = 0 := fun e => by rw [e]; exact V_zero
    cases s <;> simp [sI] <;> omega
  · rw [Int.compare_eq_lt, V_zero]
    have hg := V_ge u
    have hz : u = 0 → V u = 0 := fun e => by rw [e]; exact V_zero
    cases s <;> simp [sI] <;> omega
theorem isNaNC (x : Nat) (b : Bool) (w : World) (h : (FloatKind.f64.format.order x x != some .eq) = b) :
    Calls Tryz.prog 25 #[.float .f64 x] w fun e w' => e = .returned (.bool b) ∧ w = w' := by
  have H := fhid h
  clear h
  go_enter Tryz.func25, Tryz.ntmps25
  go_wp2_with fail
  go_ret
  exact ⟨by rw [← H.out]; rfl, rfl⟩
theorem absC (s : Bool) (u : Nat) (w : World) (h : u < 9223372036854775808) :
    Calls Tryz.prog 29 #[.float .f64 (sgw s + u)] w fun e w' => e = .returned (.float .f64 u) ∧ w = w' := by
  have hz := zabs (sgw s + u) (by cases s <;> simp [sgw] <;> omega)
  rw [show (sgw s + u) % 9223372036854775808 = u by cases s <;> simp [sgw] <;> omega] at hz
  have hb := f64bits (sgw s + u)
  have hf := f64from
  obtain ⟨x, hx⟩ : ∃ x, sgw s + u = x := ⟨_, rfl⟩
  rw [hx] at hz hb ⊢
  clear hx h
  go_enter Tryz.func29, Tryz.ntmps29
  go_wp2_with fail
  go_ret
  exact ⟨by simp, rfl⟩
theorem isInfC (s : Bool) (u : Nat) (k : Int) (b : Bool) (w : World) (h : u ≤ infR) (hk : k = 1 ∨ k = -1 ∨ k = 0) (hb : b = decide (u = infR ∧ (k = 1 → s = false) ∧ (k = -1 → s = true))) :
    Calls Tryz.prog 26 #[.float .f64 (sgw s + u), .int .i64 k] w fun e w' => e = .returned (.bool b) ∧ w = w' := by
  have hu : u < 9223372036854775808 := Nat.lt_of_le_of_lt h (by decide)
  rcases hk with rfl | rfl | rfl
  · obtain ⟨o, ho, hg⟩ := ord_max s u h
    have ho' : FloatKind.f64.format.order (sgw s + u) 9218868437227405311 = some o := ho
    have hbo : Hid (b = (o == .gt)) := fhid (by rw [hb, Bool.eq_iff_iff]; simp [hg]; exact And.comm)
    obtain ⟨x, hx⟩ : ∃ x, sgw s + u = x := ⟨_, rfl⟩
    rw [hx] at ho' ⊢
    clear hx h hb ho hg
    rcases o with _ | _ | _
    all_goals
      go_enter Tryz.func26, Tryz.ntmps26
      go_wp2_with fail
      go_ret
      exact ⟨by rw [hbo.out]; rfl, rfl⟩
  · obtain ⟨o, ho, hg⟩ := ord_max (!s) u h
    have ho' : FloatKind.f64.format.order (sgw (!s) + u) 9218868437227405311 = some o := ho
    have hbo : Hid (b = (o == .gt)) := fhid (by rw [hb, Bool.eq_iff_iff]; simp [hg]; exact And.comm)
    have hn := neg_any s u hu
    obtain ⟨x, hx⟩ : ∃ x, sgw s + u = x := ⟨_, rfl⟩
    obtain ⟨y, hy⟩ : ∃ x, sgw (!s) + u = x := ⟨_, rfl⟩
    rw [hy] at ho' hn
    rw [hx] at hn ⊢
    clear hx hy h hb ho hg
    rcases o with _ | _ | _
    all_goals
      go_enter Tryz.func26, Tryz.ntmps26
      go_wp2_with fail
      go_ret
      exact ⟨by rw [hbo.out]; rfl, rfl⟩
  · obtain ⟨o, ho, hg⟩ := ord_max false u h
    rw [show sgw false + u = u from Nat.zero_add u] at ho
    have ho' : FloatKind.f64.format.order u 9218868437227405311 = some o := ho
    have hbo : Hid (b = (o == .gt)) := fhid (by rw [hb, Bool.eq_iff_iff]; simp [hg])
    have ca := absC s u w hu
    obtain ⟨x, hx⟩ : ∃ x, sgw s + u = x := ⟨_, rfl⟩
    rw [hx] at ca ⊢
    clear hx h hb ho hg
    rcases o with _ | _ | _
    all_goals
      go_enter Tryz.func26, Tryz.ntmps26
      go_wp2_with fail
      refine ca.mono ?_
      rintro e w' ⟨rfl, rfl⟩
      go_wp2_with fail
      go_ret
      exact ⟨by rw [hbo.out]; rfl, rfl⟩
theorem copysignC (s : Bool) (u v : Nat) (w : World) (h : u < 9223372036854775808) (hv : v < 9223372036854775808) :
    Calls Tryz.prog 19 #[.float .f64 (sgw s + u), .float .f64 v] w fun e w' => e = .returned (.float .f64 u) ∧ w = w' := by
  have hz := zabs (sgw s + u) (by cases s <;> simp [sgw] <;> omega)
  rw [show (sgw s + u) % 9223372036854775808 = u by cases s <;> simp [sgw] <;> omega] at hz
  have hv2 := zand_63 v (by omega)
  rw [show v / 9223372036854775808 % 2 * 9223372036854775808 = 0 by omega] at hv2
  have hor : bits BinOp.or IntKind.u64 (u : Int) ((0 : Nat) : Int) = (u : Int) := by
    have := u64_or_nat u 0 (by omega) (by decide)
    rwa [Nat.or_zero] at this
  have hor' : bits BinOp.or IntKind.u64 (u : Int) 0 = (u : Int) := hor
  have hb := f64bits
  have hf := f64from
  obtain ⟨x, hx⟩ : ∃ x, sgw s + u = x := ⟨_, rfl⟩
  rw [hx] at hz ⊢
  clear hx h hv hor
  go_enter Tryz.func19, Tryz.ntmps19
  go_wp2_with fail
  go_ret
  exact ⟨by simp, rfl⟩
theorem signbitC (s : Bool) (u : Nat) (w : World) (h : u < 9223372036854775808) :
    Calls Tryz.prog 27 #[.float .f64 (sgw s + u)] w fun e w' => e = .returned (.bool s) ∧ w = w' := by
  have hb := f64bits (sgw s + u)
  cases s
  · have hx : sgw false + u = u := Nat.zero_add u
    rw [hx] at hb ⊢
    clear hx
    go_enter Tryz.func27, Tryz.ntmps27
    go_wp2_with fail
    go_ret
    exact ⟨rfl, rfl⟩
  · obtain ⟨x, hx⟩ : ∃ x, sgw true + u = x := ⟨_, rfl⟩
    have h1 : 9223372036854775808 ≤ x := by rw [← hx]; simp [sgw]
    have h2 : x < 18446744073709551616 := by rw [← hx]; simp [sgw]; omega
    rw [hx] at hb ⊢
    have hw : wrap64 (x : Int) < 0 := by unfold wrap64; omega
    clear hx
    go_enter Tryz.func27, Tryz.ntmps27
    go_wp2_with fail
    go_ret
    exact ⟨rfl, rfl⟩
end Go.Proofs.YtlhhpehfgkanoaaGreatDoor.fl
/- The walks of math's normalize, Frexp, Ldexp. -/
namespace Go.Proofs.YtlhhpehfgkanoaaGreatDoor.fl
open Go.ChangeShapes Go.WideShapes Go.ChangeAt Go.RowKit Ieee
set_option linter.unusedVariables false
theorem ordp (u v : Nat) (hu : u < infR) (hv : v < infR) : FloatKind.f64.format.order u v = some (compare ((V u : Nat) : Int) (V v : Nat)) := by
  have h := order_val false false u v hu hv
  rw [show sgw false + u = u from Nat.zero_add u, show sgw false + v = v from Nat.zero_add v] at h
  exact h
theorem ordp_lt {u v : Nat} (hv : v < infR) (h : u < v) : FloatKind.f64.format.order u v = some .lt := by
  rw [ordp u v (by omega) hv, compare_lt]
  have := V_lt h
  omega
theorem ordp_ge {u v : Nat} (hu : u < infR) (h : v ≤ u) : ∃ o, FloatKind.f64.format.order u v = some o ∧ o ≠ .lt ∧ (v < u → o = .gt) := by
  refine ⟨_, ordp u v hu (by omega), ?_, ?_⟩
  · rw [ne_eq, Int.compare_eq_lt]
    have := V_le h
    omega
  · intro hh
    rw [Int.compare_eq_gt]
    have := V_lt hh
    omega
/-- What normalize answers. -/
def NormPost (u : Nat) (w : World) (e : Ending) (w' : World) : Prop := ∃ y k, e = .returned (.tuple #[.float .f64 y, .int .i64 k]) ∧ NormIs u y k ∧ w = w'
theorem normBig (u : Nat) (w : World) (h1 : 4503599627370496 ≤ u) (h2 : u < infR) :
    Calls Tryz.prog 66 #[.float .f64 u] w fun e w' => e = .returned (.tuple #[.float .f64 u, .int .i64 0]) ∧ w = w' := by
  have ca := absC false u w (Nat.lt_trans h2 (by decide))
  rw [show sgw false + u = u from Nat.zero_add u] at ca
  obtain ⟨o, ho, hne, _⟩ := ordp_ge h2 h1
  clear h1 h2
  rcases o with _ | _ | _
  · exact absurd rfl hne
  all_goals
    clear hne
    go_enter Tryz.func66, Tryz.ntmps66
    go_wp2_with fail
    refine ca.mono ?_
    rintro e w' ⟨rfl, rfl⟩
    go_wp2_with fail
    go_ret2
    exact ⟨rfl, rfl⟩
theorem normC (u : Nat) (w : World) (h0 : 0 < u) (h : u < infR) :
    Calls Tryz.prog 66 #[.float .f64 u] w (NormPost u w) := by
  by_cases hb : u < 4503599627370496
  · have ca := absC false u w (Nat.lt_trans h (by decide))
    rw [show sgw false + u = u from Nat.zero_add u] at ca
    have ho := ordp_lt (u := u) (v := 4503599627370496) (by decide) hb
    obtain ⟨y, hm, hy⟩ := norm_sub h0 hb
    have hq := fun w => run_float_arith (P := Tryz.prog) w .mul 23 .f64 u 4841369599423283200 y hm
    have HY := fhid hy
    clear hm hy h0 h hb
    go_enter Tryz.func66, Tryz.ntmps66
    go_wp2_with fail
    refine ca.mono ?_
    rintro e w' ⟨rfl, rfl⟩
    go_wp2_with fail
    go_ret2
    exact ⟨_, _, rfl, HY.out, rfl⟩
  · refine (normBig u w (by omega) h).mono ?_
    rintro e w' ⟨rfl, rfl⟩
    exact ⟨u, 0, rfl, norm_self (by omega) h, rfl⟩
/-- What Frexp answers. -/
def FrPost (u : Nat) (w : World) (e : Ending) (w' : World) : Prop := ∃ y k, e = .returned (.tuple #[.float .f64 (y % 4503599627370496 + 4602678819172646912), .int .i64 (frE y k)]) ∧ NormIs u y k ∧ w = w'
set_option maxHeartbeats 1000000 in
theorem frexpI (u : Nat) (w : World) (h0 : 0 < u) (h : u < infR) :
    Calls Tryz.prog 102 #[.float .f64 u] w (FrPost u w) := by
  obtain ⟨o, ho, hne, hgt⟩ := ordp_ge (v := 0) h (Nat.zero_le _)
  obtain rfl := hgt h0
  have ci := isInfC false u 0 false w (Nat.le_of_lt h) (by decide) (by simp; omega)
  rw [show sgw false + u = u from Nat.zero_add u] at ci
  have cn := isNaNC u false w (by
    have := ordp u u h h
    rw [this]; simp)
  have cm := normC u w h0 h
  have hfb := f64bits
  have hff := f64from
  clear hne hgt h0 h
  go_enter Tryz.func102, Tryz.ntmps102
  go_wp2_with fail
  refine ci.mono ?_
  rintro e w' ⟨rfl, rfl⟩
  go_wp2_with fail
  refine cn.mono ?_
  rintro e w' ⟨rfl, rfl⟩
  go_wp2_with fail
  refine cm.mono ?_
  clear cm ci cn ho
  rintro e w' ⟨y, k, rfl, hy, rfl⟩
  have hy1 := hy.1
  have hy2 := hy.2.1
  have hi : infR = 9218868437227405312 := rfl
  have hyb : y < 9218868437227405312 := by omega
  have hk1 : -52 ≤ k := by have := hy.2.2.2; omega
  have hk2 : k ≤ 0 := by have := hy.2.2.2; omega
  have hz1 : bits BinOp.and IntKind.u64 ((y : Int) / 4503599627370496) 2047 = (y : Int) / 4503599627370496 := zand_2047 (y / 4503599627370496) (by omega)
  have hz2 := zclear y (by omega)
  have hz3 : bits BinOp.or IntKind.u64 ((y : Int) % 4503599627370496) 4602678819172646912 = (y : Int) % 4503599627370496 + 4602678819172646912 := by
    have h := zor_at 4602678819172646912 (y % 4503599627370496) (by decide) (by decide) (Nat.mod_lt _ (by decide))
    rw [Int.natCast_add, Int.natCast_emod] at h
    exact h
  have HY := fhid hy
  have HE : Hid (k + ((y : Int) / 4503599627370496 - 1023 + 1) = frE y k) := fhid (by unfold frE; omega)
  clear hy hi hy1 hy2
  go_wp2_with fail
  go_ret2
  exact ⟨y, k, by
    rw [← HE.out]
    refine ret2_eq (fl_eq ?_) rfl
    omega, HY.out, rfl⟩
theorem frexpC (u : Nat) (w : World) (h0 : 0 < u) (h : u < infR) :
    Calls Tryz.prog 68 #[.float .f64 u] w (FrPost u w) := by
  have c := frexpI u w h0 h
  clear h0 h
  go_enter Tryz.func68, Tryz.ntmps68
  go_wp2_with fail
  refine c.mono ?_
  rintro e w' ⟨y, k, rfl, hy, rfl⟩
  have HY := fhid hy
  clear hy c
  go_wp2_with fail
  go_ret2
  exact ⟨y, k, rfl, HY.out, rfl⟩
set_option maxHeartbeats 1000000 in
theorem ldexpI (m : Nat) (w : World) (h : m < 4503599627370496) :
    Calls Tryz.prog 40 #[.float .f64 (m + 4602678819172646912), .int .i64 53] w fun e w' => e = .returned (.float .f64 (m + 4841369599423283200)) ∧ w = w' := by
  have hi : infR = 9218868437227405312 := rfl
  obtain ⟨u, hu⟩ : ∃ u, m + 4602678819172646912 = u := ⟨_, rfl⟩
  have h1 : 4503599627370496 ≤ u := by omega
  have h2 : u < infR := by omega
  obtain ⟨o, ho, hne, hgt⟩ := ordp_ge (v := 0) h2 (Nat.zero_le _)
  obtain rfl := hgt (by omega)
  have ci := isInfC false u 0 false w (Nat.le_of_lt h2) (by decide) (by simp; omega)
  rw [show sgw false + u = u from Nat.zero_add u] at ci
  have cn := isNaNC u false w (by
    have := ordp u u h2 h2
    rw [this]; simp)
  have cm := normBig u w h1 h2
  have hfb := f64bits
  have hff := f64from
  have hz1 : bits BinOp.and IntKind.i64 ((u : Int) / 4503599627370496) 2047 = 1022 := by
    have e : u / 4503599627370496 = 1022 := by omega
    have := iand_2047 (u / 4503599627370496) (by omega)
    rw [e] at this
    rw [show (u : Int) / 4503599627370496 = ((u / 4503599627370496 : Nat) : Int) from rfl, e]
    exact this
  have hz2 := zclear u (by omega)
  rw [show u % 4503599627370496 = m by omega] at hz2
  have hz3 : bits BinOp.or IntKind.u64 (m : Int) 4841369599423283200 = ((m + 4841369599423283200 : Nat) : Int) := zor_at 4841369599423283200 m (by decide) (by decide) h
  obtain ⟨Z, hZ⟩ : ∃ Z, m + 4841369599423283200 = Z := ⟨_, rfl⟩
  have hq := fun w => run_float_arith (P := Tryz.prog) w .mul 23 .f64 4607182418800017408 Z _ (mul_one_f (z := Z) (by omega) (by omega))
  rw [hZ] at hz3 ⊢
  clear hZ
  have hub : u < 9218868437227405312 := by omega
  rw [hu]
  clear hne hgt h1 h2 hi hu
  go_enter Tryz.func40, Tryz.ntmps40
  go_wp2_with fail
  refine ci.mono ?_
  rintro e w' ⟨rfl, rfl⟩
  go_wp2_with fail
  refine cn.mono ?_
  rintro e w' ⟨rfl, rfl⟩
  go_wp2_with fail
  refine cm.mono ?_
  clear cm ci cn ho
  rintro e w' ⟨rfl, rfl⟩
  go_wp2_with fail
  go_ret
  exact ⟨rfl, rfl⟩
theorem ldexpC (m : Nat) (w : World) (h : m < 4503599627370496) :
    Calls Tryz.prog 20 #[.float .f64 (m + 4602678819172646912), .int .i64 53] w fun e w' => e = .returned (.float .f64 (m + 4841369599423283200)) ∧ w = w' := by
  have c := ldexpI m w h
  obtain ⟨u, hu⟩ : ∃ u, m + 4602678819172646912 = u := ⟨_, rfl⟩
  rw [hu] at c ⊢
  clear hu h
  go_enter Tryz.func20, Tryz.ntmps20
  go_wp2_with fail
  refine c.mono ?_
  rintro e w' ⟨rfl, rfl⟩
  go_wp2_with fail
  go_ret
  exact ⟨rfl, rfl⟩
end Go.Proofs.YtlhhpehfgkanoaaGreatDoor.fl
/- The walk of math.Floor: the library's own entry. -/
namespace Go.Proofs.YtlhhpehfgkanoaaGreatDoor.fl
open Go.ChangeShapes Go.WideShapes Go.ChangeAt Go.RowKit Ieee
set_option linter.unusedVariables false
theorem integral_num (n : String) (way : Toward) (x : Nat) (s : Bool) (m : Nat) (i : Int) (h : FloatKind.f64.decode x = .number s m i) :
    Go.Extern.MathFloor.toIntegral n way #[.float .f64 x] = pure (.float .f64 (FloatKind.f64.encode ((Datum.number s m i).integral way))) := by
  obtain ⟨X, e⟩ : ∃ X : Bool → Nat → Sem Value, Go.Extern.MathFloor.toIntegral n way #[.float .f64 x] = (match FloatKind.f64.decode x with
    | .nan s t => X s t
    | d => pure (.float .f64 (FloatKind.f64.encode (d.integral way)))) := ⟨_, rfl⟩
  rw [e, h]
theorem archFloor (x : Nat) (s : Bool) (m : Nat) (i : Int) (h : FloatKind.f64.decode x = .number s m i) (w : World) :
    (callFunc 103 #[.float .f64 x]).run Tryz.prog w = .ok (.value (.float .f64 (FloatKind.f64.encode ((Datum.number s m i).integral .down)))) w := by
  have e : (callFunc 103 #[.float .f64 x]).run Tryz.prog w = ((Go.Extern.MathFloor.toIntegral "math.archFloor" .down #[.float .f64 x]) >>= fun v => pure (.value v)).run Tryz.prog w := by kernel_rfl
  rw [e, integral_num _ _ x s m i h]
  rfl
set_option maxRecDepth 100000 in
theorem floorC (x y : Nat) (w : World) (h : (callFunc 103 #[.float .f64 x]).run Tryz.prog w = .ok (.value (.float .f64 y)) w) :
    Calls Tryz.prog 71 #[.float .f64 x] w fun e w' => e = .returned (.float .f64 y) ∧ w = w' := by
  go_enter Tryz.func71, Tryz.ntmps71
  go_wp2_with fail
  go_ret
  exact ⟨rfl, rfl⟩
end Go.Proofs.YtlhhpehfgkanoaaGreatDoor.fl
/- The walks of score's parts and above. -/
namespace Go.Proofs.YtlhhpehfgkanoaaGreatDoor.fl
open Go.ChangeShapes Go.WideShapes Go.ChangeAt Go.RowKit Ieee
set_option linter.unusedVariables false
/-- What parts answers. -/
def PaPost (u : Nat) (w : World) (e : Ending) (w' : World) : Prop := ∃ x y a b, e = .returned (.tuple #[x, y]) ∧ Num .u32 w' x a ∧ Num .u32 w' y b ∧ Frac u a b ∧ a < Bs ^ KA ∧ b < Bs ^ KA ∧ Below w.heap.size w w'
theorem kb_ka {n k : Nat} (hn : n < 18446744073709551616) (hk : k ≤ 10000) : n * 2 ^ k < Bs ^ KA := two_lt (of_kb hn) hk
set_option maxRecDepth 100000 in
set_option maxHeartbeats 400000 in
theorem partsC (u : Nat) (w : World) (h0 : 0 < u) (hu : u < infR) :
    Calls Tryz.prog 42 #[.float .f64 u] w (PaPost u w) := by
  have cf := frexpC u w h0 hu
  go_enter Tryz.func42, Tryz.ntmps42
  go_wp2_with fail
  refine cf.mono ?_
  clear cf
  rintro e w1 ⟨y, k, rfl, hy, rfl⟩
  have hk := frE_bd hy
  have HY := fhid hy
  obtain ⟨E, hE⟩ : ∃ E, frE y k = E := ⟨_, rfl⟩
  rw [hE] at hk ⊢
  have HE := fhid hE
  obtain ⟨m, hm⟩ : ∃ m, y % 4503599627370496 = m := ⟨_, rfl⟩
  have hmb : m < 4503599627370496 := by rw [← hm]; exact Nat.mod_lt _ (by decide)
  rw [hm]
  have HM := fhid hm
  have cl := fun w => ldexpC m w hmb
  obtain ⟨f1, hf1⟩ : ∃ f, m + 4602678819172646912 = f := ⟨_, rfl⟩
  obtain ⟨f2, hf2⟩ : ∃ f, m + 4841369599423283200 = f := ⟨_, rfl⟩
  obtain ⟨M, hMM⟩ : ∃ M, m + 4503599627370496 = M := ⟨_, rfl⟩
  have hcv := fun W => run_convert_float_int (P := Tryz.prog) W 23 22 .f64 .u64 f2 _ (by kernel_rfl) Tryz.underlying22 (toInt_big m f2 M hmb hf2 hMM)
  rw [hf1, hf2] at cl
  rw [hf1]
  have hM53 : M < 18446744073709551616 := by omega
  have HMM := fhid hMM
  clear hf1 hf2 hm hE hy hMM
  have hk1 := hk.1
  have hk2 := hk.2.1
  clear hk
  go_wp2_with fail
  refine (cl _).mono ?_
  clear cl
  rintro e w2 ⟨rfl, rfl⟩
  go_wp2_with fail
  clear hcv
  refine (wholeC M _ hM53).mono ?_
  rintro e w3 ⟨x1, rfl, hx1, hb1⟩
  have X1 := fhid hx1
  have B1 := fhid hb1
  clear hx1 hb1
  go_wp2_with fail
  refine (wholeC 1 _ (by decide)).mono ?_
  rintro e w4 ⟨x2, rfl, hx2, hb2⟩
  have X2 := fhid hx2
  have X1' := fhid (X1.out.on hb2)
  have B2 := fhid (B1.out.trans (hb2.mono B1.out.size))
  clear hx2 hb2 X1
  have HM0 : Hid (0 < M) := fhid (by have := HMM.out; omega)
  by_cases hc : 53 ≤ E
  · obtain ⟨j, hj⟩ : ∃ j : Nat, E = 53 + (j : Int) := ⟨(E - 53).toNat, by omega⟩
    have hjb : j ≤ 1000 := by omega
    have hfr : Hid (M * 2 ^ j * 2 ^ K74 = V u * 1) := fhid (by rw [← HMM.out, ← HM.out]; exact frac_big HY.out (by rw [HE.out]; exact hj))
    have hej : E - 53 = (j : Int) := by omega
    clear hj
    go_wp2_with fail
    with_reducible refine (leftC x1 M j _ X1'.out (Nat.lt_of_lt_of_le (of_kb hM53) kba) HM0.out (by omega)).mono ?_
    rintro e w5 ⟨x3, rfl, hx3, hb3⟩
    have X3 := fhid hx3
    have X2' := fhid (X2.out.on hb3)
    have B3 := fhid (B2.out.trans (hb3.mono B2.out.size))
    clear hx3 hb3
    go_wp2_with fail
    go_ret2
    exact ⟨_, _, _, _, rfl, X3.out, X2'.out, ⟨Nat.mul_pos HM0.out (Nat.pow_pos (by decide)), by decide, hfr.out⟩, kb_ka hM53 (by omega), Nat.lt_of_lt_of_le (of_kb (by decide)) kba, B3.out⟩
  · obtain ⟨j, hj⟩ : ∃ j : Nat, E + (j : Int) = 53 := ⟨(53 - E).toNat, by omega⟩
    have hjb : j ≤ 2000 := by omega
    have hfr : Hid (M * 2 ^ K74 = V u * (1 * 2 ^ j)) := fhid (by rw [← HMM.out, ← HM.out]; exact frac_small HY.out (by rw [HE.out]; exact hj))
    have hej : (53 : Int) - E = (j : Int) := by omega
    have hc' : E < 53 := by omega
    clear hj hc
    go_wp2_with fail
    with_reducible refine (leftC x2 1 j _ X2.out (Nat.lt_of_lt_of_le (of_kb (by decide)) kba) (by decide) (by omega)).mono ?_
    rintro e w5 ⟨x3, rfl, hx3, hb3⟩
    have X3 := fhid hx3
    have X1'' := fhid (X1'.out.on hb3)
    have B3 := fhid (B2.out.trans (hb3.mono B2.out.size))
    clear hx3 hb3
    go_wp2_with fail
    go_ret2
    exact ⟨_, _, _, _, rfl, X1''.out, X3.out, ⟨HM0.out, Nat.mul_pos (by decide) (Nat.pow_pos (by decide)), hfr.out⟩, Nat.lt_of_lt_of_le (of_kb hM53) kba, kb_ka (by decide) (by omega), B3.out⟩
/-- What above answers. -/
def AbPost (u a b : Nat) (w : World) (e : Ending) (w' : World) : Prop := ∃ p : Int, e = .returned (.int .i64 p) ∧ -400 ≤ p ∧ p ≤ 400 ∧ bel a b p ∧ Top u p ∧ Below w.heap.size w w'
set_option maxRecDepth 100000 in
set_option maxHeartbeats 2000000 in
theorem aboveC (x y : Value) (u a b : Nat) (w : World) (hx : Num .u32 w x a) (hy : Num .u32 w y b) (hf : Frac u a b) (h0 : 0 < u) (hu : u < infR) (ha : a < Bs ^ KA) (hb : b < Bs ^ KA) :
    Calls Tryz.prog 43 #[x, y] w (AbPost u a b w) := by
  have HX := fhid hx
  have HY := fhid hy
  have HF := fhid hf
  have H0 := fhid h0
  have HU := fhid hu
  have HA := fhid ha
  have HB := fhid hb
  clear hx hy hf h0 hu ha hb
  have cb : Hid (∀ W p, Num .u32 W x a → Num .u32 W y b → -900 ≤ p → p ≤ 900 → Calls Tryz.prog 73 #[x, y, .int .i64 p] W (BelowPost a b p W)) := fhid (fun W p h1 h2 h3 h4 => belowC x y a b p W h1 h2 HA.out HB.out h3 h4)
  go_enter Tryz.func43, Tryz.ntmps43
  go_wp2_with fail
  refine (bitsC x a _ HX.out (Nat.lt_of_lt_of_le HA.out kac') HF.out.pa).mono ?_
  rintro e w1 ⟨s, rfl, hs1, hs2, hb1⟩
  have HX1 := fhid (HX.out.on hb1)
  have HY1 := fhid (HY.out.on hb1)
  have B1 := fhid hb1
  have S1 := fhid hs1
  have S2 := fhid hs2
  clear hb1 hs1 hs2
  go_wp2_with fail
  refine (bitsC y b _ HY1.out (Nat.lt_of_lt_of_le HB.out kac') HF.out.pb).mono ?_
  rintro e w2 ⟨t, rfl, ht1, ht2, hb2⟩
  have HX2 := fhid (HX1.out.on hb2)
  have HY2 := fhid (HY1.out.on hb2)
  have B2 := fhid (B1.out.trans (hb2.mono B1.out.size))
  obtain ⟨d1, d2⟩ := HF.out.bits H0.out HU.out S1.out S2.out ht1 ht2
  clear hb2 ht1 ht2
  obtain ⟨d, hd⟩ : ∃ d, (s : Int) - t = d := ⟨_, rfl⟩
  rw [hd] at d1 d2
  obtain ⟨z, sg, m, i, g, hm1, hm2, hm3, g1, g2⟩ := guess_mul d d1 d2
  have hq := fun w => run_float_arith (P := Tryz.prog) w .mul 23 .f64 (floatOfInt .f64 d) 4599094494223104511 z hm1
  have cf := fun w => floorC z _ w (archFloor z sg m i hm2 w)
  have hcv := fun W => run_convert_float_int (P := Tryz.prog) W 23 3 .f64 .i64 _ g (by kernel_rfl) Tryz.underlying3 hm3
  obtain ⟨z2, hz2⟩ : ∃ z2, FloatKind.f64.encode ((Ieee.Datum.number sg m i).integral .down) = z2 := ⟨_, rfl⟩
  rw [hz2] at cf hcv
  clear hm1 hm2 hm3 hz2
  go_wp2_with fail
  with_reducible refine (cf _).mono ?_
  clear cf hq
  rintro e w3 ⟨rfl, rfl⟩
  go_wp2_with fail
  go_loopw [5] (fun v wr => ∃ (p : Int), v = .int .i64 p ∧ -500 ≤ p ∧ p ≤ 500 ∧ Hid (Num .u32 wr x a) ∧ Hid (Num .u32 wr y b) ∧ Hid (Below w.heap.size w wr)) (fun v _ => (1025 - intOf v).toNat)
  case atStart => exact ⟨g, rfl, g1, g2, HX2, HY2, B2⟩
  case round =>
    clear HX2 HY2 B2 hcv g1 g2 hd
    obtain ⟨p, rfl, hp1, hp2, hX, hY, hB⟩ := hrel
    go_wp2_with fail
    with_reducible refine (cb.out _ _ hX.out hY.out (by omega) (by omega)).mono ?_
    rintro e w3 ⟨r, rfl, hr, hb3⟩
    have HX3 := fhid (hX.out.on hb3)
    have HY3 := fhid (hY.out.on hb3)
    have B3 := fhid (hB.out.trans (hb3.mono hB.out.size))
    have RB : Hid (r = true ↔ bel a b p) := fhid hr
    clear hr hb3 hX hY hB
    cases r with
    | false =>
      have hp3 : p < 400 := by
        by_cases hh : p < 400
        · exact hh
        · have := RB.out.mpr (bel_hi HF.out HU.out (by omega)); cases this
      clear RB
      go_wp2_with fail
      go_roundw
      case rel => exact ⟨p + 1, by go_num, by omega, by omega, HX3, HY3, B3⟩
      case measure => simp [intOf]; omega
    | true =>
      have HBel : Hid (bel a b p) := fhid (RB.out.mp rfl)
      clear RB
      go_wp2_with fail
      go_loopw [5] (fun v wr => ∃ (p : Int), v = .int .i64 p ∧ -500 ≤ p ∧ p ≤ 500 ∧ Hid (bel a b p) ∧ Hid (Num .u32 wr x a) ∧ Hid (Num .u32 wr y b) ∧ Hid (Below w.heap.size w wr)) (fun v _ => (1025 + intOf v).toNat)
      case atStart => exact ⟨p, rfl, hp1, hp2, HBel, HX3, HY3, B3⟩
      case round =>
        clear HBel HX3 HY3 B3 hp1 hp2
        obtain ⟨p, rfl, hp1, hp2, hBel, hX, hY, hB⟩ := hrel
        go_wp2_with fail
        with_reducible refine (cb.out _ _ hX.out hY.out (by omega) (by omega)).mono ?_
        rintro e w3 ⟨r, rfl, hr, hb3⟩
        have HX3 := fhid (hX.out.on hb3)
        have HY3 := fhid (hY.out.on hb3)
        have B3 := fhid (hB.out.trans (hb3.mono hB.out.size))
        have RB : Hid (r = true ↔ bel a b (p - 1)) := fhid hr
        clear hr hb3 hX hY hB
        cases r with
        | false =>
          have HNB : Hid (¬ bel a b (p - 1)) := fhid (fun h => by have := RB.out.mpr h; cases this)
          clear RB
          go_wp2_with fail
          go_ret
          have q1 : -400 ≤ p := by
            by_cases hh : -400 ≤ p
            · exact hh
            · exact absurd hBel.out (bel_lo HF.out H0.out (by omega))
          have q2 : p ≤ 400 := by
            by_cases hh : p ≤ 400
            · exact hh
            · exact absurd (bel_hi HF.out HU.out (by omega)) HNB.out
          exact ⟨p, rfl, q1, q2, hBel.out, top_of HF.out hBel.out HNB.out, B3.out⟩
        | true =>
          have HB2 : Hid (bel a b (p - 1)) := fhid (RB.out.mp rfl)
          have q1 : -400 < p - 1 := by
            by_cases hh : -400 < p - 1
            · exact hh
            · exact absurd HB2.out (bel_lo HF.out H0.out (by omega))
          clear RB
          go_wp2_with fail
          go_roundw
          case rel => exact ⟨p - 1, by go_num, by omega, by omega, HB2, HX3, HY3, B3⟩
          case measure => simp [intOf]; omega
end Go.Proofs.YtlhhpehfgkanoaaGreatDoor.fl
/- The walk of score's means: is this a word of the float? -/
namespace Go.Proofs.YtlhhpehfgkanoaaGreatDoor.fl
open Go.ChangeShapes Go.WideShapes Go.ChangeAt Go.RowKit
set_option linter.unusedVariables false
/-- The library's tables lie as their initialisers lay them. -/
structure FS (w : World) : Prop where
  fo : FO w
  tab : Lib.TabIs Tryz.prog w "internal/strconv.uint64pow10" .u64 Lib.pow10Tab
theorem FS.on {w w' : World} (h : FS w) (hb : Below w.heap.size w w') : FS w' := ⟨h.fo.on hb, Lib.tabBelow_of_tabIs h.tab w' hb⟩
theorem bl_append (s t : ByteArray) : bl (s ++ t) = bl s ++ bl t := by unfold bl; simp
theorem bl_extract (s : ByteArray) (a b : Nat) : bl (s.extract a b) = ((bl s).drop a).take (b - a) := by
  unfold bl
  rw [Lib.extract_data, List.map_take, List.map_drop]
/-- A whole number's word, with its sign. -/
def idg (q : Int) : List Nat := (if q < 0 then [45] else []) ++ ddg q.natAbs
theorem bl_itoa (q : Int) : bl ⟨(Lib.itoa q).toArray⟩ = idg q := by
  rw [bl_mk]
  unfold Lib.itoa idg
  by_cases h : q < 0
  · rw [if_pos h, if_pos h]; rfl
  · rw [if_neg h, if_neg h, show q.toNat = q.natAbs by omega]; rfl
/-- What Itoa answers. -/
def ItPost (q : Int) (w : World) (e : Ending) (w' : World) : Prop := ∃ t : ByteArray, e = .returned (.string t) ∧ bl t = idg q ∧ t.size ≤ 30 ∧ Below w.heap.size w w'
theorem ddg_le {n k : Nat} (h : n < 10 ^ (k + 1)) : (ddg n).length ≤ k + 1 := by
  induction k generalizing n with
  | zero =>
    rw [Nat.zero_add, Nat.pow_one] at h
    rw [ddg_small h]; simp
  | succ k ih =>
    by_cases hn : n < 10
    · rw [ddg_small hn]; simp
    · rw [ddg_big hn, List.length_append, List.length_singleton]
      have := ih (n := n / 10) (by rw [Nat.div_lt_iff_lt_mul (by decide)]; exact h)
      omega
theorem itoaC (q : Int) (w : World) (h1 : -1000000 ≤ q) (h2 : q ≤ 1000000) (hf : FS w) :
    Calls Tryz.prog 51 #[.int .i64 q] w (ItPost q w) := by
  refine (Tryz.strconv_Itoa q (by omega) (by omega) w hf.tab).mono ?_
  rintro e w' ⟨rfl, k, os, rfl⟩
  refine ⟨_, rfl, bl_itoa q, ?_, Lib.below_grow _ _ (Nat.le_refl _) _ _⟩
  rw [← bl_length, bl_itoa]
  unfold idg
  have := ddg_le (n := q.natAbs) (k := 9) (by omega)
  rw [List.length_append]
  split <;> simp <;> omega
theorem mant_digs (l : List Nat) (h : ∀ x ∈ l, isDig x) : Mant l false := by
  have key : ∀ n, ∀ l : List Nat, l.length = n → (∀ x ∈ l, isDig x) → Mant l false := by
    intro n
    induction n with
    | zero => intro l hl _; rw [List.length_eq_zero_iff.1 hl]; exact .nil
    | succ n ih =>
      intro l hl h
      rcases List.eq_nil_or_concat l with e | ⟨t, c, e⟩
      · rw [e] at hl; simp at hl
      · rw [List.concat_eq_append] at e
        subst e
        exact .dig (ih t (by simpa using hl) (fun x hx => h x (by simp [hx]))) (h c (by simp))
  exact key _ l rfl h
/-- The word d e q. -/
theorem word_de {s : ByteArray} {d : Nat} {q : Int} (hd : d < 10 ^ 19) (h1 : -10000 ≤ q) (h2 : q ≤ 10000) (hs : bl s = ddg d ++ [101] ++ idg q) :
    DecW s false (ddg d) false q ∧ (rf (ddg d)).tr = false ∧ dnum (ddg d) = d ∧ wq (ddg d) q = q := by
  have hok := ddg_ok d
  have hm := mant_digs _ hok.1
  have ok := rf_ok hm
  have hl := ddg_le (k := 18) hd
  have hq := ddg_le (n := q.natAbs) (k := 4) (by omega)
  have hqp := ddg_pos q.natAbs
  have hqd := ddg_ok q.natAbs
  have hex : Ex ([101] ++ idg q) q := by
    have key := fun sg neg hsg => Ex.some (c := 101) (sg := sg) (ds := ddg q.natAbs) (neg := neg) (.inl rfl) hsg hqp hq hqd.1
    unfold idg
    by_cases hn : q < 0
    · rw [if_pos hn]
      have := key [45] true (.inr (.inr ⟨rfl, rfl⟩))
      rw [if_pos rfl, hqd.2, show -((q.natAbs : Nat) : Int) = q by omega] at this
      simpa using this
    · rw [if_neg hn]
      have := key [] false (.inl ⟨rfl, rfl⟩)
      rw [if_neg (by decide), hqd.2, show ((q.natAbs : Nat) : Int) = q by omega] at this
      simpa using this
  refine ⟨⟨⟨[], [101] ++ idg q, by rw [hs]; simp, .inl ⟨rfl, rfl⟩, hex⟩, hm, ?_, ?_⟩, ?_, hok.2, ?_⟩
  · by_cases hh : (rf (ddg d)).dig = true
    · exact hh
    · exfalso
      have h3 := ok.dig (by simpa using hh)
      have hp := ddg_pos d
      have hmem : (ddg d)[0] ∈ ddg d := List.getElem_mem hp
      have h4 := h3 _ hmem
      have h5 := hok.1 _ hmem
      unfold isDig at h5
      omega
  · rw [← bl_length, hs]
    unfold idg
    simp only [List.length_append, List.length_singleton]
    split <;> simp <;> omega
  · obtain ⟨r, r1, r2, r3⟩ := ok.num
    have h3 := ok.ndm
    have h4 := ok.nd
    have h5 : (rf (ddg d)).nd - (rf (ddg d)).ndm = 0 := by omega
    rw [h5, Nat.pow_zero] at r1
    by_cases hh : (rf (ddg d)).tr = true
    · have := r3.1 hh; omega
    · simpa using hh
  · have := ok.frac0 rfl
    unfold wq
    rw [this]; simp
/-- What means answers. -/
def MePost (d : Nat) (q : Int) (u : Nat) (w : World) (e : Ending) (w' : World) : Prop := ∃ b, e = .returned (.bool b) ∧ (b = true ↔ Near (valN d q) (valD q) u) ∧ Below w.heap.size w w'
/-- ParseFloat at the word d e q. -/
def PdPost (d : Nat) (q : Int) (w : World) (e : Ending) (w' : World) : Prop := ∃ v, Near (valN d q) (valD q) v ∧ (v < infR ∧ e = .returned (.tuple #[.float .f64 v, .nilIface]) ∨ infR ≤ v ∧ ∃ x p, e = .returned (.tuple #[.float .f64 x, .iface 135 p])) ∧ Below w.heap.size w w'
theorem parseDe (s : ByteArray) (d : Nat) (q : Int) (w : World) (hf : FO w) (hd : d < 10 ^ 19) (h1 : -10000 ≤ q) (h2 : q ≤ 10000) (hs : bl s = ddg d ++ [101] ++ idg q) :
    Calls Tryz.prog 38 #[.string s, .int .i64 64] w (PdPost d q w) := by
  obtain ⟨hw, ht, e1, e2⟩ := word_de hd h1 h2 hs
  refine (parseFloatC s false (ddg d) q w hf (Nat.le_trans hw.short (by decide)) (fun w hf => atof64N s false (ddg d) false q w hw ht hf (fun w => readFloatC s false (ddg d) false q w hw))).mono ?_
  rintro e w' ⟨v, hv, hr, hb⟩
  rw [e1, e2] at hv
  refine ⟨v, hv, ?_, hb⟩
  rcases hr with ⟨a, b⟩ | ⟨a, p, b⟩
  · exact .inl ⟨a, by rw [b, show sgw false + v = v from Nat.zero_add v]⟩
  · exact .inr ⟨a, _, p, b⟩
set_option maxRecDepth 100000 in
set_option maxHeartbeats 2000000 in
theorem meansC (d : Nat) (q : Int) (u : Nat) (w : World) (hf : FS w) (hd : d < 10 ^ 19) (h1 : -10000 ≤ q) (h2 : q ≤ 10000) (hu : u < infR) :
    Calls Tryz.prog 48 #[.int .u64 d, .int .i64 q, .float .f64 u] w (MePost d q u w) := by
  have cu := fmtUintC d (Nat.lt_trans hd (by decide)) w hf.tab
  have HF := fhid hf
  have HD := fhid hd
  have HU := fhid hu
  have hl : Hid ((Lib.decDigits d).length ≤ 19) := fhid (by
    have := ddg_le (k := 18) hd
    rwa [ddg_length, ← Lib.decDigits_length] at this)
  clear hf hd hu
  go_enter Tryz.func48, Tryz.ntmps48
  go_wp2_with fail
  refine cu.mono ?_
  clear cu
  rintro e w1 ⟨rfl, hb1⟩
  have hsz : (⟨(Lib.decDigits d).toArray⟩ : ByteArray).size ≤ 19 := hl.out
  have HT : Hid (bl ⟨(Lib.decDigits d).toArray⟩ = ddg d) := fhid (bl_mk _)
  obtain ⟨t, ht⟩ : ∃ t : ByteArray, ⟨(Lib.decDigits d).toArray⟩ = t := ⟨_, rfl⟩
  rw [ht] at hsz HT ⊢
  have HF1 := fhid (HF.out.on hb1)
  have B1 := fhid hb1
  clear ht hb1
  go_wp2_with fail
  refine (itoaC q _ (by omega) (by omega) HF1.out).mono ?_
  rintro e w2 ⟨t2, rfl, ht2, hs2, hb2⟩
  have HF2 := fhid (HF1.out.on hb2)
  have B2 := fhid (B1.out.trans (hb2.mono B1.out.size))
  have HT2 := fhid ht2
  clear ht2 hb2
  go_wp2_with fail
  have hw : bl (t ++ (⟨#[101]⟩ : ByteArray) ++ t2) = ddg d ++ [101] ++ idg q := by
    rw [bl_append, bl_append, HT.out, HT2.out]; rfl
  refine (parseDe _ d q _ HF2.out.fo HD.out h1 h2 hw).mono ?_
  clear hw
  rintro e w3 ⟨v, hv, hr, hb3⟩
  have HV := fhid hv
  have B3 := fhid (B2.out.trans (hb3.mono B2.out.size))
  clear hv hb3
  rcases hr with ⟨hvi, rfl⟩ | ⟨hvi, x, p, rfl⟩
  · by_cases hvu : v = u
    · have ho : FloatKind.f64.format.order v u = some .eq := by
        have := ordp v u hvi HU.out
        rw [this, hvu]; simp
      have HE := fhid hvu
      clear hvu hvi
      go_wp2_with fail
      go_ret
      exact ⟨true, rfl, ⟨(fun _ => by rw [← HE.out]; exact HV.out), fun _ => rfl⟩, B3.out⟩
    · obtain ⟨o, ho, hne⟩ : ∃ o, FloatKind.f64.format.order v u = some o ∧ o ≠ .eq := by
        refine ⟨_, ordp v u hvi HU.out, ?_⟩
        rw [ne_eq, Int.compare_eq_eq]
        intro e
        rcases Nat.lt_trichotomy v u with h | h | h
        · have := V_lt h; omega
        · exact hvu h
        · have := V_lt h; omega
      have HE : Hid (¬ Near (valN d q) (valD q) u) := fhid (fun h => hvu (near_unique (valD_pos q) HV.out h))
      clear hvu hvi
      rcases o with _ | _ | _
      · go_wp2_with fail
        go_ret
        exact ⟨false, rfl, ⟨(fun h => by cases h), fun h => absurd h HE.out⟩, B3.out⟩
      · exact absurd rfl hne
      · go_wp2_with fail
        go_ret
        exact ⟨false, rfl, ⟨(fun h => by cases h), fun h => absurd h HE.out⟩, B3.out⟩
  · have HE : Hid (¬ Near (valN d q) (valD q) u) := fhid (fun h => by
      have := near_unique (valD_pos q) HV.out h
      have := HU.out
      omega)
    clear hvi
    go_wp2_with fail
    go_ret
    exact ⟨false, rfl, ⟨(fun h => by cases h), fun h => absurd h HE.out⟩, B3.out⟩
end Go.Proofs.YtlhhpehfgkanoaaGreatDoor.fl
/- The walk of score's shortest. -/
namespace Go.Proofs.YtlhhpehfgkanoaaGreatDoor.fl
open Go.ChangeShapes Go.WideShapes Go.ChangeAt Go.RowKit
set_option linter.unusedVariables false
/-- Not too great. -/
structure Sm (n : Nat) : Prop where
  lt : n < Bs ^ KC
structure SmA (n : Nat) : Prop where
  lt : n < Bs ^ KA
/-- What shortest answers. -/
def ShPost (u : Nat) (w : World) (e : Ending) (w' : World) : Prop := ∃ (t : ByteArray) (p : Int), e = .returned (.tuple #[.string t, .int .i64 p]) ∧ Sh u (bl t) p ∧ Below w.heap.size w w'
/-- The digits' bounds. -/
theorem sh_bd {u : Nat} {t : List Nat} {p : Int} (h0 : 0 < u) (hu : u < infR) (h : Sh u t p) : 0 < t.length ∧ t.length ≤ 20 ∧ -400 ≤ p ∧ p ≤ 401 := by
  obtain ⟨q, k, L, D, h1, h2, h3, h4, h5, rfl, rfl⟩ := h
  have hk := quiet_le h0 h2 h3
  obtain ⟨r1, r2⟩ := floor_range h2 h4 h1
  have hD := pk_some h5
  have hp1 : 0 < 10 ^ (k - 1) := Nat.pow_pos (by decide)
  have hl : (ddg D).length = k ∨ (ddg D).length = k + 1 := by
    obtain ⟨j, rfl⟩ : ∃ j, k = j + 1 := ⟨k - 1, by omega⟩
    rw [Nat.add_sub_cancel] at r1
    by_cases hh : D < 10 ^ (j + 1)
    · exact .inl (ddg_len (by omega) hh)
    · have : D = 10 ^ (j + 1) := by omega
      rw [this]
      exact .inr (ddg_len (Nat.le_refl _) (Nat.pow_lt_pow_right (by decide) (by omega)))
  have hs := strip_len (ddg D)
  have hne := strip_all (ddg_head (n := D) (by omega)) (ddg_pos D)
  have q1 : -400 ≤ q := by
    by_cases hh : -400 ≤ q
    · exact hh
    · exfalso
      have := h2.2
      rw [valD_eq, valN_eq, show q.toNat = 0 by omega, Nat.pow_zero, Nat.mul_one, Nat.one_mul] at this
      have g1 := V_ge u
      have g2 : 10 ^ K400 ≤ 10 ^ (-q).toNat := Nat.pow_le_pow_right (by decide) (by rw [K400_eq]; omega)
      have g3 := two_400
      have g4 : 1 * 10 ^ (-q).toNat ≤ V u * 10 ^ (-q).toNat := Nat.mul_le_mul_right _ (by omega)
      omega
  have q2 : q ≤ 400 := by
    by_cases hh : q ≤ 400
    · exact hh
    · exfalso
      have := h2.1
      rw [valD_eq, valN_eq, show (-(q - 1)).toNat = 0 by omega, Nat.pow_zero, Nat.mul_one, Nat.one_mul] at this
      have g1 := V_lt hu
      have g2 : 10 ^ K400 * 2 ^ K74 ≤ 10 ^ (q - 1).toNat * 2 ^ K74 := Nat.mul_le_mul_right _ (Nat.pow_le_pow_right (by decide) (by rw [K400_eq]; omega))
      have g3 := inf_400
      omega
  refine ⟨?_, by omega, by omega, by omega⟩
  exact List.length_pos_iff.mpr hne
theorem trim_word {t : List UInt8} {D : Nat} (h : t = Lib.decDigits D) : bl ⟨(Lib.trimRightB t 48).toArray⟩ = strip (ddg D) := by
  rw [bl_mk, strip_trim, h]; rfl
/-- What the loop keeps. -/
def ShR (u a b : Nat) (p : Int) (k L R : Nat) : Prop := RestR a b p k L R ∧ R < b * 10 ^ p.toNat ∧ Quiet u p (k + 1)
theorem ShR.start {u a b : Nat} {p : Int} (hb : bel a b p) : ShR u a b p 0 0 (a * 10 ^ (-p).toNat) := ⟨RestR.start, hb, fun j h1 h2 => by omega⟩
theorem ShR.low {u a b k L R : Nat} {p : Int} (h : ShR u a b p k L R) (h0 : 0 < u) (hb : bel a b p) (ht : Top u p) : k ≤ 16 ∧ L < 10000000000000000 := by
  have h1 := quiet_le h0 ht h.2.2
  have h2 := h.1.le hb
  have h3 : 10 ^ k ≤ 10 ^ 16 := Nat.pow_le_pow_right (by decide) (by omega)
  have h4 : (10 : Nat) ^ 16 = 10000000000000000 := by decide
  omega
theorem RestR.low {a b k L R : Nat} {p : Int} (h : RestR a b p (k + 1) L R) (hk : k ≤ 16) (hb : bel a b p) : L < 100000000000000000 := by
  have h2 := h.le hb
  have h3 : 10 ^ (k + 1) ≤ 10 ^ 17 := Nat.pow_le_pow_right (by decide) (by omega)
  have h4 : (10 : Nat) ^ 17 = 100000000000000000 := by decide
  omega
theorem rest_small {b R : Nat} {p : Int} (hb : SmA b) (hp : p ≤ 900) (hR : R ≤ b * 10 ^ p.toNat * 10) : Sm R := by
  have h := ten_lt (n := b) (k := ((p.toNat + 1 : Nat) : Int)) hb.lt (by omega)
  rw [show (((p.toNat + 1 : Nat) : Int)).toNat = p.toNat + 1 by omega, Nat.pow_succ, ← Nat.mul_assoc] at h
  exact ⟨Nat.lt_of_le_of_lt hR h⟩
/-- What is picked, out of the answers. -/
theorem pk_none {u L : Nat} {q : Int} {b1 b2 : Bool} (h1 : b1 = true ↔ Near (valN L q) (valD q) u) (h2 : b2 = true ↔ Near (valN (L + 1) q) (valD q) u) (e1 : b1 = false) (e2 : b2 = false) : Pk u q L none :=
  .inl ⟨(fun h => by rw [h1.2 h] at e1; cases e1), (fun h => by rw [h2.2 h] at e2; cases e2), rfl⟩
theorem pk_lo {u L : Nat} {q : Int} {b1 b2 : Bool} (h1 : b1 = true ↔ Near (valN L q) (valD q) u) (h2 : b2 = true ↔ Near (valN (L + 1) q) (valD q) u) (e1 : b1 = true) (e2 : b2 = false) : Pk u q L (some L) :=
  .inr (.inl ⟨h1.1 e1, (fun h => by rw [h2.2 h] at e2; cases e2), rfl⟩)
theorem pk_hi {u L : Nat} {q : Int} {b1 b2 : Bool} (h1 : b1 = true ↔ Near (valN L q) (valD q) u) (h2 : b2 = true ↔ Near (valN (L + 1) q) (valD q) u) (e1 : b1 = false) (e2 : b2 = true) : Pk u q L (some (L + 1)) :=
  .inr (.inr (.inl ⟨(fun h => by rw [h1.2 h] at e1; cases e1), h2.1 e2, rfl⟩))
theorem pk_both_hi {u L : Nat} {q : Int} (h1 : Near (valN L q) (valD q) u) (h2 : Near (valN (L + 1) q) (valD q) u) (h : valN (2 * L + 1) q < 2 * (V u * valD q) ∨ valN (2 * L + 1) q = 2 * (V u * valD q) ∧ L % 2 = 1) : Pk u q L (some (L + 1)) :=
  .inr (.inr (.inr ⟨h1, h2, .inl ⟨h, rfl⟩⟩))
theorem pk_both_lo {u L : Nat} {q : Int} (h1 : Near (valN L q) (valD q) u) (h2 : Near (valN (L + 1) q) (valD q) u) (h : ¬ (valN (2 * L + 1) q < 2 * (V u * valD q) ∨ valN (2 * L + 1) q = 2 * (V u * valD q) ∧ L % 2 = 1)) : Pk u q L (some L) :=
  .inr (.inr (.inr ⟨h1, h2, .inr ⟨h, rfl⟩⟩))
set_option maxRecDepth 100000 in
set_option maxHeartbeats 4000000 in
theorem shortestC (u : Nat) (w : World) (hf : FS w) (h0 : 0 < u) (hu : u < infR) :
    Calls Tryz.prog 28 #[.float .f64 u] w (ShPost u w) := by
  have HF := fhid hf
  have H0 := fhid h0
  have HU := fhid hu
  have c1 := partsC u w h0 hu
  clear hf h0 hu
  go_enter Tryz.func28, Tryz.ntmps28
  go_wp2_with fail
  refine c1.mono ?_
  clear c1
  rintro e w1 ⟨x, y, a, b, rfl, hx, hy, hfr, ha, hb, hb1⟩
  have X1 := fhid hx
  have Y1 := fhid hy
  have FR := fhid hfr
  have HA : Hid (SmA a) := fhid ⟨ha⟩
  have HB : Hid (SmA b) := fhid ⟨hb⟩
  have B1 := fhid hb1
  clear hx hy hfr ha hb hb1
  go_wp2_with fail
  refine (aboveC x y u a b _ X1.out Y1.out FR.out H0.out HU.out HA.out.lt HB.out.lt).mono ?_
  rintro e w2 ⟨p, rfl, hp1, hp2, hbel, htop, hb2⟩
  have X2 := fhid (X1.out.on hb2)
  have Y2 := fhid (Y1.out.on hb2)
  have B2 := fhid (B1.out.trans (hb2.mono B1.out.size))
  have BE := fhid hbel
  have TP := fhid htop
  clear hbel htop hb2 X1 Y1
  go_wp2_with fail
  refine (tenC x a (-p) _ X2.out HA.out.lt (by omega) (by omega)).mono ?_
  rintro e w3 ⟨r0, rfl, hr0, hb3⟩
  have R3 := fhid hr0
  have Y3 := fhid (Y2.out.on hb3)
  have B3 := fhid (B2.out.trans (hb3.mono B2.out.size))
  clear hr0 hb3 X2 Y2
  go_wp2_with fail
  refine (tenC y b p _ Y3.out HB.out.lt (by omega) (by omega)).mono ?_
  rintro e w4 ⟨bv, rfl, hbv, hb4⟩
  have R4 := fhid (R3.out.on hb4)
  have V4 := fhid hbv
  have B4 := fhid (B3.out.trans (hb4.mono B3.out.size))
  clear hbv hb4 R3 Y3
  have HBq : Hid (0 < b * 10 ^ p.toNat) := fhid (Nat.mul_pos FR.out.pb (Nat.pow_pos (by decide)))
  go_wp2_with fail
  go_loopw [6, 7, 9, 10] (fun pv rv lv kv wr => ∃ (k L R : Nat), pv = .int .i64 p ∧ lv = .int .u64 L ∧ kv = .int .i64 ((k : Int) + 1) ∧ L < 10000000000000000 ∧ k ≤ 16 ∧ Hid (ShR u a b p k L R) ∧ Hid (Num .u32 wr rv R) ∧ Hid (Num .u32 wr bv (b * 10 ^ p.toNat)) ∧ Hid (Below w.heap.size w wr)) (fun _ _ _ kv _ => 20 - (intOf kv).toNat)
  case atStart => exact ⟨0, 0, _, rfl, rfl, rfl, by decide, by decide, fhid (ShR.start BE.out), R4, V4, B4⟩
  case round =>
    clear R4 V4 B4
    obtain ⟨k, L, R, rfl, rfl, rfl, hL, hk, hS, hR, hV, hB⟩ := hrel
    have HRs : Hid (Sm R) := fhid (rest_small (p := p) HB.out (by omega) (by have := hS.out.2.1; omega))
    go_wp2_with fail
    refine (timesC _ R 10 _ hR.out (by decide) HRs.out.lt).mono ?_
    rintro e w5 ⟨rv, rfl, hrv, hb5⟩
    have R5 := fhid hrv
    have V5 := fhid (hV.out.on hb5)
    have B5 := fhid (hB.out.trans (hb5.mono hB.out.size))
    clear hrv hb5
    have HRR : Hid (RestR a b p (k + 1) (L * 10) (R * 10) ∧ R * 10 < b * 10 ^ p.toNat * 10) := fhid ⟨hS.out.1.ten, Nat.mul_lt_mul_of_pos_right hS.out.2.1 (by decide)⟩
    go_wp2_with fail
    go_loopw [7, 9] (fun rv lv wr => ∃ (M Q : Nat), lv = .int .u64 M ∧ M < 100000000000000000 ∧ Hid (RestR a b p (k + 1) M Q ∧ Q < b * 10 ^ p.toNat * 10) ∧ Hid (Num .u32 wr rv Q) ∧ Hid (Num .u32 wr bv (b * 10 ^ p.toNat)) ∧ Hid (Below w.heap.size w wr)) (fun _ lv _ => 1000000000000000000 - (intOf lv).toNat)
    case atStart => exact ⟨L * 10, R * 10, by go_num, by omega, HRR, R5, V5, B5⟩
    case round =>
      clear hL
      obtain ⟨M, Q, rfl, hM, hT, hQ, hV2, hB2⟩ := hrel
      have HQs : Hid (Sm Q) := fhid (rest_small (p := p) HB.out (by omega) (Nat.le_of_lt hT.out.2))
      have HVs : Hid (Sm (b * 10 ^ p.toNat)) := fhid ⟨ten_lt HB.out.lt (by omega)⟩
      go_wp2_with fail
      refine (cmpC _ _ Q (b * 10 ^ p.toNat) _ hQ.out hV2.out HQs.out.lt HVs.out.lt).mono ?_
      rintro e w6 ⟨r, rfl, hr1, hr2, hb6⟩
      have Q6 := fhid (hQ.out.on hb6)
      have V6 := fhid (hV2.out.on hb6)
      have B6 := fhid (hB2.out.trans (hb6.mono hB2.out.size))
      have RR := fhid hr1
      clear hr1 hr2 hb6
      by_cases hge : 0 ≤ r
      · have HLE : Hid (b * 10 ^ p.toNat ≤ Q) := fhid (Nat.le_of_not_lt fun h => by have := RR.out.mpr h; omega)
        have HNX : Hid (RestR a b p (k + 1) (M + 1) (Q - b * 10 ^ p.toNat) ∧ Q - b * 10 ^ p.toNat < b * 10 ^ p.toNat * 10) := fhid ⟨hT.out.1.sub HLE.out, by have := hT.out.2; omega⟩
        have hM1 : M + 1 < 100000000000000000 := HNX.out.1.low hk BE.out
        go_wp2_with fail
        refine (lessC _ _ Q (b * 10 ^ p.toNat) _ Q6.out V6.out HQs.out.lt HLE.out (by have := HLE.out; have := HBq.out; omega)).mono ?_
        rintro e w7 ⟨rv2, rfl, hr7, hb7⟩
        have Q7 := fhid hr7
        have V7 := fhid (V6.out.on hb7)
        have B7 := fhid (B6.out.trans (hb7.mono B6.out.size))
        clear hr7 hb7
        go_wp2_with fail
        go_roundw
        case rel => exact ⟨M + 1, _, by go_num, hM1, HNX, Q7, V7, B7⟩
        case measure => simp [intOf]; omega
      · have HLT : Hid (Q < b * 10 ^ p.toNat) := fhid (RR.out.mp (by omega))
        have HFL : Hid (FloorIs u (p - ((k + 1 : Nat) : Int)) M) := fhid (hT.out.1.floor FR.out HLT.out)
        have HHF := fhid (hT.out.1.half FR.out)
        have HF6 := fhid (HF.out.on (by have := B6.out; exact this))
        have hkk : p - ((k : Int) + 1) = p - ((k + 1 : Nat) : Int) := by omega
        obtain ⟨q, hq⟩ : ∃ q, p - ((k + 1 : Nat) : Int) = q := ⟨_, rfl⟩
        rw [hq] at HFL HHF hkk
        obtain ⟨H, hH⟩ : ∃ H : Nat, M + 1 = H := ⟨_, rfl⟩
        have hHi : (M : Int) + 1 = (H : Int) := by omega
        have HQQ := fhid hq
        have HHH := fhid hH
        clear hq hH
        -- WAYS
        have hq1 : -10000 ≤ q := by omega
        have hq2 : q ≤ 10000 := by omega
        go_wp2_with fail
        with_reducible refine (meansC M q u _ HF6.out (Nat.lt_trans hM (by decide)) hq1 hq2 HU.out).mono ?_
        rintro e w7 ⟨b1, rfl, hn1, hb7⟩
        have Q7 := fhid (Q6.out.on hb7)
        have V7 := fhid (V6.out.on hb7)
        have F7 := fhid (HF6.out.on hb7)
        have B7 := fhid (B6.out.trans (hb7.mono B6.out.size))
        have N1 := fhid hn1
        clear hn1 hb7 HF6 Q6 V6 B6
        go_wp2_with fail
        have hHb : H < 1000000000000000000 := by omega
        with_reducible refine (meansC H q u _ F7.out (Nat.lt_trans hHb (by decide)) hq1 hq2 HU.out).mono ?_
        rintro e w8 ⟨b2, rfl, hn2, hb8⟩
        rw [← HHH.out] at hn2
        have Q8 := fhid (Q7.out.on hb8)
        have V8 := fhid (V7.out.on hb8)
        have F8 := fhid (F7.out.on hb8)
        have B8 := fhid (B7.out.trans (hb8.mono B7.out.size))
        have N2 := fhid hn2
        clear hn2 hb8 F7 Q7 V7 B7
        rcases b1 with _ | _
        · rcases b2 with _ | _
          · have HNX : Hid (ShR u a b p (k + 1) M Q) := fhid ⟨hT.out.1, HLT.out, hS.out.2.2.next (L := M) (by rw [HQQ.out]; exact HFL.out) (by rw [HQQ.out]; exact pk_none N1.out N2.out rfl rfl)⟩
            obtain ⟨hk2, hM2⟩ := HNX.out.low H0.out BE.out TP.out
            go_wp2_with fail
            go_roundw
            case rel => exact ⟨k + 1, M, Q, rfl, rfl, by go_num, hM2, hk2, HNX, Q8, V8, B8⟩
            case measure => simp [intOf]; omega
          · have HP : Hid (Pk u q M (some H)) := fhid (by rw [← HHH.out]; exact pk_hi N1.out N2.out rfl rfl)
            go_wp2_with fail
            have hD : H < 1000000000000000000 := by omega
            with_reducible refine (fmtUintC H (by omega) _ F8.out.tab).mono ?_
            rintro e wf ⟨rfl, hbf⟩
            have BF := fhid (B8.out.trans (hbf.mono B8.out.size))
            have HTB : Hid (bl ⟨(Lib.decDigits H).toArray⟩ = ddg H ∧ (⟨(Lib.decDigits H).toArray⟩ : ByteArray).data.toList = Lib.decDigits H) := fhid ⟨bl_mk _, rfl⟩
            have hts : (⟨(Lib.decDigits H).toArray⟩ : ByteArray).size ≤ 19 := by
              rw [← bl_length, HTB.out.1]; exact ddg_le (k := 18) (Nat.lt_trans hD (by decide))
            obtain ⟨t, ht⟩ : ∃ t : ByteArray, ⟨(Lib.decDigits H).toArray⟩ = t := ⟨_, rfl⟩
            rw [ht] at HTB hts ⊢
            clear ht hbf
            go_wp2_with fail
            with_reducible refine (Tryz.strings_TrimRight_one t 48 (by decide) _ (by omega)).mono ?_
            rintro e w10 ⟨rfl, rfl⟩
            go_wp2_with fail
            go_ret2
            refine ⟨_, _, rfl, ⟨p, k + 1, M, H, by omega, TP.out, hS.out.2.2, by rw [HQQ.out]; exact HFL.out, by rw [HQQ.out]; exact HP.out, trim_word HTB.out.2, ?_⟩, BF.out⟩
            rw [← HTB.out.1, bl_length]; omega
        · rcases b2 with _ | _
          · have HP : Hid (Pk u q M (some M)) := fhid (pk_lo N1.out N2.out rfl rfl)
            go_wp2_with fail
            have hD : M < 1000000000000000000 := by omega
            with_reducible refine (fmtUintC M (by omega) _ F8.out.tab).mono ?_
            rintro e wf ⟨rfl, hbf⟩
            have BF := fhid (B8.out.trans (hbf.mono B8.out.size))
            have HTB : Hid (bl ⟨(Lib.decDigits M).toArray⟩ = ddg M ∧ (⟨(Lib.decDigits M).toArray⟩ : ByteArray).data.toList = Lib.decDigits M) := fhid ⟨bl_mk _, rfl⟩
            have hts : (⟨(Lib.decDigits M).toArray⟩ : ByteArray).size ≤ 19 := by
              rw [← bl_length, HTB.out.1]; exact ddg_le (k := 18) (Nat.lt_trans hD (by decide))
            obtain ⟨t, ht⟩ : ∃ t : ByteArray, ⟨(Lib.decDigits M).toArray⟩ = t := ⟨_, rfl⟩
            rw [ht] at HTB hts ⊢
            clear ht hbf
            go_wp2_with fail
            with_reducible refine (Tryz.strings_TrimRight_one t 48 (by decide) _ (by omega)).mono ?_
            rintro e w10 ⟨rfl, rfl⟩
            go_wp2_with fail
            go_ret2
            refine ⟨_, _, rfl, ⟨p, k + 1, M, M, by omega, TP.out, hS.out.2.2, by rw [HQQ.out]; exact HFL.out, by rw [HQQ.out]; exact HP.out, trim_word HTB.out.2, ?_⟩, BF.out⟩
            rw [← HTB.out.1, bl_length]; omega
          · have NN := fhid (And.intro (N1.out.1 rfl) (N2.out.1 rfl))
            clear N1 N2
            have HQ2 : Hid (Sm (Q * 2)) := fhid (rest_small (p := p) HB.out (by omega) (by have := HLT.out; omega))
            go_wp2_with fail
            refine (timesC _ Q 2 _ Q8.out (by decide) HQs.out.lt).mono ?_
            rintro e w9 ⟨rv9, rfl, hr9, hb9⟩
            have Q9 := fhid hr9
            have V9 := fhid (V8.out.on hb9)
            have F9 := fhid (F8.out.on hb9)
            have B9 := fhid (B8.out.trans (hb9.mono B8.out.size))
            clear hr9 hb9 F8 Q8 V8 B8
            go_wp2_with fail
            with_reducible refine (cmpC _ _ (Q * 2) (b * 10 ^ p.toNat) _ Q9.out V9.out HQ2.out.lt HVs.out.lt).mono ?_
            rintro e wa ⟨r2, rfl, hr1, hr2, hba⟩
            have FA := fhid (F9.out.on hba)
            have BA := fhid (B9.out.trans (hba.mono B9.out.size))
            have RA := fhid (And.intro (hr1.trans HHF.out.2) (hr2.trans HHF.out.1))
            clear hr1 hr2 hba F9 Q9 V9 B9
            have hand : ∀ z : Nat, z = M % 2 → bits BinOp.and IntKind.u64 (M : Int) 1 = (z : Int) := fun z hz => by
              have h := u64_and_nat M 1 (by omega) (by decide)
              rw [nat_mask1, ← hz] at h
              exact h
            have HAND := fhid hand
            clear hand
            rcases Int.lt_trichotomy r2 0 with hr | hr | hr
            · have HP : Hid (Pk u q M (some M)) := fhid (pk_both_lo NN.out.1 NN.out.2 (fun h => by have := RA.out.1.mp hr; omega))
              go_wp2_with fail
              have hD : M < 1000000000000000000 := by omega
              with_reducible refine (fmtUintC M (by omega) _ FA.out.tab).mono ?_
              rintro e wf ⟨rfl, hbf⟩
              have BF := fhid (BA.out.trans (hbf.mono BA.out.size))
              have HTB : Hid (bl ⟨(Lib.decDigits M).toArray⟩ = ddg M ∧ (⟨(Lib.decDigits M).toArray⟩ : ByteArray).data.toList = Lib.decDigits M) := fhid ⟨bl_mk _, rfl⟩
              have hts : (⟨(Lib.decDigits M).toArray⟩ : ByteArray).size ≤ 19 := by
                rw [← bl_length, HTB.out.1]; exact ddg_le (k := 18) (Nat.lt_trans hD (by decide))
              obtain ⟨t, ht⟩ : ∃ t : ByteArray, ⟨(Lib.decDigits M).toArray⟩ = t := ⟨_, rfl⟩
              rw [ht] at HTB hts ⊢
              clear ht hbf
              go_wp2_with fail
              with_reducible refine (Tryz.strings_TrimRight_one t 48 (by decide) _ (by omega)).mono ?_
              rintro e w10 ⟨rfl, rfl⟩
              go_wp2_with fail
              go_ret2
              refine ⟨_, _, rfl, ⟨p, k + 1, M, M, by omega, TP.out, hS.out.2.2, by rw [HQQ.out]; exact HFL.out, by rw [HQQ.out]; exact HP.out, trim_word HTB.out.2, ?_⟩, BF.out⟩
              rw [← HTB.out.1, bl_length]; omega
            · subst hr
              have HEQ : Hid (valN (2 * M + 1) q = 2 * (V u * valD q)) := fhid (by
                have h1 : ¬ 2 * (V u * valD q) < valN (2 * M + 1) q := fun h => by have := RA.out.1.mpr h; omega
                have h2 : ¬ valN (2 * M + 1) q < 2 * (V u * valD q) := fun h => by have := RA.out.2.mpr h; omega
                omega)
              rcases Nat.mod_two_eq_zero_or_one M with hm | hm
              · have HP : Hid (Pk u q M (some M)) := fhid (pk_both_lo NN.out.1 NN.out.2 (fun h => by have := HEQ.out; omega))
                have ha := HAND.out 0 hm.symm
                clear hm
                go_wp2_with fail
                have hD : M < 1000000000000000000 := by omega
                with_reducible refine (fmtUintC M (by omega) _ FA.out.tab).mono ?_
                rintro e wf ⟨rfl, hbf⟩
                have BF := fhid (BA.out.trans (hbf.mono BA.out.size))
                have HTB : Hid (bl ⟨(Lib.decDigits M).toArray⟩ = ddg M ∧ (⟨(Lib.decDigits M).toArray⟩ : ByteArray).data.toList = Lib.decDigits M) := fhid ⟨bl_mk _, rfl⟩
                have hts : (⟨(Lib.decDigits M).toArray⟩ : ByteArray).size ≤ 19 := by
                  rw [← bl_length, HTB.out.1]; exact ddg_le (k := 18) (Nat.lt_trans hD (by decide))
                obtain ⟨t, ht⟩ : ∃ t : ByteArray, ⟨(Lib.decDigits M).toArray⟩ = t := ⟨_, rfl⟩
                rw [ht] at HTB hts ⊢
                clear ht hbf
                go_wp2_with fail
                with_reducible refine (Tryz.strings_TrimRight_one t 48 (by decide) _ (by omega)).mono ?_
                rintro e w10 ⟨rfl, rfl⟩
                go_wp2_with fail
                go_ret2
                refine ⟨_, _, rfl, ⟨p, k + 1, M, M, by omega, TP.out, hS.out.2.2, by rw [HQQ.out]; exact HFL.out, by rw [HQQ.out]; exact HP.out, trim_word HTB.out.2, ?_⟩, BF.out⟩
                rw [← HTB.out.1, bl_length]; omega
              · have HP : Hid (Pk u q M (some H)) := fhid (by rw [← HHH.out]; exact pk_both_hi NN.out.1 NN.out.2 (.inr ⟨HEQ.out, hm⟩))
                have ha := HAND.out 1 hm.symm
                clear hm
                go_wp2_with fail
                have hD : H < 1000000000000000000 := by omega
                with_reducible refine (fmtUintC H (by omega) _ FA.out.tab).mono ?_
                rintro e wf ⟨rfl, hbf⟩
                have BF := fhid (BA.out.trans (hbf.mono BA.out.size))
                have HTB : Hid (bl ⟨(Lib.decDigits H).toArray⟩ = ddg H ∧ (⟨(Lib.decDigits H).toArray⟩ : ByteArray).data.toList = Lib.decDigits H) := fhid ⟨bl_mk _, rfl⟩
                have hts : (⟨(Lib.decDigits H).toArray⟩ : ByteArray).size ≤ 19 := by
                  rw [← bl_length, HTB.out.1]; exact ddg_le (k := 18) (Nat.lt_trans hD (by decide))
                obtain ⟨t, ht⟩ : ∃ t : ByteArray, ⟨(Lib.decDigits H).toArray⟩ = t := ⟨_, rfl⟩
                rw [ht] at HTB hts ⊢
                clear ht hbf
                go_wp2_with fail
                with_reducible refine (Tryz.strings_TrimRight_one t 48 (by decide) _ (by omega)).mono ?_
                rintro e w10 ⟨rfl, rfl⟩
                go_wp2_with fail
                go_ret2
                refine ⟨_, _, rfl, ⟨p, k + 1, M, H, by omega, TP.out, hS.out.2.2, by rw [HQQ.out]; exact HFL.out, by rw [HQQ.out]; exact HP.out, trim_word HTB.out.2, ?_⟩, BF.out⟩
                rw [← HTB.out.1, bl_length]; omega
            · have HP : Hid (Pk u q M (some H)) := fhid (by rw [← HHH.out]; exact pk_both_hi NN.out.1 NN.out.2 (.inl (RA.out.2.mp hr)))
              go_wp2_with fail
              have hD : H < 1000000000000000000 := by omega
              with_reducible refine (fmtUintC H (by omega) _ FA.out.tab).mono ?_
              rintro e wf ⟨rfl, hbf⟩
              have BF := fhid (BA.out.trans (hbf.mono BA.out.size))
              have HTB : Hid (bl ⟨(Lib.decDigits H).toArray⟩ = ddg H ∧ (⟨(Lib.decDigits H).toArray⟩ : ByteArray).data.toList = Lib.decDigits H) := fhid ⟨bl_mk _, rfl⟩
              have hts : (⟨(Lib.decDigits H).toArray⟩ : ByteArray).size ≤ 19 := by
                rw [← bl_length, HTB.out.1]; exact ddg_le (k := 18) (Nat.lt_trans hD (by decide))
              obtain ⟨t, ht⟩ : ∃ t : ByteArray, ⟨(Lib.decDigits H).toArray⟩ = t := ⟨_, rfl⟩
              rw [ht] at HTB hts ⊢
              clear ht hbf
              go_wp2_with fail
              with_reducible refine (Tryz.strings_TrimRight_one t 48 (by decide) _ (by omega)).mono ?_
              rintro e w10 ⟨rfl, rfl⟩
              go_wp2_with fail
              go_ret2
              refine ⟨_, _, rfl, ⟨p, k + 1, M, H, by omega, TP.out, hS.out.2.2, by rw [HQQ.out]; exact HFL.out, by rw [HQQ.out]; exact HP.out, trim_word HTB.out.2, ?_⟩, BF.out⟩
              rw [← HTB.out.1, bl_length]; omega
end Go.Proofs.YtlhhpehfgkanoaaGreatDoor.fl
