/- The contract of internal/strconv.atof64 at a decimal word of which digits are left out. -/
import Derived.Test.YtlhhpehfgkanoaaGreatDoorFlV
import Derived.Test.YtlhhpehfgkanoaaGreatDoorFlU
import Derived.Test.YtlhhpehfgkanoaaGreatDoorFlD
/- The contract of internal/strconv.atof64 at a decimal word of which digits are left out. -/
namespace Go.Proofs.YtlhhpehfgkanoaaGreatDoor.fl
open Go.ChangeShapes Go.WideShapes Go.ChangeAt Go.RowKit
set_option linter.unusedVariables false
set_option linter.unusedSimpArgs false
theorem ord_eqB (s : Bool) (u v : Nat) (hu : u ≤ infR) (hv : v ≤ infR) : ∃ o, Ieee.double.order (sgw s + u) (sgw s + v) = some o ∧ (o = .eq ↔ u = v) := by
  rcases Nat.lt_or_eq_of_le hu with h1 | h1
  · rcases Nat.lt_or_eq_of_le hv with h2 | h2
    · refine ⟨_, order_val s s u v h1 h2, ?_⟩
      rw [Int.compare_eq_eq]
      constructor
      · intro h
        have : V u = V v := by cases s <;> simp [sI] at h <;> omega
        rcases Nat.lt_trichotomy u v with g | g | g
        · have := V_lt g; omega
        · exact g
        · have := V_lt g; omega
      · rintro rfl; rfl
    · obtain ⟨m, i, r⟩ := reads s u h1
      rw [h2]
      unfold Ieee.Format.order
      rw [read_inf, r.read]
      refine ⟨_, rfl, ?_⟩
      have : u ≠ infR := by omega
      cases s <;> simp [this]
  · rcases Nat.lt_or_eq_of_le hv with h2 | h2
    · obtain ⟨m, i, r⟩ := reads s v h2
      rw [h1]
      unfold Ieee.Format.order
      rw [read_inf, r.read]
      refine ⟨_, rfl, ?_⟩
      have : infR ≠ v := by omega
      cases s <;> simp [this]
    · rw [h1, h2]
      exact ⟨.eq, ord_self s infR (Nat.le_refl _), by simp⟩
/-- Digits left out: 20 of them and more. -/
theorem tr_wide {m : List Nat} {p : Bool} (h : Mant m p) (ht : (rf m).tr = true) : 20 ≤ (rf m).nd ∧ (rf m).ndm = 19 ∧ 10 ^ 18 ≤ (rf m).mant ∧ (rf m).mant < 10 ^ 19 := by
  have ok := rf_ok h
  obtain ⟨r, r1, r2, r3⟩ := ok.num
  have hr : r ≠ 0 := r3.1 ht
  have hm := ok.ndm
  have hgt : 20 ≤ (rf m).nd := by
    rcases Nat.lt_or_ge (rf m).nd 20 with hh | hh
    · exfalso
      rw [show (rf m).nd - (rf m).ndm = 0 by omega, Nat.pow_zero] at r1
      omega
    · exact hh
  have h19 : (rf m).ndm = 19 := by omega
  have lo := ok.low (by omega)
  have hi := ok.mant
  rw [h19] at lo hi
  exact ⟨hgt, h19, lo, hi⟩
theorem wq_dp {m : List Nat} {p : Bool} (h : Mant m p) (E : Int) : rfDp m + E - ((rf m).nd : Int) = wq m E := by
  have ok := rf_ok h
  unfold rfDp wq
  rw [ok.dot]
  cases p
  · rw [if_neg (by decide), ok.frac0 rfl]; omega
  · rw [if_pos rfl, ok.dp rfl]; omega
theorem zc_at (i : Nat) (h : i < 800) : Tryz.zeroCells194[i]? = some (.int .u8 0) := by
  have : (List.range 800).all (fun i => match Tryz.zeroCells194[i]? with | some (.int .u8 n) => n == 0 | _ => false) = true := by decide +kernel
  have h2 := List.all_eq_true.1 this i (List.mem_range.2 h)
  split at h2
  · rename_i n e
    rw [e]
    simp at h2
    rw [h2]
  · cases h2
/-- A new decimal. -/
theorem dec_new (w : World) : DecIs (w.alloc (.cells Tryz.zeroCells194 194)) w.heap.size (fun _ => 0) 0 0 false false := by
  have z0 : Tryz.zeroCells194[800]? = some (.int .i64 0) := by kernel_rfl
  have z1 : Tryz.zeroCells194[801]? = some (.int .i64 0) := by kernel_rfl
  have z2 : Tryz.zeroCells194[802]? = some (.bool false) := by kernel_rfl
  have z3 : Tryz.zeroCells194[803]? = some (.bool false) := by kernel_rfl
  refine ⟨fun i hi => ?_, ?_, ?_, ?_, ?_, fun i hi => ?_⟩
  · rw [World.cell?_alloc_at _ _ _ _ rfl]; exact zc_at i hi
  · rw [World.cell?_alloc_at _ _ _ _ rfl]; exact z0
  · rw [World.cell?_alloc_at _ _ _ _ rfl]; exact z1
  · rw [World.cell?_alloc_at _ _ _ _ rfl]; exact z2
  · rw [World.cell?_alloc_at _ _ _ _ rfl]; exact z3
  · go_simp
theorem rfX_dp (m : List Nat) (E : Int) : rfX m E = rfDp m + E - ((rf m).ndm : Int) := rfl
set_option maxRecDepth 100000 in
set_option maxHeartbeats 4000000 in
theorem atof64T (s : ByteArray) (neg : Bool) (m : List Nat) (p : Bool) (E : Int) (w : World) (h : DecW s neg m p E) (ht : (rf m).tr = true) (hs64 : s.size ≤ 64) (hf : FO w) (hxx : FX w)
    (hR : ∀ w, Calls Tryz.prog 133 #[.string s] w (RfPost s neg m E w)) :
    Calls Tryz.prog 119 #[.string s] w (AtofPost neg m E s.size w) := by
  obtain ⟨h0, hfirst⟩ := dec_first h
  have cs := fun w => specialC s w h0 (Nat.le_trans h.short (by decide)) hfirst
  have hm := h.mant
  have hlen := h.short
  obtain ⟨t1, t2, t3, t4⟩ := tr_wide hm ht
  have hndl : (rf m).nd ≤ 64 := by
    have h1 := (rf_ok hm).nd
    obtain ⟨⟨sg, xs, hb, _, _⟩, _, _, _⟩ := h
    have := congrArg List.length hb
    rw [bl_length] at this
    simp at this
    omega
  obtain ⟨d, hd⟩ : ∃ d, (rf m).mant = d := ⟨_, rfl⟩
  obtain ⟨x, hx⟩ : ∃ x, rfExp m E = x := ⟨_, rfl⟩
  have hxX : x = rfX m E := by rw [← hx]; unfold rfExp rfX; rw [if_neg (by omega)]
  have hbt : Hid (∀ u1 u2 u, Near (valN d x) (valD x) u1 → Near (valN (d + 1) x) (valD x) u2 → Near (valN (dnum m) (wq m E)) (valD (wq m E)) u → u1 ≤ u ∧ u ≤ u2) := fhid (fun u1 u2 u h1 h2 hu => near_between hm E (by rw [hd, ← hxX]; exact h1) (by rw [hd, ← hxX]; exact h2) hu)
  have hdp : Hid (x = rfDp m + E - 19) := fhid (by rw [hxX, rfX_dp, t2]; rfl)
  have cr : ∀ w, Calls Tryz.prog 133 #[.string s] w fun e w' => e = .returned (.tuple #[.int .u64 d, .int .i64 x, .bool neg, .bool true, .bool false, .int .i64 s.size, .bool true]) ∧ ∃ n, w' = w.drewN n := by
    intro w
    have := hR w
    unfold RfPost at this
    rwa [hd, hx, ht] at this
  rw [hd] at t3 t4
  have hd1 : 1000000000000000000 ≤ d := t3
  have hd2 : d < 10000000000000000000 := t4
  have hopt := hf.opt
  have HF := fhid hf
  have HXX := fhid hxx
  have hfb := ffb
  have HW := fhid h
  have HND := fhid hndl
  have HN20 := fhid t1
  have HMN := fhid hm
  obtain ⟨S, hS⟩ : ∃ S, sgw neg = S := ⟨_, rfl⟩
  obtain ⟨b2, hb2⟩ : ∃ b : Int, (if neg = true then (1 : Int) else 0) = b := ⟨_, rfl⟩
  have hsh : IntKind.u64.wrap (b2 * 9223372036854775808) = (S : Int) := by rw [← hb2, ← hS]; exact sgn_shift neg
  have hor0 : bits BinOp.or IntKind.u64 (S : Int) 0 = (S : Int) := by rw [← hS]; exact zor_sg (m := 0) (by decide)
  have hori : bits BinOp.or IntKind.u64 (S : Int) 9218868437227405312 = ((S + infR : Nat) : Int) := by rw [← hS]; exact zor_inf (sgw neg) (by cases neg <;> simp [sgw])
  have cb : ∀ w, Calls Tryz.prog 141 #[.bool neg] w fun e w' => e = .returned (.int .u64 b2) ∧ w = w' := fun w => by rw [← hb2]; exact bool2u neg w
  have HS := fhid hS
  have hz : ¬ d = 0 := by omega
  have hzi : ((d : Int) == 0) = false := by simp; omega
  clear hd hx hf hfirst h hR hS hb2 hxX t1 t2 t3 t4 hm ht hndl hxx
  go_enter Tryz.func119, Tryz.ntmps119
  go_wp2_with fail
  refine (cs _).mono ?_
  clear cs
  rintro e w1 ⟨rfl, rfl⟩
  go_wp2_with fail
  refine (cr _).mono ?_
  clear cr
  rintro e w1 ⟨rfl, n1, rfl⟩
  have hopt : (w.drewN n1).cell? ⟨10, 0, none⟩ = some (.bool true) := hopt
  go_wp2_with fail
  refine (cb _).mono ?_
  clear cb
  rintro e w1 ⟨rfl, rfl⟩
  by_cases h310 : 310 < x
  · have hfin : Hid (∃ u, Near (valN (dnum m) (wq m E)) (valD (wq m E)) u ∧ Ending.returned (.tuple #[.float .f64 (S + infR), .int .i64 s.size, .iface 134 (.int .i64 1)]) = .returned (pf3 neg u s.size)) := fhid (by
      obtain ⟨u, hu⟩ := near_exists (valN (dnum m) (wq m E)) (valD (wq m E)) (valD_pos _)
      obtain ⟨u1, hu1⟩ := near_exists (valN d x) (valD x) (valD_pos x)
      obtain ⟨u2, hu2⟩ := near_exists (valN (d + 1) x) (valD x) (valD_pos x)
      have := hbt.out u1 u2 u hu1 hu2 hu
      have := far_up (by omega) h310 hu1
      exact ⟨u, hu, by rw [pf3_ge (by omega), HS.out]⟩)
    clear hz
    go_wp2_with fail
    go_ret3
    obtain ⟨u, u1, u2⟩ := hfin.out
    exact ⟨u, u1, u2, below_dn (Below.refl _ _) _⟩
  · by_cases h345 : x < -345
    · have hfin : Hid (∃ u, Near (valN (dnum m) (wq m E)) (valD (wq m E)) u ∧ Ending.returned (.tuple #[.float .f64 S, .int .i64 s.size, .nilIface]) = .returned (pf3 neg u s.size)) := fhid (by
        obtain ⟨u, hu⟩ := near_exists (valN (dnum m) (wq m E)) (valD (wq m E)) (valD_pos _)
        have := hbt.out 0 0 u (far_down (by omega) h345) (far_down (by omega) h345) hu
        obtain rfl : u = 0 := by omega
        exact ⟨0, hu, by rw [pf3_lt (by decide), HS.out]; rfl⟩)
      clear hz
      go_wp2_with fail
      go_ret3
      obtain ⟨u, u1, u2⟩ := hfin.out
      exact ⟨u, u1, u2, below_dn (Below.refl _ _) _⟩
    · have hx1 : -345 ≤ x := by omega
      have hx2 : x ≤ 310 := by omega
      have cp := fun w hf => parseFloat64C d x neg w (by omega) (by omega) hx1 hx2 hf
      have cp2 := fhid (fun w hf => parseFloat64C (d + 1) x neg w (by omega) (by omega) hx1 hx2 hf)
      rw [HS.out] at cp
      clear hz
      go_wp2_with fail
      refine (cp _ (HF.out.drewN n1).tab).mono ?_
      clear cp
      rintro e w2 ⟨u1, hu1, rfl, hb⟩
      have HU1 := fhid hu1
      have HB2 : Hid (Below w.heap.size w w2) := fhid ((below_dn (Below.refl _ _) n1).trans hb)
      clear hu1 hb
      have HX2 : Hid (FX w2) := fhid (HXX.out.on HB2.out)
      have HF2 := fhid (HF.out.on HB2.out)
      -- what is left behind the two quick answers
      have HSL : Hid (∀ u1 u2, Near (valN d x) (valD x) u1 → Near (valN (d + 1) x) (valD x) u2 → min u1 infR = min u2 infR → ∃ u, Near (valN (dnum m) (wq m E)) (valD (wq m E)) u ∧ min u infR = min u1 infR) := fhid (fun u1 u2 a1 a2 a3 => by
        obtain ⟨u, hu⟩ := near_exists (valN (dnum m) (wq m E)) (valD (wq m E)) (valD_pos _)
        have := hbt.out u1 u2 u a1 a2 hu
        exact ⟨u, hu, by omega⟩)
      obtain ⟨U1, hU1⟩ : ∃ U, min u1 infR = U := ⟨_, rfl⟩
      have hpf1 : ∃ ev, pfV neg u1 = .tuple #[.float .f64 ((S + U1 : Nat)), ev] ∧ (u1 < infR ∧ ev = .nilIface ∨ infR ≤ u1 ∧ ev = .iface 134 (.int .i64 1)) := by
        unfold pfV
        by_cases hh : u1 < infR
        · exact ⟨_, by rw [if_pos hh, ← hU1, HS.out, Nat.min_eq_left (Nat.le_of_lt hh)], .inl ⟨hh, rfl⟩⟩
        · exact ⟨_, by rw [if_neg hh, ← hU1, HS.out, Nat.min_eq_right (Nat.le_of_not_lt hh)], .inr ⟨Nat.le_of_not_lt hh, rfl⟩⟩
      obtain ⟨ev1, hp1, hev1⟩ := hpf1
      rw [hp1]
      have HEV := fhid hev1
      have HU1m := fhid hU1
      have hd1i : (d : Int) + 1 = ((d + 1 : Nat) : Int) := by omega
      clear hp1 hev1 hU1
      have cp2 : Hid (∀ w, P10 w → Calls Tryz.prog 144 #[.int .u64 ((d : Int) + 1), .int .i64 x, .int .u64 (S : Int)] w fun e w' => ∃ u, Near (valN (d + 1) x) (valD x) u ∧ e = .returned (pfV neg u) ∧ Below w.heap.size w w') := fhid (fun w hf => by rw [hd1i, ← HS.out]; exact cp2.out w hf)
      clear hd1i
      go_wp2_with fail
      refine (cp2.out _ HF2.out.tab).mono ?_
      clear cp2
      rintro e w3 ⟨u2, hu2, rfl, hb3⟩
      obtain ⟨U2, hU2⟩ : ∃ U, min u2 infR = U := ⟨_, rfl⟩
      have hpf2 : ∃ ev, pfV neg u2 = .tuple #[.float .f64 ((S + U2 : Nat)), ev] := by
        unfold pfV
        by_cases hh : u2 < infR
        · exact ⟨_, by rw [if_pos hh, ← hU2, HS.out, Nat.min_eq_left (Nat.le_of_lt hh)]⟩
        · exact ⟨_, by rw [if_neg hh, ← hU2, HS.out, Nat.min_eq_right (Nat.le_of_not_lt hh)]⟩
      obtain ⟨ev2, hp2⟩ := hpf2
      rw [hp2]
      obtain ⟨o, ho, hoe⟩ := ord_eqB neg U1 U2 (by rw [← HU1m.out]; exact Nat.min_le_right _ _) (by rw [← hU2]; exact Nat.min_le_right _ _)
      rw [HS.out] at ho
      have ho : FloatKind.f64.format.order (S + U1) (S + U2) = some o := ho
      have HB3 : Hid (Below w.heap.size w w3) := fhid (HB2.out.trans (hb3.mono HB2.out.size))
      have HX3 : Hid (FX w3) := fhid (HXX.out.on HB3.out)
      have HF3 := fhid (HF.out.on HB3.out)
      by_cases heq : U1 = U2
      · have hoq : o = .eq := hoe.2 heq
        subst hoq
        have hfin : Hid (∃ u, Near (valN (dnum m) (wq m E)) (valD (wq m E)) u ∧ Ending.returned (.tuple #[.float .f64 (S + U1), .int .i64 s.size, ev1]) = .returned (pf3 neg u s.size)) := fhid (by
          obtain ⟨u, g1, g2⟩ := HSL.out u1 u2 HU1.out hu2 (by rw [HU1m.out, hU2]; exact heq)
          refine ⟨u, g1, ?_⟩
          rcases HEV.out with ⟨q1, q2⟩ | ⟨q1, q2⟩
          · rw [pf3_lt (by omega), q2, HS.out]
            have : U1 = u := by rw [← HU1m.out]; omega
            rw [this]
          · rw [pf3_ge (by omega), q2, HS.out]
            have : U1 = infR := by rw [← HU1m.out]; omega
            rw [this])
        clear hoe hU2 hp2 hu2 hb3 heq
        go_wp2_with fail
        go_ret3
        obtain ⟨u, q1, q2⟩ := hfin.out
        exact ⟨u, q1, q2, HB3.out⟩
      · have hoq : (o == .eq) = false := by
          cases o with
          | eq => exact absurd (hoe.1 rfl) heq
          | lt => rfl
          | gt => rfl
        have cset := fhid (setC s neg m p E w3.heap.size (fun _ => 0) false false _ HW.out (dec_new w3))
        obtain ⟨B0, hB0⟩ : ∃ B0, w3.heap.size = B0 := ⟨_, rfl⟩
        have HB0 := fhid hB0
        rw [hB0] at cset
        have HBA : Hid (Below B0 w3 (w3.alloc (.cells Tryz.zeroCells194 194))) := fhid (by rw [← hB0]; exact (Below.refl _ _).alloc (Nat.le_refl _) _)
        have HFF : Hid (∃ u, Near (valN (dnum m) (wq m E)) (valD (wq m E)) u) := fhid (near_exists _ _ (valD_pos _))
        clear hoe hU2 hp2 hu2 hb3 HSL HEV heq
        go_wp2_with fail
        with_reducible refine cset.out.mono ?_
        clear cset
        rintro e w4 ⟨rfl, f, hI, hdg, hdn, htop, hb4⟩
        obtain ⟨u, hu⟩ := HFF.out
        have hxb : FXb w4 B0 := ⟨w3, HX3.out, Nat.le_of_eq HB0.out, by rw [HB0.out]; exact HBA.out.trans hb4⟩
        have cfb := fhid (floatBitsC B0 f (rf m).nd (rfDp m + E) neg u w4 hxb hI hdg (by have := HN20.out; omega) HND.out (htop (by have := HN20.out; omega)) (by have := hdp.out; omega) (by have := hdp.out; omega) (by rw [hdn, wq_dp HMN.out E]; exact hu))
        have HB4 : Hid (Below w.heap.size w w4) := fhid (HB3.out.trans ((HBA.out.trans hb4).mono (by rw [← HB0.out]; exact HB3.out.size)))
        have HU := fhid hu
        have HBL : Hid (w.heap.size ≤ B0) := fhid (by rw [← HB0.out]; exact HB3.out.size)
        clear hI hdg hdn htop hb4 hu hxb
        go_wp2_with fail
        with_reducible refine cfb.out.mono ?_
        clear cfb
        rintro e w5 ⟨rfl, hb5⟩
        have HB5 : Hid (Below w.heap.size w w5) := fhid (HB4.out.trans (hb5.mono HBL.out))
        rw [HS.out]
        clear hb5
        by_cases hi : u < infR
        · have hdi : decide (infR ≤ u) = false := by rw [decide_eq_false_iff_not]; omega
          have he : Hid (pf3 neg u s.size = .tuple #[.float .f64 (S + u), .int .i64 s.size, .nilIface]) := fhid (by rw [pf3_lt hi, HS.out])
          rw [hdi, Nat.min_eq_left (Nat.le_of_lt hi)]
          clear hi hdi
          go_wp2_with fail
          go_ret3
          exact ⟨u, HU.out, by rw [he.out]; rfl, HB5.out⟩
        · have hdi : decide (infR ≤ u) = true := by rw [decide_eq_true_iff]; omega
          have he : Hid (pf3 neg u s.size = .tuple #[.float .f64 (S + infR), .int .i64 s.size, .iface 134 (.int .i64 1)]) := fhid (by rw [pf3_ge (Nat.le_of_not_lt hi), HS.out])
          rw [hdi, Nat.min_eq_right (Nat.le_of_not_lt hi)]
          clear hi hdi
          go_wp2_with fail
          go_ret3
          exact ⟨u, HU.out, by rw [he.out]; rfl, HB5.out⟩
end Go.Proofs.YtlhhpehfgkanoaaGreatDoor.fl
