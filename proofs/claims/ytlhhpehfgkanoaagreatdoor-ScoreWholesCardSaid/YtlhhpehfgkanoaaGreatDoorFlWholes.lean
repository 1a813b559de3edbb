/- ScoreWholes, the tied card: whole numbers, however they are written, mean what the language's own conversion makes of them. Condition: the listed tables of Go's library read as their initialisers lay them, which the card ties to the program's text. -/
import Derived.Test.YtlhhpehfgkanoaaGreatDoorFlS
import Derived.Deep.RegionHeld3
import Derived.Test.YtlhhpehfgkanoaaGreatDoorFlG
import Derived.Test.YtlhhpehfgkanoaaGreatDoorFlR
import Derived.Test.YtlhhpehfgkanoaaGreatDoorTie
import Derived.Test.YtlhhpehfgkanoaaGreatDoorCards
import Derived.ProofKit
import Derived.OpenShut
import Derived.Stop.LaidErr
import Derived.SevenTiedAt
import Derived.Lay
/- The walk of the law ScoreWholes. -/
namespace Go.Proofs.YtlhhpehfgkanoaaGreatDoor.fl
open Go.ChangeShapes Go.WideShapes Go.ChangeAt Go.RowKit
set_option linter.unusedVariables false
set_option linter.unusedSimpArgs false
theorem whole_near {n u : Nat} (hu : Near (valN n 0) (valD 0) u) (hi : u < infR) : floatOfInt .f64 (n : Int) = sgw false + u := by
  have e0 : floatOfInt .f64 (n : Int) = Ieee.double.nearest false n 0 := by
    unfold floatOfInt
    have h0 : decide ((n : Int) < 0) = false := by rw [decide_eq_false_iff_not]; omega
    show Ieee.double.nearest (decide ((n : Int) < 0)) (n : Int).natAbs 0 = _
    rw [h0]
    rfl
  rw [e0]
  rcases Nat.eq_zero_or_pos n with h | h
  · subst h
    rw [nearest_zero, near_unique (valD_pos _) hu (near_zero 0)]
    rfl
  · obtain ⟨v, hv, e⟩ := nearest_near false n 0 h
    have hk : (0 + 1074 : Int).toNat = K74 := by rw [K74_eq]; rfl
    have hk2 : (-(0 + 1074 : Int)).toNat = 0 := by decide
    rw [hk, hk2, Nat.pow_zero] at hv
    have hN : valN n 0 = n * 2 ^ K74 := by rw [valN_pow]; simp
    have hD : valD 0 = 1 := rfl
    rw [hN, hD] at hu
    rw [e, near_unique Nat.one_pos hv hu, Nat.min_eq_left (Nat.le_of_lt hi)]
theorem tmod_in (a : Int) (L : Nat) : -(L : Int) ≤ a.tmod ((L : Int) + 1) ∧ a.tmod ((L : Int) + 1) ≤ L := by
  have h : ∀ m : Nat, (m : Int).tmod ((L : Int) + 1) = ((m % (L + 1) : Nat) : Int) := fun m => by
    rw [show (L : Int) + 1 = ((L + 1 : Nat) : Int) by omega]
    rfl
  have hlt : ∀ m : Nat, m % (L + 1) < L + 1 := fun m => Nat.mod_lt _ (by omega)
  rcases Int.le_total 0 a with g | g
  · obtain ⟨m, rfl⟩ : ∃ m : Nat, a = m := ⟨a.toNat, by omega⟩
    rw [h]
    have := hlt m
    omega
  · obtain ⟨m, rfl⟩ : ∃ m : Nat, a = -(m : Int) := ⟨(-a).toNat, by omega⟩
    rw [Int.neg_tmod, h]
    have := hlt m
    omega
set_option maxRecDepth 100000 in
set_option maxHeartbeats 1500000 in
theorem wholesC (n : Nat) (at_ : Int) (w : World) (hf : FS w) (hx : FX w) (hn : n < 18446744073709551616) (hq : -9223372036854775808 ≤ at_ ∧ at_ < 9223372036854775808) :
    Calls Tryz.prog 6 #[.int .u64 n, .int .i64 at_] w fun e w' => e = .returned (.bool true) ∧ Below w.heap.size w w' := by
  have HF := fhid hf
  have HX := fhid hx
  have cw := wakesC w hf
  have cA : Hid (∀ W, Calls Tryz.prog 15 #[.int .u64 (n : Int)] W (DecPost n W)) := fhid (fun W => decC n W hn)
  have cP : Hid (∀ (t : ByteArray) (neg : Bool) (D : Nat) (q : Int) W, FS W → FX W → WSays (bl t) neg D q → Calls Tryz.prog 14 #[.string t] W (PnPost neg D q W)) := fhid (fun t neg D q W h1 h2 h3 => parseWord t neg D _ W h3 h1.fo h2)
  have HN := fhid hn
  clear hf hx
  go_enter Tryz.func6, Tryz.ntmps6
  go_wp2_with fail
  with_reducible refine cw.mono ?_
  clear cw
  rintro e v1 ⟨rfl, hb1⟩
  have B1 := fhid hb1
  clear hb1
  go_wp2_with fail
  with_reducible refine (cA.out _).mono ?_
  rintro e v2 ⟨t2, rfl, hbt2, hbb2⟩
  have hs2 := word_size hn hbt2
  have T2 := fhid hbt2
  have B2 : Hid (Below w.heap.size w v2) := fhid (B1.out.trans (hbb2.mono B1.out.size))
  have hs20 : 1 ≤ t2.size := by rw [← bl_length, hbt2]; exact ddg_pos n
  clear hbt2 hbb2 cA
  obtain ⟨L, hL⟩ : ∃ L, t2.size = L := ⟨_, rfl⟩
  have hr := tmod_in at_ L
  obtain ⟨r, hrr⟩ : ∃ r, at_.tmod ((L : Int) + 1) = r := ⟨_, rfl⟩
  rw [hrr] at hr
  obtain ⟨hr1, hr2⟩ := hr
  go_upto_if 23 with fail
  go_cut [6] (fun x wx => ∃ k : Nat, x = .int .i64 (k : Int) ∧ k ≤ L ∧ wx = v2)
  case first => as_aux_lemma =>
    by_cases hneg : r < 0
    · obtain ⟨k, hk⟩ : ∃ k : Nat, (k : Int) = r + (L + 1) := ⟨(r + (L + 1)).toNat, by omega⟩
      go_wp2_with fail
      go_meet
      exact ⟨k, congrArg (Value.int IntKind.i64) (by omega), by omega, rfl⟩
    · obtain ⟨k, hk⟩ : ∃ k : Nat, (k : Int) = r := ⟨r.toNat, by omega⟩
      go_wp2_with fail
      go_meet
      exact ⟨k, congrArg (Value.int IntKind.i64) (by omega), by omega, rfl⟩
  case rest => as_aux_lemma =>
    obtain ⟨k, rfl, hk, rfl⟩ := hcut
    have c4 := fhid (cP.out t2 false n 0 wc (HF.out.on B2.out) (HX.out.on B2.out) (by rw [T2.out]; exact wsays_whole n hn))
    go_wp2_with fail
    with_reducible refine c4.out.mono ?_
    clear c4
    rintro e v4 ⟨u, hu, hr4, hbb4⟩
    have hui : u < infR := not_far hn (by decide) hu
    have HU := fhid hu
    have HUI := fhid hui
    have B4 : Hid (Below w.heap.size w v4) := fhid (B2.out.trans (hbb4.mono B2.out.size))
    obtain rfl : e = .returned (.tuple #[.float .f64 ((sgw false + u : Nat)), .int .i64 0]) := by
      rcases hr4 with ⟨_, h⟩ | ⟨h, _⟩
      · exact h
      · omega
    clear hr4 hbb4 hu
    have hkL : (k : Int) ≤ (L : Int) := by omega
    have hln : (ddg n).length = L := by rw [← T2.out, bl_length, hL]
    have hLb : L ≤ 20 := by omega
    have cJ : Hid (∀ W, Calls Tryz.prog 15 #[.int .u64 (IntKind.u64.wrap (IntKind.i64.wrap ((L : Int) - (k : Int))))] W (DecPost (L - k) W)) := fhid (fun W => by
      have h := decC (L - k) W (by omega)
      rw [show ((L - k : Nat) : Int) = (L : Int) - (k : Int) by omega] at h
      rw [IntWalk.i64_in _ (by omega), IntWalk.u64_in _ (by omega)]
      exact h)
    have HB5 : Hid (Below w.heap.size w v4.drew) := fhid (below_dn B4.out 1)
    have hW5 : Hid (∀ t5 : ByteArray, bl t5 = ddg (L - k) → WSays (bl (((t2.extract 0 k ++ ⟨#[46]⟩) ++ t2.extract k L) ++ ⟨#[101]⟩ ++ t5)) false n 0) := fhid (fun t5 h5 => by
      have h := wsays_dot n k hn (by omega)
      rw [hln] at h
      rw [bl_app, bl_app, bl_app, bl_app, bl_extract, bl_extract, T2.out, h5]
      have e1 : bl ⟨#[46]⟩ = [46] := rfl
      have e2 : bl ⟨#[101]⟩ = [101] := rfl
      have e3 : ((ddg n).drop k).take (L - k) = (ddg n).drop k := List.take_of_length_le (by rw [List.length_drop]; omega)
      rw [e1, e2, e3, List.drop_zero, Nat.sub_zero]
      simp only [List.append_assoc, List.singleton_append, List.cons_append, List.nil_append]
      exact h)
    have hsE : (t2.extract 0 k).size ≤ 20 ∧ (t2.extract k L).size ≤ 20 := by
      rw [← bl_length, ← bl_length, bl_extract, bl_extract, List.length_take, List.length_take, List.length_drop, List.length_drop, bl_length]
      omega
    obtain ⟨hsE1, hsE2⟩ := hsE
    obtain ⟨E1, hE1⟩ : ∃ E, t2.extract 0 k = E := ⟨_, rfl⟩
    obtain ⟨E2, hE2⟩ : ∃ E, t2.extract k L = E := ⟨_, rfl⟩
    rw [hE1] at hsE1 hW5
    rw [hE2] at hsE2 hW5
    have hkL2 : k ≤ t2.size := by omega
    have hW9 : Hid (WSays (bl ((⟨#[43, 48, 48, 48]⟩ ++ t2) ++ ⟨#[48, 48, 48, 101, 45, 51]⟩)) false (n * 1000) (-3)) := fhid (by
      have h := wsays_wide n hn
      rw [bl_app, bl_app, T2.out]
      have e1 : bl ⟨#[43, 48, 48, 48]⟩ = [43, 48, 48, 48] := rfl
      have e2 : bl ⟨#[48, 48, 48, 101, 45, 51]⟩ = [48, 48, 48, 101, 45, 51] := rfl
      rw [e1, e2]
      simp only [List.append_assoc, List.singleton_append, List.cons_append, List.nil_append] at h ⊢
      exact h)
    have HNR : Hid (∀ v, Near (valN (n * 1000) (-3)) (valD (-3)) v → v = u) := fhid (fun v hv => by
      have h := val_shift n 3 (-3)
      exact (near_unique (valD_pos _) HU.out (near_cross (valD_pos _) (valD_pos _) h hv)).symm)
    have hfl := whole_near HU.out HUI.out
    have hoo : FloatKind.f64.format.order (sgw false + u) (sgw false + u) = some .eq := ord_self false u (Nat.le_of_lt HUI.out)
    clear T2 B1 hs2 hs20 hkL hr1 hr2 hrr hln hq HN hn
    have z1 : ¬ 9223372036854775807 < E1.size + 1 := by omega
    have z2 : ¬ 9223372036854775807 < E1.size + 1 + E2.size := by omega
    have z3 : ¬ 9223372036854775807 < E1.size + 1 + E2.size + 1 := by omega
    go_wp2_with fail
    go_region_held3 (fun _ => True) (trivial) (first | (go_at_call 15; (with_reducible refine (cJ.out _).mono ?_); rintro e v5 ⟨t5, rfl, hbt5, hbb5⟩; have hs5 : t5.size ≤ 20 := word_size (by omega) hbt5; have z5 : ¬ 9223372036854775807 < E1.size + 1 + E2.size + 1 + t5.size := (by omega); have T5 := fhid hbt5; have B5 : Hid (Below w.heap.size w v5) := fhid (HB5.out.trans (hbb5.mono HB5.out.size)); clear hbt5 hbb5) | (go_at_call 14; (with_reducible refine (cP.out _ false n 0 _ (HF.out.on B5.out) (HX.out.on B5.out) (hW5.out _ T5.out)).mono ?_); rintro e v6 ⟨u6, hu6, hr6, hbb6⟩; obtain rfl := near_unique (valD_pos _) HU.out hu6; have B6 : Hid (Below w.heap.size w v6) := fhid (B5.out.trans (hbb6.mono B5.out.size)); obtain rfl : e = .returned (.tuple #[.float .f64 ((sgw false + u : Nat)), .int .i64 0]) := (by rcases hr6 with ⟨_, h⟩ | ⟨h, _⟩; exact h; exact absurd HUI.out (by omega)); clear hr6 hbb6 hu6))
    obtain ⟨X, hX⟩ : ∃ X, sgw false + u = X := ⟨_, rfl⟩
    rw [hX] at hfl hoo
    simp only [hX]
    have HXX := fhid hX
    have c9 := fhid (cP.out _ false (n * 1000) (-3) v6 (HF.out.on B6.out) (HX.out.on B6.out) hW9.out)
    clear hX z1 z2 z3 hE1 hE2 cP cJ HB5 hW5 hW9 hsE1 hsE2
    go_wp2_with fail
    with_reducible refine c9.out.mono ?_
    clear c9
    rintro e v9 ⟨u9, hu9, hr9, hbb9⟩
    obtain rfl := HNR.out u9 hu9
    have B9 : Hid (Below w.heap.size w v9) := fhid (B6.out.trans (hbb9.mono B6.out.size))
    obtain rfl : e = .returned (.tuple #[.float .f64 X, .int .i64 0]) := by
      rcases hr9 with ⟨_, h⟩ | ⟨h, _⟩
      · rw [← HXX.out]; exact h
      · exact absurd HUI.out (by omega)
    clear hr9 hbb9 hu9
    go_wp2_with fail
    go_ret
    exact ⟨rfl, B9.out⟩
end Go.Proofs.YtlhhpehfgkanoaaGreatDoor.fl
/- ScoreWholes, the tied card: whole numbers, however they are written, mean what the language's own conversion makes of them. Condition: the listed tables of Go's library read as their initialisers lay them, which the card ties to the program's text. -/
namespace Go.Proofs.YtlhhpehfgkanoaaGreatDoor.fl
open Go.ChangeShapes Go.WideShapes Go.ChangeAt Go.RowKit
set_option linter.unusedVariables false

theorem wholes_ownK : ownKnob Tryz.prog.godebug = none := by kernel_rfl
theorem wholes_fs {W : World} (h : laidMetH Tryz.prog Rows.scoreWholesRow.laid W) : FS W ∧ FX W := by
  rw [MakeChecks.laidMetH_plain _ _ _ (by kernel_rfl)] at h
  exact ⟨fs_of h (by simp [Rows.scoreWholesRow]) (by simp [Rows.scoreWholesRow]) (by simp [Rows.scoreWholesRow]) (by simp [Rows.scoreWholesRow]) (by simp [Rows.scoreWholesRow]) (by simp [Rows.scoreWholesRow]), fx_of h (by simp [Rows.scoreWholesRow]) (by simp [Rows.scoreWholesRow]) (by simp [Rows.scoreWholesRow])⟩
/-- A heap that meets the condition. -/
theorem wholes_door (os : Os) (args : Array Value) : laidMetH Tryz.prog Rows.scoreWholesRow.laid ((World.laidAll Tryz.prog os Rows.scoreWholesRow.laid).forCall (fun _ _ => 0) ⟨#[], args, []⟩).memory := by
  rw [MakeChecks.laidMetH_plain _ _ _ (by kernel_rfl)]
  exact laidMet_laidAll _ (by kernel_rfl) (by kernel_rfl)
set_option maxRecDepth 100000 in
theorem wholes_lifted (os : Os) (started : os.Started) (H : Type) (enc : TypeId × Value → H) :
    ReturnsInHanded {} Tryz.checked os 6 .any (fun w args => (Rows.scoreWholesSpec.pre enc Tryz.prog Tryz.f6 [] false w args ∧ laidMetH Tryz.prog Rows.scoreWholesRow.laid w) ∧ sizedMet enc Tryz.prog Tryz.f6 (OpenSpec.ofChange Rows.scoreWholesSpec) false w args)
      (Rows.scoreWholesSpec.post enc Tryz.prog Tryz.f6 false true false false) := by
  refine returnsInHanded_of_change_and (C := Tryz.checked) (X := fun w _ => laidMetH Tryz.prog Rows.scoreWholesRow.laid w) (fun _ _ _ hh h => h.of_heap hh) wholes_ownK started (by kernel_rfl) Tryz.func6
    (ChangeSpec.witness_shaped (enc := enc) (C := Tryz.checked) (os := os) (X := fun w _ => laidMetH Tryz.prog Rows.scoreWholesRow.laid w) false (World.laidAll Tryz.prog os Rows.scoreWholesRow.laid) #[.int .u64 0, .int .i64 0] 8 (World.laidAll_os _ _ _) (World.shaped_of_ZipB (by kernel_rfl) (by kernel_rfl)) (by kernel_rfl) (by kernel_rfl) (by kernel_rfl) (wholes_door os _)) ?_
  intro W base args ds gs before hval0 hW hcnd hsz hL _
  have hval : ∀ (j : Nat) t v, Tryz.f6.params[j]? = some t → args[j]? = some v → Value.okWide Tryz.prog W .any base t v := hval0
  have hW' := hW
  obtain ⟨p, q, hA0, hV, rfl, hfz, hnd⟩ := hW
  have hA : DataW.TrodAll enc Tryz.prog W 0 (fun _ => true) true Tryz.f6.params.toList args.toList ds p := hA0
  rw [Tryz.params6] at hA hval hsz
  obtain ⟨v0, vs0, d0, ds0, p0, q0, hargs, rfl, rfl, h0, r0⟩ := trodAll_cons hA
  obtain ⟨v1, vs1, d1, ds1, p1, q1, rfl, rfl, rfl, h1, r1⟩ := trodAll_cons r0
  obtain ⟨rfl, rfl, rfl⟩ := trodAll_nil r1
  obtain rfl : args = #[v0, v1] := by cases args; simp_all
  obtain ⟨rfl, rfl⟩ := trodVars_none hV
  obtain ⟨a0, rfl, rfl, rfl, w0⟩ := open_int Tryz.underlying22 (hval 0 22 v0 rfl rfl) h0
  obtain ⟨a1, rfl, rfl, rfl, w1⟩ := open_int Tryz.underlying3 (hval 1 3 v1 rfl rfl) h1
  clear hA0 hval0
  have hb0 : 0 ≤ a0 ∧ a0 < 18446744073709551616 := by
    simp [Lit.wf, IntKind.min, IntKind.max, IntKind.signed, IntKind.bits] at w0
    omega
  have hb1 : -9223372036854775808 ≤ a1 ∧ a1 < 9223372036854775808 := by
    simp [Lit.wf, IntKind.min, IntKind.max, IntKind.signed, IntKind.bits] at w1
    omega
  obtain ⟨x0, rfl⟩ : ∃ x : Nat, a0 = x := ⟨a0.toNat, by omega⟩
  refine (wholesC x0 a1 W (wholes_fs hL).1 (wholes_fs hL).2 (by omega) hb1).mono fun e W' ⟨he, bel⟩ => ?_
  subst he
  exact ⟨_, rfl, _, _, _, [], _, [], hW', trodAll_mk1 (shut_bool Tryz.underlying4 _), (trodAll_cons_mk (shut_int Tryz.underlying22 w0) (trodAll_cons_mk (shut_int Tryz.underlying3 w1) trodAll_mk0)), rfl, bel.frame _, fun h => by cases h⟩
theorem wholes_over : Rows.ScoreWholesSaid :=
  OpenClaim.holds_of_wide 6 Tryz.f6 rfl rfl rfl rfl rfl rfl rfl ⟨rfl, rfl, rfl, rfl, rfl⟩ rfl rfl rfl rfl rfl (by kernel_rfl) Tryz.func6 (by kernel_rfl)
    (of_decide_eq_true (by kernel_rfl)) (by unfold Func.isWrapper; first | (rw [if_pos (by decide +kernel)]; kernel_rfl) | (rw [if_neg (by decide +kernel)]; exact ⟨rfl, rfl⟩))
    (fun os started H enc _ => wholes_lifted os started H enc)
theorem wholes_card : Rows.ScoreWholesCardSaid :=
  Claim7.holds_tied_plain_at .later [] [.data, .data, .widerDeep, .widerDeep, .data, .data, .data, .data, .data, .data, .sentinel, .sentinel, .data, .data, .pinned, .pinned, .pinned, .pinned] true (true, "57125b170f11272adc60f5d815a178fce2c2633901f0ccb14a3bd9f4fe9a2cda") true
    wholes_over (fun _ h => by cases h) (by kernel_rfl) (fun _ h => by cases h) scoreWholes_row_tie rfl ⟨rfl, rfl⟩ (by kernel_rfl) rfl
    (fun f fn hf hfn => by
      obtain rfl : f = 6 := Option.some.inj ((show Tryz.prog.funcNamed "pantry/pantrylaw02.ScoreWholes" = some 6 by kernel_rfl).symm.trans hf) |>.symm
      obtain rfl : fn = Tryz.f6 := (Option.some.inj (Tryz.func6.symm.trans hfn)).symm
      exact ⟨by kernel_rfl, fun j t ht => by
        rw [Tryz.params6] at ht
        have h3 : t = 22 ∨ t = 3 := by
          rcases j with _ | _ | j
          · left; simpa using ht.symm
          · right; simpa using ht.symm
          · simp at ht
        rcases h3 with rfl | rfl
        · exact (show Tryz.prog.wantsStandIn 22 = false by kernel_rfl)
        · exact (show Tryz.prog.wantsStandIn 3 = false by kernel_rfl)⟩)
    (by kernel_rfl)
#print axioms wholes_card
end Go.Proofs.YtlhhpehfgkanoaaGreatDoor.fl
