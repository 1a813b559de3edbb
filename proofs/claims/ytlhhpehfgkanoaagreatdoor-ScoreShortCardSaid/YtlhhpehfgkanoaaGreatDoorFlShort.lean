/- ScoreShort, the tied card: no decimal with fewer digits means the float than the one with which it is told. Condition: the listed tables of Go's library read as their initialisers lay them, which the card ties to the program's text. -/
import Derived.Test.YtlhhpehfgkanoaaGreatDoorFlS
import Derived.Test.YtlhhpehfgkanoaaGreatDoorFlG
import Derived.Test.YtlhhpehfgkanoaaGreatDoorFlR
import Derived.Test.YtlhhpehfgkanoaaGreatDoorTie
import Derived.Test.YtlhhpehfgkanoaaGreatDoorCards
import Derived.ProofKit
import Derived.OpenShut
import Derived.Stop.LaidErr
import Derived.SevenTiedAt
import Derived.Lay
/- The walk of the law ScoreShort. -/
namespace Go.Proofs.YtlhhpehfgkanoaaGreatDoor.fl
open Go.ChangeShapes Go.WideShapes Go.ChangeAt Go.RowKit
set_option linter.unusedVariables false
set_option linter.unusedSimpArgs false
set_option maxRecDepth 100000 in
set_option maxHeartbeats 1500000 in
theorem shortC (n : Nat) (q : Int) (w : World) (hf : FS w) (hx : FX w) (hn : n < 18446744073709551616) (hq : -9223372036854775808 ≤ q ∧ q < 9223372036854775808) :
    Calls Tryz.prog 7 #[.int .u64 n, .int .i64 q] w fun e w' => e = .returned (.bool true) ∧ Below w.heap.size w w' := by
  have HF := fhid hf
  have HX := fhid hx
  have cw := wakesC w hf
  have cA : Hid (∀ W, Calls Tryz.prog 15 #[.int .u64 (n : Int)] W (DecPost n W)) := fhid (fun W => decC n W hn)
  have cq : Hid (∀ W, Calls Tryz.prog 16 #[.int .i64 q] W (PwPost q W)) := fhid (fun W => powC q W hq)
  have cP : Hid (∀ (t : ByteArray) (neg : Bool) (D : Nat) W, FS W → FX W → WSays (bl t) neg D (powQ q) → Calls Tryz.prog 14 #[.string t] W (PnPost neg D (powQ q) W)) := fhid (fun t neg D W h1 h2 h3 => parseWord t neg D _ W h3 h1.fo h2)
  have HN := fhid hn
  clear hf hx
  go_enter Tryz.func7, Tryz.ntmps7
  go_wp2_with fail
  with_reducible refine cw.mono ?_
  clear cw
  rintro e v1 ⟨rfl, hb1⟩
  have B1 := fhid hb1
  clear hb1
  go_wp2_with fail
  with_reducible refine (cA.out _).mono ?_
  rintro e v2 ⟨t2, rfl, hbt2, hbb2⟩
  have hs2 := word_size hn hbt2
  have T2 := fhid hbt2
  have B2 : Hid (Below w.heap.size w v2) := fhid (B1.out.trans (hbb2.mono B1.out.size))
  clear hbt2 hbb2
  go_wp2_with fail
  with_reducible refine (cq.out _).mono ?_
  rintro e v3 ⟨t3, rfl, hbt3, hbb3⟩
  have hs3 := pow_size hbt3
  have T3 := fhid hbt3
  have B3 : Hid (Below w.heap.size w v3) := fhid (B2.out.trans (hbb3.mono B2.out.size))
  clear hbt3 hbb3
  have hbl : bl (t2 ++ t3) = ddg n ++ powL q := by rw [bl_app, T2.out, T3.out]
  have c4 := fhid (cP.out (t2 ++ t3) false n v3 (HF.out.on B3.out) (HX.out.on B3.out) (by rw [hbl]; exact wsays_num n hn q [] false (.inl ⟨rfl, rfl⟩)))
  have hsz : (t2 ++ t3).size ≤ 1000 := by
    have := congrArg List.length hbl
    rw [bl_length, ← T2.out, ← T3.out, List.length_append, bl_length, bl_length] at this
    omega
  have cT := fhid (fun W => toldC (t2 ++ t3) W hsz)
  have HBL := fhid hbl
  clear hbl cA cq cP T2 T3 hsz
  go_wp2_with fail
  with_reducible refine c4.out.mono ?_
  clear c4
  rintro e v4 ⟨u, hu, hr4, hbb4⟩
  have HU := fhid hu
  have B4 : Hid (Below w.heap.size w v4) := fhid (B3.out.trans (hbb4.mono B3.out.size))
  clear hu hbb4
  have hi : infR = 9218868437227405312 := rfl
  rcases hr4 with ⟨g1, rfl⟩ | ⟨g1, rfl⟩
  · obtain ⟨o0, ho0, hz0, _⟩ := ord_zero false u g1
    have ho0 : FloatKind.f64.format.order (sgw false + u) 0 = some o0 := ho0
    by_cases hu0 : u = 0
    · have hoq : o0 = .eq := hz0.2 hu0
      subst hoq
      obtain ⟨X, hX⟩ : ∃ X, sgw false + u = X := ⟨_, rfl⟩
      rw [hX] at ho0 ⊢
      clear hX hu0 hz0 g1 hi
      go_wp2_with fail
      go_ret
      exact ⟨rfl, B4.out⟩
    · have hoq : (o0 == .eq) = false := by
        cases o0 with
        | eq => exact absurd (hz0.1 rfl) hu0
        | lt => rfl
        | gt => rfl
      have hn0 : 0 < n := by
        rcases Nat.eq_zero_or_pos n with h | h
        · exfalso
          subst h
          exact hu0 (near_unique (valD_pos _) HU.out (near_zero _))
        · exact h
      have hneg : Op.negFloat .f64 (sgw false + u) = sgw true + u := neg_any false u (by omega)
      have hLAW : Hid (∀ s t a c, PrintIs (sgw s + u) t → ToldIs t a → ToldIs (ddg n ++ powL q) c → a ≤ c) := fhid (fun s t a c h1 h2 h3 => short_law hn0 (.inr (pow_head q).1) (by omega) g1 (sgw_mod s u (by omega)) HU.out h1 h2 h3)
      have cX : Hid (∀ W, FS W → Calls Tryz.prog 10 #[.float .f64 (sgw false + u)] W (PrPost (sgw false + u) W)) := fhid (fun W h => printC _ W h (by have : sgw false = 0 := rfl; omega))
      have cZ : Hid (∀ W, FS W → Calls Tryz.prog 10 #[.float .f64 (sgw true + u)] W (PrPost (sgw true + u) W)) := fhid (fun W h => printC _ W h (by have : sgw true = 9223372036854775808 := rfl; omega))
      have HXL : Hid (sgw false + u < 18446744073709551616) := fhid (by have : sgw false = 0 := rfl; omega)
      have HZL : Hid (sgw true + u < 18446744073709551616) := fhid (by have : sgw true = 9223372036854775808 := rfl; omega)
      have hLX := fhid (hLAW.out false)
      have hLZ := fhid (hLAW.out true)
      have F4 := fhid (HF.out.on B4.out)
      obtain ⟨X, hX⟩ : ∃ X, sgw false + u = X := ⟨_, rfl⟩
      obtain ⟨Z, hZ⟩ : ∃ X, sgw true + u = X := ⟨_, rfl⟩
      rw [hX] at ho0 hneg cX hLX HXL ⊢
      rw [hZ] at hneg cZ hLZ HZL
      clear hX hZ hu0 hz0 g1 hi hLAW
      go_wp2_with fail
      with_reducible refine (cX.out _ F4.out).mono ?_
      rintro e v5 ⟨t5, rfl, hp5, hs5, hbb5⟩
      have hs5' : t5.size ≤ 24 := by rw [← bl_length]; exact (print_short HXL.out hp5).2.1
      have P5 := fhid hp5
      have B5 : Hid (Below w.heap.size w v5) := fhid (B4.out.trans (hbb5.mono B4.out.size))
      clear hp5 hbb5
      have c6 := fhid (fun W => toldC t5 W (by omega))
      go_wp2_with fail
      with_reducible refine (c6.out _).mono ?_
      rintro e v6 ⟨n6, hn6, rfl, rfl⟩
      have N6 := fhid hn6
      clear hn6 c6
      go_wp2_with fail
      with_reducible refine (cT.out _).mono ?_
      rintro e v7 ⟨n7, hn7, rfl, rfl⟩
      have hle : (n6 : Int) ≤ (n7 : Int) := by
        have := hLX.out (bl t5) n6 n7 P5.out N6.out (by rw [← HBL.out]; exact hn7)
        omega
      have N7 := fhid hn7
      clear hn7
      go_wp2_with fail
      with_reducible refine (cZ.out _ (HF.out.on B5.out)).mono ?_
      rintro e v8 ⟨t8, rfl, hp8, hs8, hbb8⟩
      have hs8' : t8.size ≤ 24 := by rw [← bl_length]; exact (print_short HZL.out hp8).2.1
      have P8 := fhid hp8
      have B8 : Hid (Below w.heap.size w v8) := fhid (B5.out.trans (hbb8.mono B5.out.size))
      clear hp8 hbb8
      have c9 := fhid (fun W => toldC t8 W (by omega))
      go_wp2_with fail
      with_reducible refine (c9.out _).mono ?_
      rintro e v9 ⟨n9, hn9, rfl, rfl⟩
      have N9 := fhid hn9
      clear hn9 c9
      go_wp2_with fail
      with_reducible refine (cT.out _).mono ?_
      rintro e v10 ⟨n10, hn10, rfl, rfl⟩
      have hle2 : (n9 : Int) ≤ (n10 : Int) := by
        have := hLZ.out (bl t8) n9 n10 P8.out N9.out (by rw [← HBL.out]; exact hn10)
        omega
      clear hn10
      go_wp2_with fail
      go_ret
      exact ⟨rfl, B8.out⟩
  · clear hi g1
    go_wp2_with fail
    go_ret
    exact ⟨rfl, B4.out⟩
end Go.Proofs.YtlhhpehfgkanoaaGreatDoor.fl
/- ScoreShort, the tied card: no decimal with fewer digits means the float than the one with which it is told. Condition: the listed tables of Go's library read as their initialisers lay them, which the card ties to the program's text. -/
namespace Go.Proofs.YtlhhpehfgkanoaaGreatDoor.fl
open Go.ChangeShapes Go.WideShapes Go.ChangeAt Go.RowKit
set_option linter.unusedVariables false

theorem short_ownK : ownKnob Tryz.prog.godebug = none := by kernel_rfl
theorem short_fs {W : World} (h : laidMetH Tryz.prog Rows.scoreShortRow.laid W) : FS W ∧ FX W := by
  rw [MakeChecks.laidMetH_plain _ _ _ (by kernel_rfl)] at h
  exact ⟨fs_of h (by simp [Rows.scoreShortRow]) (by simp [Rows.scoreShortRow]) (by simp [Rows.scoreShortRow]) (by simp [Rows.scoreShortRow]) (by simp [Rows.scoreShortRow]) (by simp [Rows.scoreShortRow]), fx_of h (by simp [Rows.scoreShortRow]) (by simp [Rows.scoreShortRow]) (by simp [Rows.scoreShortRow])⟩
/-- A heap that meets the condition. -/
theorem short_door (os : Os) (args : Array Value) : laidMetH Tryz.prog Rows.scoreShortRow.laid ((World.laidAll Tryz.prog os Rows.scoreShortRow.laid).forCall (fun _ _ => 0) ⟨#[], args, []⟩).memory := by
  rw [MakeChecks.laidMetH_plain _ _ _ (by kernel_rfl)]
  exact laidMet_laidAll _ (by kernel_rfl) (by kernel_rfl)
set_option maxRecDepth 100000 in
theorem short_lifted (os : Os) (started : os.Started) (H : Type) (enc : TypeId × Value → H) :
    ReturnsInHanded {} Tryz.checked os 7 .any (fun w args => (Rows.scoreShortSpec.pre enc Tryz.prog Tryz.f7 [] false w args ∧ laidMetH Tryz.prog Rows.scoreShortRow.laid w) ∧ sizedMet enc Tryz.prog Tryz.f7 (OpenSpec.ofChange Rows.scoreShortSpec) false w args)
      (Rows.scoreShortSpec.post enc Tryz.prog Tryz.f7 false true false false) := by
  refine returnsInHanded_of_change_and (C := Tryz.checked) (X := fun w _ => laidMetH Tryz.prog Rows.scoreShortRow.laid w) (fun _ _ _ hh h => h.of_heap hh) short_ownK started (by kernel_rfl) Tryz.func7
    (ChangeSpec.witness_shaped (enc := enc) (C := Tryz.checked) (os := os) (X := fun w _ => laidMetH Tryz.prog Rows.scoreShortRow.laid w) false (World.laidAll Tryz.prog os Rows.scoreShortRow.laid) #[.int .u64 0, .int .i64 0] 8 (World.laidAll_os _ _ _) (World.shaped_of_ZipB (by kernel_rfl) (by kernel_rfl)) (by kernel_rfl) (by kernel_rfl) (by kernel_rfl) (short_door os _)) ?_
  intro W base args ds gs before hval0 hW hcnd hsz hL _
  have hval : ∀ (j : Nat) t v, Tryz.f7.params[j]? = some t → args[j]? = some v → Value.okWide Tryz.prog W .any base t v := hval0
  have hW' := hW
  obtain ⟨p, q, hA0, hV, rfl, hfz, hnd⟩ := hW
  have hA : DataW.TrodAll enc Tryz.prog W 0 (fun _ => true) true Tryz.f7.params.toList args.toList ds p := hA0
  rw [Tryz.params7] at hA hval hsz
  obtain ⟨v0, vs0, d0, ds0, p0, q0, hargs, rfl, rfl, h0, r0⟩ := trodAll_cons hA
  obtain ⟨v1, vs1, d1, ds1, p1, q1, rfl, rfl, rfl, h1, r1⟩ := trodAll_cons r0
  obtain ⟨rfl, rfl, rfl⟩ := trodAll_nil r1
  obtain rfl : args = #[v0, v1] := by cases args; simp_all
  obtain ⟨rfl, rfl⟩ := trodVars_none hV
  obtain ⟨a0, rfl, rfl, rfl, w0⟩ := open_int Tryz.underlying22 (hval 0 22 v0 rfl rfl) h0
  obtain ⟨a1, rfl, rfl, rfl, w1⟩ := open_int Tryz.underlying3 (hval 1 3 v1 rfl rfl) h1
  clear hA0 hval0
  have hb0 : 0 ≤ a0 ∧ a0 < 18446744073709551616 := by
    simp [Lit.wf, IntKind.min, IntKind.max, IntKind.signed, IntKind.bits] at w0
    omega
  have hb1 : -9223372036854775808 ≤ a1 ∧ a1 < 9223372036854775808 := by
    simp [Lit.wf, IntKind.min, IntKind.max, IntKind.signed, IntKind.bits] at w1
    omega
  obtain ⟨x0, rfl⟩ : ∃ x : Nat, a0 = x := ⟨a0.toNat, by omega⟩
  refine (shortC x0 a1 W (short_fs hL).1 (short_fs hL).2 (by omega) hb1).mono fun e W' ⟨he, bel⟩ => ?_
  subst he
  exact ⟨_, rfl, _, _, _, [], _, [], hW', trodAll_mk1 (shut_bool Tryz.underlying4 _), (trodAll_cons_mk (shut_int Tryz.underlying22 w0) (trodAll_cons_mk (shut_int Tryz.underlying3 w1) trodAll_mk0)), rfl, bel.frame _, fun h => by cases h⟩
theorem short_over : Rows.ScoreShortSaid :=
  OpenClaim.holds_of_wide 7 Tryz.f7 rfl rfl rfl rfl rfl rfl rfl ⟨rfl, rfl, rfl, rfl, rfl⟩ rfl rfl rfl rfl rfl (by kernel_rfl) Tryz.func7 (by kernel_rfl)
    (of_decide_eq_true (by kernel_rfl)) (by unfold Func.isWrapper; first | (rw [if_pos (by decide +kernel)]; kernel_rfl) | (rw [if_neg (by decide +kernel)]; exact ⟨rfl, rfl⟩))
    (fun os started H enc _ => short_lifted os started H enc)
theorem short_card : Rows.ScoreShortCardSaid :=
  Claim7.holds_tied_plain_at .later [] [.data, .data, .widerDeep, .widerDeep, .data, .data, .data, .data, .data, .data, .sentinel, .sentinel, .data, .data, .pinned, .pinned, .pinned, .pinned] true (true, "57125b170f11272adc60f5d815a178fce2c2633901f0ccb14a3bd9f4fe9a2cda") true
    short_over (fun _ h => by cases h) (by kernel_rfl) (fun _ h => by cases h) scoreShort_row_tie rfl ⟨rfl, rfl⟩ (by kernel_rfl) rfl
    (fun f fn hf hfn => by
      obtain rfl : f = 7 := Option.some.inj ((show Tryz.prog.funcNamed "pantry/pantrylaw02.ScoreShort" = some 7 by kernel_rfl).symm.trans hf) |>.symm
      obtain rfl : fn = Tryz.f7 := (Option.some.inj (Tryz.func7.symm.trans hfn)).symm
      exact ⟨by kernel_rfl, fun j t ht => by
        rw [Tryz.params7] at ht
        have h3 : t = 22 ∨ t = 3 := by
          rcases j with _ | _ | j
          · left; simpa using ht.symm
          · right; simpa using ht.symm
          · simp at ht
        rcases h3 with rfl | rfl
        · exact (show Tryz.prog.wantsStandIn 22 = false by kernel_rfl)
        · exact (show Tryz.prog.wantsStandIn 3 = false by kernel_rfl)⟩)
    (by kernel_rfl)
#print axioms short_card
end Go.Proofs.YtlhhpehfgkanoaaGreatDoor.fl
