/- The contract of internal/strconv.readFloat at a decimal word. -/
import Derived.Test.YtgbldjbkapaclaaDoorFlB
/- The contract of internal/strconv.readFloat at a decimal word. -/
namespace Go.Proofs.YtgbldjbkapaclaaDoor.fl
open Go.ChangeShapes Go.WideShapes Go.ChangeAt Go.RowKit
set_option linter.unusedVariables false

set_option maxRecDepth 100000 in
set_option maxHeartbeats 4000000 in
theorem readFloatC (s : ByteArray) (neg : Bool) (m : List Nat) (p : Bool) (E : Int) (w : World) (h : DecW s neg m p E) :
    Calls Tryd.prog 50 #[.string s] w fun e w' => e = .returned (.tuple #[.int .u64 (rf m).mant, .int .i64 (rfExp m E), .bool neg, .bool (rf m).tr, .bool false, .int .i64 s.size, .bool true]) ∧ ∃ n, w' = w.drewN n := by
  obtain ⟨⟨sg, xs, hb, hsg, hx⟩, hm, hdig, hlen⟩ := h
  have hA := at_of hb
  have hM0 : 0 < m.length := by
    rcases List.eq_nil_or_concat m with h | ⟨l, c, h⟩
    · rw [h] at hdig; cases hdig
    · rw [h]; simp
  obtain ⟨a, ha⟩ : ∃ a, sg.length = a := ⟨_, rfl⟩
  obtain ⟨n, hn⟩ : ∃ n, s.size = n := ⟨_, rfl⟩
  obtain ⟨M, hM⟩ : ∃ M, m.length = M := ⟨_, rfl⟩
  obtain ⟨X, hX⟩ : ∃ X, xs.length = X := ⟨_, rfl⟩
  rw [ha] at hA
  have hlenA := hA.len
  rw [hM, hX] at hlenA
  rw [hM] at hM0
  have hn0 : 0 < s.size := by omega
  have ha1 : a ≤ 1 := by rw [← ha]; rcases hsg with h | h | h <;> rw [h.1] <;> decide
  have hc0 : s[0].toNat = (bl s).getD 0 0 := bl_at s 0 hn0
  have hsgn : Hid ((((s[0].toNat : Int) == 43) = true ∧ a = 1 ∧ neg = false) ∨ (((s[0].toNat : Int) == 43) = false ∧ ((s[0].toNat : Int) == 45) = true ∧ a = 1 ∧ neg = true) ∨ (((s[0].toNat : Int) == 43) = false ∧ ((s[0].toNat : Int) == 45) = false ∧ a = 0 ∧ neg = false)) := by
    refine fhid ?_
    rcases hsg with h | h | h
    · right; right
      have h1 : s[0].toNat = m.getD 0 0 := by
        have h0 : a = 0 := by rw [← ha, h.1]; rfl
        have := hA.man 0 hn0 (by omega) (by omega)
        rwa [Nat.zero_sub] at this
      obtain ⟨q, hq, _⟩ := mant_take hm 0
      have h2 := mant_next hm 0 (by omega) q hq
      rw [h1]
      have h3 := dig_not (m.getD 0 0) (by rcases h2 with h2 | h2; exact .inl h2; exact .inr h2.1)
      exact ⟨h3.1, h3.2, by rw [← ha, h.1]; rfl, h.2⟩
    · left; rw [hc0, hb, h.1]; exact ⟨rfl, by rw [← ha, h.1]; rfl, h.2⟩
    · right; left; rw [hc0, hb, h.1]; exact ⟨rfl, rfl, by rw [← ha, h.1]; rfl, h.2⟩
  have HA := fhid hA
  have HM := fhid hm
  have HX := fhid hx
  have HML := fhid hM
  have HXL := fhid hX
  have HD := fhid hdig
  clear hsg hb hA hc0 hm hx hM hX hdig ha hn
  go_enter Tryd.func50, Tryd.ntmps50
  go_wp2_with fail
  go_step3
  go_upto_block 0 with fail
  go_cut [7, 4] (fun i ng wx => i = .int .i64 (a : Int) ∧ ng = .bool neg ∧ wx = w)
  case first => as_aux_lemma =>
    rcases hsgn.out with ⟨h1, h2, h3⟩ | ⟨h1, h1', h2, h3⟩ | ⟨h1, h2, h3, h4⟩
    · subst h2 h3
      go_wp2_with fail
      go_meet
      exact ⟨rfl, rfl, rfl⟩
    · subst h2 h3
      go_wp2_with fail
      go_meet
      exact ⟨rfl, rfl, rfl⟩
    · subst h3 h4
      go_wp2_with fail
      go_meet
      exact ⟨rfl, rfl, rfl⟩
  case rest => as_aux_lemma =>
    obtain ⟨rfl, rfl, rfl⟩ := hcut
    go_upto_region 12 with fail
    go_cut [54] (fun t wx => t = .bool false ∧ wx = wc)
    case first => as_aux_lemma =>
      by_cases h2 : a + 2 < a + M + X
      · by_cases h48 : s[a].toNat = 48
        · have hne : isDig s[a + 1].toNat ∨ s[a + 1].toNat = 46 ∨ s[a + 1].toNat = 101 ∨ s[a + 1].toNat = 69 := by
            by_cases h1 : 1 < M
            · rw [HA.out.man (a + 1) (by rw [HA.out.size]; omega) (by omega) (by rw [HML.out]; omega), Nat.add_sub_cancel_left]
              obtain ⟨q, hq, _⟩ := mant_take HM.out 1
              rcases mant_next HM.out 1 (by rw [HML.out]; exact h1) q hq with h | h
              · exact .inl h
              · exact .inr (.inl h.1)
            · have hM1 : M = 1 := by omega
              rw [HA.out.ex (a + 1) (by rw [HA.out.size]; omega) (by rw [HML.out]; omega), HML.out, hM1, Nat.sub_self]
              cases HX.out with
              | none => have := HXL.out; simp at this; omega
              | some hc _ _ _ _ => right; right; simpa using hc
          have hlow := low_not _ hne
          have hlt256 : s[a + 1].toNat < 256 := UInt8.toNat_lt _
          have hc : ((s[a].toNat : Int) == 48) = true := by rw [h48]; rfl
          clear hne h48
          go_wp2_with (go_at_call 66; refine (lowerC _ _ hlt256).mono ?_; rintro e w' ⟨rfl, rfl⟩)
          go_meet
          case rel => exact ⟨rfl, rfl⟩
        · have hc : ((s[a].toNat : Int) == 48) = false := by simp; omega
          clear h48
          go_wp2_with fail
          go_meet
          case rel => exact ⟨rfl, rfl⟩
      · go_wp2_with fail
        go_meet
        case rel => exact ⟨rfl, rfl⟩
    case rest => as_aux_lemma =>
      obtain ⟨rfl, rfl⟩ := hcut
      go_wp2_with fail
      go_step3
      go_upto_block 1 with fail
      go_cut [2, 5, 7, 9, 13, 14, 15, 16, 17] (fun mt tr i un dot dig nd ndm dp wx => RdRel m a M wc mt tr i un dot dig nd ndm dp wx)
      case first => as_aux_lemma =>
        go_wp2_with fail
        go_loopw [2, 5, 7, 9, 13, 14, 15, 16, 17] (fun mt tr i un dot dig nd ndm dp wx => ∃ j, j ≤ M ∧ RdRel m a j wc mt tr i un dot dig nd ndm dp wx) (fun _ _ i _ _ _ _ _ _ _ => a + M - (intOf i).toNat)
        case atStart => exact ⟨0, by omega, rfl, rf0, rfl, rfl, rfl, rfl, rfl, rfl, rfl, rfl, rfl, rfl⟩
        case round =>
          obtain ⟨j, hj, rfl, ⟨mt, nd, ndm, dp, dot, dig, tr⟩, hS, rfl, rfl, rfl, rfl, rfl, rfl, rfl, rfl, rfl⟩ := hrel
          simp only
          have HS := fhid hS
          clear hS
          by_cases hlt : j < M
          · obtain ⟨q, hq, hqp⟩ := mant_take HM.out j
            have hnx := mant_next HM.out j (by rw [HML.out]; exact hlt) q hq
            have hok := rf_ok hq
            have o1 := hok.dot
            have o2 := hok.dp0
            have o3 := hok.ndm
            have o4 := hok.nd
            have o5 := hok.mant
            rw [HS.out] at o1 o2 o3 o4 o5
            simp only at o1 o2 o3 o4 o5
            have hjl : (m.take j).length = j := by rw [List.length_take, HML.out]; omega
            rw [hjl] at o2 o4
            have hjn : a + j < s.size := by omega
            have hs : s[a + j].toNat = m.getD j 0 := by
              rw [HA.out.man (a + j) hjn (by omega) (by rw [HML.out]; omega), Nat.add_sub_cancel_left]
            have hsn := take_snoc (m := m) (j := j) (by rw [HML.out]; exact hlt)
            have hst : rf (m.take (j + 1)) = rfStep ⟨mt, nd, ndm, dp, dot, dig, tr⟩ (m.getD j 0) := by rw [hsn, rf_snoc, HS.out]
            obtain ⟨c, hc⟩ : ∃ c, m.getD j 0 = c := ⟨_, rfl⟩
            rw [hc] at hnx hs hst
            have hbd : ndm < 19 → mt < 1000000000000000000 := fun h => Nat.lt_of_lt_of_le o5 (Nat.pow_le_pow_right (by decide) (show ndm ≤ 18 by omega))
            obtain ⟨d1, d2⟩ := o2
            have hndm : ndm ≤ 19 := by omega
            have hjc : a + j < a + M + X := by omega
            have HST := fhid hst
            have O1 := fhid o1
            have O3 := fhid o3
            clear hst hsn hc hq hqp hok o1 o3 o5 hjl
            rcases hnx with hdg | ⟨rfl, rfl⟩
            · obtain ⟨g1, g2⟩ := hdg
              have n95 : ((c : Int) == 95) = false := by simp; omega
              have n46 : ((c : Int) == 46) = false := by simp; omega
              have g1i : (48 : Int) ≤ c := by omega
              have g2i : (c : Int) ≤ 57 := by omega
              have hc46 : c ≠ 46 := by omega
              have hcl : Hid (isDig c) := fhid ⟨g1, g2⟩
              by_cases h48 : c = 48
              · by_cases hz : nd = 0
                · subst h48 hz
                  have hf : Hid (rf (m.take (j + 1)) = ⟨mt, 0, ndm, dp - 1, dot, true, tr⟩) := fhid (by rw [HST.out]; unfold rfStep; simp)
                  clear HST n95 n46 g1i g2i hc46 hbd
                  go_wp2_with fail
                  exact ⟨⟨j + 1, by omega, rd_mk hf.out (by omega) rfl rfl rfl rfl rfl rfl rfl⟩, by simp [intOf]; omega⟩
                · subst h48
                  have hzi : ((nd : Int) == 0) = false := by simp; omega
                  by_cases h19 : ndm < 19
                  · have hf : Hid (rf (m.take (j + 1)) = ⟨mt * 10, nd + 1, ndm + 1, dp, dot, true, tr⟩) := fhid (by rw [HST.out]; unfold rfStep; simp [hz, h19])
                    have hb18 := hbd h19
                    have h19i : (ndm : Int) < 19 := by omega
                    clear HST n95 n46 g1i g2i hc46 hbd
                    go_wp2_with fail
                    exact ⟨⟨j + 1, by omega, rd_mk hf.out (by omega) (by omega) (by omega) (by omega) rfl rfl rfl rfl⟩, by simp [intOf]; omega⟩
                  · have hf : Hid (rf (m.take (j + 1)) = ⟨mt, nd + 1, ndm, dp, dot, true, tr⟩) := fhid (by rw [HST.out]; unfold rfStep; simp [hz, h19])
                    have h19i : (19 : Int) ≤ ndm := by omega
                    clear HST n95 n46 g1i g2i hc46 hbd
                    go_wp2_with fail
                    exact ⟨⟨j + 1, by omega, rd_mk hf.out (by omega) (by omega) (by omega) (by omega) rfl rfl rfl rfl⟩, by simp [intOf]; omega⟩
              · have n48 : ((c : Int) == 48) = false := by simp; omega
                have n48' : ((c : Int) != 48) = true := by simp; omega
                by_cases h19 : ndm < 19
                · have hf : Hid (rf (m.take (j + 1)) = ⟨mt * 10 + (c - 48), nd + 1, ndm + 1, dp, dot, true, tr⟩) := fhid (by rw [HST.out]; unfold rfStep; simp [h48, h19, hc46])
                  have hb18 := hbd h19
                  have h19i : (ndm : Int) < 19 := by omega
                  clear HST hbd hc46
                  go_wp2_with fail
                  exact ⟨⟨j + 1, by omega, rd_mk hf.out (by omega) (by omega) (by omega) (by omega) rfl rfl rfl rfl⟩, by simp [intOf]; omega⟩
                · have hf : Hid (rf (m.take (j + 1)) = ⟨mt, nd + 1, ndm, dp, dot, true, true⟩) := fhid (by rw [HST.out]; unfold rfStep; simp [h48, h19, hc46])
                  have h19i : (19 : Int) ≤ ndm := by omega
                  clear HST hbd hc46
                  go_wp2_with fail
                  exact ⟨⟨j + 1, by omega, rd_mk hf.out (by omega) (by omega) (by omega) (by omega) rfl rfl rfl rfl⟩, by simp [intOf]; omega⟩
            · have hd0 : dot = false := O1.out
              subst hd0
              have hf : Hid (rf (m.take (j + 1)) = ⟨mt, nd, ndm, nd, true, dig, tr⟩) := fhid (by rw [HST.out]; unfold rfStep; simp)
              clear HST hbd
              go_wp2_with fail
              exact ⟨⟨j + 1, by omega, rd_mk hf.out (by omega) rfl rfl rfl rfl rfl rfl rfl⟩, by simp [intOf]; omega⟩
          · obtain rfl : j = M := by omega
            have hrel : Hid (RdRel m a j wr (.int .u64 mt) (.bool tr) (.int .i64 ((a + j : Nat) : Int)) (.bool false) (.bool dot) (.bool dig) (.int .i64 nd) (.int .i64 ndm) (.int .i64 dp) wr) := fhid (rd_mk HS.out (by omega) rfl rfl rfl rfl rfl rfl rfl)
            by_cases hX0 : X = 0
            · subst hX0
              go_wp2_with fail
              go_meet
              case rel => exact hrel.out
            · have hjn : a + j < s.size := by omega
              have hs : s[a + j].toNat = xs.getD 0 0 := by
                rw [HA.out.ex (a + j) hjn (by rw [HML.out]; omega), HML.out, Nat.sub_self]
              have hce : xs.getD 0 0 = 101 ∨ xs.getD 0 0 = 69 := by
                cases HX.out with
                | none => have := HXL.out; simp at this; omega
                | some hc _ _ _ _ => simpa using hc
              obtain ⟨c, hc⟩ : ∃ c, xs.getD 0 0 = c := ⟨_, rfl⟩
              rw [hc] at hs hce
              have n95 : ((c : Int) == 95) = false := by simp; omega
              have n46 : ((c : Int) == 46) = false := by simp; omega
              have g2i : (57 : Int) < c := by omega
              have hjc : a + j < a + j + X := by omega
              clear hc hce
              go_wp2_with fail
              go_meet
              case rel => exact hrel.out
      case rest => as_aux_lemma =>
        obtain ⟨rfl, ⟨mt, nd, ndm, dp, dot, dig, tr⟩, hS, rfl, rfl, rfl, rfl, rfl, rfl, rfl, rfl, rfl⟩ := hcut
        rw [List.take_of_length_le (by rw [HML.out]; exact Nat.le_refl _)] at hS
        have hok := rf_ok HM.out
        have o1 := hok.dp0
        have o2 := hok.ndm
        have o3 := hok.nd
        have o4 := HD.out
        obtain ⟨dpv, hdpv⟩ : ∃ d, rfDp m = d := ⟨_, rfl⟩
        have hdv : Hid (dpv = if dot then dp else nd) := fhid (by rw [← hdpv]; unfold rfDp; rw [hS])
        rw [hS] at o1 o2 o3 o4
        simp only at o1 o2 o3 o4 ⊢
        subst o4
        rw [HML.out] at o1 o3
        obtain ⟨d1, d2⟩ := o1
        have hdb : -100 ≤ dpv ∧ dpv ≤ 100 := by rw [hdv.out]; split <;> omega
        obtain ⟨d3, d4⟩ := hdb
        have hndm : ndm ≤ 19 := by omega
        have HS := fhid hS
        have HDP := fhid hdpv
        clear hS hok o2 hdpv
        go_upto_if 142 with fail
        go_cut [17] (fun t wx => t = .int .i64 dpv ∧ wx = wc)
        case first => as_aux_lemma =>
          cases dot
          · have := hdv.out
            simp at this
            subst this
            go_wp2_with fail
            go_meet
            case rel => exact ⟨rfl, rfl⟩
          · have := hdv.out
            simp at this
            subst this
            go_wp2_with fail
            go_meet
            case rel => exact ⟨rfl, rfl⟩
        case rest => as_aux_lemma =>
          obtain ⟨rfl, rfl⟩ := hcut
          by_cases hX0 : X = 0
          · subst hX0
            have hE : E = 0 := by
              cases HX.out with
              | none => rfl
              | some _ _ _ _ _ => have := HXL.out; simp at this
            by_cases hz : mt = 0
            · subst hz
              have hfx : Hid (rfExp m E = 0) := fhid (by unfold rfExp; rw [HS.out]; rfl)
              go_wp2_with fail
              rw [Exit.noGoto_ret]
              refine bodyPost_ret (v := .tuple #[.int .u64 ((0 : Nat) : Int), .int .i64 0, .bool neg, .bool tr, .bool false, .int .i64 ((a + M : Nat) : Int), .bool true]) (by simp [results, Tryd.results50, go_sem]) rfl ⟨rf_fin HS.out rfl rfl hfx.out (by omega), 0, rfl⟩
            · have hfx : Hid (rfExp m E = dpv - ndm) := fhid (by
                unfold rfExp; rw [HS.out, hE]; simp only; rw [if_neg hz, ← HDP.out]; unfold rfDp; rw [HS.out]; simp only; omega)
              have hzi : ((mt : Int) != 0) = true := by simp; omega
              go_wp2_with fail
              rw [Exit.noGoto_ret]
              refine bodyPost_ret (v := .tuple #[.int .u64 mt, .int .i64 (dpv - ndm), .bool neg, .bool tr, .bool false, .int .i64 ((a + M : Nat) : Int), .bool true]) (by simp [results, Tryd.results50, go_sem]) rfl ⟨rf_fin HS.out rfl rfl hfx.out (by omega), 0, rfl⟩
          · have hex : ∃ (c : Nat) (sg ds : List Nat) (en : Bool) (f : Nat), (c = 101 ∨ c = 69) ∧ xs = c :: (sg ++ ds) ∧ (sg = [] ∧ en = false ∨ sg = [43] ∧ en = false ∨ sg = [45] ∧ en = true) ∧ sg.length = f ∧ ExD s (a + M + 1 + f) ds ∧ E = (if en then -(dnum ds : Int) else dnum ds) := by
              cases HX.out with
              | none => have := HXL.out; simp at this; omega
              | @some c sg ds en hc hsg h1 h5 hdg =>
                have hXl := HXL.out
                simp at hXl
                refine ⟨c, sg, ds, en, _, hc, rfl, hsg, rfl, ⟨by omega, h1, h5, hdg, fun k h hk => ?_⟩, rfl⟩
                rw [HA.out.ex k h (by rw [HML.out]; omega), HML.out, List.getD_eq_getElem?_getD]
                obtain ⟨t, ht⟩ : ∃ t, k - (a + M) = t + 1 := ⟨k - (a + M) - 1, by omega⟩
                rw [ht, List.getElem?_cons_succ, List.getElem?_append_right (by omega), ← List.getD_eq_getElem?_getD]
                congr 1; omega
            obtain ⟨c, sg, ds, en, f, hc, hxs, hsg, hf, hD, hE⟩ := hex
            obtain ⟨L, hL⟩ : ∃ L, ds.length = L := ⟨_, rfl⟩
            have hlen2 := hD.len
            have l1 := hD.one
            have l5 := hD.five
            rw [hL] at hlen2 l1 l5
            have hf1 : f ≤ 1 := by rw [← hf]; rcases hsg with h | h | h <;> rw [h.1] <;> decide
            obtain rfl : X = 1 + f + L := by omega
            have h0n : a + M < s.size := by omega
            have h1n : a + M + 1 < s.size := by omega
            have hgn : a + M + 1 + f < s.size := by omega
            have hs0 : s[a + M].toNat = c := by
              rw [HA.out.ex (a + M) h0n (by rw [HML.out]; omega), HML.out, Nat.sub_self, hxs]; rfl
            have hs1 : f = 1 → s[a + M + 1].toNat = sg.getD 0 0 := by
              intro h
              rw [HA.out.ex (a + M + 1) h1n (by rw [HML.out]; omega), HML.out, Nat.add_sub_cancel_left, hxs]
              rw [List.getD_eq_getElem?_getD, List.getElem?_cons_succ, List.getElem?_append_left (by omega), ← List.getD_eq_getElem?_getD]
            have hsd := hD.at' (a + M + 1 + f) hgn (Nat.le_refl _)
            rw [Nat.sub_self] at hsd
            have hd0 : isDig (ds.getD 0 0) := by
              refine hD.dig _ ?_
              rw [List.getD_eq_getElem?_getD, List.getElem?_eq_getElem (by omega)]; simp
            obtain ⟨d0, hd0e⟩ : ∃ d, ds.getD 0 0 = d := ⟨_, rfl⟩
            rw [hd0e] at hsd hd0
            obtain ⟨g1, g2⟩ := hd0
            have hlow : ((c ||| 32 : Nat) : Int) = 101 := by rcases hc with rfl | rfl <;> decide
            have hc256 : c < 256 := by omega
            have hE2 := fhid hE
            have HDD := fhid hD
            have HLL := fhid hL
            -- the sign
            have hsgc : Hid ((f = 0 ∧ en = false) ∨ (f = 1 ∧ en = false ∧ s[a + M + 1].toNat = 43) ∨ (f = 1 ∧ en = true ∧ s[a + M + 1].toNat = 45)) := fhid (by
              rcases hsg with ⟨h, h'⟩ | ⟨h, h'⟩ | ⟨h, h'⟩
              · left; exact ⟨by rw [← hf, h]; rfl, h'⟩
              · right; left
                have : f = 1 := by rw [← hf, h]; rfl
                exact ⟨this, h', by rw [hs1 this, h]; rfl⟩
              · right; right
                have : f = 1 := by rw [← hf, h]; rfl
                exact ⟨this, h', by rw [hs1 this, h]; rfl⟩)
            clear hc hxs hsg hf hD hE hL hs1 hd0e
            go_upto_if 161 with (go_at_call 66; refine (lowerC _ _ hc256).mono ?_; rintro e w' ⟨rfl, rfl⟩)
            go_cut [7, 9, 17] (fun i un t wx => i = .int .i64 s.size ∧ un = .bool false ∧ t = .int .i64 (dpv + E) ∧ wx = wc)
            case first => as_aux_lemma =>
              go_upto_block 4 with fail
              go_cut [7, 19] (fun i es wx => i = .int .i64 ((a + M + 1 + f : Nat) : Int) ∧ es = .int .i64 (if en then -1 else 1) ∧ wx = wc)
              case first => as_aux_lemma =>
                rcases hsgc.out with ⟨rfl, rfl⟩ | ⟨rfl, rfl, hb⟩ | ⟨rfl, rfl, hb⟩
                · have n43 : ((s[a + M + 1].toNat : Int) == 43) = false := by
                    have : s[a + M + 1].toNat = d0 := hsd
                    rw [this]; simp; omega
                  have n45 : ((s[a + M + 1].toNat : Int) == 45) = false := by
                    have : s[a + M + 1].toNat = d0 := hsd
                    rw [this]; simp; omega
                  clear hsd
                  go_wp2_with fail
                  go_meet
                  case rel => exact ⟨rfl, rfl, rfl⟩
                · have n43 : ((s[a + M + 1].toNat : Int) == 43) = true := by rw [hb]; rfl
                  clear hsd hb
                  go_wp2_with fail
                  go_meet
                  case rel => exact ⟨rfl, rfl, rfl⟩
                · have n43 : ((s[a + M + 1].toNat : Int) == 43) = false := by rw [hb]; rfl
                  have n45 : ((s[a + M + 1].toNat : Int) == 45) = true := by rw [hb]; rfl
                  clear hsd hb
                  go_wp2_with fail
                  go_meet
                  case rel => exact ⟨rfl, rfl, rfl⟩
              case rest => as_aux_lemma =>
                obtain ⟨rfl, rfl, rfl⟩ := hcut
                have g1i : (48 : Int) ≤ d0 := by omega
                have g2i : (d0 : Int) ≤ 57 := by omega
                clear hs0 hsgc
                cases en
                · go_wp2_with fail
                  go_loopw [7, 9, 20] (fun i un ev wx => ∃ j, j ≤ L ∧ i = .int .i64 ((a + M + 1 + f + j : Nat) : Int) ∧ un = .bool false ∧ ev = .int .i64 (dnum (ds.take j) : Int) ∧ wx = wc) (fun i _ _ _ => a + M + 1 + f + L - (intOf i).toNat)
                  case atStart => exact ⟨0, by omega, congrArg (Value.int IntKind.i64) (by omega), rfl, rfl, rfl⟩
                  case round =>
                    obtain ⟨j, hj, rfl, rfl, rfl, rfl⟩ := hrel
                    by_cases hlt : j < L
                    · have hjn : a + M + 1 + f + j < s.size := by omega
                      have hs : s[a + M + 1 + f + j].toNat = ds.getD j 0 := by
                        rw [HDD.out.at' (a + M + 1 + f + j) hjn (by omega), Nat.add_sub_cancel_left]
                      have hsn : dnum (ds.take (j + 1)) = dnum (ds.take j) * 10 + (ds.getD j 0 - 48) := by
                        have hdj : isDig (ds.getD j 0) := by
                          refine HDD.out.dig _ ?_
                          rw [List.getD_eq_getElem?_getD, List.getElem?_eq_getElem (by rw [HLL.out]; exact hlt)]; simp
                        rw [take_snoc (by rw [HLL.out]; exact hlt), dnum_snoc, if_neg (by unfold isDig at hdj; omega)]
                      have hcd : isDig (ds.getD j 0) := by
                        refine HDD.out.dig _ ?_
                        rw [List.getD_eq_getElem?_getD, List.getElem?_eq_getElem (by rw [HLL.out]; exact hlt)]; simp
                      have hev : dnum (ds.take j) < 10000 := by
                        have h1 := dnum_lt (ds.take j) (fun x hx => HDD.out.dig x (List.mem_of_mem_take hx))
                        have h2 : (ds.take j).length ≤ 4 := by rw [List.length_take]; omega
                        exact Nat.lt_of_lt_of_le h1 (Nat.pow_le_pow_right (by decide) h2)
                      obtain ⟨cj, hcj⟩ : ∃ c, ds.getD j 0 = c := ⟨_, rfl⟩
                      rw [hcj] at hs hsn hcd
                      obtain ⟨k1, k2⟩ := hcd
                      have k1i : (48 : Int) ≤ cj := by omega
                      have k2i : (cj : Int) ≤ 57 := by omega
                      have n95 : ((cj : Int) == 95) = false := by simp; omega
                      obtain ⟨ev, hev2⟩ : ∃ v, dnum (ds.take j) = v := ⟨_, rfl⟩
                      rw [hev2] at hsn hev
                      simp only [hev2]
                      have HSN := fhid hsn
                      have hevi : (ev : Int) < 10000 := by omega
                      clear hsn hcj hev2
                      go_wp2_with fail
                      exact ⟨⟨j + 1, by omega, congrArg (Value.int IntKind.i64) (by omega), (by first | rfl | trivial), congrArg (Value.int IntKind.i64) (by rw [HSN.out]; omega), (by first | rfl | trivial)⟩, by simp [intOf]; omega⟩
                    · obtain rfl : j = L := by omega
                      have hdn : dnum (ds.take j) = dnum ds := by rw [List.take_of_length_le (by rw [HLL.out]; exact Nat.le_refl _)]
                      have hdb : dnum ds < 100000 := Nat.lt_of_lt_of_le (dnum_lt ds HDD.out.dig) (Nat.pow_le_pow_right (by decide) HDD.out.five)
                      obtain ⟨ev, hev2⟩ : ∃ v, dnum ds = v := ⟨_, rfl⟩
                      rw [hdn, hev2]
                      rw [hev2] at hdb
                      have HEV := fhid hev2
                      clear hdn hev2
                      go_wp2_with fail
                      go_meet
                      case rel => exact ⟨congrArg (Value.int IntKind.i64) (by omega), (by first | rfl | trivial), congrArg (Value.int IntKind.i64) (by rw [hE2.out, HEV.out]; simp; try omega), (by first | rfl | trivial)⟩
                · go_wp2_with fail
                  go_loopw [7, 9, 20] (fun i un ev wx => ∃ j, j ≤ L ∧ i = .int .i64 ((a + M + 1 + f + j : Nat) : Int) ∧ un = .bool false ∧ ev = .int .i64 (dnum (ds.take j) : Int) ∧ wx = wc) (fun i _ _ _ => a + M + 1 + f + L - (intOf i).toNat)
                  case atStart => exact ⟨0, by omega, congrArg (Value.int IntKind.i64) (by omega), rfl, rfl, rfl⟩
                  case round =>
                    obtain ⟨j, hj, rfl, rfl, rfl, rfl⟩ := hrel
                    by_cases hlt : j < L
                    · have hjn : a + M + 1 + f + j < s.size := by omega
                      have hs : s[a + M + 1 + f + j].toNat = ds.getD j 0 := by
                        rw [HDD.out.at' (a + M + 1 + f + j) hjn (by omega), Nat.add_sub_cancel_left]
                      have hsn : dnum (ds.take (j + 1)) = dnum (ds.take j) * 10 + (ds.getD j 0 - 48) := by
                        have hdj : isDig (ds.getD j 0) := by
                          refine HDD.out.dig _ ?_
                          rw [List.getD_eq_getElem?_getD, List.getElem?_eq_getElem (by rw [HLL.out]; exact hlt)]; simp
                        rw [take_snoc (by rw [HLL.out]; exact hlt), dnum_snoc, if_neg (by unfold isDig at hdj; omega)]
                      have hcd : isDig (ds.getD j 0) := by
                        refine HDD.out.dig _ ?_
                        rw [List.getD_eq_getElem?_getD, List.getElem?_eq_getElem (by rw [HLL.out]; exact hlt)]; simp
                      have hev : dnum (ds.take j) < 10000 := by
                        have h1 := dnum_lt (ds.take j) (fun x hx => HDD.out.dig x (List.mem_of_mem_take hx))
                        have h2 : (ds.take j).length ≤ 4 := by rw [List.length_take]; omega
                        exact Nat.lt_of_lt_of_le h1 (Nat.pow_le_pow_right (by decide) h2)
                      obtain ⟨cj, hcj⟩ : ∃ c, ds.getD j 0 = c := ⟨_, rfl⟩
                      rw [hcj] at hs hsn hcd
                      obtain ⟨k1, k2⟩ := hcd
                      have k1i : (48 : Int) ≤ cj := by omega
                      have k2i : (cj : Int) ≤ 57 := by omega
                      have n95 : ((cj : Int) == 95) = false := by simp; omega
                      obtain ⟨ev, hev2⟩ : ∃ v, dnum (ds.take j) = v := ⟨_, rfl⟩
                      rw [hev2] at hsn hev
                      simp only [hev2]
                      have HSN := fhid hsn
                      have hevi : (ev : Int) < 10000 := by omega
                      clear hsn hcj hev2
                      go_wp2_with fail
                      exact ⟨⟨j + 1, by omega, congrArg (Value.int IntKind.i64) (by omega), (by first | rfl | trivial), congrArg (Value.int IntKind.i64) (by rw [HSN.out]; omega), (by first | rfl | trivial)⟩, by simp [intOf]; omega⟩
                    · obtain rfl : j = L := by omega
                      have hdn : dnum (ds.take j) = dnum ds := by rw [List.take_of_length_le (by rw [HLL.out]; exact Nat.le_refl _)]
                      have hdb : dnum ds < 100000 := Nat.lt_of_lt_of_le (dnum_lt ds HDD.out.dig) (Nat.pow_le_pow_right (by decide) HDD.out.five)
                      obtain ⟨ev, hev2⟩ : ∃ v, dnum ds = v := ⟨_, rfl⟩
                      rw [hdn, hev2]
                      rw [hev2] at hdb
                      have HEV := fhid hev2
                      clear hdn hev2
                      go_wp2_with fail
                      go_meet
                      case rel => exact ⟨congrArg (Value.int IntKind.i64) (by omega), (by first | rfl | trivial), congrArg (Value.int IntKind.i64) (by rw [hE2.out, HEV.out]; simp; try omega), (by first | rfl | trivial)⟩
            case rest => as_aux_lemma =>
              obtain ⟨rfl, rfl, rfl, rfl⟩ := hcut
              have hdb : dnum ds < 100000 := Nat.lt_of_lt_of_le (dnum_lt ds HDD.out.dig) (Nat.pow_le_pow_right (by decide) HDD.out.five)
              obtain ⟨hE3, hE4⟩ : -100000 ≤ E ∧ E ≤ 100000 := by rw [hE2.out]; split <;> omega
              by_cases hz : mt = 0
              · subst hz
                have hfx : Hid (rfExp m E = 0) := fhid (by unfold rfExp; rw [HS.out]; rfl)
                go_wp2_with fail
                rw [Exit.noGoto_ret]
                refine bodyPost_ret (v := .tuple #[.int .u64 ((0 : Nat) : Int), .int .i64 0, .bool neg, .bool tr, .bool false, .int .i64 s.size, .bool true]) (by simp [results, Tryd.results50, go_sem]) rfl ⟨rf_fin HS.out rfl rfl hfx.out rfl, 0, rfl⟩
              · have hfx : Hid (rfExp m E = dpv + E - ndm) := fhid (by
                  unfold rfExp; rw [HS.out]; simp only; rw [if_neg hz, ← HDP.out]; unfold rfDp; rw [HS.out])
                have hzi : ((mt : Int) != 0) = true := by simp; omega
                go_wp2_with fail
                rw [Exit.noGoto_ret]
                refine bodyPost_ret (v := .tuple #[.int .u64 mt, .int .i64 (dpv + E - ndm), .bool neg, .bool tr, .bool false, .int .i64 s.size, .bool true]) (by simp [results, Tryd.results50, go_sem]) rfl ⟨rf_fin HS.out rfl rfl hfx.out rfl, 0, rfl⟩
end Go.Proofs.YtgbldjbkapaclaaDoor.fl
