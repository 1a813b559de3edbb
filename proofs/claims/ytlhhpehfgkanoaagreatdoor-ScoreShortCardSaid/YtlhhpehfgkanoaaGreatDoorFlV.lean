/- The walk of strconv's (decimal).set at a decimal word. -/
import Derived.Test.YtlhhpehfgkanoaaGreatDoorFlR
/- The walk of strconv's (decimal).set at a decimal word. -/
namespace Go.Proofs.YtlhhpehfgkanoaaGreatDoor.fl
open Go.ChangeShapes Go.WideShapes Go.ChangeAt Go.RowKit
set_option linter.unusedVariables false
set_option linter.unusedSimpArgs false
/-- What set leaves. -/
def SetPost (b : Nat) (neg : Bool) (m : List Nat) (E : Int) (w : World) (e : Ending) (w' : World) : Prop :=
  e = .returned (.bool true) ∧ ∃ f, DecIs w' b f (rf m).nd (rfDp m + E) neg false ∧ DigF f (rf m).nd ∧ dn f (rf m).nd = dnum m ∧ (1 ≤ (rf m).nd → 49 ≤ f 0) ∧ Below b w w'
/-- set's digits behind j bytes. -/
def SetM (m : List Nat) (j : Nat) (b : Nat) (neg : Bool) (w0 : World) (nd : Nat) (dp : Int) (wx : World) : Prop :=
  ∃ f, DecIs wx b f nd dp neg false ∧ DigF f nd ∧ dn f nd = dnum (m.take j) ∧ (1 ≤ nd → 49 ≤ f 0) ∧ Below b w0 wx
def SetRel (m : List Nat) (a j : Nat) (b : Nat) (neg : Bool) (w0 : World) (i dot dig : Value) (wx : World) : Prop :=
  ∃ S : RF, rf (m.take j) = S ∧ i = .int .i64 ((a + j : Nat) : Int) ∧ dot = .bool S.dot ∧ dig = .bool S.dig ∧ Hid (SetM m j b neg w0 S.nd S.dp wx)
theorem set_mk {m : List Nat} {a j MT ND NDM b : Nat} {neg : Bool} {DP i : Int} {DOT DIG TR dot dig : Bool} {w0 w : World} (hS : rf (m.take j) = ⟨MT, ND, NDM, DP, DOT, DIG, TR⟩) (h1 : i = a + j) (h7 : dot = DOT) (h8 : dig = DIG) (hM : Hid (SetM m j b neg w0 ND DP w)) :
    SetRel m a j b neg w0 (.int .i64 i) (.bool dot) (.bool dig) w := by
  subst h1 h7 h8
  exact ⟨_, hS, by simp, rfl, rfl, hM⟩
set_option maxRecDepth 100000 in
set_option maxHeartbeats 4000000 in
theorem setC (s : ByteArray) (neg : Bool) (m : List Nat) (p : Bool) (E : Int) (b : Nat) (f0 : Nat → Nat) (ng tr : Bool) (w : World) (h : DecW s neg m p E) (hI : DecIs w b f0 0 0 ng tr) :
    Calls Tryz.prog 139 #[.pointer (some ⟨b, 0, none⟩), .string s] w (SetPost b neg m E w) := by
  obtain ⟨⟨sg, xs, hb, hsg, hx⟩, hm, hdig, hlen⟩ := h
  have hA := at_of hb
  have hM0 : 0 < m.length := by
    rcases List.eq_nil_or_concat m with h | ⟨l, c, h⟩
    · rw [h] at hdig; cases hdig
    · rw [h]; simp
  obtain ⟨a, ha⟩ : ∃ a, sg.length = a := ⟨_, rfl⟩
  obtain ⟨n, hn⟩ : ∃ n, s.size = n := ⟨_, rfl⟩
  obtain ⟨M, hM⟩ : ∃ M, m.length = M := ⟨_, rfl⟩
  obtain ⟨X, hX⟩ : ∃ X, xs.length = X := ⟨_, rfl⟩
  rw [ha] at hA
  have hlenA := hA.len
  rw [hM, hX] at hlenA
  rw [hM] at hM0
  have hn0 : 0 < s.size := by omega
  have ha1 : a ≤ 1 := by rw [← ha]; rcases hsg with h | h | h <;> rw [h.1] <;> decide
  have hc0 : s[0].toNat = (bl s).getD 0 0 := bl_at s 0 hn0
  have hsgn : Hid ((((s[0].toNat : Int) == 43) = true ∧ a = 1 ∧ neg = false) ∨ (((s[0].toNat : Int) == 43) = false ∧ ((s[0].toNat : Int) == 45) = true ∧ a = 1 ∧ neg = true) ∨ (((s[0].toNat : Int) == 43) = false ∧ ((s[0].toNat : Int) == 45) = false ∧ a = 0 ∧ neg = false)) := by
    refine fhid ?_
    rcases hsg with h | h | h
    · right; right
      have h1 : s[0].toNat = m.getD 0 0 := by
        have h0 : a = 0 := by rw [← ha, h.1]; rfl
        have := hA.man 0 hn0 (by omega) (by omega)
        rwa [Nat.zero_sub] at this
      obtain ⟨q, hq, _⟩ := mant_take hm 0
      have h2 := mant_next hm 0 (by omega) q hq
      rw [h1]
      have h3 := dig_not (m.getD 0 0) (by rcases h2 with h2 | h2; exact .inl h2; exact .inr h2.1)
      exact ⟨h3.1, h3.2, by rw [← ha, h.1]; rfl, h.2⟩
    · left; rw [hc0, hb, h.1]; exact ⟨rfl, by rw [← ha, h.1]; rfl, h.2⟩
    · right; left; rw [hc0, hb, h.1]; exact ⟨rfl, rfl, by rw [← ha, h.1]; rfl, h.2⟩
  have HA := fhid hA
  have HM := fhid hm
  have HX := fhid hx
  have HML := fhid hM
  have HXL := fhid hX
  have HD := fhid hdig
  have k3 := hI.ng
  have k4 := hI.tr
  have kf3 := hI.fz 802 (by omega)
  have kf4 := hI.fz 803 (by omega)
  have HI := fhid hI
  clear hsg hb hA hc0 hm hx hM hX hdig ha hn hI
  go_enter Tryz.func139, Tryz.ntmps139
  go_upto_block 0 with fail
  have HI1 := fhid ((HI.out.setG false).setT false)
  have HB1 : Hid (Below b w ((w.setCell ⟨b, 802, none⟩ (.bool false)).setCell ⟨b, 803, none⟩ (.bool false))) := fhid (((Below.refl b w).setCell (p := ⟨b, 802, none⟩) (Nat.le_refl _) _).setCell (p := ⟨b, 803, none⟩) (Nat.le_refl _) _)
  obtain ⟨w1, hw1⟩ : ∃ w1, (w.setCell ⟨b, 802, none⟩ (.bool false)).setCell ⟨b, 803, none⟩ (.bool false) = w1 := ⟨_, rfl⟩
  rw [hw1] at HI1 HB1 ⊢
  clear hw1 k3 k4 kf3 kf4 HI
  have k3 := HI1.out.ng
  have kf3 := HI1.out.fz 802 (by omega)
  go_cut [5] (fun i wx => i = .int .i64 (a : Int) ∧ Hid (DecIs wx b f0 0 0 neg false) ∧ Hid (Below b w wx))
  case first => as_aux_lemma =>
    rcases hsgn.out with ⟨h1, h2, h3⟩ | ⟨h1, h1', h2, h3⟩ | ⟨h1, h2, h3, h4⟩
    · subst h2 h3
      go_wp2_with fail
      go_meet
      exact ⟨rfl, HI1, HB1⟩
    · subst h2 h3
      have HI2 := fhid (HI1.out.setG true)
      have HB2 := fhid (HB1.out.setCell (p := ⟨b, 802, none⟩) (Nat.le_refl _) (.bool true))
      go_wp2_with fail
      go_meet
      exact ⟨rfl, HI2, HB2⟩
    · subst h3 h4
      go_wp2_with fail
      go_meet
      exact ⟨rfl, HI1, HB1⟩
  case rest => as_aux_lemma =>
    obtain ⟨rfl, HI2, HB2⟩ := hcut
    clear k3 kf3 HI1 HB1 hsgn
    have HM0 : Hid (SetM m 0 b neg w 0 0 wc) := fhid ⟨f0, HI2.out, fun i h => by omega, rfl, fun h => by omega, HB2.out⟩
    clear HI2 HB2
    go_upto_block 1 with fail
    go_cut [5, 6, 7] (fun i dot dig wx => SetRel m a M b neg w i dot dig wx)
    case first => as_aux_lemma =>
      go_wp2_with fail
      go_loopw [5, 6, 7] (fun i dot dig wx => ∃ j, j ≤ M ∧ SetRel m a j b neg w i dot dig wx) (fun i _ _ _ => a + M - (intOf i).toNat)
      case atStart => exact ⟨0, by omega, rf0, rfl, rfl, rfl, rfl, HM0⟩
      case round =>
        clear HM0
        obtain ⟨j, hj, ⟨mt, nd, ndm, dp, dot, dig, tr⟩, hS, rfl, rfl, rfl, hSM⟩ := hrel
        simp only at hSM ⊢
        obtain ⟨f, hI, hdg, hdn, htop, hB⟩ := hSM.out
        have HIJ := fhid hI
        have HDG := fhid hdg
        have HDN := fhid hdn
        have HTP := fhid htop
        have HBB := fhid hB
        have HS := fhid hS
        by_cases hlt : j < M
        · obtain ⟨q, hq, hqp⟩ := mant_take HM.out j
          have hnx := mant_next HM.out j (by rw [HML.out]; exact hlt) q hq
          have hok := rf_ok hq
          have o1 := hok.dot
          have o2 := hok.dp0
          have o4 := hok.nd
          rw [HS.out] at o1 o2 o4
          simp only at o1 o2 o4
          have hjl : (m.take j).length = j := by rw [List.length_take, HML.out]; omega
          rw [hjl] at o2 o4
          have hjn : a + j < s.size := by omega
          have hs : s[a + j].toNat = m.getD j 0 := by
            rw [HA.out.man (a + j) hjn (by omega) (by rw [HML.out]; omega), Nat.add_sub_cancel_left]
          have hsn := take_snoc (m := m) (j := j) (by rw [HML.out]; exact hlt)
          have hst : rf (m.take (j + 1)) = rfStep ⟨mt, nd, ndm, dp, dot, dig, tr⟩ (m.getD j 0) := by rw [hsn, rf_snoc, HS.out]
          have hdm : dnum (m.take (j + 1)) = if m.getD j 0 = 46 then dnum (m.take j) else dnum (m.take j) * 10 + (m.getD j 0 - 48) := by rw [hsn, dnum_snoc]
          obtain ⟨c, hc⟩ : ∃ c, m.getD j 0 = c := ⟨_, rfl⟩
          rw [hc] at hnx hs hst hdm
          obtain ⟨d1, d2⟩ := o2
          have hjc : a + j < a + M + X := by omega
          have HST := fhid hst
          have HDM := fhid hdm
          have O1 := fhid o1
          have k1 := hI.nd
          have k2 := hI.dp
          have kf1 := hI.fz 800 (by omega)
          have kf2 := hI.fz 801 (by omega)
          have hnd8 : nd < 800 := by omega
          clear hst hsn hc hq hqp hok o1 hjl hI hdg hdn htop hB hS hSM hdm
          rcases hnx with hdgt | ⟨rfl, rfl⟩
          · obtain ⟨g1, g2⟩ := hdgt
            have n95 : ((c : Int) == 95) = false := by simp; omega
            have n46 : ((c : Int) == 46) = false := by simp; omega
            have g1i : (48 : Int) ≤ c := by omega
            have g2i : (c : Int) ≤ 57 := by omega
            have hc46 : c ≠ 46 := by omega
            by_cases hz : c = 48 ∧ nd = 0
            · obtain ⟨rfl, rfl⟩ := hz
              have hf : Hid (rf (m.take (j + 1)) = ⟨mt, 0, ndm, dp - 1, dot, true, tr⟩) := fhid (by rw [HST.out]; unfold rfStep; simp)
              have hM2 : Hid (SetM m (j + 1) b neg w 0 (dp - 1) (wr.setCell ⟨b, 801, none⟩ (.int .i64 (dp - 1)))) := fhid ⟨f, HIJ.out.setP (dp - 1), HDG.out, by rw [HDM.out, if_neg (by omega), ← HDN.out]; rfl, HTP.out, HBB.out.setCell (Nat.le_refl _) _⟩
              clear HST n95 n46 g1i g2i hc46 HIJ HDG HDN HTP HBB HDM
              go_wp2_with fail
              exact ⟨⟨j + 1, by omega, set_mk hf.out (by omega) rfl rfl hM2⟩, by simp [intOf]; omega⟩
            · have hz' : ((c : Int) == 48) = false ∨ ((nd : Int) == 0) = false := by simp; omega
              have k5 := HIJ.out.at_ nd hnd8
              have kf5 := HIJ.out.fz nd (by omega)
              have hnd8i : (nd : Int) < 800 := by omega
              have hf : Hid (∃ mt' ndm' tr', rf (m.take (j + 1)) = ⟨mt', nd + 1, ndm', dp, dot, true, tr'⟩) := fhid (by
                rw [HST.out]; unfold rfStep
                rw [if_neg hc46, if_neg hz]
                split
                · exact ⟨_, _, _, rfl⟩
                · exact ⟨_, _, _, rfl⟩)
              have hM2 : Hid (SetM m (j + 1) b neg w (nd + 1) dp ((wr.setCell ⟨b, nd, none⟩ (.int .u8 c)).drew.setCell ⟨b, 800, none⟩ (.int .i64 ((nd : Int) + 1)))) := fhid ⟨setAt f nd c, ((HIJ.out.setD hnd8 c).drew 1).setN (v := (nd : Int) + 1) (nd + 1) (by omega), fun i hi => by
                  unfold setAt
                  by_cases e : i = nd
                  · rw [if_pos e]; omega
                  · rw [if_neg e]; exact HDG.out i (by omega),
                by rw [dn_succ, dn_set (Nat.le_refl _), HDN.out, HDM.out, if_neg hc46]; unfold setAt; rw [if_pos rfl],
                fun _ => by
                  unfold setAt
                  by_cases e : 0 = nd
                  · rw [if_pos e]; omega
                  · rw [if_neg e]; exact HTP.out (by omega),
                (below_dn (HBB.out.setCell (p := ⟨b, nd, none⟩) (Nat.le_refl _) _) 1).setCell (p := ⟨b, 800, none⟩) (Nat.le_refl _) _⟩
              clear HST hc46 HIJ HDG HDN HTP HBB HDM
              by_cases h48 : c = 48
              · subst h48
                have hndz : ((nd : Int) == 0) = false := by simp; omega
                clear hz'
                go_wp2_with fail
                go_region
                go_wp2_with fail
                obtain ⟨mt', ndm', tr', hf⟩ := hf.out
                exact ⟨⟨j + 1, by omega, set_mk hf (by omega) rfl rfl hM2⟩, by simp [intOf]; omega⟩
              · have n48 : ((c : Int) == 48) = false := by simp; omega
                clear hz'
                go_wp2_with fail
                go_region
                go_wp2_with fail
                obtain ⟨mt', ndm', tr', hf⟩ := hf.out
                exact ⟨⟨j + 1, by omega, set_mk hf (by omega) rfl rfl hM2⟩, by simp [intOf]; omega⟩
          · have hd0 : dot = false := O1.out
            subst hd0
            have hf : Hid (rf (m.take (j + 1)) = ⟨mt, nd, ndm, nd, true, dig, tr⟩) := fhid (by rw [HST.out]; unfold rfStep; simp)
            have hM2 : Hid (SetM m (j + 1) b neg w nd nd (wr.setCell ⟨b, 801, none⟩ (.int .i64 (nd : Int)))) := fhid ⟨f, HIJ.out.setP nd, HDG.out, by rw [HDM.out, if_pos rfl]; exact HDN.out, HTP.out, HBB.out.setCell (Nat.le_refl _) _⟩
            clear HST HIJ HDG HDN HTP HBB HDM
            go_wp2_with fail
            exact ⟨⟨j + 1, by omega, set_mk hf.out (by omega) rfl rfl hM2⟩, by simp [intOf]; omega⟩
        · obtain rfl : j = M := by omega
          have hrel : Hid (SetRel m a j b neg w (.int .i64 ((a + j : Nat) : Int)) (.bool dot) (.bool dig) wr) := fhid (set_mk HS.out (by omega) rfl rfl hSM)
          clear hSM hI hdg hdn htop hB HIJ HDG HDN HTP HBB hS
          by_cases hX0 : X = 0
          · subst hX0
            go_wp2_with fail
            go_meet
            case rel => exact hrel.out
          · have hjn : a + j < s.size := by omega
            have hs : s[a + j].toNat = xs.getD 0 0 := by
              rw [HA.out.ex (a + j) hjn (by rw [HML.out]; omega), HML.out, Nat.sub_self]
            have hce : xs.getD 0 0 = 101 ∨ xs.getD 0 0 = 69 := by
              cases HX.out with
              | none => have := HXL.out; simp at this; omega
              | some hc _ _ _ _ => simpa using hc
            obtain ⟨c, hc⟩ : ∃ c, xs.getD 0 0 = c := ⟨_, rfl⟩
            rw [hc] at hs hce
            have n95 : ((c : Int) == 95) = false := by simp; omega
            have n46 : ((c : Int) == 46) = false := by simp; omega
            have g2i : (57 : Int) < c := by omega
            have hjc : a + j < a + j + X := by omega
            clear hc hce
            go_wp2_with fail
            go_meet
            case rel => exact hrel.out
    case rest => as_aux_lemma =>
      obtain ⟨⟨mt, nd, ndm, dp, dot, dig, tr⟩, hS, rfl, rfl, rfl, hSM⟩ := hcut
      simp only at hSM ⊢
      rw [List.take_of_length_le (by rw [HML.out]; exact Nat.le_refl _)] at hS
      clear HM0
      have hok := rf_ok HM.out
      have o1 := hok.dp0
      have o3 := hok.nd
      have o4 := HD.out
      obtain ⟨f, hI, hdg, hdn, htop, hB⟩ := hSM.out
      rw [List.take_of_length_le (by rw [HML.out]; exact Nat.le_refl _)] at hdn
      obtain ⟨dpv, hdpv⟩ : ∃ d, rfDp m = d := ⟨_, rfl⟩
      have hdv : Hid (dpv = if dot then dp else nd) := fhid (by rw [← hdpv]; unfold rfDp; rw [hS])
      rw [hS] at o1 o3 o4
      simp only at o1 o3 o4 ⊢
      subst o4
      rw [HML.out] at o1 o3
      obtain ⟨d1, d2⟩ := o1
      have hdb : -100 ≤ dpv ∧ dpv ≤ 100 := by rw [hdv.out]; split <;> omega
      obtain ⟨d3, d4⟩ := hdb
      have hnd : Hid (nd = (rf m).nd) := fhid (by rw [hS])
      have HDG := fhid hdg
      have HDN := fhid hdn
      have HTP := fhid htop
      have HDP := fhid hdpv
      have k1 := hI.nd
      have k2 := hI.dp
      have kf2 := hI.fz 801 (by omega)
      have HIJ := fhid hI
      have HBB := fhid hB
      clear hS hok hdpv hdg hdn htop hI hB hSM
      go_upto_if 120 with fail
      go_cut [4] (fun t wx => t = .bool false ∧ Hid (DecIs wx b f nd dpv neg false) ∧ Hid (Below b w wx))
      case first => as_aux_lemma =>
        cases dot
        · have := hdv.out
          simp at this
          subst this
          have HI2 := fhid (HIJ.out.setP (nd : Int))
          have HB2 := fhid (HBB.out.setCell (p := ⟨b, 801, none⟩) (Nat.le_refl _) (.int .i64 (nd : Int)))
          go_wp2_with fail
          go_meet
          case rel => exact ⟨rfl, HI2, HB2⟩
        · have := hdv.out
          simp at this
          subst this
          go_wp2_with fail
          go_meet
          case rel => exact ⟨rfl, HIJ, HBB⟩
      case rest => as_aux_lemma =>
        obtain ⟨rfl, HI2, HB2⟩ := hcut
        clear k1 k2 kf2 HIJ HBB
        by_cases hX0 : X = 0
        · subst hX0
          have hE : E = 0 := by
            cases HX.out with
            | none => rfl
            | some _ _ _ _ _ => have := HXL.out; simp at this
          have hfin : Hid (∃ f, DecIs wc b f (rf m).nd (rfDp m + E) neg false ∧ DigF f (rf m).nd ∧ dn f (rf m).nd = dnum m ∧ (1 ≤ (rf m).nd → 49 ≤ f 0) ∧ Below b w wc) := fhid ⟨f, by rw [← hnd.out, HDP.out, hE, Int.add_zero]; exact HI2.out, by rw [← hnd.out]; exact HDG.out, by rw [← hnd.out]; exact HDN.out, by rw [← hnd.out]; exact HTP.out, HB2.out⟩
          go_wp2_with fail
          go_ret
          exact ⟨rfl, hfin.out⟩
        · have hex : ∃ (c : Nat) (sg ds : List Nat) (en : Bool) (f : Nat), (c = 101 ∨ c = 69) ∧ xs = c :: (sg ++ ds) ∧ (sg = [] ∧ en = false ∨ sg = [43] ∧ en = false ∨ sg = [45] ∧ en = true) ∧ sg.length = f ∧ ExD s (a + M + 1 + f) ds ∧ E = (if en then -(dnum ds : Int) else dnum ds) := by
            cases HX.out with
            | none => have := HXL.out; simp at this; omega
            | @some c sg ds en hc hsg h1 h5 hdg =>
              have hXl := HXL.out
              simp at hXl
              refine ⟨c, sg, ds, en, _, hc, rfl, hsg, rfl, ⟨by omega, h1, h5, hdg, fun k h hk => ?_⟩, rfl⟩
              rw [HA.out.ex k h (by rw [HML.out]; omega), HML.out, List.getD_eq_getElem?_getD]
              obtain ⟨t, ht⟩ : ∃ t, k - (a + M) = t + 1 := ⟨k - (a + M) - 1, by omega⟩
              rw [ht, List.getElem?_cons_succ, List.getElem?_append_right (by omega), ← List.getD_eq_getElem?_getD]
              congr 1; omega
          obtain ⟨c, sg, ds, en, fe, hc, hxs, hsg, hf, hD, hE⟩ := hex
          obtain ⟨L, hL⟩ : ∃ L, ds.length = L := ⟨_, rfl⟩
          have hlen2 := hD.len
          have l1 := hD.one
          have l5 := hD.five
          rw [hL] at hlen2 l1 l5
          have hf1 : fe ≤ 1 := by rw [← hf]; rcases hsg with h | h | h <;> rw [h.1] <;> decide
          obtain rfl : X = 1 + fe + L := by omega
          have h0n : a + M < s.size := by omega
          have h1n : a + M + 1 < s.size := by omega
          have hgn : a + M + 1 + fe < s.size := by omega
          have hs0 : s[a + M].toNat = c := by
            rw [HA.out.ex (a + M) h0n (by rw [HML.out]; omega), HML.out, Nat.sub_self, hxs]; rfl
          have hs1 : fe = 1 → s[a + M + 1].toNat = sg.getD 0 0 := by
            intro h
            rw [HA.out.ex (a + M + 1) h1n (by rw [HML.out]; omega), HML.out, Nat.add_sub_cancel_left, hxs]
            rw [List.getD_eq_getElem?_getD, List.getElem?_cons_succ, List.getElem?_append_left (by omega), ← List.getD_eq_getElem?_getD]
          have hsd := hD.at' (a + M + 1 + fe) hgn (Nat.le_refl _)
          rw [Nat.sub_self] at hsd
          have hd0 : isDig (ds.getD 0 0) := by
            refine hD.dig _ ?_
            rw [List.getD_eq_getElem?_getD, List.getElem?_eq_getElem (by omega)]; simp
          obtain ⟨d0, hd0e⟩ : ∃ d, ds.getD 0 0 = d := ⟨_, rfl⟩
          rw [hd0e] at hsd hd0
          obtain ⟨g1, g2⟩ := hd0
          have hlow : ((c ||| 32 : Nat) : Int) = 101 := by rcases hc with rfl | rfl <;> decide
          have hc256 : c < 256 := by omega
          have hE2 := fhid hE
          have HDD := fhid hD
          have HLL := fhid hL
          -- the sign
          have hsgc : Hid ((fe = 0 ∧ en = false) ∨ (fe = 1 ∧ en = false ∧ s[a + M + 1].toNat = 43) ∨ (fe = 1 ∧ en = true ∧ s[a + M + 1].toNat = 45)) := fhid (by
            rcases hsg with ⟨h, h'⟩ | ⟨h, h'⟩ | ⟨h, h'⟩
            · left; exact ⟨by rw [← hf, h]; rfl, h'⟩
            · right; left
              have : fe = 1 := by rw [← hf, h]; rfl
              exact ⟨this, h', by rw [hs1 this, h]; rfl⟩
            · right; right
              have : fe = 1 := by rw [← hf, h]; rfl
              exact ⟨this, h', by rw [hs1 this, h]; rfl⟩)
          clear hc hxs hsg hf hD hE hL hs1 hd0e
          have k2 := HI2.out.dp
          have kf2 := HI2.out.fz 801 (by omega)
          go_upto_if 138 with (go_at_call 155; refine (lowerC _ _ hc256).mono ?_; rintro e w' ⟨rfl, rfl⟩)
          go_cut [5] (fun i wx => i = .int .i64 s.size ∧ Hid (DecIs wx b f nd (dpv + E) neg false) ∧ Hid (Below b w wx))
          case first => as_aux_lemma =>
            go_upto_block 4 with fail
            go_cut [5, 8] (fun i es wx => i = .int .i64 ((a + M + 1 + fe : Nat) : Int) ∧ es = .int .i64 (if en then -1 else 1) ∧ wx = wc)
            case first => as_aux_lemma =>
              rcases hsgc.out with ⟨rfl, rfl⟩ | ⟨rfl, rfl, hb⟩ | ⟨rfl, rfl, hb⟩
              · have n43 : ((s[a + M + 1].toNat : Int) == 43) = false := by
                  have : s[a + M + 1].toNat = d0 := hsd
                  rw [this]; simp; omega
                have n45 : ((s[a + M + 1].toNat : Int) == 45) = false := by
                  have : s[a + M + 1].toNat = d0 := hsd
                  rw [this]; simp; omega
                clear hsd
                go_wp2_with fail
                go_meet
                case rel => exact ⟨rfl, rfl, rfl⟩
              · have n43 : ((s[a + M + 1].toNat : Int) == 43) = true := by rw [hb]; rfl
                clear hsd hb
                go_wp2_with fail
                go_meet
                case rel => exact ⟨rfl, rfl, rfl⟩
              · have n43 : ((s[a + M + 1].toNat : Int) == 43) = false := by rw [hb]; rfl
                have n45 : ((s[a + M + 1].toNat : Int) == 45) = true := by rw [hb]; rfl
                clear hsd hb
                go_wp2_with fail
                go_meet
                case rel => exact ⟨rfl, rfl, rfl⟩
            case rest => as_aux_lemma =>
              obtain ⟨rfl, rfl, rfl⟩ := hcut
              have g1i : (48 : Int) ≤ d0 := by omega
              have g2i : (d0 : Int) ≤ 57 := by omega
              clear hs0 hsgc
              cases en
              · go_wp2_with fail
                go_loopw [5, 9] (fun i ev wx => ∃ j, j ≤ L ∧ i = .int .i64 ((a + M + 1 + fe + j : Nat) : Int) ∧ ev = .int .i64 (dnum (ds.take j) : Int) ∧ wx = wc) (fun i _ _ => a + M + 1 + fe + L - (intOf i).toNat)
                case atStart => exact ⟨0, by omega, congrArg (Value.int IntKind.i64) (by omega), rfl, rfl⟩
                case round =>
                  obtain ⟨j, hj, rfl, rfl, rfl⟩ := hrel
                  by_cases hlt : j < L
                  · have hjn : a + M + 1 + fe + j < s.size := by omega
                    have hs : s[a + M + 1 + fe + j].toNat = ds.getD j 0 := by
                      rw [HDD.out.at' (a + M + 1 + fe + j) hjn (by omega), Nat.add_sub_cancel_left]
                    have hsn : dnum (ds.take (j + 1)) = dnum (ds.take j) * 10 + (ds.getD j 0 - 48) := by
                      have hdj : isDig (ds.getD j 0) := by
                        refine HDD.out.dig _ ?_
                        rw [List.getD_eq_getElem?_getD, List.getElem?_eq_getElem (by rw [HLL.out]; exact hlt)]; simp
                      rw [take_snoc (by rw [HLL.out]; exact hlt), dnum_snoc, if_neg (by unfold isDig at hdj; omega)]
                    have hcd : isDig (ds.getD j 0) := by
                      refine HDD.out.dig _ ?_
                      rw [List.getD_eq_getElem?_getD, List.getElem?_eq_getElem (by rw [HLL.out]; exact hlt)]; simp
                    have hev : dnum (ds.take j) < 10000 := by
                      have h1 := dnum_lt (ds.take j) (fun x hx => HDD.out.dig x (List.mem_of_mem_take hx))
                      have h2 : (ds.take j).length ≤ 4 := by rw [List.length_take]; omega
                      exact Nat.lt_of_lt_of_le h1 (Nat.pow_le_pow_right (by decide) h2)
                    obtain ⟨cj, hcj⟩ : ∃ c, ds.getD j 0 = c := ⟨_, rfl⟩
                    rw [hcj] at hs hsn hcd
                    obtain ⟨k1, k2⟩ := hcd
                    have k1i : (48 : Int) ≤ cj := by omega
                    have k2i : (cj : Int) ≤ 57 := by omega
                    have n95 : ((cj : Int) == 95) = false := by simp; omega
                    obtain ⟨ev, hev2⟩ : ∃ v, dnum (ds.take j) = v := ⟨_, rfl⟩
                    rw [hev2] at hsn hev
                    simp only [hev2]
                    have HSN := fhid hsn
                    have hevi : (ev : Int) < 10000 := by omega
                    clear hsn hcj hev2
                    go_wp2_with fail
                    exact ⟨⟨j + 1, by omega, congrArg (Value.int IntKind.i64) (by omega), congrArg (Value.int IntKind.i64) (by rw [HSN.out]; omega), (by first | rfl | trivial)⟩, by simp [intOf]; omega⟩
                  · obtain rfl : j = L := by omega
                    have hdn : dnum (ds.take j) = dnum ds := by rw [List.take_of_length_le (by rw [HLL.out]; exact Nat.le_refl _)]
                    have hdb : dnum ds < 100000 := Nat.lt_of_lt_of_le (dnum_lt ds HDD.out.dig) (Nat.pow_le_pow_right (by decide) HDD.out.five)
                    obtain ⟨ev, hev2⟩ : ∃ v, dnum ds = v := ⟨_, rfl⟩
                    rw [hdn, hev2]
                    rw [hev2] at hdb
                    have HEV := fhid hev2
                    clear hdn hev2
                    have hq : dpv + (ev : Int) = dpv + E := by rw [hE2.out, HEV.out]; simp; try omega
                    have HI3 : Hid (DecIs (wr.setCell ⟨b, 801, none⟩ (.int .i64 (dpv + (ev : Int)))) b f nd (dpv + E) neg false) := fhid (by rw [← hq]; exact HI2.out.setP _)
                    have HB3 := fhid (HB2.out.setCell (p := ⟨b, 801, none⟩) (Nat.le_refl _) (.int .i64 (dpv + (ev : Int))))
                    clear hq
                    go_wp2_with fail
                    go_meet
                    case rel => exact ⟨congrArg (Value.int IntKind.i64) (by omega), HI3, HB3⟩
              · go_wp2_with fail
                go_loopw [5, 9] (fun i ev wx => ∃ j, j ≤ L ∧ i = .int .i64 ((a + M + 1 + fe + j : Nat) : Int) ∧ ev = .int .i64 (dnum (ds.take j) : Int) ∧ wx = wc) (fun i _ _ => a + M + 1 + fe + L - (intOf i).toNat)
                case atStart => exact ⟨0, by omega, congrArg (Value.int IntKind.i64) (by omega), rfl, rfl⟩
                case round =>
                  obtain ⟨j, hj, rfl, rfl, rfl⟩ := hrel
                  by_cases hlt : j < L
                  · have hjn : a + M + 1 + fe + j < s.size := by omega
                    have hs : s[a + M + 1 + fe + j].toNat = ds.getD j 0 := by
                      rw [HDD.out.at' (a + M + 1 + fe + j) hjn (by omega), Nat.add_sub_cancel_left]
                    have hsn : dnum (ds.take (j + 1)) = dnum (ds.take j) * 10 + (ds.getD j 0 - 48) := by
                      have hdj : isDig (ds.getD j 0) := by
                        refine HDD.out.dig _ ?_
                        rw [List.getD_eq_getElem?_getD, List.getElem?_eq_getElem (by rw [HLL.out]; exact hlt)]; simp
                      rw [take_snoc (by rw [HLL.out]; exact hlt), dnum_snoc, if_neg (by unfold isDig at hdj; omega)]
                    have hcd : isDig (ds.getD j 0) := by
                      refine HDD.out.dig _ ?_
                      rw [List.getD_eq_getElem?_getD, List.getElem?_eq_getElem (by rw [HLL.out]; exact hlt)]; simp
                    have hev : dnum (ds.take j) < 10000 := by
                      have h1 := dnum_lt (ds.take j) (fun x hx => HDD.out.dig x (List.mem_of_mem_take hx))
                      have h2 : (ds.take j).length ≤ 4 := by rw [List.length_take]; omega
                      exact Nat.lt_of_lt_of_le h1 (Nat.pow_le_pow_right (by decide) h2)
                    obtain ⟨cj, hcj⟩ : ∃ c, ds.getD j 0 = c := ⟨_, rfl⟩
                    rw [hcj] at hs hsn hcd
                    obtain ⟨k1, k2⟩ := hcd
                    have k1i : (48 : Int) ≤ cj := by omega
                    have k2i : (cj : Int) ≤ 57 := by omega
                    have n95 : ((cj : Int) == 95) = false := by simp; omega
                    obtain ⟨ev, hev2⟩ : ∃ v, dnum (ds.take j) = v := ⟨_, rfl⟩
                    rw [hev2] at hsn hev
                    simp only [hev2]
                    have HSN := fhid hsn
                    have hevi : (ev : Int) < 10000 := by omega
                    clear hsn hcj hev2
                    go_wp2_with fail
                    exact ⟨⟨j + 1, by omega, congrArg (Value.int IntKind.i64) (by omega), congrArg (Value.int IntKind.i64) (by rw [HSN.out]; omega), (by first | rfl | trivial)⟩, by simp [intOf]; omega⟩
                  · obtain rfl : j = L := by omega
                    have hdn : dnum (ds.take j) = dnum ds := by rw [List.take_of_length_le (by rw [HLL.out]; exact Nat.le_refl _)]
                    have hdb : dnum ds < 100000 := Nat.lt_of_lt_of_le (dnum_lt ds HDD.out.dig) (Nat.pow_le_pow_right (by decide) HDD.out.five)
                    obtain ⟨ev, hev2⟩ : ∃ v, dnum ds = v := ⟨_, rfl⟩
                    rw [hdn, hev2]
                    rw [hev2] at hdb
                    have HEV := fhid hev2
                    clear hdn hev2
                    have hq : dpv + -(ev : Int) = dpv + E := by rw [hE2.out, HEV.out]; simp; try omega
                    have HI3 : Hid (DecIs (wr.setCell ⟨b, 801, none⟩ (.int .i64 (dpv + -(ev : Int)))) b f nd (dpv + E) neg false) := fhid (by rw [← hq]; exact HI2.out.setP _)
                    have HB3 := fhid (HB2.out.setCell (p := ⟨b, 801, none⟩) (Nat.le_refl _) (.int .i64 (dpv + -(ev : Int))))
                    clear hq
                    go_wp2_with fail
                    go_meet
                    case rel => exact ⟨congrArg (Value.int IntKind.i64) (by omega), HI3, HB3⟩
          case rest => as_aux_lemma =>
            obtain ⟨rfl, HI3, HB3⟩ := hcut
            have hfin : Hid (∃ f, DecIs wc b f (rf m).nd (rfDp m + E) neg false ∧ DigF f (rf m).nd ∧ dn f (rf m).nd = dnum m ∧ (1 ≤ (rf m).nd → 49 ≤ f 0) ∧ Below b w wc) := fhid ⟨f, by rw [← hnd.out, HDP.out]; exact HI3.out, by rw [← hnd.out]; exact HDG.out, by rw [← hnd.out]; exact HDN.out, by rw [← hnd.out]; exact HTP.out, HB3.out⟩
            go_wp2_with fail
            go_ret
            exact ⟨rfl, hfin.out⟩
end Go.Proofs.YtlhhpehfgkanoaaGreatDoor.fl
