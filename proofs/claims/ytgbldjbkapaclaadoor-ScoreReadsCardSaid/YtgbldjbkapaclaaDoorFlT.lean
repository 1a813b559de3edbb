/- The tables of the slow road, from what the rows list. -/
import Derived.Test.YtgbldjbkapaclaaDoorFlR
import Derived.Test.YtgbldjbkapaclaaDoorFlS
import Derived.Test.YtgbldjbkapaclaaDoorFlD
import Derived.Test.YtgbldjbkapaclaaDoorFlG
/- The walk of strconv's (decimal).set at a decimal word. -/
namespace Go.Proofs.YtgbldjbkapaclaaDoor.fl
open Go.ChangeShapes Go.WideShapes Go.ChangeAt Go.RowKit
set_option linter.unusedVariables false
set_option linter.unusedSimpArgs false
/-- What set leaves. -/
def SetPost (b : Nat) (neg : Bool) (m : List Nat) (E : Int) (w : World) (e : Ending) (w' : World) : Prop :=
  e = .returned (.bool true) ∧ ∃ f, DecIs w' b f (rf m).nd (rfDp m + E) neg false ∧ DigF f (rf m).nd ∧ dn f (rf m).nd = dnum m ∧ (1 ≤ (rf m).nd → 49 ≤ f 0) ∧ Below b w w'
/-- set's digits behind j bytes. -/
def SetM (m : List Nat) (j : Nat) (b : Nat) (neg : Bool) (w0 : World) (nd : Nat) (dp : Int) (wx : World) : Prop :=
  ∃ f, DecIs wx b f nd dp neg false ∧ DigF f nd ∧ dn f nd = dnum (m.take j) ∧ (1 ≤ nd → 49 ≤ f 0) ∧ Below b w0 wx
def SetRel (m : List Nat) (a j : Nat) (b : Nat) (neg : Bool) (w0 : World) (i dot dig : Value) (wx : World) : Prop :=
  ∃ S : RF, rf (m.take j) = S ∧ i = .int .i64 ((a + j : Nat) : Int) ∧ dot = .bool S.dot ∧ dig = .bool S.dig ∧ Hid (SetM m j b neg w0 S.nd S.dp wx)
theorem set_mk {m : List Nat} {a j MT ND NDM b : Nat} {neg : Bool} {DP i : Int} {DOT DIG TR dot dig : Bool} {w0 w : World} (hS : rf (m.take j) = ⟨MT, ND, NDM, DP, DOT, DIG, TR⟩) (h1 : i = a + j) (h7 : dot = DOT) (h8 : dig = DIG) (hM : Hid (SetM m j b neg w0 ND DP w)) :
    SetRel m a j b neg w0 (.int .i64 i) (.bool dot) (.bool dig) w := by
  subst h1 h7 h8
  exact ⟨_, hS, by simp, rfl, rfl, hM⟩
set_option maxRecDepth 100000 in
set_option maxHeartbeats 4000000 in
theorem setC (s : ByteArray) (neg : Bool) (m : List Nat) (p : Bool) (E : Int) (b : Nat) (f0 : Nat → Nat) (ng tr : Bool) (w : World) (h : DecW s neg m p E) (hI : DecIs w b f0 0 0 ng tr) :
    Calls Tryd.prog 56 #[.pointer (some ⟨b, 0, none⟩), .string s] w (SetPost b neg m E w) := by
  obtain ⟨⟨sg, xs, hb, hsg, hx⟩, hm, hdig, hlen⟩ := h
  have hA := at_of hb
  have hM0 : 0 < m.length := by
    rcases List.eq_nil_or_concat m with h | ⟨l, c, h⟩
    · rw [h] at hdig; cases hdig
    · rw [h]; simp
  obtain ⟨a, ha⟩ : ∃ a, sg.length = a := ⟨_, rfl⟩
  obtain ⟨n, hn⟩ : ∃ n, s.size = n := ⟨_, rfl⟩
  obtain ⟨M, hM⟩ : ∃ M, m.length = M := ⟨_, rfl⟩
  obtain ⟨X, hX⟩ : ∃ X, xs.length = X := ⟨_, rfl⟩
  rw [ha] at hA
  have hlenA := hA.len
  rw [hM, hX] at hlenA
  rw [hM] at hM0
  have hn0 : 0 < s.size := by omega
  have ha1 : a ≤ 1 := by rw [← ha]; rcases hsg with h | h | h <;> rw [h.1] <;> decide
  have hc0 : s[0].toNat = (bl s).getD 0 0 := bl_at s 0 hn0
  have hsgn : Hid ((((s[0].toNat : Int) == 43) = true ∧ a = 1 ∧ neg = false) ∨ (((s[0].toNat : Int) == 43) = false ∧ ((s[0].toNat : Int) == 45) = true ∧ a = 1 ∧ neg = true) ∨ (((s[0].toNat : Int) == 43) = false ∧ ((s[0].toNat : Int) == 45) = false ∧ a = 0 ∧ neg = false)) := by
    refine fhid ?_
    rcases hsg with h | h | h
    · right; right
      have h1 : s[0].toNat = m.getD 0 0 := by
        have h0 : a = 0 := by rw [← ha, h.1]; rfl
        have := hA.man 0 hn0 (by omega) (by omega)
        rwa [Nat.zero_sub] at this
      obtain ⟨q, hq, _⟩ := mant_take hm 0
      have h2 := mant_next hm 0 (by omega) q hq
      rw [h1]
      have h3 := dig_not (m.getD 0 0) (by rcases h2 with h2 | h2; exact .inl h2; exact .inr h2.1)
      exact ⟨h3.1, h3.2, by rw [← ha, h.1]; rfl, h.2⟩
    · left; rw [hc0, hb, h.1]; exact ⟨rfl, by rw [← ha, h.1]; rfl, h.2⟩
    · right; left; rw [hc0, hb, h.1]; exact ⟨rfl, rfl, by rw [← ha, h.1]; rfl, h.2⟩
  have HA := fhid hA
  have HM := fhid hm
  have HX := fhid hx
  have HML := fhid hM
  have HXL := fhid hX
  have HD := fhid hdig
  have k3 := hI.ng
  have k4 := hI.tr
  have kf3 := hI.fz 802 (by omega)
  have kf4 := hI.fz 803 (by omega)
  have HI := fhid hI
  clear hsg hb hA hc0 hm hx hM hX hdig ha hn hI
  go_enter Tryd.func56, Tryd.ntmps56
  go_upto_block 0 with fail
  have HI1 := fhid ((HI.out.setG false).setT false)
  have HB1 : Hid (Below b w ((w.setCell ⟨b, 802, none⟩ (.bool false)).setCell ⟨b, 803, none⟩ (.bool false))) := fhid (((Below.refl b w).setCell (p := ⟨b, 802, none⟩) (Nat.le_refl _) _).setCell (p := ⟨b, 803, none⟩) (Nat.le_refl _) _)
  obtain ⟨w1, hw1⟩ : ∃ w1, (w.setCell ⟨b, 802, none⟩ (.bool false)).setCell ⟨b, 803, none⟩ (.bool false) = w1 := ⟨_, rfl⟩
  rw [hw1] at HI1 HB1 ⊢
  clear hw1 k3 k4 kf3 kf4 HI
  have k3 := HI1.out.ng
  have kf3 := HI1.out.fz 802 (by omega)
  go_cut [5] (fun i wx => i = .int .i64 (a : Int) ∧ Hid (DecIs wx b f0 0 0 neg false) ∧ Hid (Below b w wx))
  case first => as_aux_lemma =>
    rcases hsgn.out with ⟨h1, h2, h3⟩ | ⟨h1, h1', h2, h3⟩ | ⟨h1, h2, h3, h4⟩
    · subst h2 h3
      go_wp2_with fail
      go_meet
      exact ⟨rfl, HI1, HB1⟩
    · subst h2 h3
      have HI2 := fhid (HI1.out.setG true)
      have HB2 := fhid (HB1.out.setCell (p := ⟨b, 802, none⟩) (Nat.le_refl _) (.bool true))
      go_wp2_with fail
      go_meet
      exact ⟨rfl, HI2, HB2⟩
    · subst h3 h4
      go_wp2_with fail
      go_meet
      exact ⟨rfl, HI1, HB1⟩
  case rest => as_aux_lemma =>
    obtain ⟨rfl, HI2, HB2⟩ := hcut
    clear k3 kf3 HI1 HB1 hsgn
    have HM0 : Hid (SetM m 0 b neg w 0 0 wc) := fhid ⟨f0, HI2.out, fun i h => by omega, rfl, fun h => by omega, HB2.out⟩
    clear HI2 HB2
    go_upto_block 1 with fail
    go_cut [5, 6, 7] (fun i dot dig wx => SetRel m a M b neg w i dot dig wx)
    case first => as_aux_lemma =>
      go_wp2_with fail
      go_loopw [5, 6, 7] (fun i dot dig wx => ∃ j, j ≤ M ∧ SetRel m a j b neg w i dot dig wx) (fun i _ _ _ => a + M - (intOf i).toNat)
      case atStart => exact ⟨0, by omega, rf0, rfl, rfl, rfl, rfl, HM0⟩
      case round =>
        clear HM0
        obtain ⟨j, hj, ⟨mt, nd, ndm, dp, dot, dig, tr⟩, hS, rfl, rfl, rfl, hSM⟩ := hrel
        simp only at hSM ⊢
        obtain ⟨f, hI, hdg, hdn, htop, hB⟩ := hSM.out
        have HIJ := fhid hI
        have HDG := fhid hdg
        have HDN := fhid hdn
        have HTP := fhid htop
        have HBB := fhid hB
        have HS := fhid hS
        by_cases hlt : j < M
        · obtain ⟨q, hq, hqp⟩ := mant_take HM.out j
          have hnx := mant_next HM.out j (by rw [HML.out]; exact hlt) q hq
          have hok := rf_ok hq
          have o1 := hok.dot
          have o2 := hok.dp0
          have o4 := hok.nd
          rw [HS.out] at o1 o2 o4
          simp only at o1 o2 o4
          have hjl : (m.take j).length = j := by rw [List.length_take, HML.out]; omega
          rw [hjl] at o2 o4
          have hjn : a + j < s.size := by omega
          have hs : s[a + j].toNat = m.getD j 0 := by
            rw [HA.out.man (a + j) hjn (by omega) (by rw [HML.out]; omega), Nat.add_sub_cancel_left]
          have hsn := take_snoc (m := m) (j := j) (by rw [HML.out]; exact hlt)
          have hst : rf (m.take (j + 1)) = rfStep ⟨mt, nd, ndm, dp, dot, dig, tr⟩ (m.getD j 0) := by rw [hsn, rf_snoc, HS.out]
          have hdm : dnum (m.take (j + 1)) = if m.getD j 0 = 46 then dnum (m.take j) else dnum (m.take j) * 10 + (m.getD j 0 - 48) := by rw [hsn, dnum_snoc]
          obtain ⟨c, hc⟩ : ∃ c, m.getD j 0 = c := ⟨_, rfl⟩
          rw [hc] at hnx hs hst hdm
          obtain ⟨d1, d2⟩ := o2
          have hjc : a + j < a + M + X := by omega
          have HST := fhid hst
          have HDM := fhid hdm
          have O1 := fhid o1
          have k1 := hI.nd
          have k2 := hI.dp
          have kf1 := hI.fz 800 (by omega)
          have kf2 := hI.fz 801 (by omega)
          have hnd8 : nd < 800 := by omega
          clear hst hsn hc hq hqp hok o1 hjl hI hdg hdn htop hB hS hSM hdm
          rcases hnx with hdgt | ⟨rfl, rfl⟩
          · obtain ⟨g1, g2⟩ := hdgt
            have n95 : ((c : Int) == 95) = false := by simp; omega
            have n46 : ((c : Int) == 46) = false := by simp; omega
            have g1i : (48 : Int) ≤ c := by omega
            have g2i : (c : Int) ≤ 57 := by omega
            have hc46 : c ≠ 46 := by omega
            by_cases hz : c = 48 ∧ nd = 0
            · obtain ⟨rfl, rfl⟩ := hz
              have hf : Hid (rf (m.take (j + 1)) = ⟨mt, 0, ndm, dp - 1, dot, true, tr⟩) := fhid (by rw [HST.out]; unfold rfStep; simp)
              have hM2 : Hid (SetM m (j + 1) b neg w 0 (dp - 1) (wr.setCell ⟨b, 801, none⟩ (.int .i64 (dp - 1)))) := fhid ⟨f, HIJ.out.setP (dp - 1), HDG.out, by rw [HDM.out, if_neg (by omega), ← HDN.out]; rfl, HTP.out, HBB.out.setCell (Nat.le_refl _) _⟩
              clear HST n95 n46 g1i g2i hc46 HIJ HDG HDN HTP HBB HDM
              go_wp2_with fail
              exact ⟨⟨j + 1, by omega, set_mk hf.out (by omega) rfl rfl hM2⟩, by simp [intOf]; omega⟩
            · have hz' : ((c : Int) == 48) = false ∨ ((nd : Int) == 0) = false := by simp; omega
              have k5 := HIJ.out.at_ nd hnd8
              have kf5 := HIJ.out.fz nd (by omega)
              have hnd8i : (nd : Int) < 800 := by omega
              have hf : Hid (∃ mt' ndm' tr', rf (m.take (j + 1)) = ⟨mt', nd + 1, ndm', dp, dot, true, tr'⟩) := fhid (by
                rw [HST.out]; unfold rfStep
                rw [if_neg hc46, if_neg hz]
                split
                · exact ⟨_, _, _, rfl⟩
                · exact ⟨_, _, _, rfl⟩)
              have hM2 : Hid (SetM m (j + 1) b neg w (nd + 1) dp ((wr.setCell ⟨b, nd, none⟩ (.int .u8 c)).drew.setCell ⟨b, 800, none⟩ (.int .i64 ((nd : Int) + 1)))) := fhid ⟨setAt f nd c, ((HIJ.out.setD hnd8 c).drew 1).setN (v := (nd : Int) + 1) (nd + 1) (by omega), fun i hi => by
                  unfold setAt
                  by_cases e : i = nd
                  · rw [if_pos e]; omega
                  · rw [if_neg e]; exact HDG.out i (by omega),
                by rw [dn_succ, dn_set (Nat.le_refl _), HDN.out, HDM.out, if_neg hc46]; unfold setAt; rw [if_pos rfl],
                fun _ => by
                  unfold setAt
                  by_cases e : 0 = nd
                  · rw [if_pos e]; omega
                  · rw [if_neg e]; exact HTP.out (by omega),
                (below_dn (HBB.out.setCell (p := ⟨b, nd, none⟩) (Nat.le_refl _) _) 1).setCell (p := ⟨b, 800, none⟩) (Nat.le_refl _) _⟩
              clear HST hc46 HIJ HDG HDN HTP HBB HDM
              by_cases h48 : c = 48
              · subst h48
                have hndz : ((nd : Int) == 0) = false := by simp; omega
                clear hz'
                go_wp2_with fail
                go_region
                go_wp2_with fail
                obtain ⟨mt', ndm', tr', hf⟩ := hf.out
                exact ⟨⟨j + 1, by omega, set_mk hf (by omega) rfl rfl hM2⟩, by simp [intOf]; omega⟩
              · have n48 : ((c : Int) == 48) = false := by simp; omega
                clear hz'
                go_wp2_with fail
                go_region
                go_wp2_with fail
                obtain ⟨mt', ndm', tr', hf⟩ := hf.out
                exact ⟨⟨j + 1, by omega, set_mk hf (by omega) rfl rfl hM2⟩, by simp [intOf]; omega⟩
          · have hd0 : dot = false := O1.out
            subst hd0
            have hf : Hid (rf (m.take (j + 1)) = ⟨mt, nd, ndm, nd, true, dig, tr⟩) := fhid (by rw [HST.out]; unfold rfStep; simp)
            have hM2 : Hid (SetM m (j + 1) b neg w nd nd (wr.setCell ⟨b, 801, none⟩ (.int .i64 (nd : Int)))) := fhid ⟨f, HIJ.out.setP nd, HDG.out, by rw [HDM.out, if_pos rfl]; exact HDN.out, HTP.out, HBB.out.setCell (Nat.le_refl _) _⟩
            clear HST HIJ HDG HDN HTP HBB HDM
            go_wp2_with fail
            exact ⟨⟨j + 1, by omega, set_mk hf.out (by omega) rfl rfl hM2⟩, by simp [intOf]; omega⟩
        · obtain rfl : j = M := by omega
          have hrel : Hid (SetRel m a j b neg w (.int .i64 ((a + j : Nat) : Int)) (.bool dot) (.bool dig) wr) := fhid (set_mk HS.out (by omega) rfl rfl hSM)
          clear hSM hI hdg hdn htop hB HIJ HDG HDN HTP HBB hS
          by_cases hX0 : X = 0
          · subst hX0
            go_wp2_with fail
            go_meet
            case rel => exact hrel.out
          · have hjn : a + j < s.size := by omega
            have hs : s[a + j].toNat = xs.getD 0 0 := by
              rw [HA.out.ex (a + j) hjn (by rw [HML.out]; omega), HML.out, Nat.sub_self]
            have hce : xs.getD 0 0 = 101 ∨ xs.getD 0 0 = 69 := by
              cases HX.out with
              | none => have := HXL.out; simp at this; omega
              | some hc _ _ _ _ => simpa using hc
            obtain ⟨c, hc⟩ : ∃ c, xs.getD 0 0 = c := ⟨_, rfl⟩
            rw [hc] at hs hce
            have n95 : ((c : Int) == 95) = false := by simp; omega
            have n46 : ((c : Int) == 46) = false := by simp; omega
            have g2i : (57 : Int) < c := by omega
            have hjc : a + j < a + j + X := by omega
            clear hc hce
            go_wp2_with fail
            go_meet
            case rel => exact hrel.out
    case rest => as_aux_lemma =>
      obtain ⟨⟨mt, nd, ndm, dp, dot, dig, tr⟩, hS, rfl, rfl, rfl, hSM⟩ := hcut
      simp only at hSM ⊢
      rw [List.take_of_length_le (by rw [HML.out]; exact Nat.le_refl _)] at hS
      clear HM0
      have hok := rf_ok HM.out
      have o1 := hok.dp0
      have o3 := hok.nd
      have o4 := HD.out
      obtain ⟨f, hI, hdg, hdn, htop, hB⟩ := hSM.out
      rw [List.take_of_length_le (by rw [HML.out]; exact Nat.le_refl _)] at hdn
      obtain ⟨dpv, hdpv⟩ : ∃ d, rfDp m = d := ⟨_, rfl⟩
      have hdv : Hid (dpv = if dot then dp else nd) := fhid (by rw [← hdpv]; unfold rfDp; rw [hS])
      rw [hS] at o1 o3 o4
      simp only at o1 o3 o4 ⊢
      subst o4
      rw [HML.out] at o1 o3
      obtain ⟨d1, d2⟩ := o1
      have hdb : -100 ≤ dpv ∧ dpv ≤ 100 := by rw [hdv.out]; split <;> omega
      obtain ⟨d3, d4⟩ := hdb
      have hnd : Hid (nd = (rf m).nd) := fhid (by rw [hS])
      have HDG := fhid hdg
      have HDN := fhid hdn
      have HTP := fhid htop
      have HDP := fhid hdpv
      have k1 := hI.nd
      have k2 := hI.dp
      have kf2 := hI.fz 801 (by omega)
      have HIJ := fhid hI
      have HBB := fhid hB
      clear hS hok hdpv hdg hdn htop hI hB hSM
      go_upto_if 120 with fail
      go_cut [4] (fun t wx => t = .bool false ∧ Hid (DecIs wx b f nd dpv neg false) ∧ Hid (Below b w wx))
      case first => as_aux_lemma =>
        cases dot
        · have := hdv.out
          simp at this
          subst this
          have HI2 := fhid (HIJ.out.setP (nd : Int))
          have HB2 := fhid (HBB.out.setCell (p := ⟨b, 801, none⟩) (Nat.le_refl _) (.int .i64 (nd : Int)))
          go_wp2_with fail
          go_meet
          case rel => exact ⟨rfl, HI2, HB2⟩
        · have := hdv.out
          simp at this
          subst this
          go_wp2_with fail
          go_meet
          case rel => exact ⟨rfl, HIJ, HBB⟩
      case rest => as_aux_lemma =>
        obtain ⟨rfl, HI2, HB2⟩ := hcut
        clear k1 k2 kf2 HIJ HBB
        by_cases hX0 : X = 0
        · subst hX0
          have hE : E = 0 := by
            cases HX.out with
            | none => rfl
            | some _ _ _ _ _ => have := HXL.out; simp at this
          have hfin : Hid (∃ f, DecIs wc b f (rf m).nd (rfDp m + E) neg false ∧ DigF f (rf m).nd ∧ dn f (rf m).nd = dnum m ∧ (1 ≤ (rf m).nd → 49 ≤ f 0) ∧ Below b w wc) := fhid ⟨f, by rw [← hnd.out, HDP.out, hE, Int.add_zero]; exact HI2.out, by rw [← hnd.out]; exact HDG.out, by rw [← hnd.out]; exact HDN.out, by rw [← hnd.out]; exact HTP.out, HB2.out⟩
          go_wp2_with fail
          go_ret
          exact ⟨rfl, hfin.out⟩
        · have hex : ∃ (c : Nat) (sg ds : List Nat) (en : Bool) (f : Nat), (c = 101 ∨ c = 69) ∧ xs = c :: (sg ++ ds) ∧ (sg = [] ∧ en = false ∨ sg = [43] ∧ en = false ∨ sg = [45] ∧ en = true) ∧ sg.length = f ∧ ExD s (a + M + 1 + f) ds ∧ E = (if en then -(dnum ds : Int) else dnum ds) := by
            cases HX.out with
            | none => have := HXL.out; simp at this; omega
            | @some c sg ds en hc hsg h1 h5 hdg =>
              have hXl := HXL.out
              simp at hXl
              refine ⟨c, sg, ds, en, _, hc, rfl, hsg, rfl, ⟨by omega, h1, h5, hdg, fun k h hk => ?_⟩, rfl⟩
              rw [HA.out.ex k h (by rw [HML.out]; omega), HML.out, List.getD_eq_getElem?_getD]
              obtain ⟨t, ht⟩ : ∃ t, k - (a + M) = t + 1 := ⟨k - (a + M) - 1, by omega⟩
              rw [ht, List.getElem?_cons_succ, List.getElem?_append_right (by omega), ← List.getD_eq_getElem?_getD]
              congr 1; omega
          obtain ⟨c, sg, ds, en, fe, hc, hxs, hsg, hf, hD, hE⟩ := hex
          obtain ⟨L, hL⟩ : ∃ L, ds.length = L := ⟨_, rfl⟩
          have hlen2 := hD.len
          have l1 := hD.one
          have l5 := hD.five
          rw [hL] at hlen2 l1 l5
          have hf1 : fe ≤ 1 := by rw [← hf]; rcases hsg with h | h | h <;> rw [h.1] <;> decide
          obtain rfl : X = 1 + fe + L := by omega
          have h0n : a + M < s.size := by omega
          have h1n : a + M + 1 < s.size := by omega
          have hgn : a + M + 1 + fe < s.size := by omega
          have hs0 : s[a + M].toNat = c := by
            rw [HA.out.ex (a + M) h0n (by rw [HML.out]; omega), HML.out, Nat.sub_self, hxs]; rfl
          have hs1 : fe = 1 → s[a + M + 1].toNat = sg.getD 0 0 := by
            intro h
            rw [HA.out.ex (a + M + 1) h1n (by rw [HML.out]; omega), HML.out, Nat.add_sub_cancel_left, hxs]
            rw [List.getD_eq_getElem?_getD, List.getElem?_cons_succ, List.getElem?_append_left (by omega), ← List.getD_eq_getElem?_getD]
          have hsd := hD.at' (a + M + 1 + fe) hgn (Nat.le_refl _)
          rw [Nat.sub_self] at hsd
          have hd0 : isDig (ds.getD 0 0) := by
            refine hD.dig _ ?_
            rw [List.getD_eq_getElem?_getD, List.getElem?_eq_getElem (by omega)]; simp
          obtain ⟨d0, hd0e⟩ : ∃ d, ds.getD 0 0 = d := ⟨_, rfl⟩
          rw [hd0e] at hsd hd0
          obtain ⟨g1, g2⟩ := hd0
          have hlow : ((c ||| 32 : Nat) : Int) = 101 := by rcases hc with rfl | rfl <;> decide
          have hc256 : c < 256 := by omega
          have hE2 := fhid hE
          have HDD := fhid hD
          have HLL := fhid hL
          -- the sign
          have hsgc : Hid ((fe = 0 ∧ en = false) ∨ (fe = 1 ∧ en = false ∧ s[a + M + 1].toNat = 43) ∨ (fe = 1 ∧ en = true ∧ s[a + M + 1].toNat = 45)) := fhid (by
            rcases hsg with ⟨h, h'⟩ | ⟨h, h'⟩ | ⟨h, h'⟩
            · left; exact ⟨by rw [← hf, h]; rfl, h'⟩
            · right; left
              have : fe = 1 := by rw [← hf, h]; rfl
              exact ⟨this, h', by rw [hs1 this, h]; rfl⟩
            · right; right
              have : fe = 1 := by rw [← hf, h]; rfl
              exact ⟨this, h', by rw [hs1 this, h]; rfl⟩)
          clear hc hxs hsg hf hD hE hL hs1 hd0e
          have k2 := HI2.out.dp
          have kf2 := HI2.out.fz 801 (by omega)
          go_upto_if 138 with (go_at_call 66; refine (lowerC _ _ hc256).mono ?_; rintro e w' ⟨rfl, rfl⟩)
          go_cut [5] (fun i wx => i = .int .i64 s.size ∧ Hid (DecIs wx b f nd (dpv + E) neg false) ∧ Hid (Below b w wx))
          case first => as_aux_lemma =>
            go_upto_block 4 with fail
            go_cut [5, 8] (fun i es wx => i = .int .i64 ((a + M + 1 + fe : Nat) : Int) ∧ es = .int .i64 (if en then -1 else 1) ∧ wx = wc)
            case first => as_aux_lemma =>
              rcases hsgc.out with ⟨rfl, rfl⟩ | ⟨rfl, rfl, hb⟩ | ⟨rfl, rfl, hb⟩
              · have n43 : ((s[a + M + 1].toNat : Int) == 43) = false := by
                  have : s[a + M + 1].toNat = d0 := hsd
                  rw [this]; simp; omega
                have n45 : ((s[a + M + 1].toNat : Int) == 45) = false := by
                  have : s[a + M + 1].toNat = d0 := hsd
                  rw [this]; simp; omega
                clear hsd
                go_wp2_with fail
                go_meet
                case rel => exact ⟨rfl, rfl, rfl⟩
              · have n43 : ((s[a + M + 1].toNat : Int) == 43) = true := by rw [hb]; rfl
                clear hsd hb
                go_wp2_with fail
                go_meet
                case rel => exact ⟨rfl, rfl, rfl⟩
              · have n43 : ((s[a + M + 1].toNat : Int) == 43) = false := by rw [hb]; rfl
                have n45 : ((s[a + M + 1].toNat : Int) == 45) = true := by rw [hb]; rfl
                clear hsd hb
                go_wp2_with fail
                go_meet
                case rel => exact ⟨rfl, rfl, rfl⟩
            case rest => as_aux_lemma =>
              obtain ⟨rfl, rfl, rfl⟩ := hcut
              have g1i : (48 : Int) ≤ d0 := by omega
              have g2i : (d0 : Int) ≤ 57 := by omega
              clear hs0 hsgc
              cases en
              · go_wp2_with fail
                go_loopw [5, 9] (fun i ev wx => ∃ j, j ≤ L ∧ i = .int .i64 ((a + M + 1 + fe + j : Nat) : Int) ∧ ev = .int .i64 (dnum (ds.take j) : Int) ∧ wx = wc) (fun i _ _ => a + M + 1 + fe + L - (intOf i).toNat)
                case atStart => exact ⟨0, by omega, congrArg (Value.int IntKind.i64) (by omega), rfl, rfl⟩
                case round =>
                  obtain ⟨j, hj, rfl, rfl, rfl⟩ := hrel
                  by_cases hlt : j < L
                  · have hjn : a + M + 1 + fe + j < s.size := by omega
                    have hs : s[a + M + 1 + fe + j].toNat = ds.getD j 0 := by
                      rw [HDD.out.at' (a + M + 1 + fe + j) hjn (by omega), Nat.add_sub_cancel_left]
                    have hsn : dnum (ds.take (j + 1)) = dnum (ds.take j) * 10 + (ds.getD j 0 - 48) := by
                      have hdj : isDig (ds.getD j 0) := by
                        refine HDD.out.dig _ ?_
                        rw [List.getD_eq_getElem?_getD, List.getElem?_eq_getElem (by rw [HLL.out]; exact hlt)]; simp
                      rw [take_snoc (by rw [HLL.out]; exact hlt), dnum_snoc, if_neg (by unfold isDig at hdj; omega)]
                    have hcd : isDig (ds.getD j 0) := by
                      refine HDD.out.dig _ ?_
                      rw [List.getD_eq_getElem?_getD, List.getElem?_eq_getElem (by rw [HLL.out]; exact hlt)]; simp
                    have hev : dnum (ds.take j) < 10000 := by
                      have h1 := dnum_lt (ds.take j) (fun x hx => HDD.out.dig x (List.mem_of_mem_take hx))
                      have h2 : (ds.take j).length ≤ 4 := by rw [List.length_take]; omega
                      exact Nat.lt_of_lt_of_le h1 (Nat.pow_le_pow_right (by decide) h2)
                    obtain ⟨cj, hcj⟩ : ∃ c, ds.getD j 0 = c := ⟨_, rfl⟩
                    rw [hcj] at hs hsn hcd
                    obtain ⟨k1, k2⟩ := hcd
                    have k1i : (48 : Int) ≤ cj := by omega
                    have k2i : (cj : Int) ≤ 57 := by omega
                    have n95 : ((cj : Int) == 95) = false := by simp; omega
                    obtain ⟨ev, hev2⟩ : ∃ v, dnum (ds.take j) = v := ⟨_, rfl⟩
                    rw [hev2] at hsn hev
                    simp only [hev2]
                    have HSN := fhid hsn
                    have hevi : (ev : Int) < 10000 := by omega
                    clear hsn hcj hev2
                    go_wp2_with fail
                    exact ⟨⟨j + 1, by omega, congrArg (Value.int IntKind.i64) (by omega), congrArg (Value.int IntKind.i64) (by rw [HSN.out]; omega), (by first | rfl | trivial)⟩, by simp [intOf]; omega⟩
                  · obtain rfl : j = L := by omega
                    have hdn : dnum (ds.take j) = dnum ds := by rw [List.take_of_length_le (by rw [HLL.out]; exact Nat.le_refl _)]
                    have hdb : dnum ds < 100000 := Nat.lt_of_lt_of_le (dnum_lt ds HDD.out.dig) (Nat.pow_le_pow_right (by decide) HDD.out.five)
                    obtain ⟨ev, hev2⟩ : ∃ v, dnum ds = v := ⟨_, rfl⟩
                    rw [hdn, hev2]
                    rw [hev2] at hdb
                    have HEV := fhid hev2
                    clear hdn hev2
                    have hq : dpv + (ev : Int) = dpv + E := by rw [hE2.out, HEV.out]; simp; try omega
                    have HI3 : Hid (DecIs (wr.setCell ⟨b, 801, none⟩ (.int .i64 (dpv + (ev : Int)))) b f nd (dpv + E) neg false) := fhid (by rw [← hq]; exact HI2.out.setP _)
                    have HB3 := fhid (HB2.out.setCell (p := ⟨b, 801, none⟩) (Nat.le_refl _) (.int .i64 (dpv + (ev : Int))))
                    clear hq
                    go_wp2_with fail
                    go_meet
                    case rel => exact ⟨congrArg (Value.int IntKind.i64) (by omega), HI3, HB3⟩
              · go_wp2_with fail
                go_loopw [5, 9] (fun i ev wx => ∃ j, j ≤ L ∧ i = .int .i64 ((a + M + 1 + fe + j : Nat) : Int) ∧ ev = .int .i64 (dnum (ds.take j) : Int) ∧ wx = wc) (fun i _ _ => a + M + 1 + fe + L - (intOf i).toNat)
                case atStart => exact ⟨0, by omega, congrArg (Value.int IntKind.i64) (by omega), rfl, rfl⟩
                case round =>
                  obtain ⟨j, hj, rfl, rfl, rfl⟩ := hrel
                  by_cases hlt : j < L
                  · have hjn : a + M + 1 + fe + j < s.size := by omega
                    have hs : s[a + M + 1 + fe + j].toNat = ds.getD j 0 := by
                      rw [HDD.out.at' (a + M + 1 + fe + j) hjn (by omega), Nat.add_sub_cancel_left]
                    have hsn : dnum (ds.take (j + 1)) = dnum (ds.take j) * 10 + (ds.getD j 0 - 48) := by
                      have hdj : isDig (ds.getD j 0) := by
                        refine HDD.out.dig _ ?_
                        rw [List.getD_eq_getElem?_getD, List.getElem?_eq_getElem (by rw [HLL.out]; exact hlt)]; simp
                      rw [take_snoc (by rw [HLL.out]; exact hlt), dnum_snoc, if_neg (by unfold isDig at hdj; omega)]
                    have hcd : isDig (ds.getD j 0) := by
                      refine HDD.out.dig _ ?_
                      rw [List.getD_eq_getElem?_getD, List.getElem?_eq_getElem (by rw [HLL.out]; exact hlt)]; simp
                    have hev : dnum (ds.take j) < 10000 := by
                      have h1 := dnum_lt (ds.take j) (fun x hx => HDD.out.dig x (List.mem_of_mem_take hx))
                      have h2 : (ds.take j).length ≤ 4 := by rw [List.length_take]; omega
                      exact Nat.lt_of_lt_of_le h1 (Nat.pow_le_pow_right (by decide) h2)
                    obtain ⟨cj, hcj⟩ : ∃ c, ds.getD j 0 = c := ⟨_, rfl⟩
                    rw [hcj] at hs hsn hcd
                    obtain ⟨k1, k2⟩ := hcd
                    have k1i : (48 : Int) ≤ cj := by omega
                    have k2i : (cj : Int) ≤ 57 := by omega
                    have n95 : ((cj : Int) == 95) = false := by simp; omega
                    obtain ⟨ev, hev2⟩ : ∃ v, dnum (ds.take j) = v := ⟨_, rfl⟩
                    rw [hev2] at hsn hev
                    simp only [hev2]
                    have HSN := fhid hsn
                    have hevi : (ev : Int) < 10000 := by omega
                    clear hsn hcj hev2
                    go_wp2_with fail
                    exact ⟨⟨j + 1, by omega, congrArg (Value.int IntKind.i64) (by omega), congrArg (Value.int IntKind.i64) (by rw [HSN.out]; omega), (by first | rfl | trivial)⟩, by simp [intOf]; omega⟩
                  · obtain rfl : j = L := by omega
                    have hdn : dnum (ds.take j) = dnum ds := by rw [List.take_of_length_le (by rw [HLL.out]; exact Nat.le_refl _)]
                    have hdb : dnum ds < 100000 := Nat.lt_of_lt_of_le (dnum_lt ds HDD.out.dig) (Nat.pow_le_pow_right (by decide) HDD.out.five)
                    obtain ⟨ev, hev2⟩ : ∃ v, dnum ds = v := ⟨_, rfl⟩
                    rw [hdn, hev2]
                    rw [hev2] at hdb
                    have HEV := fhid hev2
                    clear hdn hev2
                    have hq : dpv + -(ev : Int) = dpv + E := by rw [hE2.out, HEV.out]; simp; try omega
                    have HI3 : Hid (DecIs (wr.setCell ⟨b, 801, none⟩ (.int .i64 (dpv + -(ev : Int)))) b f nd (dpv + E) neg false) := fhid (by rw [← hq]; exact HI2.out.setP _)
                    have HB3 := fhid (HB2.out.setCell (p := ⟨b, 801, none⟩) (Nat.le_refl _) (.int .i64 (dpv + -(ev : Int))))
                    clear hq
                    go_wp2_with fail
                    go_meet
                    case rel => exact ⟨congrArg (Value.int IntKind.i64) (by omega), HI3, HB3⟩
          case rest => as_aux_lemma =>
            obtain ⟨rfl, HI3, HB3⟩ := hcut
            have hfin : Hid (∃ f, DecIs wc b f (rf m).nd (rfDp m + E) neg false ∧ DigF f (rf m).nd ∧ dn f (rf m).nd = dnum m ∧ (1 ≤ (rf m).nd → 49 ≤ f 0) ∧ Below b w wc) := fhid ⟨f, by rw [← hnd.out, HDP.out]; exact HI3.out, by rw [← hnd.out]; exact HDG.out, by rw [← hnd.out]; exact HDN.out, by rw [← hnd.out]; exact HTP.out, HB3.out⟩
            go_wp2_with fail
            go_ret
            exact ⟨rfl, hfin.out⟩
end Go.Proofs.YtgbldjbkapaclaaDoor.fl
/- The contract of internal/strconv.atof64 at a decimal word of which digits are left out. -/
namespace Go.Proofs.YtgbldjbkapaclaaDoor.fl
open Go.ChangeShapes Go.WideShapes Go.ChangeAt Go.RowKit
set_option linter.unusedVariables false
set_option linter.unusedSimpArgs false
theorem ord_eqB (s : Bool) (u v : Nat) (hu : u ≤ infR) (hv : v ≤ infR) : ∃ o, Ieee.double.order (sgw s + u) (sgw s + v) = some o ∧ (o = .eq ↔ u = v) := by
  rcases Nat.lt_or_eq_of_le hu with h1 | h1
  · rcases Nat.lt_or_eq_of_le hv with h2 | h2
    · refine ⟨_, order_val s s u v h1 h2, ?_⟩
      rw [Int.compare_eq_eq]
      constructor
      · intro h
        have : V u = V v := by cases s <;> simp [sI] at h <;> omega
        rcases Nat.lt_trichotomy u v with g | g | g
        · have := V_lt g; omega
        · exact g
        · have := V_lt g; omega
      · rintro rfl; rfl
    · obtain ⟨m, i, r⟩ := reads s u h1
      rw [h2]
      unfold Ieee.Format.order
      rw [read_inf, r.read]
      refine ⟨_, rfl, ?_⟩
      have : u ≠ infR := by omega
      cases s <;> simp [this]
  · rcases Nat.lt_or_eq_of_le hv with h2 | h2
    · obtain ⟨m, i, r⟩ := reads s v h2
      rw [h1]
      unfold Ieee.Format.order
      rw [read_inf, r.read]
      refine ⟨_, rfl, ?_⟩
      have : infR ≠ v := by omega
      cases s <;> simp [this]
    · rw [h1, h2]
      exact ⟨.eq, ord_self s infR (Nat.le_refl _), by simp⟩
/-- Digits left out: 20 of them and more. -/
theorem tr_wide {m : List Nat} {p : Bool} (h : Mant m p) (ht : (rf m).tr = true) : 20 ≤ (rf m).nd ∧ (rf m).ndm = 19 ∧ 10 ^ 18 ≤ (rf m).mant ∧ (rf m).mant < 10 ^ 19 := by
  have ok := rf_ok h
  obtain ⟨r, r1, r2, r3⟩ := ok.num
  have hr : r ≠ 0 := r3.1 ht
  have hm := ok.ndm
  have hgt : 20 ≤ (rf m).nd := by
    rcases Nat.lt_or_ge (rf m).nd 20 with hh | hh
    · exfalso
      rw [show (rf m).nd - (rf m).ndm = 0 by omega, Nat.pow_zero] at r1
      omega
    · exact hh
  have h19 : (rf m).ndm = 19 := by omega
  have lo := ok.low (by omega)
  have hi := ok.mant
  rw [h19] at lo hi
  exact ⟨hgt, h19, lo, hi⟩
theorem wq_dp {m : List Nat} {p : Bool} (h : Mant m p) (E : Int) : rfDp m + E - ((rf m).nd : Int) = wq m E := by
  have ok := rf_ok h
  unfold rfDp wq
  rw [ok.dot]
  cases p
  · rw [if_neg (by decide), ok.frac0 rfl]; omega
  · rw [if_pos rfl, ok.dp rfl]; omega
theorem zc_at (i : Nat) (h : i < 800) : Tryd.zeroCells117[i]? = some (.int .u8 0) := by
  have : (List.range 800).all (fun i => match Tryd.zeroCells117[i]? with | some (.int .u8 n) => n == 0 | _ => false) = true := by decide +kernel
  have h2 := List.all_eq_true.1 this i (List.mem_range.2 h)
  split at h2
  · rename_i n e
    rw [e]
    simp at h2
    rw [h2]
  · cases h2
/-- A new decimal. -/
theorem dec_new (w : World) : DecIs (w.alloc (.cells Tryd.zeroCells117 117)) w.heap.size (fun _ => 0) 0 0 false false := by
  have z0 : Tryd.zeroCells117[800]? = some (.int .i64 0) := by kernel_rfl
  have z1 : Tryd.zeroCells117[801]? = some (.int .i64 0) := by kernel_rfl
  have z2 : Tryd.zeroCells117[802]? = some (.bool false) := by kernel_rfl
  have z3 : Tryd.zeroCells117[803]? = some (.bool false) := by kernel_rfl
  refine ⟨fun i hi => ?_, ?_, ?_, ?_, ?_, fun i hi => ?_⟩
  · rw [World.cell?_alloc_at _ _ _ _ rfl]; exact zc_at i hi
  · rw [World.cell?_alloc_at _ _ _ _ rfl]; exact z0
  · rw [World.cell?_alloc_at _ _ _ _ rfl]; exact z1
  · rw [World.cell?_alloc_at _ _ _ _ rfl]; exact z2
  · rw [World.cell?_alloc_at _ _ _ _ rfl]; exact z3
  · go_simp
theorem rfX_dp (m : List Nat) (E : Int) : rfX m E = rfDp m + E - ((rf m).ndm : Int) := rfl
set_option maxRecDepth 100000 in
set_option maxHeartbeats 4000000 in
theorem atof64T (s : ByteArray) (neg : Bool) (m : List Nat) (p : Bool) (E : Int) (w : World) (h : DecW s neg m p E) (ht : (rf m).tr = true) (hs64 : s.size ≤ 64) (hf : FO w) (hxx : FX w)
    (hR : ∀ w, Calls Tryd.prog 50 #[.string s] w (RfPost s neg m E w)) :
    Calls Tryd.prog 45 #[.string s] w (AtofPost neg m E s.size w) := by
  obtain ⟨h0, hfirst⟩ := dec_first h
  have cs := fun w => specialC s w h0 (Nat.le_trans h.short (by decide)) hfirst
  have hm := h.mant
  have hlen := h.short
  obtain ⟨t1, t2, t3, t4⟩ := tr_wide hm ht
  have hndl : (rf m).nd ≤ 64 := by
    have h1 := (rf_ok hm).nd
    obtain ⟨⟨sg, xs, hb, _, _⟩, _, _, _⟩ := h
    have := congrArg List.length hb
    rw [bl_length] at this
    simp at this
    omega
  obtain ⟨d, hd⟩ : ∃ d, (rf m).mant = d := ⟨_, rfl⟩
  obtain ⟨x, hx⟩ : ∃ x, rfExp m E = x := ⟨_, rfl⟩
  have hxX : x = rfX m E := by rw [← hx]; unfold rfExp rfX; rw [if_neg (by omega)]
  have hbt : Hid (∀ u1 u2 u, Near (valN d x) (valD x) u1 → Near (valN (d + 1) x) (valD x) u2 → Near (valN (dnum m) (wq m E)) (valD (wq m E)) u → u1 ≤ u ∧ u ≤ u2) := fhid (fun u1 u2 u h1 h2 hu => near_between hm E (by rw [hd, ← hxX]; exact h1) (by rw [hd, ← hxX]; exact h2) hu)
  have hdp : Hid (x = rfDp m + E - 19) := fhid (by rw [hxX, rfX_dp, t2]; rfl)
  have cr : ∀ w, Calls Tryd.prog 50 #[.string s] w fun e w' => e = .returned (.tuple #[.int .u64 d, .int .i64 x, .bool neg, .bool true, .bool false, .int .i64 s.size, .bool true]) ∧ ∃ n, w' = w.drewN n := by
    intro w
    have := hR w
    unfold RfPost at this
    rwa [hd, hx, ht] at this
  rw [hd] at t3 t4
  have hd1 : 1000000000000000000 ≤ d := t3
  have hd2 : d < 10000000000000000000 := t4
  have hopt := hf.opt
  have HF := fhid hf
  have HXX := fhid hxx
  have hfb := ffb
  have HW := fhid h
  have HND := fhid hndl
  have HN20 := fhid t1
  have HMN := fhid hm
  obtain ⟨S, hS⟩ : ∃ S, sgw neg = S := ⟨_, rfl⟩
  obtain ⟨b2, hb2⟩ : ∃ b : Int, (if neg = true then (1 : Int) else 0) = b := ⟨_, rfl⟩
  have hsh : IntKind.u64.wrap (b2 * 9223372036854775808) = (S : Int) := by rw [← hb2, ← hS]; exact sgn_shift neg
  have hor0 : bits BinOp.or IntKind.u64 (S : Int) 0 = (S : Int) := by rw [← hS]; exact zor_sg (m := 0) (by decide)
  have hori : bits BinOp.or IntKind.u64 (S : Int) 9218868437227405312 = ((S + infR : Nat) : Int) := by rw [← hS]; exact zor_inf (sgw neg) (by cases neg <;> simp [sgw])
  have cb : ∀ w, Calls Tryd.prog 58 #[.bool neg] w fun e w' => e = .returned (.int .u64 b2) ∧ w = w' := fun w => by rw [← hb2]; exact bool2u neg w
  have HS := fhid hS
  have hz : ¬ d = 0 := by omega
  have hzi : ((d : Int) == 0) = false := by simp; omega
  clear hd hx hf hfirst h hR hS hb2 hxX t1 t2 t3 t4 hm ht hndl hxx
  go_enter Tryd.func45, Tryd.ntmps45
  go_wp2_with fail
  refine (cs _).mono ?_
  clear cs
  rintro e w1 ⟨rfl, rfl⟩
  go_wp2_with fail
  refine (cr _).mono ?_
  clear cr
  rintro e w1 ⟨rfl, n1, rfl⟩
  have hopt : (w.drewN n1).cell? ⟨9, 0, none⟩ = some (.bool true) := hopt
  go_wp2_with fail
  refine (cb _).mono ?_
  clear cb
  rintro e w1 ⟨rfl, rfl⟩
  by_cases h310 : 310 < x
  · have hfin : Hid (∃ u, Near (valN (dnum m) (wq m E)) (valD (wq m E)) u ∧ Ending.returned (.tuple #[.float .f64 (S + infR), .int .i64 s.size, .iface 77 (.int .i64 1)]) = .returned (pf3 neg u s.size)) := fhid (by
      obtain ⟨u, hu⟩ := near_exists (valN (dnum m) (wq m E)) (valD (wq m E)) (valD_pos _)
      obtain ⟨u1, hu1⟩ := near_exists (valN d x) (valD x) (valD_pos x)
      obtain ⟨u2, hu2⟩ := near_exists (valN (d + 1) x) (valD x) (valD_pos x)
      have := hbt.out u1 u2 u hu1 hu2 hu
      have := far_up (by omega) h310 hu1
      exact ⟨u, hu, by rw [pf3_ge (by omega), HS.out]⟩)
    clear hz
    go_wp2_with fail
    go_ret3
    obtain ⟨u, u1, u2⟩ := hfin.out
    exact ⟨u, u1, u2, below_dn (Below.refl _ _) _⟩
  · by_cases h345 : x < -345
    · have hfin : Hid (∃ u, Near (valN (dnum m) (wq m E)) (valD (wq m E)) u ∧ Ending.returned (.tuple #[.float .f64 S, .int .i64 s.size, .nilIface]) = .returned (pf3 neg u s.size)) := fhid (by
        obtain ⟨u, hu⟩ := near_exists (valN (dnum m) (wq m E)) (valD (wq m E)) (valD_pos _)
        have := hbt.out 0 0 u (far_down (by omega) h345) (far_down (by omega) h345) hu
        obtain rfl : u = 0 := by omega
        exact ⟨0, hu, by rw [pf3_lt (by decide), HS.out]; rfl⟩)
      clear hz
      go_wp2_with fail
      go_ret3
      obtain ⟨u, u1, u2⟩ := hfin.out
      exact ⟨u, u1, u2, below_dn (Below.refl _ _) _⟩
    · have hx1 : -345 ≤ x := by omega
      have hx2 : x ≤ 310 := by omega
      have cp := fun w hf => parseFloat64C d x neg w (by omega) (by omega) hx1 hx2 hf
      have cp2 := fhid (fun w hf => parseFloat64C (d + 1) x neg w (by omega) (by omega) hx1 hx2 hf)
      rw [HS.out] at cp
      clear hz
      go_wp2_with fail
      refine (cp _ (HF.out.drewN n1).tab).mono ?_
      clear cp
      rintro e w2 ⟨u1, hu1, rfl, hb⟩
      have HU1 := fhid hu1
      have HB2 : Hid (Below w.heap.size w w2) := fhid ((below_dn (Below.refl _ _) n1).trans hb)
      clear hu1 hb
      have HX2 : Hid (FX w2) := fhid (HXX.out.on HB2.out)
      have HF2 := fhid (HF.out.on HB2.out)
      -- what is left behind the two quick answers
      have HSL : Hid (∀ u1 u2, Near (valN d x) (valD x) u1 → Near (valN (d + 1) x) (valD x) u2 → min u1 infR = min u2 infR → ∃ u, Near (valN (dnum m) (wq m E)) (valD (wq m E)) u ∧ min u infR = min u1 infR) := fhid (fun u1 u2 a1 a2 a3 => by
        obtain ⟨u, hu⟩ := near_exists (valN (dnum m) (wq m E)) (valD (wq m E)) (valD_pos _)
        have := hbt.out u1 u2 u a1 a2 hu
        exact ⟨u, hu, by omega⟩)
      obtain ⟨U1, hU1⟩ : ∃ U, min u1 infR = U := ⟨_, rfl⟩
      have hpf1 : ∃ ev, pfV neg u1 = .tuple #[.float .f64 ((S + U1 : Nat)), ev] ∧ (u1 < infR ∧ ev = .nilIface ∨ infR ≤ u1 ∧ ev = .iface 77 (.int .i64 1)) := by
        unfold pfV
        by_cases hh : u1 < infR
        · exact ⟨_, by rw [if_pos hh, ← hU1, HS.out, Nat.min_eq_left (Nat.le_of_lt hh)], .inl ⟨hh, rfl⟩⟩
        · exact ⟨_, by rw [if_neg hh, ← hU1, HS.out, Nat.min_eq_right (Nat.le_of_not_lt hh)], .inr ⟨Nat.le_of_not_lt hh, rfl⟩⟩
      obtain ⟨ev1, hp1, hev1⟩ := hpf1
      rw [hp1]
      have HEV := fhid hev1
      have HU1m := fhid hU1
      have hd1i : (d : Int) + 1 = ((d + 1 : Nat) : Int) := by omega
      clear hp1 hev1 hU1
      have cp2 : Hid (∀ w, P10 w → Calls Tryd.prog 61 #[.int .u64 ((d : Int) + 1), .int .i64 x, .int .u64 (S : Int)] w fun e w' => ∃ u, Near (valN (d + 1) x) (valD x) u ∧ e = .returned (pfV neg u) ∧ Below w.heap.size w w') := fhid (fun w hf => by rw [hd1i, ← HS.out]; exact cp2.out w hf)
      clear hd1i
      go_wp2_with fail
      refine (cp2.out _ HF2.out.tab).mono ?_
      clear cp2
      rintro e w3 ⟨u2, hu2, rfl, hb3⟩
      obtain ⟨U2, hU2⟩ : ∃ U, min u2 infR = U := ⟨_, rfl⟩
      have hpf2 : ∃ ev, pfV neg u2 = .tuple #[.float .f64 ((S + U2 : Nat)), ev] := by
        unfold pfV
        by_cases hh : u2 < infR
        · exact ⟨_, by rw [if_pos hh, ← hU2, HS.out, Nat.min_eq_left (Nat.le_of_lt hh)]⟩
        · exact ⟨_, by rw [if_neg hh, ← hU2, HS.out, Nat.min_eq_right (Nat.le_of_not_lt hh)]⟩
      obtain ⟨ev2, hp2⟩ := hpf2
      rw [hp2]
      obtain ⟨o, ho, hoe⟩ := ord_eqB neg U1 U2 (by rw [← HU1m.out]; exact Nat.min_le_right _ _) (by rw [← hU2]; exact Nat.min_le_right _ _)
      rw [HS.out] at ho
      have ho : FloatKind.f64.format.order (S + U1) (S + U2) = some o := ho
      have HB3 : Hid (Below w.heap.size w w3) := fhid (HB2.out.trans (hb3.mono HB2.out.size))
      have HX3 : Hid (FX w3) := fhid (HXX.out.on HB3.out)
      have HF3 := fhid (HF.out.on HB3.out)
      by_cases heq : U1 = U2
      · have hoq : o = .eq := hoe.2 heq
        subst hoq
        have hfin : Hid (∃ u, Near (valN (dnum m) (wq m E)) (valD (wq m E)) u ∧ Ending.returned (.tuple #[.float .f64 (S + U1), .int .i64 s.size, ev1]) = .returned (pf3 neg u s.size)) := fhid (by
          obtain ⟨u, g1, g2⟩ := HSL.out u1 u2 HU1.out hu2 (by rw [HU1m.out, hU2]; exact heq)
          refine ⟨u, g1, ?_⟩
          rcases HEV.out with ⟨q1, q2⟩ | ⟨q1, q2⟩
          · rw [pf3_lt (by omega), q2, HS.out]
            have : U1 = u := by rw [← HU1m.out]; omega
            rw [this]
          · rw [pf3_ge (by omega), q2, HS.out]
            have : U1 = infR := by rw [← HU1m.out]; omega
            rw [this])
        clear hoe hU2 hp2 hu2 hb3 heq
        go_wp2_with fail
        go_ret3
        obtain ⟨u, q1, q2⟩ := hfin.out
        exact ⟨u, q1, q2, HB3.out⟩
      · have hoq : (o == .eq) = false := by
          cases o with
          | eq => exact absurd (hoe.1 rfl) heq
          | lt => rfl
          | gt => rfl
        have cset := fhid (setC s neg m p E w3.heap.size (fun _ => 0) false false _ HW.out (dec_new w3))
        obtain ⟨B0, hB0⟩ : ∃ B0, w3.heap.size = B0 := ⟨_, rfl⟩
        have HB0 := fhid hB0
        rw [hB0] at cset
        have HBA : Hid (Below B0 w3 (w3.alloc (.cells Tryd.zeroCells117 117))) := fhid (by rw [← hB0]; exact (Below.refl _ _).alloc (Nat.le_refl _) _)
        have HFF : Hid (∃ u, Near (valN (dnum m) (wq m E)) (valD (wq m E)) u) := fhid (near_exists _ _ (valD_pos _))
        clear hoe hU2 hp2 hu2 hb3 HSL HEV heq
        go_wp2_with fail
        with_reducible refine cset.out.mono ?_
        clear cset
        rintro e w4 ⟨rfl, f, hI, hdg, hdn, htop, hb4⟩
        obtain ⟨u, hu⟩ := HFF.out
        have hxb : FXb w4 B0 := ⟨w3, HX3.out, Nat.le_of_eq HB0.out, by rw [HB0.out]; exact HBA.out.trans hb4⟩
        have cfb := fhid (floatBitsC B0 f (rf m).nd (rfDp m + E) neg u w4 hxb hI hdg (by have := HN20.out; omega) HND.out (htop (by have := HN20.out; omega)) (by have := hdp.out; omega) (by have := hdp.out; omega) (by rw [hdn, wq_dp HMN.out E]; exact hu))
        have HB4 : Hid (Below w.heap.size w w4) := fhid (HB3.out.trans ((HBA.out.trans hb4).mono (by rw [← HB0.out]; exact HB3.out.size)))
        have HU := fhid hu
        have HBL : Hid (w.heap.size ≤ B0) := fhid (by rw [← HB0.out]; exact HB3.out.size)
        clear hI hdg hdn htop hb4 hu hxb
        go_wp2_with fail
        with_reducible refine cfb.out.mono ?_
        clear cfb
        rintro e w5 ⟨rfl, hb5⟩
        have HB5 : Hid (Below w.heap.size w w5) := fhid (HB4.out.trans (hb5.mono HBL.out))
        rw [HS.out]
        clear hb5
        by_cases hi : u < infR
        · have hdi : decide (infR ≤ u) = false := by rw [decide_eq_false_iff_not]; omega
          have he : Hid (pf3 neg u s.size = .tuple #[.float .f64 (S + u), .int .i64 s.size, .nilIface]) := fhid (by rw [pf3_lt hi, HS.out])
          rw [hdi, Nat.min_eq_left (Nat.le_of_lt hi)]
          clear hi hdi
          go_wp2_with fail
          go_ret3
          exact ⟨u, HU.out, by rw [he.out]; rfl, HB5.out⟩
        · have hdi : decide (infR ≤ u) = true := by rw [decide_eq_true_iff]; omega
          have he : Hid (pf3 neg u s.size = .tuple #[.float .f64 (S + infR), .int .i64 s.size, .iface 77 (.int .i64 1)]) := fhid (by rw [pf3_ge (Nat.le_of_not_lt hi), HS.out])
          rw [hdi, Nat.min_eq_right (Nat.le_of_not_lt hi)]
          clear hi hdi
          go_wp2_with fail
          go_ret3
          exact ⟨u, HU.out, by rw [he.out]; rfl, HB5.out⟩
end Go.Proofs.YtgbldjbkapaclaaDoor.fl
/- The tables of the slow road, from what the rows list. -/
namespace Go.Proofs.YtgbldjbkapaclaaDoor.fl
open Go.ChangeShapes Go.WideShapes Go.ChangeAt Go.RowKit Go.Lib
set_option linter.unusedVariables false
set_option linter.unusedSimpArgs false
theorem info3_of {W : World} (h : VarReads Tryd.prog W "internal/strconv.float64info" Rows.laid_internal_strconv_float64info) :
    W.cell? ⟨10, 0, none⟩ = some (.int .u64 52) ∧ W.cell? ⟨10, 1, none⟩ = some (.int .u64 11) ∧ W.cell? ⟨10, 2, none⟩ = some (.int .i64 (-1023)) := by
  obtain ⟨cs, fuel, p, hv, hd⟩ := reads_open h (g := 10) (t := 108) (by kernel_rfl) (by kernel_rfl)
  have h1 := fld Tryd.underlying108 hd 0 _ rfl (k := .u64) (by kernel_rfl) (by kernel_rfl) (z := 52) rfl
  have h2 := fld Tryd.underlying108 hd 1 _ rfl (k := .u64) (by kernel_rfl) (by kernel_rfl) (z := 11) rfl
  have h3 := fld Tryd.underlying108 hd 2 _ rfl (k := .i64) (by kernel_rfl) (by kernel_rfl) (z := -1023) rfl
  refine ⟨?_, ?_, ?_⟩
  · rw [World.var?_cell (by kernel_rfl) hv 0, ← Array.getElem?_toList]; exact h1
  · rw [World.var?_cell (by kernel_rfl) hv 1, ← Array.getElem?_toList]; exact h2
  · rw [World.var?_cell (by kernel_rfl) hv 2, ← Array.getElem?_toList]; exact h3
section
variable {P : Program} {w : World} {sp : Nat → Bool} {held : Bool}
/-- A field that is a string. -/
theorem fldS {fuel : Nat} {t : TypeId} {cs : List Value} {ds : List (DataW Unit)} {p : List MemPlace} {fs : Array Field} (ht : P.underlying t = some (.struct fs)) (h : DataW.trod (fun _ => ()) P w 0 sp held fuel t cs = some (.agg ds, p))
    (i : Nat) (f : Field) (hf : fs[i]? = some f) (hk : P.underlying f.type = some .string) (hc : P.cellsOf f.type = 1) {z : List UInt8} (hz : ds[i]? = some (.lit (.string z))) : cs[f.offset]? = some (.string ⟨z.toArray⟩) := by
  obtain ⟨xs, n, rfl, hx, hl, hxl, hfs⟩ := DataW.trod_struct ht h
  have h0 := hfs i f hf
  have e := congrArg Prod.fst hx
  simp only [DataW.agg.injEq] at e
  subst e
  rw [List.getElem?_map] at hz
  cases hb : xs[i]? with
  | none => rw [hb] at hz; cases hz
  | some b =>
    rw [hb] at hz h0
    simp only [Option.map_some, Option.some.injEq] at hz
    obtain ⟨m, hm, rfl, _⟩ := DataW.trod_string hk h0
    simp only [DataW.lit.injEq, Lit.string.injEq] at hz
    subst hz
    rw [hc] at hm
    have := congrArg (·[0]?) hm
    simpa [List.getElem?_take, List.getElem?_drop] using this
end
def pw2 : List Nat := [1, 3, 6, 9, 13, 16, 19, 23, 26]
theorem pow_of {W : World} (h : VarReads Tryd.prog W "internal/strconv.powtab" Rows.laid_internal_strconv_powtab) :
    ∃ g o cap, W.cell? ⟨12, 0, none⟩ = some (.slice (some ⟨g, o, none⟩) 9 cap) ∧ ∀ i, i < 9 → W.cell? ⟨g, o + i, none⟩ = some (.int .i64 (pw2.getD i 0 : Nat)) := by
  obtain ⟨cs, fuel, p, hv, hd⟩ := reads_open h (g := 12) (t := 144) (by kernel_rfl) (by kernel_rfl)
  have hdd : (Rows.laid_internal_strconv_powtab : DataW Unit) = .slice (pw2.map fun b => .lit (.int .i64 (b : Nat))) [] := by rfl
  rw [hdd] at hd
  have hc : Tryd.prog.cellsOf 3 = 1 := by kernel_rfl
  rcases DataW.trod_slice Tryd.underlying144 hd with ⟨_, hx⟩ | ⟨a, len, cap, el, rs, m, rfl, hcs, hx, _, hlc, _, hel, helem, hsp, _⟩
  · cases hx
  have e0 := congrArg Prod.fst hx
  simp only [DataW.slice.injEq] at e0
  obtain ⟨eE, eR⟩ := e0
  have hlen : len = 9 := by
    have := congrArg List.length eE
    simp only [List.length_map] at this
    rw [hel] at this
    exact this.symm
  have hcell : ∀ i, i < 9 → W.cell? (a.add i) = some (.int .i64 (pw2.getD i 0 : Nat)) := by
    intro i hi
    have h1 := helem i (by omega)
    rw [hc] at h1
    obtain ⟨b, hb⟩ : ∃ b, el[i]? = some b := ⟨el[i]'(by omega), List.getElem?_eq_getElem (by omega)⟩
    rw [hb] at h1
    obtain ⟨ce, hce, hte⟩ := Option.bind_eq_some_iff.1 h1
    obtain ⟨z, hz, hbz, _⟩ := DataW.trod_int Tryd.underlying3 hte
    have hb1 : b.1 = .lit (.int .i64 (pw2.getD i 0 : Nat)) := by
      have := congrArg (·[i]?) eE
      have hl2 : pw2.length = 9 := rfl
      simp only [List.getElem?_map, hb, Option.map_some] at this
      rw [List.getElem?_eq_getElem (by omega)] at this
      simp only [Option.map_some, Option.some.injEq] at this
      rw [List.getD_eq_getElem?_getD, List.getElem?_eq_getElem (by omega)]
      exact this.symm
    rw [hbz] at hb1
    simp only [DataW.lit.injEq, Lit.int.injEq, true_and] at hb1
    obtain ⟨_, _, hcc⟩ := World.cells?_some hce
    have := hcc 0 (by omega)
    rw [hz] at this
    simp only [Nat.mul_one] at this
    have e1 : (a.add i).add 0 = a.add i := by simp [Addr.add]
    rw [e1] at this
    rw [this, ← hb1]
    rfl
  obtain ⟨R, o, sR⟩ := a
  obtain rfl : sR = none := by
    have h00 := hcell 0 (by decide)
    have : (Addr.add ⟨R, o, sR⟩ 0) = ⟨R, o, sR⟩ := by simp [Addr.add]
    rw [this] at h00
    exact Go.Proofs.cell_spot h00
  refine ⟨R, o, cap, ?_, fun j hj => ?_⟩
  · rw [World.var?_cell (by kernel_rfl) hv 0, ← Array.getElem?_toList, hcs, hlen]
    rfl
  · have := hcell j (by omega)
    rwa [Addr.add_lit] at this
theorem cheats_of {W : World} (h : VarReads Tryd.prog W "internal/strconv.leftcheats" Rows.laid_internal_strconv_leftcheats) :
    ∃ g o cap, W.cell? ⟨15, 0, none⟩ = some (.slice (some ⟨g, o, none⟩) 61 cap) ∧ ∀ i, i < 61 → W.cell? ⟨g, o + i * 2, none⟩ = some (.int .i64 (chD i)) ∧ W.cell? ⟨g, o + i * 2 + 1, none⟩ = some (.string (chS i)) := by
  obtain ⟨cs, fuel, p, hv, hd⟩ := reads_open h (g := 15) (t := 162) (by kernel_rfl) (by kernel_rfl)
  have hdd : (Rows.laid_internal_strconv_leftcheats : DataW Unit) = .slice (Go.Pinned.cheatRows.map fun x => .agg [.lit (.int .i64 x.1), .lit (.string x.2)]) [] := by rfl
  rw [hdd] at hd
  have hc : Tryd.prog.cellsOf 161 = 2 := by kernel_rfl
  rcases DataW.trod_slice Tryd.underlying162 hd with ⟨_, hx⟩ | ⟨a, len, cap, el, rs, m, rfl, hcs, hx, _, hlc, _, hel, helem, hsp, _⟩
  · cases hx
  have e0 := congrArg Prod.fst hx
  simp only [DataW.slice.injEq] at e0
  obtain ⟨eE, eR⟩ := e0
  have hlen : len = 61 := by
    have := congrArg List.length eE
    simp only [List.length_map] at this
    rw [hel] at this
    exact this.symm
  have hrow : ∀ i, i < 61 → ∃ ce, W.cells? 0 (a.add (i * 2)) 2 = some ce ∧ ce[0]? = some (Value.int .i64 (chD i)) ∧ ce[1]? = some (Value.string (chS i)) := by
    intro i hi
    have h1 := helem i (by omega)
    rw [hc] at h1
    obtain ⟨⟨bd, bp⟩, hb⟩ : ∃ b, el[i]? = some b := ⟨el[i]'(by omega), List.getElem?_eq_getElem (by omega)⟩
    rw [hb] at h1
    obtain ⟨ce, hce, hte⟩ := Option.bind_eq_some_iff.1 h1
    have hr : Go.Pinned.cheatRows[i]? = some (chD i, chL i) := by
      unfold chD chL
      have hl : Go.Pinned.cheatRows.length = 61 := by kernel_rfl
      rw [List.getD_eq_getElem?_getD, List.getElem?_eq_getElem (by omega)]
      rfl
    have e2 := congrArg (·[i]?) eE
    simp only [List.getElem?_map, hr, hb, Option.map_some, Option.some.injEq] at e2
    subst e2
    refine ⟨ce, hce, ?_, ?_⟩
    · exact fld Tryd.underlying161 hte 0 _ rfl (k := .i64) (by kernel_rfl) (by kernel_rfl) (z := (chD i : Nat)) rfl
    · exact fldS Tryd.underlying161 hte 1 _ rfl (by kernel_rfl) (by kernel_rfl) (z := chL i) rfl
  have hcell : ∀ i, i < 61 → W.cell? ((a.add (i * 2)).add 0) = some (.int .i64 (chD i)) ∧ W.cell? ((a.add (i * 2)).add 1) = some (.string (chS i)) := by
    intro i hi
    obtain ⟨ce, h1, h2, h3⟩ := hrow i hi
    obtain ⟨_, _, hcc⟩ := World.cells?_some h1
    exact ⟨(hcc 0 (by omega)).trans h2, (hcc 1 (by omega)).trans h3⟩
  obtain ⟨R, o, sR⟩ := a
  obtain rfl : sR = none := by
    have h00 := (hcell 0 (by decide)).1
    have : (Addr.add (Addr.add ⟨R, o, sR⟩ (0 * 2)) 0) = ⟨R, o, sR⟩ := by simp [Addr.add]
    rw [this] at h00
    exact Go.Proofs.cell_spot h00
  refine ⟨R, o, cap, ?_, fun j hj => ?_⟩
  · rw [World.var?_cell (by kernel_rfl) hv 0, ← Array.getElem?_toList, hcs, hlen]
    rfl
  · have := hcell j hj
    rw [Addr.add_lit, Addr.add_lit, Addr.add_lit] at this
    exact this
theorem fx_of {W : World} {l : List (String × DataW Unit)} (h : laidMet Tryd.prog l W)
    (h1 : ("internal/strconv.float64info", Rows.laid_internal_strconv_float64info) ∈ l) (h2 : ("internal/strconv.powtab", Rows.laid_internal_strconv_powtab) ∈ l) (h3 : ("internal/strconv.leftcheats", Rows.laid_internal_strconv_leftcheats) ∈ l) : FX W := by
  obtain ⟨a, b, c⟩ := info3_of (Lib.laidMet.reads h h1)
  exact ⟨cheats_of (Lib.laidMet.reads h h3), pow_of (Lib.laidMet.reads h h2), b, c, a⟩
end Go.Proofs.YtgbldjbkapaclaaDoor.fl
