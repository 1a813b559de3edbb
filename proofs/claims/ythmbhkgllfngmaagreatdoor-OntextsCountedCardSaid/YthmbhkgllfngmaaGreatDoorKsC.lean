/- A dict: Delete. -/
import Derived.Test.YthmbhkgllfngmaaGreatDoorKsB
import Derived.Deep.CutBlock
import Derived.Deep.DeepCutAuto
import Derived.StillTailTactics
import Derived.Test.YthmbhkgllfngmaaGreatDoorKsA
import Derived.Laws.MakeOwn
import Derived.Deep.RegionHeld3
/- A dict: step. -/
namespace Go.Proofs.YthmbhkgllfngmaaGreatDoor.ks
open Go.ChangeShapes Go.WideShapes Go.RowKit
set_option linter.unusedVariables false
set_option linter.unusedSimpArgs false
theorem step_no (db : Nat) (D : DM Nat) (w : World) (h : DictIs dty w db D) (hy : D.young = []) :
    Calls Tryz.prog 67 #[dp db] w fun r w' => r = .returned (.tuple #[]) ∧ w = w' := by
  have hm : mv D = false := by unfold mv; rw [hy]; rfl
  have H := khid h
  clear h hy
  unfold dp
  go_enter Tryz.func67, Tryz.ntmps67
  go_wp2_with fail
  refine (movingC db D _ H.out).mono ?_
  rintro r w' ⟨rfl, rfl⟩
  rw [hm]
  clear hm
  go_wp2
  exact bodyPost_ret (results_none rfl _ _ _) rfl ⟨rfl, rfl⟩
/-- While empty buckets are passed. -/
structure Pass (w wr : World) (db : Nat) (D : DM Nat) (k j : Nat) : Prop where
  i : DictIs dty wr db { D with cur := j }
  kp : Keeps [db] w wr
  s : skip D.old (10 - k) j = skip D.old 10 D.cur
  le : j ≤ D.old.length
theorem pass_tail {w wr : World} {db : Nat} {D : DM Nat} {k j : Nat} (h : Pass w wr db D k j) (n : Nat) : Pass w (wr.drewN n) db D k j := ⟨h.i.keep (fun _ _ => rfl), h.kp.drewN n, h.s, h.le⟩
def takeB (l : Option (List (DE Nat))) : Bool := match l with | some (_ :: _) => true | _ => false
def gapB (l : Option (List (DE Nat))) : Bool := match l with | some [] => true | _ => false
def passB (D : DM Nat) (k j : Nat) : Bool := decide (k < 10) && gapB D.old[j]?
set_option maxRecDepth 100000 in
set_option maxHeartbeats 2000000 in
theorem step_yes (db : Nat) (D : DM Nat) (w : World) (hwf : D.WF) (h : DictIs dty w db D) (hy : D.young ≠ []) :
    Calls Tryz.prog 67 #[dp db] w fun r w' => r = .returned (.tuple #[]) ∧ DictIs dty w' db D.step ∧ Keeps (D.blocks db) w w' := by
  have hm : mv D = true := by unfold mv; cases hd : D.young with | nil => exact absurd hd hy | cons => rfl
  have hon : D.old ≠ [] := fun e => hy (hwf.none e)
  have hlt := hwf.lt hy
  have hbo := h.bo
  obtain ⟨n, hn⟩ : ∃ n, n = D.old.length := ⟨_, rfl⟩
  have HN := khid hn
  rw [← hn] at hlt hbo
  have HW := khid hwf
  have HY := khid hy
  have HON := khid hon
  have H := khid h
  clear h hy hon hwf hn
  unfold dp
  go_enter Tryz.func67, Tryz.ntmps67
  go_wp2_with fail
  refine (movingC db D _ H.out).mono ?_
  rintro r w' ⟨rfl, rfl⟩
  rw [hm]
  clear hm
  go_wp2_with fail
  go_loopw [2] (fun t wr => ∃ (k j : Nat), t = .int .i64 (k : Int) ∧ k ≤ 10 ∧ Hid (Pass w wr db D k j)) (fun t _ => 10 - (intOf t).toNat)
  case atStart => exact ⟨0, D.cur, rfl, by omega, khid ⟨H.out, Keeps.refl _ _, rfl, by rw [← HN.out]; omega⟩⟩
  case round =>
    obtain ⟨k, j, rfl, hk, HP⟩ := hrel
    have c1 := HP.out.i.c1
    have c2 := HP.out.i.c2
    have c3 := HP.out.i.c3
    have hle := HP.out.le
    rw [tabv_ne HON.out, ← HN.out] at c1
    rw [← HN.out] at hle
    simp only at c3
    go_upto_region 2 with (fail)
    go_cut [34] (fun t wx => t = .bool (passB D k j) ∧ ∃ q, wx = wr.drewN q)
    case first => as_aux_lemma =>
      --<
      by_cases hk10 : k = 10
      · subst hk10
        have hd : decide (((10 : Nat) : Int) < 10) = false := rfl
        have HB := khid (show passB D 10 j = false by simp [passB])
        go_quiet (fail)
        go_wp2_with fail
        go_meet
        exact ⟨by rw [HB.out], _, rfl⟩
      · have hd : (k : Int) < 10 := by omega
        by_cases hj : j < n
        · have hjj : (j : Int) < (n : Int) := by omega
          have hj0 : (0 : Int) ≤ (j : Int) := by omega
          obtain ⟨l, hl⟩ : ∃ l, D.old[j]? = some l := ⟨_, List.getElem?_eq_getElem (by rw [← HN.out]; exact hj)⟩
          have hcl := HP.out.i.ho.cell hl
          simp only at hcl
          cases l with
          | nil =>
            have HB := khid (show passB D k j = true by unfold passB; rw [hl]; simp [gapB]; omega)
            unfold ptr at hcl
            clear hl
            go_quiet (fail)
            go_wp2_with fail
            go_meet
            exact ⟨by rw [HB.out], _, rfl⟩
          | cons e l =>
            have HB := khid (show passB D k j = false by unfold passB; rw [hl]; simp [gapB])
            unfold ptr at hcl
            clear hl
            go_quiet (fail)
            go_wp2_with fail
            go_meet
            exact ⟨by rw [HB.out], _, rfl⟩
        · obtain rfl : j = n := by omega
          have HB := khid (show passB D k j = false by unfold passB; rw [List.getElem?_eq_none (by rw [← HN.out]; exact Nat.le_refl _)]; simp [gapB])
          have hjj : decide ((j : Int) < (j : Int)) = false := by simp
          go_quiet (fail)
          go_wp2_with fail
          go_meet
          exact ⟨by rw [HB.out], _, rfl⟩
      -->
    case rest =>
      obtain ⟨rfl, q, rfl⟩ := hcut
      have HP2 := khid (pass_tail HP.out q)
      clear HP c1 c2 c3
      generalize wr.drewN q = W at HP2
      have c1 := HP2.out.i.c1
      have c3 := HP2.out.i.c3
      have f3 := HP2.out.i.free 3
      rw [tabv_ne HON.out] at c1
      simp only [← HN.out] at c1 c3
      cases hb : passB D k j with
      | true =>
        --<
        have hpb : k < 10 ∧ D.old[j]? = some [] := by
          unfold passB gapB at hb
          simp only [Bool.and_eq_true, decide_eq_true_eq] at hb
          refine ⟨hb.1, ?_⟩
          have h2 := hb.2
          split at h2
          · assumption
          · cases h2
        obtain ⟨hk2, hgap⟩ := hpb
        have hjl : j < n := by rw [HN.out]; exact (List.getElem?_eq_some_iff.1 hgap).1
        have HG := khid hgap
        clear hb hgap
        go_wp2_with fail
        go_roundw
        case rel =>
          refine ⟨k + 1, j + 1, by go_num, by omega, khid ⟨?_, (HP2.out.kp.setCell (p := ⟨db, 3, none⟩) (.inl (by simp)) _), ?_, by rw [← HN.out]; omega⟩⟩
          · have := cur_set HP2.out.i (j + 1)
            rw [show ((j + 1 : Nat) : Int) = (j : Int) + 1 from rfl] at this
            exact this
          · rw [← HP2.out.s, show 10 - k = (10 - (k + 1)) + 1 by omega]
            conv => rhs; unfold skip
            rw [HG.out]
        case measure => simp [intOf]; omega
        -->
      | false =>
        have hj : j = skip D.old 10 D.cur := by
          rw [← HP2.out.s]
          by_cases hk2 : k < 10
          · rw [show 10 - k = (10 - (k + 1)) + 1 by omega]
            unfold skip
            unfold passB at hb
            rw [show decide (k < 10) = true by simpa using hk2, Bool.true_and] at hb
            cases ho : D.old[j]? with
            | none => rfl
            | some l =>
              rw [ho] at hb
              cases l with
              | nil => cases hb
              | cons e l => rfl
          · rw [show 10 - k = 0 by omega]; rfl
        have HJ := khid hj
        clear hb hj
        have hjle : j ≤ n := by have := HP2.out.le; rw [← HN.out] at this; exact this
        go_upto_region 5 with (fail)
        go_cut [66] (fun t wx => t = .bool (takeB D.old[j]?) ∧ ∃ q, wx = W.drewN q)
        case first => as_aux_lemma =>
          --<
          by_cases hj : j < n
          · have hjj : (j : Int) < (n : Int) := by omega
            have hj0 : (0 : Int) ≤ (j : Int) := by omega
            obtain ⟨l, hl⟩ : ∃ l, D.old[j]? = some l := ⟨_, List.getElem?_eq_getElem (by rw [← HN.out]; exact hj)⟩
            have hcl := HP2.out.i.ho.cell hl
            simp only at hcl
            cases l with
            | nil =>
              have HB := khid (show takeB D.old[j]? = false by rw [hl]; rfl)
              unfold ptr at hcl
              clear hl
              go_quiet (fail)
              go_wp2_with fail
              go_meet
              exact ⟨by rw [HB.out], _, rfl⟩
            | cons e l =>
              have HB := khid (show takeB D.old[j]? = true by rw [hl]; rfl)
              unfold ptr at hcl
              clear hl
              go_quiet (fail)
              go_wp2_with fail
              go_meet
              exact ⟨by rw [HB.out], _, rfl⟩
          · obtain rfl : j = n := by omega
            have HB := khid (show takeB D.old[j]? = false by rw [List.getElem?_eq_none (by rw [← HN.out]; exact Nat.le_refl _)]; rfl)
            have hjj : decide ((j : Int) < (j : Int)) = false := by simp
            go_quiet (fail)
            go_wp2_with fail
            go_meet
            exact ⟨by rw [HB.out], _, rfl⟩
          -->
        case rest =>
          obtain ⟨rfl, q, rfl⟩ := hcut
          have HP3 := khid (pass_tail HP2.out q)
          clear HP2 c1 c3 f3
          generalize W.drewN q = W3 at HP3
          go_upto_if 66 with (fail)
          go_cut [] (fun wx => Hid (DictIs dty wx db D.moved ∧ Keeps (D.blocks db) w wx))
          case first => as_aux_lemma =>
            have c1 := HP3.out.i.c1
            have c2 := HP3.out.i.c2
            have c3 := HP3.out.i.c3
            have f3 := HP3.out.i.free 3
            rw [tabv_ne HON.out] at c1
            simp only [← HN.out] at c1 c2 c3
            cases hb : takeB D.old[j]? with
            | false =>
              --<
              have he : ∀ e l, D.old[j]? ≠ some (e :: l) := by
                intro e l he
                rw [he] at hb
                cases hb
              have hmv : D.moved = { D with cur := j } := by rw [DM.moved_else (by rw [← HJ.out]; exact he), ← HJ.out]
              have HM := khid hmv
              clear he hb c1 c2 c3 f3 hmv
              go_wp2_with fail
              go_meet
              exact khid ⟨by rw [HM.out]; exact HP3.out.i, HP3.out.kp.mono (fun b hb => by simp at hb; subst hb; simp [DM.blocks])⟩
              -->
            | true =>
              --<
              obtain ⟨e, l, hel⟩ : ∃ e l, D.old[j]? = some (e :: l) := by
                unfold takeB at hb
                split at hb
                · exact ⟨_, _, by assumption⟩
                · cases hb
              have hjlt : j < n := by rw [HN.out]; exact (List.getElem?_eq_some_iff.1 hel).1
              have hjj : (j : Int) < (n : Int) := by omega
              have hj0 : (0 : Int) ≤ (j : Int) := by omega
              have hcl := HP3.out.i.ho.cell hel
              simp only at hcl
              unfold ptr at hcl
              have HEL := khid hel
              clear hb hel
              go_upto_region 6 with (fail)
              go_quiet (fail)
              go_wp2_with fail
              have HP4 := khid (pass_tail HP3.out nq)
              clear HP3 c1 c2 c3 f3 hcl
              generalize W3.drewN nq = W4 at HP4
              go_loopg [3] (e :: l).length (fun g p wr => ∃ pre suf, p = ptr suf ∧ suf.length = g ∧ Hid (Mid dty W4 wr { D with cur := j } (e :: l) pre suf))
              case atStart => exact ⟨[], e :: l, rfl, rfl, khid (mid_start HP4.out.i HEL.out)⟩
              case round =>
                obtain ⟨pre, suf, rfl, hg, HM⟩ := hrel
                have HG := khid hg
                clear hg
                cases suf with
                | nil =>
                  have hpre : pre = e :: l := by have := HM.out.eq; simp at this; exact this.symm
                  subst hpre
                  have hhd := mid_head HP4.out.i HY.out HEL.out HM.out
                  have hrow := mid_row HP4.out.i HY.out HEL.out HM.out
                  have hlt' : D.cur ≤ j := by rw [HJ.out]; exact skip_le _ _ _
                  have hwf1 : ({ D with cur := j } : DM Nat).WF := ⟨HW.out.keys, HW.out.oslot, HW.out.yslot, fun i hi => by
                    by_cases hc : i < D.cur
                    · exact HW.out.gone i hc
                    · exact skip_gone D.old 10 D.cur i (by omega) (by rw [← HJ.out]; exact hi), fun hh => absurd hh HY.out, HW.out.none, HW.out.n, fun _ => by rw [HN.out] at hjlt; exact hjlt⟩
                  have hsk : skip D.old 10 j = j := by
                    unfold skip; rw [HEL.out]
                  have hlast := mid_end HP4.out.i hwf1 HY.out HEL.out (by simp) HM.out hsk
                  have hmv : ({ D with cur := j } : DM Nat).moved = D.moved := by
                    rw [DM.moved_cons (D := D) (by rw [← HJ.out]; exact HEL.out), DM.moved_cons (D := { D with cur := j }) (e := e) (l := l) (by simp only [hsk]; exact HEL.out)]
                    simp only [hsk, ← HJ.out]
                  rw [hmv] at hlast
                  simp only at hlast hrow
                  have HLAST := khid hlast
                  have d1 : wr.cell? ⟨db, 1, none⟩ = some (.slice (some ⟨D.ob, 0, none⟩) n n) := by rw [cell_at hhd, HN.out]; simp only [dObj]; rw [tabv_ne HON.out]; rfl
                  have d3 : wr.cell? ⟨db, 3, none⟩ = some (.int .i64 (j : Int)) := by rw [cell_at hhd]; rfl
                  have f3 : wr.frozen? ⟨db, 3, none⟩ = false := free_at hhd 3
                  have fo : wr.frozen? ⟨D.ob, j, none⟩ = false := free_at hrow j
                  have co : ∃ v, wr.cell? ⟨D.ob, j, none⟩ = some v := ⟨ptr (e :: l), by rw [cell_at hrow, List.getElem?_toArray, List.getElem?_map, HEL.out]; rfl⟩
                  obtain ⟨cv, co⟩ := co
                  have hne : D.ob ≠ db := fun e2 => (db_not HP4.out.i).1 (e2 ▸ tb_mem HON.out)
                  clear hhd hrow hlast hmv hsk hwf1 hlt'
                  unfold ptr
                  go_wp2_with fail
                  go_still_tail 9, (by kernel_rfl)
                  go_wp2_with fail
                  go_meet
                  refine khid ⟨HLAST.out.1.keep (fun _ _ => rfl), ?_⟩
                  exact (HP4.out.kp.mono (fun b hb => by simp at hb; subst hb; simp [DM.blocks])).trans (HLAST.out.2.drew)
                | cons e2 r =>
                  have hhd := mid_head HP4.out.i HY.out HEL.out HM.out
                  have hch := HM.out.ch.1
                  obtain ⟨q2, hq2⟩ := ptr_is r
                  have hnx : wr.cell? ⟨e2.b, 2, none⟩ = some (.pointer q2) := by rw [← hq2]; exact next_cell hch
                  have hd2 : wr.cell? ⟨db, 2, none⟩ = some (tabv D.yb D.young) := by rw [cell_at hhd]; rfl
                  have hd0 : wr.cell? ⟨db, 0, none⟩ = some (.int .u64 D.seed) := by rw [cell_at hhd]; rfl
                  have HD0 := khid hd0
                  have HCH := khid hch
                  have HQ2 := khid hq2
                  clear hhd hch hd0 hq2
                  have hks : e2.k.size ≤ maxLen := HP4.out.i.ks e2 (by
                    have : e2 ∈ e :: l := by rw [HM.out.eq]; simp
                    exact List.mem_append_left _ (List.mem_flatten.2 ⟨_, List.mem_of_getElem? HEL.out, this⟩))
                  have HKS := khid hks
                  clear hks
                  unfold ptr
                  go_wp2_with fail
                  rw [← tabv_len (hangs_length D.seed pre D.young) D.yb]
                  obtain ⟨hb1, hb2, hb3⟩ := mid_blocks HP4.out.i HY.out HEL.out HM.out
                  refine (hangC D.seed db D.yb (pre.foldl (hang D.seed) D.young) e2 (ptr r) _ HP4.out.i.sd HKS.out HD0.out HM.out.y hb3 (by rw [hangs_length]; have := HP4.out.i.by_; simp only at this; omega) HCH.out hb1).mono ?_
                  clear hb1 hb2 hb3
                  rintro r2 w2 ⟨rfl, ht, hk2⟩
                  have HM2 := khid (mid_hang HP4.out.i HY.out HEL.out HM.out ht hk2)
                  clear ht hk2
                  go_wp2_with fail
                  go_roundg r.length
                  case measure => have := HG.out; simp at this; omega
                  case rel => exact ⟨pre ++ [e2], r, HQ2.out.symm, rfl, HM2⟩
              -->
          case rest =>
            have HC := khid (show DictIs dty wc db D.moved ∧ Keeps (D.blocks db) w wc from hcut)
            clear hcut HP3
            obtain ⟨m1, m2, m3, _, _, _, _, _, m9, _, m11⟩ := DM.moved_facts HW.out HY.out
            have mne : D.moved.young ≠ [] := (DM.moved_blocks HW.out HY.out db).2
            have hstep : D.step = D.moved.turned := by unfold DM.step; rw [if_neg HY.out]
            rw [← HN.out] at m2 m9
            have mon : D.moved.old ≠ [] := by intro e; rw [e] at m2; simp at m2; omega
            generalize D.moved = M at HC m2 m9 mne mon hstep
            have c1 := HC.out.1.c1
            have c2 := HC.out.1.c2
            have c3 := HC.out.1.c3
            have f1 := HC.out.1.free 1
            have f2 := HC.out.1.free 2
            have f3 := HC.out.1.free 3
            rw [tabv_ne mon, m2] at c1
            obtain ⟨tv, htv⟩ : ∃ tv, tv = tabv M.yb M.young := ⟨_, rfl⟩
            rw [tabv_ne mne] at htv
            have HTV := khid htv
            have c2' : wc.cell? ⟨db, 2, none⟩ = some (.slice (some ⟨M.yb, 0, none⟩) M.young.length M.young.length) := by rw [c2, tabv_ne mne]
            have hyl := HC.out.1.by_
            clear c2 htv HTV
            generalize hcu : M.cur = j2 at c3
            generalize hyy : M.young.length = n2 at c2' hyl
            have HMN := khid mne
            have HST := khid hstep
            have HM2 := khid m2
            have HCU := khid hcu
            have HYY := khid hyy
            clear mne hstep m1 m2 m3 m11 hcu hyy mon
            by_cases hend : j2 = n
            · subst hend
              go_wp2_with fail
              go_quiet (fail)
              go_wp2_with fail
              go_end0
              refine ⟨rfl, ?_, ?_⟩
              · rw [HST.out]
                unfold DM.turned
                rw [if_pos (by rw [HCU.out, HM2.out])]
                have h5 := turn_set (HC.out.1.keep (w' := wc.drewN nq) (fun _ _ => rfl)) HMN.out
                rw [tabv_ne HMN.out, HYY.out] at h5
                exact h5
              · exact (((HC.out.2.drewN nq).setCell (p := ⟨db, 1, none⟩) (.inl (by simp [DM.blocks])) _).setCell (p := ⟨db, 2, none⟩) (.inl (by simp [DM.blocks])) _).setCell (p := ⟨db, 3, none⟩) (.inl (by simp [DM.blocks])) _
            · have hne : ((j2 : Int) == (n : Int)) = false := by simp; omega
              go_wp2_with fail
              go_quiet (fail)
              go_wp2_with fail
              go_end0
              refine ⟨rfl, ?_, HC.out.2.drewN nq⟩
              rw [HST.out]
              unfold DM.turned
              rw [if_neg (by rw [HCU.out, HM2.out]; exact hend)]
              exact HC.out.1.keep (fun _ _ => rfl)
theorem stepC (db : Nat) (D : DM Nat) (w : World) (hwf : D.WF) (h : DictIs dty w db D) :
    Calls Tryz.prog 67 #[dp db] w fun r w' => r = .returned (.tuple #[]) ∧ DictIs dty w' db D.step ∧ Keeps (D.blocks db) w w' := by
  by_cases hy : D.young = []
  · refine (step_no db D w h hy).mono ?_
    rintro r w' ⟨rfl, rfl⟩
    exact ⟨rfl, by unfold DM.step; rw [if_pos hy]; exact h, Keeps.refl _ _⟩
  · exact step_yes db D w hwf h hy
end Go.Proofs.YthmbhkgllfngmaaGreatDoor.ks
/- A dict in memory: what Get finds, what Set and Delete leave. -/
namespace Go.Proofs.YthmbhkgllfngmaaGreatDoor.ks
open Go.ChangeShapes Go.WideShapes Go.RowKit
set_option linter.unusedVariables false
set_option linter.unusedSimpArgs false
variable {α : Type} {ty : DTy α}
section
variable {w w2 : World} {db : Nat} {D : DM α} {k : ByteArray}
theorem link_none : D.linkOf ty k = none ↔ D.find k = none := by
  unfold DM.linkOf DM.find
  cases h : linkAt ty D.seed D.ob D.old k with
  | none => rw [linkAt_none.1 h]; exact linkAt_none
  | some p =>
    have := linkAt_isSome (ty := ty) (seed := D.seed) (tb := D.ob) (t := D.old) (k := k)
    rw [h] at this
    cases h2 : tabFind D.seed D.old k with
    | none => rw [h2] at this; cases this
    | some e => simp
theorem link_some (h : DictIs ty w db D) {p : Addr} (hp : D.linkOf ty k = some p) :
    ∃ e r, D.find k = some e ∧ w.heap[e.b]? = some (eObj ty e (ptr r)) ∧ w.cell? p = some (ptr (e :: r)) ∧ p.block ∈ D.blocks db ∧ e.b ∈ D.blocks db := by
  unfold DM.linkOf at hp
  cases h1 : linkAt ty D.seed D.ob D.old k with
  | some q =>
    rw [h1] at hp
    obtain rfl : q = p := by simpa using hp
    obtain ⟨e, r, a1, a2, a3, a4, a5⟩ := h.ho.at (nd_old h.nd) h1
    exact ⟨e, r, by unfold DM.find; rw [a1]; rfl, a2, a3, List.mem_cons_of_mem _ (List.mem_append_left _ a4), List.mem_cons_of_mem _ (List.mem_append_left _ a5)⟩
  | none =>
    rw [h1] at hp
    have hp2 : linkAt ty D.seed D.yb D.young k = some p := by simpa using hp
    obtain ⟨e, r, a1, a2, a3, a4, a5⟩ := h.hy.at (nd_young h.nd) hp2
    exact ⟨e, r, by unfold DM.find; rw [linkAt_none.1 h1, a1]; rfl, a2, a3, List.mem_cons_of_mem _ (List.mem_append_right _ a4), List.mem_cons_of_mem _ (List.mem_append_right _ a5)⟩
theorem put_mem_found (h : DictIs ty w db D) (hwf : D.WF) {e : DE α} (hf : D.find k = some e) {v : α} {x y : Value} (h1 : ty.pv e.v = [x]) (h2 : ty.pv v = [y]) (tb nb : Nat) :
    DictIs ty (w.setCell ⟨e.b, 1, none⟩ y) db (D.put k v tb nb) := by
  have hall : ∃ e ∈ D.all, e.k = k := by
    rw [DM.find_eq hwf] at hf
    exact ⟨e, chainFind_some hf⟩
  have hfo := (DM.put_found hwf v tb nb hall)
  have hks : ∀ z ∈ (D.put k v tb nb).all, z.k.size ≤ maxLen := by
    intro z hz
    rw [hfo.2.1] at hz
    obtain ⟨z2, hz2, rfl⟩ := List.mem_map.1 hz
    rw [rep_k]; exact h.ks z2 hz2
  have hbl := DM.put_found_blocks v tb nb db (D := D) (k := k) (by rw [hf]; rfl)
  have hnd : ((D.put k v tb nb).blocks db).Nodup := by rw [hbl]; exact h.nd
  have hn := hfo.2.2
  unfold DM.find at hf
  unfold DM.put at hks hnd hn ⊢
  cases ho : tabFind D.seed D.old k with
  | some e' =>
    rw [ho] at hf
    obtain rfl : e' = e := by simpa using hf
    simp only [ho, Option.isSome_some, if_true] at hks hnd hn ⊢
    have hm : e'.b ∈ tblocks D.ob D.old := by
      unfold tabFind at ho
      cases hl : D.old[slotOf D.seed D.old.length k]? with
      | none => rw [hl] at ho; cases ho
      | some l => rw [hl] at ho; exact mem_tblocks (List.mem_of_getElem? hl) (chainFind_some (by simpa using ho)).1
    have hne : db ≠ e'.b := fun e2 => (db_not h).1 (e2 ▸ hm)
    refine ⟨?_, h.ho.put (nd_old h.nd) ho h1 h2, h.hy.keep (fun b hb => set_other _ (fun e2 => old_young h hm (by have e3 : b = e'.b := e2; rw [← e3]; exact hb))), hnd, h.sd, hks, ?_, h.by_, h.bn⟩
    · rw [set_other _ hne, h.hd]
      unfold dObj
      simp only
      rw [tabv_len (t := tabPut D.seed D.old k v) (s := D.old) (by simp [tabPut])]
    · show (tabPut D.seed D.old k v).length ≤ _
      rw [show (tabPut D.seed D.old k v).length = D.old.length by simp [tabPut]]; exact h.bo
  | none =>
    rw [ho] at hf
    have hy : tabFind D.seed D.young k = some e := by simpa using hf
    simp only [ho, hy, Option.isSome_none, Option.isSome_some, Bool.false_eq_true, if_false, if_true] at hks hnd hn ⊢
    have hm : e.b ∈ tblocks D.yb D.young := by
      unfold tabFind at hy
      cases hl : D.young[slotOf D.seed D.young.length k]? with
      | none => rw [hl] at hy; cases hy
      | some l => rw [hl] at hy; exact mem_tblocks (List.mem_of_getElem? hl) (chainFind_some (by simpa using hy)).1
    have hne : db ≠ e.b := fun e2 => (db_not h).2 (e2 ▸ hm)
    refine ⟨?_, h.ho.keep (fun b hb => set_other _ (fun e2 => old_young h hb (by have e3 : b = e.b := e2; rw [e3]; exact hm))), h.hy.put (nd_young h.nd) hy h1 h2, hnd, h.sd, hks, h.bo, ?_, h.bn⟩
    · rw [set_other _ hne, h.hd]
      unfold dObj
      simp only
      rw [tabv_len (t := tabPut D.seed D.young k v) (s := D.young) (by simp [tabPut])]
    · show (tabPut D.seed D.young k v).length ≤ _
      rw [show (tabPut D.seed D.young k v).length = D.young.length by simp [tabPut]]; exact h.by_
theorem nils (n : Nat) : ((List.replicate n ([] : List (DE α))).map ptr) = List.replicate n (.pointer none) := by rw [List.map_replicate]; rfl
theorem new_tab (n tb : Nat) (w : World) (hw : w.heap[tb]? = some (.cells (List.replicate n (.pointer none)).toArray ty.p (0, 0))) : TabIs ty w tb (List.replicate n ([] : List (DE α))) := by
  refine ⟨fun _ => by rw [nils]; exact hw, fun l hl => ?_⟩
  obtain ⟨_, rfl⟩ := List.mem_replicate.1 hl
  trivial
/-- The first table. -/
theorem grown_first (h : DictIs ty w db D) (ho : D.old = []) (hy : D.young = []) :
    DictIs ty ((w.alloc (.cells (List.replicate 4 (.pointer none)).toArray ty.p (0, 0))).setCell ⟨db, 1, none⟩ (.slice (some ⟨w.heap.size, 0, none⟩) 4 4)) db (D.grown w.heap.size) := by
  have hg : D.grown w.heap.size = { D with ob := w.heap.size, old := List.replicate 4 [] } := by unfold DM.grown; rw [if_pos ho]
  have hdb := hlt h.hd
  have hne : w.heap.size ≠ db := by omega
  rw [hg]
  refine ⟨?_, new_tab 4 _ _ ?_, ?_, ?_, h.sd, ?_, by simp, h.by_, h.bn⟩
  · have := alloc_old (.cells (List.replicate 4 (.pointer none)).toArray ty.p (0, 0)) h.hd
    unfold dObj at this ⊢
    rw [set_same this]
    rw [ho]
    rfl
  · rw [set_other (b := w.heap.size) _ hne]; exact alloc_new _ _
  · simp only [hy]; exact TabIs.nil _ _
  · unfold DM.blocks
    simp only [tblocks_replicate w.heap.size 4 (by decide), hy, tblocks_nil]
    simp; omega
  · intro e he; unfold DM.all at he; simp [hy] at he
/-- The second table. -/
theorem grown_second (h : DictIs ty w db D) (ho : D.old ≠ []) (hy : D.young = []) (hl : D.old.length ≤ D.n) :
    DictIs ty ((w.alloc (.cells (List.replicate (2 * D.old.length) (.pointer none)).toArray ty.p (0, 0))).setCell ⟨db, 2, none⟩ (.slice (some ⟨w.heap.size, 0, none⟩) (2 * D.old.length) (2 * D.old.length))) db (D.grown w.heap.size) := by
  have hg : D.grown w.heap.size = { D with yb := w.heap.size, young := List.replicate (2 * D.old.length) [] } := by unfold DM.grown; rw [if_neg ho, if_pos ⟨hy, hl⟩]
  have hdb := hlt h.hd
  have hne : w.heap.size ≠ db := by omega
  have hp : 0 < D.old.length := List.length_pos_iff.2 ho
  have hbn := h.bn
  rw [hg]
  refine ⟨?_, ?_, new_tab _ _ _ ?_, ?_, h.sd, ?_, h.bo, by simp; omega, h.bn⟩
  · have := alloc_old (.cells (List.replicate (2 * D.old.length) (.pointer none)).toArray ty.p (0, 0)) h.hd
    unfold dObj at this ⊢
    rw [set_same this]
    simp only
    rw [tabv_ne (t := List.replicate (2 * D.old.length) []) (by intro e; have := congrArg List.length e; simp at this; omega)]
    simp
  · refine h.ho.keep (fun b hb => ?_)
    have hb2 := h.ho.lt b hb
    rw [set_other (b := b) _ (fun e2 => (db_not h).1 (by have e3 : b = db := e2; rw [← e3]; exact hb)), Below.heap_alloc _ _ _ hb2]
  · rw [set_other (b := w.heap.size) _ hne]; exact alloc_new _ _
  · unfold DM.blocks
    simp only [tblocks_replicate w.heap.size (2 * D.old.length) (by omega)]
    have := h.nd
    unfold DM.blocks at this
    rw [hy, tblocks_nil, List.append_nil] at this
    rw [← List.cons_append]
    refine List.nodup_append.2 ⟨this, by simp, fun a ha b hb => ?_⟩
    simp at hb; subst hb
    have := h.lt a (by unfold DM.blocks; rw [hy, tblocks_nil, List.append_nil]; exact ha)
    omega
  · intro e he
    refine h.ks e ?_
    unfold DM.all at he ⊢
    simp only at he
    rw [List.flatten_replicate_nil, List.append_nil] at he
    exact List.mem_append_left _ he
theorem grown_same (h1 : D.old ≠ []) (h2 : D.young ≠ [] ∨ D.n < D.old.length) (tb : Nat) : D.grown tb = D := by
  unfold DM.grown
  rw [if_neg h1, if_neg (fun hc => by rcases h2 with h2 | h2; exact h2 hc.1; omega)]
/-- The table in which a new entry is hung. -/
def DM.tgtB (D : DM α) : Nat := if D.young = [] then D.ob else D.yb
def DM.tgt (D : DM α) : Tab α := if D.young = [] then D.old else D.young
theorem tgt_is (h : DictIs ty w db D) : TabIs ty w D.tgtB D.tgt := by
  unfold DM.tgtB DM.tgt
  split
  · exact h.ho
  · exact h.hy
theorem tgt_ne (ho : D.old ≠ []) : D.tgt ≠ [] := by
  unfold DM.tgt
  split
  · exact ho
  · assumption
theorem tgt_mem : ∀ b ∈ tblocks D.tgtB D.tgt, b ∈ D.blocks db := by
  intro b hb
  unfold DM.tgtB DM.tgt at hb
  unfold DM.blocks
  split at hb
  · exact List.mem_cons_of_mem _ (List.mem_append_left _ hb)
  · exact List.mem_cons_of_mem _ (List.mem_append_right _ hb)
theorem tgt_nodup (h : DictIs ty w db D) : (tblocks D.tgtB D.tgt).Nodup := by
  unfold DM.tgtB DM.tgt
  split
  · exact nd_old h.nd
  · exact nd_young h.nd
theorem tgt_len (h : DictIs ty w db D) : D.tgt.length ≤ 17592186044416 := by
  unfold DM.tgt
  split
  · exact h.bo
  · exact h.by_
theorem added_mem (h : DictIs ty w db D) (hwf : D.WF) (ho : D.old ≠ []) {e : DE α} (hf : ∀ x ∈ D.all, x.k ≠ e.k) (hb : e.b ∉ D.blocks db) (hk : e.k.size ≤ maxLen) (hn : D.n < 8796093022208)
    (ht : TabIs ty w2 D.tgtB (hang D.seed D.tgt e)) (hkp : Keeps [e.b, D.tgtB] w w2) :
    DictIs ty (w2.setCell ⟨db, 4, none⟩ (.int .i64 ((D.n + 1 : Nat) : Int))) db (D.added e) := by
  have htb : D.tgtB ∈ tblocks D.tgtB D.tgt := tb_mem (tgt_ne ho)
  have hdt : db ≠ D.tgtB := by
    intro e2
    have := (List.nodup_cons.1 h.nd).1
    rw [e2] at this
    unfold DM.tgtB at this
    split at this
    · exact this (List.mem_append_left _ (tb_mem ho))
    · rename_i hy; exact this (List.mem_append_right _ (tb_mem hy))
  have hde : db ≠ e.b := fun e2 => hb (e2 ▸ by simp [DM.blocks])
  have hhd : w2.heap[db]? = some (dObj ty D) := hkp.get h.hd (by simp; exact ⟨hde, hdt⟩)
  obtain ⟨a1, a2, a3, a4⟩ := DM.added_facts hwf ho e hf
  have hbl : ((D.added e).blocks db).Perm (e.b :: D.blocks db) := by
    unfold DM.added
    split
    · unfold DM.blocks
      simp only
      exact (List.Perm.cons db ((hang_blocks _ _ ho _).append_right _)).trans (.swap _ _ _)
    · rename_i hy
      unfold DM.blocks
      simp only
      exact ((List.Perm.cons db ((hang_blocks _ _ hy _).append_left _)).trans (List.Perm.cons db List.perm_middle)).trans (.swap _ _ _)
  have hset : ∀ b, b ≠ db → (w2.setCell ⟨db, 4, none⟩ (.int .i64 ((D.n + 1 : Nat) : Int))).heap[b]? = w2.heap[b]? := fun b hb2 => set_other _ hb2
  have hnew : ∀ b ∈ tblocks D.tgtB (hang D.seed D.tgt e), b ≠ db := by
    intro b hb2
    rcases List.mem_cons.1 ((hang_blocks D.seed e (tgt_ne ho) D.tgtB).mem_iff.1 hb2) with rfl | h3
    · exact fun e2 => hde e2.symm
    · have : db ∉ tblocks D.tgtB D.tgt := by
        unfold DM.tgtB DM.tgt
        split
        · exact (db_not h).1
        · exact (db_not h).2
      exact fun e2 => this (e2 ▸ h3)
  have hks : ∀ x ∈ (D.added e).all, x.k.size ≤ maxLen := by
    intro x hx
    rcases List.mem_cons.1 (a2.mem_iff.1 hx) with rfl | h3
    · exact hk
    · exact h.ks x h3
  have ht2 := ht.keep (fun b hb2 => hset b (hnew b hb2))
  by_cases hy : D.young = []
  · have he1 : D.added e = { D with old := hang D.seed D.old e, n := D.n + 1 } := by unfold DM.added; rw [if_pos hy]
    have h1 : D.tgtB = D.ob := by unfold DM.tgtB; rw [if_pos hy]
    have h2 : D.tgt = D.old := by unfold DM.tgt; rw [if_pos hy]
    rw [h1, h2] at ht2
    refine ⟨?_, ?_, ?_, hbl.nodup_iff.2 (List.nodup_cons.2 ⟨hb, h.nd⟩), by rw [a3]; exact h.sd, hks, ?_, ?_, ?_⟩
    · rw [he1]
      unfold dObj at hhd ⊢
      rw [set_same hhd]
      simp only
      rw [tabv_len (hang_length D.seed D.old e)]
      rfl
    · rw [he1]; exact ht2
    · rw [he1]; simp only [hy]; exact TabIs.nil _ _
    · rw [he1]; simp only [hang_length]; exact h.bo
    · rw [he1]; exact h.by_
    · rw [a4]; omega
  · have he1 : D.added e = { D with young := hang D.seed D.young e, n := D.n + 1 } := by unfold DM.added; rw [if_neg hy]
    have h1 : D.tgtB = D.yb := by unfold DM.tgtB; rw [if_neg hy]
    have h2 : D.tgt = D.young := by unfold DM.tgt; rw [if_neg hy]
    rw [h1, h2] at ht2
    rw [h1] at hkp
    refine ⟨?_, ?_, ?_, hbl.nodup_iff.2 (List.nodup_cons.2 ⟨hb, h.nd⟩), by rw [a3]; exact h.sd, hks, ?_, ?_, ?_⟩
    · rw [he1]
      unfold dObj at hhd ⊢
      rw [set_same hhd]
      simp only
      rw [tabv_len (hang_length D.seed D.young e)]
      rfl
    · rw [he1]
      refine h.ho.keep (fun b hb2 => ?_)
      rw [hset b (fun e2 => (db_not h).1 (e2 ▸ hb2))]
      refine hkp.block b (h.ho.lt b hb2) ?_
      simp only [List.mem_cons, List.not_mem_nil, or_false, not_or]
      exact ⟨fun e2 => hb (e2 ▸ List.mem_cons_of_mem _ (List.mem_append_left _ hb2)), fun e2 => old_young h hb2 (e2 ▸ tb_mem hy)⟩
    · rw [he1]; exact ht2
    · rw [he1]; exact h.bo
    · rw [he1]; simp only [hang_length]; exact h.by_
    · rw [a4]; omega
end
end Go.Proofs.YthmbhkgllfngmaaGreatDoor.ks
/- A dict: Get, Set. -/
namespace Go.Proofs.YthmbhkgllfngmaaGreatDoor.ks
open Go.ChangeShapes Go.WideShapes Go.RowKit
set_option linter.unusedVariables false
set_option linter.unusedSimpArgs false
theorem made_nil (c : Nat) : madeCells (Value.cells (.pointer none)) c = (List.replicate c (.pointer none)).toArray := by
  unfold madeCells
  apply Array.ext
  · simp
  · intro i h1 h2
    simp [Value.cells, Nat.mod_one]
theorem info_p : (Tryz.prog.info? 112).map (fun i => (i.zero, i.size, i.bytes)) = some (some (.pointer none), 1, 8) := by kernel_rfl
theorem run_mk (w : World) (c : Int) (n : Nat) (hc : c = n) (hn : n ≤ 35184372088832) :
    (Instr.makeSlice 116 (.int .i64 c) (.int .i64 c)).run Tryz.prog w = .ok (.slice (some ⟨w.heap.size, 0, none⟩) n n) (w.alloc (.cells (List.replicate n (.pointer none)).toArray 112)) := by
  obtain ⟨i, hi, hz, hs, hb⟩ := info_parts info_p
  subst hc
  have := run_make (P := Tryz.prog) w 116 112 i _ Tryz.underlying116 hi hz .i64 .i64 (n : Int) (n : Int) (by omega) (Int.le_refl _) (by rw [hb]; omega) (by omega)
  rw [hs, Nat.mul_one, Int.toNat_natCast, made_nil] at this
  exact this
theorem drew_dict {w : World} {db : Nat} {D : DM Nat} (h : DictIs dty w db D) (n : Nat) : DictIs dty (w.drewN n) db D := h.keep (fun _ _ => rfl)
theorem movingD (E : DM Nat) (db : Nat) (w : World) (b : Bool) (h : DictIs dty w db E) (hb : mv E = b) :
    Calls Tryz.prog 69 #[dp db] w fun e w' => e = .returned (.bool b) ∧ w' = w :=
  (movingC db E w h).mono fun e w' ⟨h1, h2⟩ => ⟨by rw [← hb]; exact h1, h2.symm⟩
/-- What Get tells. -/
def getV (o : Option (DE Nat)) : Value := match o with | some e => .tuple #[dp e.v, .bool true] | none => .tuple #[.pointer none, .bool false]
set_option maxHeartbeats 1000000 in
theorem getC (db : Nat) (D : DM Nat) (k : ByteArray) (w : World) (hwf : D.WF) (h : DictIs dty w db D) (hk : k.size ≤ maxLen) :
    Calls Tryz.prog 63 #[dp db, .string k] w fun r w' => r = .returned (getV (D.step.find k)) ∧ DictIs dty w' db D.step ∧ Keeps (D.blocks db) w w' := by
  have HW := khid hwf
  have H := khid h
  have HK := khid hk
  clear hwf h hk
  unfold dp
  go_enter Tryz.func63, Tryz.ntmps63
  go_wp2_with fail
  refine (stepC db D _ HW.out H.out).mono ?_
  rintro r w1 ⟨rfl, h1, hk1⟩
  have H1 := khid h1
  have HK1 := khid hk1
  clear h1 hk1
  go_wp2_with fail
  refine (findC db D.step k _ H1.out HK.out).mono ?_
  rintro r w2 ⟨rfl, rfl⟩
  obtain ⟨p, hp⟩ : ∃ p, p = D.step.linkOf dty k := ⟨_, rfl⟩
  rw [← hp]
  cases p with
  | none =>
    have hf := link_none.1 hp.symm
    have HF := khid hf
    clear hp hf
    go_wp2_with fail
    go_ret2
    exact ⟨by rw [HF.out]; rfl, H1.out, HK1.out⟩
  | some a =>
    obtain ⟨e, r, hf, he, hc, _, _⟩ := link_some H1.out hp.symm
    have hv : w1.cell? ⟨e.b, 1, none⟩ = some (dp e.v) := by unfold eObj at he; rw [cell_at he]; rfl
    unfold ptr at hc
    unfold dp at hv
    have HF := khid hf
    clear hp hf he
    go_wp2_with fail
    go_ret2
    exact ⟨by rw [HF.out]; rfl, H1.out, HK1.out⟩
set_option maxRecDepth 100000 in
set_option maxHeartbeats 1000000 in
theorem setC (db : Nat) (D : DM Nat) (k : ByteArray) (v : Nat) (w : World) (hwf : D.WF) (h : DictIs dty w db D) (hk : k.size ≤ maxLen) (hn : D.n < 8796093022208) :
    Calls Tryz.prog 22 #[dp db, .string k, dp v] w fun r w' => ∃ b tb nb, r = .returned (.bool b) ∧ DictIs dty w' db (D.set k v tb nb) ∧ Keeps (D.blocks db) w w' ∧ (∀ x ∈ (D.set k v tb nb).blocks db, x ∈ D.blocks db ∨ w.heap.size ≤ x) := by
  obtain ⟨hw1, hsp, hsd, hsn⟩ := DM.step_facts hwf
  obtain ⟨xb, hxb⟩ := DM.step_blocks hwf db
  obtain ⟨_, hsub⟩ := sub_nodup_of hxb h.nd
  have hstep := stepC db D w hwf h
  have hset : ∀ tb nb, D.set k v tb nb = D.step.put k v tb nb := fun _ _ => rfl
  simp only [hset]
  rw [← hsn] at hn
  generalize D.step = E at hw1 hsp hsn hsub hn hstep ⊢
  have HW1 := khid hw1
  have HSUB := khid hsub
  have HSTEP := khid hstep
  have HK := khid hk
  clear hwf h hset hsp hsn hsd hw1 hxb hsub hstep hk
  unfold dp
  go_enter Tryz.func22, Tryz.ntmps22
  go_wp2_with fail
  refine HSTEP.out.mono ?_
  rintro r w1 ⟨rfl, h1, hk1⟩
  have H1 := khid h1
  have HK1 := khid hk1
  have hsz1 := hk1.size
  clear h1 hk1
  go_wp2_with fail
  refine (findC db E k _ H1.out HK.out).mono ?_
  rintro r w2 ⟨rfl, rfl⟩
  obtain ⟨p, hp⟩ : ∃ p, p = E.linkOf dty k := ⟨_, rfl⟩
  rw [← hp]
  cases p with
  | some a =>
    obtain ⟨e, r, hf, he, hc, _, heb⟩ := link_some H1.out hp.symm
    have hv : w1.cell? ⟨e.b, 1, none⟩ = some (dp e.v) := by unfold eObj at he; rw [cell_at he]; rfl
    have hfz : w1.frozen? ⟨e.b, 1, none⟩ = false := efree he 1
    unfold ptr at hc
    unfold dp at hv
    have HF := khid hf
    have HEB := khid heb
    clear hp hf he heb
    go_wp2_with fail
    go_ret
    refine ⟨_, 0, 0, rfl, put_mem_found H1.out HW1.out HF.out (v := v) rfl rfl 0 0, (HK1.out.setCell (p := ⟨e.b, 1, none⟩) (.inl (HSUB.out _ HEB.out)) _), fun x hx => ?_⟩
    rw [DM.put_found_blocks v 0 0 db (by rw [HF.out]; rfl)] at hx
    exact .inl (HSUB.out x hx)
  | none =>
    have hf := link_none.1 hp.symm
    have hall : ∀ e ∈ E.all, e.k ≠ k := by rw [DM.find_eq HW1.out] at hf; exact chainFind_none hf
    have HALL := khid hall
    have c1 := H1.out.c1
    have c2 := H1.out.c2
    have c4 := H1.out.c4
    have f1 := H1.out.free 1
    have f2 := H1.out.free 2
    have hbo := H1.out.bo
    have n1 := World.new_ne w1 ⟨db, 1, none⟩ c1
    have n2 := World.new_ne w1 ⟨db, 2, none⟩ c2
    have hdb : db < w1.heap.size := hlt H1.out.hd
    clear hp hf hall
    obtain ⟨oa, hoa⟩ := tabv_form E.ob E.old
    obtain ⟨ya, hya⟩ := tabv_form E.yb E.young
    rw [hoa] at c1
    rw [hya] at c2
    have HOA := khid hoa
    have HYA := khid hya
    generalize hln : E.old.length = n at c1 hbo
    generalize hly : E.young.length = m at c2
    have HLN := khid hln
    have HLY := khid hly
    clear hoa hya hln hly
    go_upto_block 0 with (fail)
    go_cut [] (fun wx => ∃ tb, Hid (DictIs dty wx db (E.grown tb) ∧ Keeps [db] w1 wx ∧ tb ∉ E.blocks db ∧ w1.heap.size ≤ tb ∧ tb ≠ wx.heap.size))
    case first => as_aux_lemma =>
      have HF := khid (show ∀ x ∈ E.blocks db, x < w1.heap.size from H1.out.lt)
      by_cases ho : E.old = []
      · have hy := HW1.out.none ho
        have HG := khid (grown_first H1.out ho hy)
        have hn0 : n = 0 := by rw [← HLN.out, ho]; rfl
        subst hn0
        have hmk := fun w : World => run_mk w 4 4 rfl (by decide)
        clear ho hy
        go_wp2_with fail
        go_meet
        refine ⟨w1.heap.size, khid ⟨by rw [← World.setCell_alloc_past _ db 1 _ hdb]; exact HG.out, ((Keeps.refl _ w1).setCell (p := ⟨db, 1, none⟩) (.inl (by simp)) _).alloc _, fun hm => ?_, Nat.le_refl _, ?_⟩⟩
        · have := HF.out _ hm; omega
        · simp
      · have hp : 0 < n := by rw [← HLN.out]; exact List.length_pos_iff.2 ho
        have HO := khid ho
        have hnz : ((n : Int) == 0) = false := by simp; omega
        clear ho
        have hsame : ∀ q, E.young ≠ [] ∨ E.n < n → ∃ tb, Hid (DictIs dty (w1.drewN q) db (E.grown tb) ∧ Keeps [db] w1 (w1.drewN q) ∧ tb ∉ E.blocks db ∧ w1.heap.size ≤ tb ∧ tb ≠ (w1.drewN q).heap.size) := by
          intro q hc
          refine ⟨w1.heap.size + 1, khid ⟨?_, (Keeps.refl _ w1).drewN q, fun hm => ?_, by omega, by show w1.heap.size + 1 ≠ w1.heap.size; omega⟩⟩
          · rw [grown_same HO.out (by rw [HLN.out]; exact hc)]; exact drew_dict H1.out q
          · have := HF.out _ hm; omega
        have HS := khid hsame
        clear hsame
        by_cases hy : E.young = []
        · have hmv : mv E = false := by unfold mv; rw [hy]; rfl
          by_cases hle : n ≤ E.n
          · have hmk := fun w : World => run_mk w (2 * (n : Int)) (2 * n) (by omega) (by omega)
            have hgeq : (n : Int) ≤ (E.n : Int) := by omega
            have HY := khid hy
            clear hy
            go_wp2_with fail
            go_quiet ((go_at_call 69; exact Calls.quiet_of_same (movingD E db _ _ (drew_dict H1.out _) hmv)))
            obtain ⟨W, hW⟩ : ∃ W, W = w1.drewN nq := ⟨_, rfl⟩
            have H2 : Hid (DictIs dty W db E) := khid (by rw [hW]; exact drew_dict H1.out nq)
            have hsz : w1.heap.size ≤ W.heap.size := by rw [hW]; exact Nat.le_refl _
            have HK2 : Hid (Keeps [db] w1 W) := khid (by rw [hW]; exact (Keeps.refl _ w1).drewN nq)
            rw [← hW]
            clear hW c1 c2 c4 f1 f2 n1 n2
            have c1 := H2.out.c1
            have c2 := H2.out.c2
            have f2 := H2.out.free 2
            have n2 := World.new_ne W ⟨db, 2, none⟩ c2
            have HG := khid (grown_second H2.out HO.out HY.out (by rw [HLN.out]; exact hle))
            rw [HLN.out] at HG
            rw [HOA.out] at c1
            rw [HYA.out] at c2
            rw [HLN.out] at c1
            have hdb2 : db < W.heap.size := by omega
            go_wp2_with fail
            go_meet
            refine ⟨W.heap.size, khid ⟨?_, (HK2.out.setCell (p := ⟨db, 2, none⟩) (.inl (by simp)) _).alloc _, fun hm => ?_, hsz, ?_⟩⟩
            · rw [← World.setCell_alloc_past _ db 2 _ hdb2, ← List.toArray_replicate]; exact HG.out
            · have := HF.out _ hm; omega
            · simp
          · have hd : decide ((n : Int) ≤ (E.n : Int)) = false := by simp; omega
            have HS2 := khid (fun q => HS.out q (.inr (by omega)))
            clear hy
            go_wp2_with fail
            go_quiet ((go_at_call 69; exact Calls.quiet_of_same (movingD E db _ _ (drew_dict H1.out _) hmv)))
            go_wp2_with fail
            go_meet
            exact HS2.out _
        · have hmv : mv E = true := by unfold mv; cases hd : E.young with | nil => exact absurd hd hy | cons => rfl
          have HS2 := khid (fun q => HS.out q (.inl hy))
          clear hy
          go_wp2_with fail
          go_quiet ((go_at_call 69; exact Calls.quiet_of_same (movingD E db _ _ (drew_dict H1.out _) hmv)))
          go_wp2_with fail
          go_meet
          exact HS2.out _
    case rest =>
      obtain ⟨tb, HC⟩ := hcut
      clear c1 c2 c4 f1 f2 n1 n2
      obtain ⟨g1, g2, g3, g4, g5⟩ := DM.grown_facts HW1.out tb
      have hput := DM.put_new_eq HW1.out (k := k) v tb wc.heap.size HALL.out
      have hbl := DM.put_new_blocks HW1.out (k := k) v (tb := tb) (nb := wc.heap.size) (db := db) HALL.out H1.out.nd HC.out.2.2.1 (fun hm => by have := H1.out.lt _ hm; have := HC.out.2.1.size; omega) HC.out.2.2.2.2
      have HBL := khid hbl
      have HGS := khid (DM.grown_sub HW1.out tb db)
      have HPUT := khid hput
      have hgn : (E.grown tb).n < 8796093022208 := by rw [g4]; exact hn
      have hall2 : ∀ x ∈ (E.grown tb).all, x.k ≠ k := by rw [g2]; exact HALL.out
      clear hbl hput g2 g3 g4
      generalize E.grown tb = G at HC HPUT HGS g1 g5 hgn hall2
      have HG1 := khid g1
      have HG5 := khid g5
      have HALL2 := khid hall2
      have HD := khid HC.out.1
      have c1 := HD.out.c1
      have c2 := HD.out.c2
      have c4 := HD.out.c4
      have htl := tgt_len HD.out
      have hdb2 : db < wc.heap.size := hlt HD.out.hd
      have hsz2 := HC.out.2.1.size
      have hw : wc.alloc (eObj dty ⟨wc.heap.size, k, v⟩ (.pointer none)) = wc.alloc (.cells #[.string k, .pointer (some ⟨v, 0, none⟩), .pointer none] 114) := rfl
      have HW := khid hw
      have hfin : ∀ w2 : World, TabIs dty w2 G.tgtB (hang G.seed G.tgt ⟨wc.heap.size, k, v⟩) → Keeps [wc.heap.size, G.tgtB] (wc.alloc (eObj dty ⟨wc.heap.size, k, v⟩ (.pointer none))) w2 →
          DictIs dty (w2.setCell ⟨db, 4, none⟩ (.int .i64 ((G.n + 1 : Nat) : Int))) db (E.put k v tb wc.heap.size) ∧ Keeps (D.blocks db) w (w2.setCell ⟨db, 4, none⟩ (.int .i64 ((G.n + 1 : Nat) : Int))) ∧ (∀ x ∈ (E.put k v tb wc.heap.size).blocks db, x ∈ D.blocks db ∨ w.heap.size ≤ x) ∧
          w2.cell? ⟨db, 4, none⟩ = some (.int .i64 G.n) ∧ w2.frozen? ⟨db, 4, none⟩ = false := by
        intro w2 ht hk2
        have hDa : DictIs dty (wc.alloc (eObj dty ⟨wc.heap.size, k, v⟩ (.pointer none))) db G := HD.out.keep (fun b hb => Below.heap_alloc _ _ _ (HD.out.lt b hb))
        have hfr : wc.heap.size ∉ G.blocks db := fun hm => by have := HD.out.lt _ hm; omega
        have htm : G.tgtB ∈ G.blocks db := tgt_mem _ (tb_mem (tgt_ne HG5.out))
        refine ⟨?_, ?_, fun x hx => ?_, ?_⟩
        · rw [HPUT.out]
          exact added_mem hDa HG1.out HG5.out HALL2.out hfr HK.out hgn ht hk2
        · have hgb : ∀ x ∈ G.blocks db, x ∈ D.blocks db ∨ w.heap.size ≤ x := by
            intro x hx
            rcases HGS.out x hx with h1 | h1
            · exact .inl (HSUB.out x h1)
            · right; have := HC.out.2.2.2.1; omega
          have k1 : Keeps (D.blocks db) w wc := HK1.out.trans (HC.out.2.1.mono (fun b hb => by simp at hb; subst hb; simp [DM.blocks]))
          have k2 : Keeps (D.blocks db) w (wc.alloc (eObj dty ⟨wc.heap.size, k, v⟩ (.pointer none))) := k1.alloc _
          refine (k2.step hk2 (fun b hb => ?_)).setCell (p := ⟨db, 4, none⟩) (.inl (by simp [DM.blocks])) _
          simp only [List.mem_cons, List.not_mem_nil, or_false] at hb
          rcases hb with rfl | rfl
          · right; omega
          · exact hgb _ htm
        · rcases HBL.out.2 x hx with h1 | h1 | h1
          · exact .inl (HSUB.out x h1)
          · right; have := HC.out.2.2.2.1; omega
          · right; omega
        · have hdt : db ≠ G.tgtB := by
            have := (List.nodup_cons.1 HD.out.nd).1
            intro e2
            have h3 := tb_mem (tb := G.tgtB) (tgt_ne HG5.out)
            unfold DM.tgtB DM.tgt at h3
            rw [e2] at this
            unfold DM.tgtB at this
            split at h3
            · rename_i hy; rw [if_pos hy] at this; exact this (List.mem_append_left _ h3)
            · rename_i hy; rw [if_neg hy] at this; exact this (List.mem_append_right _ h3)
          have hhd := hk2.get hDa.hd (k := db) (by simp; exact ⟨by omega, hdt⟩)
          exact ⟨by rw [cell_at hhd]; rfl, free_at hhd 4⟩
      have HFIN := khid hfin
      have hnew : (wc.alloc (eObj dty ⟨wc.heap.size, k, v⟩ (.pointer none))).heap[wc.heap.size]? = some (eObj dty ⟨wc.heap.size, k, v⟩ (.pointer none)) := alloc_new _ _
      have hndd : (wc.heap.size :: tblocks G.tgtB G.tgt).Nodup := List.nodup_cons.2 ⟨fun hm => by have := HD.out.lt _ (tgt_mem _ hm); omega, tgt_nodup HD.out⟩
      have htab : TabIs dty (wc.alloc (eObj dty ⟨wc.heap.size, k, v⟩ (.pointer none))) G.tgtB G.tgt := (tgt_is HD.out).keep (fun b hb => Below.heap_alloc _ _ _ (HD.out.lt b (tgt_mem _ hb)))
      have hc0 : (wc.alloc (eObj dty ⟨wc.heap.size, k, v⟩ (.pointer none))).cell? ⟨db, 0, none⟩ = some (.int .u64 G.seed) := by
        rw [cell_at (alloc_old _ HD.out.hd)]; rfl
      have hhang := hangC G.seed db G.tgtB G.tgt ⟨wc.heap.size, k, v⟩ (.pointer none) _ HD.out.sd HK.out hc0 htab (tgt_ne HG5.out) (by omega) hnew hndd
      have HHANG := khid hhang
      clear hfin hnew hndd htab hc0 hhang hw g1 g5 hall2 htl HBL HGS
      obtain ⟨oa2, hoa2⟩ := tabv_form G.ob G.old
      obtain ⟨ya2, hya2⟩ := tabv_form G.yb G.young
      by_cases hy : G.young = []
      · have hmv : mv G = false := by unfold mv; rw [hy]; rfl
        have htv : tabv G.tgtB G.tgt = tabv G.ob G.old := by unfold DM.tgtB DM.tgt; rw [if_pos hy, if_pos hy]
        rw [htv, hoa2] at HHANG
        rw [hoa2] at c1
        rw [hya2] at c2
        clear hy hya2 hoa2 htv
        go_wp2_with fail
        refine (movingC db G _ HD.out).mono ?_
        rintro r w' ⟨rfl, rfl⟩
        rw [hmv]
        clear hmv
        go_wp2_with fail
        refine HHANG.out.mono ?_
        rintro r w2 ⟨rfl, ht, hk2⟩
        obtain ⟨q1, q2, q3, q4, q5⟩ := HFIN.out w2 ht hk2
        rw [show ((G.n + 1 : Nat) : Int) = (G.n : Int) + 1 from rfl] at q1 q2
        have Q1 := khid q1
        have Q2 := khid q2
        have Q3 := khid q3
        clear ht hk2 q1 q2 q3
        go_wp2_with fail
        go_ret
        exact ⟨_, _, _, rfl, Q1.out, Q2.out, Q3.out⟩
      · have hmv : mv G = true := by unfold mv; cases hd : G.young with | nil => exact absurd hd hy | cons => rfl
        have htv : tabv G.tgtB G.tgt = tabv G.yb G.young := by unfold DM.tgtB DM.tgt; rw [if_neg hy, if_neg hy]
        rw [htv, hya2] at HHANG
        rw [hoa2] at c1
        rw [hya2] at c2
        clear hy hya2 hoa2 htv
        go_wp2_with fail
        refine (movingC db G _ HD.out).mono ?_
        rintro r w' ⟨rfl, rfl⟩
        rw [hmv]
        clear hmv
        go_wp2_with fail
        refine HHANG.out.mono ?_
        rintro r w2 ⟨rfl, ht, hk2⟩
        obtain ⟨q1, q2, q3, q4, q5⟩ := HFIN.out w2 ht hk2
        rw [show ((G.n + 1 : Nat) : Int) = (G.n : Int) + 1 from rfl] at q1 q2
        have Q1 := khid q1
        have Q2 := khid q2
        have Q3 := khid q3
        clear ht hk2 q1 q2 q3
        go_wp2_with fail
        go_ret
        exact ⟨_, _, _, rfl, Q1.out, Q2.out, Q3.out⟩
end Go.Proofs.YthmbhkgllfngmaaGreatDoor.ks
/- A dict in memory: what Delete leaves. -/
namespace Go.Proofs.YthmbhkgllfngmaaGreatDoor.ks
open Go.ChangeShapes Go.WideShapes Go.RowKit
set_option linter.unusedVariables false
set_option linter.unusedSimpArgs false
variable {α : Type} {ty : DTy α}
/-- An entry is out. -/
def DM.cutOut (D : DM α) (k : ByteArray) : DM α :=
  if (tabFind D.seed D.old k).isSome then { D with old := tabDel D.seed D.old k, n := D.n - 1 } else { D with young := tabDel D.seed D.young k, n := D.n - 1 }
theorem DM.drop_cut {D : DM α} {k : ByteArray} (h : (D.find k).isSome = true) (tb : Nat) : D.drop k tb = (D.cutOut k).shrink tb := by
  unfold DM.drop DM.cutOut
  split
  · rfl
  · rename_i h1
    have : (tabFind D.seed D.young k).isSome = true := by
      unfold DM.find at h
      simp only [Option.not_isSome_iff_eq_none] at h1
      rw [h1] at h
      simpa using h
    rw [if_pos this]
theorem tabDel_len (seed : Nat) (t : Tab α) (k : ByteArray) : (tabDel seed t k).length = t.length := by simp [tabDel]
theorem cutOut_young {D : DM α} {k : ByteArray} : (D.cutOut k).young = [] ↔ D.young = [] := by
  unfold DM.cutOut
  split
  · exact Iff.rfl
  · show tabDel D.seed D.young k = [] ↔ _
    constructor
    · intro h; exact List.eq_nil_of_length_eq_zero (by rw [← tabDel_len D.seed D.young k, h]; rfl)
    · intro h; rw [h]; simp [tabDel]
theorem cutOut_len {D : DM α} {k : ByteArray} : (D.cutOut k).old.length = D.old.length ∧ (D.cutOut k).n = D.n - 1 := by
  unfold DM.cutOut
  split
  · exact ⟨tabDel_len _ _ _, rfl⟩
  · exact ⟨rfl, rfl⟩
section
variable {w : World} {db : Nat} {D : DM α} {k : ByteArray}
theorem cut_mem (h : DictIs ty w db D) (hwf : D.WF) {p : Addr} (hp : D.linkOf ty k = some p) :
    ∃ e r, (D.find k).isSome = true ∧ w.heap[e.b]? = some (eObj ty e (ptr r)) ∧ w.cell? p = some (ptr (e :: r)) ∧ w.frozen? p = false ∧ p.block ≠ db ∧ p.block ∈ D.blocks db ∧
      DictIs ty ((w.setCell p (ptr r)).setCell ⟨db, 4, none⟩ (.int .i64 ((D.n - 1 : Nat) : Int))) db (D.cutOut k) := by
  obtain ⟨e0, r0, hfi, _⟩ := link_some h hp
  have hfis : (D.find k).isSome = true := by rw [hfi]; rfl
  have hall : ∃ e ∈ D.all, e.k = k := by rw [DM.find_eq hwf] at hfi; exact ⟨e0, chainFind_some hfi⟩
  have hdo := DM.drop_found hwf 0 hall
  have hcutall : (D.cutOut k).all = D.all.filter (notK k) := by
    have h1 := hdo.2.1
    rw [DM.drop_cut hfis] at h1
    rw [← h1]
    unfold DM.shrink
    split
    · rename_i hc
      unfold DM.all
      simp [hc.1]
    · rfl
  have hks : ∀ z ∈ (D.cutOut k).all, z.k.size ≤ maxLen := by
    intro z hz
    rw [hcutall] at hz
    exact h.ks z (List.mem_filter.1 hz).1
  unfold DM.linkOf at hp
  cases h1 : linkAt ty D.seed D.ob D.old k with
  | some q =>
    rw [h1] at hp
    obtain rfl : q = p := by simpa using hp
    obtain ⟨e, r, a1, a2, a3, a4, a5, a6, a7⟩ := h.ho.del (nd_old h.nd) h1
    have hpd : q.block ≠ db := fun e2 => (db_not h).1 (e2 ▸ a5)
    have hcut : D.cutOut k = { D with old := tabDel D.seed D.old k, n := D.n - 1 } := by unfold DM.cutOut; rw [a1]; rfl
    refine ⟨e, r, hfis, a2, a3, a4, hpd, List.mem_cons_of_mem _ (List.mem_append_left _ a5), ?_⟩
    have hset : ∀ b, b ≠ db → ((w.setCell q (ptr r)).setCell ⟨db, 4, none⟩ (.int .i64 ((D.n - 1 : Nat) : Int))).heap[b]? = (w.setCell q (ptr r)).heap[b]? := fun b hb2 => set_other _ hb2
    rw [hcut] at hks ⊢
    refine ⟨?_, ?_, ?_, ?_, h.sd, hks, ?_, h.by_, ?_⟩
    · have hh : (w.setCell q (ptr r)).heap[db]? = some (dObj ty D) := by rw [set_other (b := db) _ (fun e2 => hpd e2.symm)]; exact h.hd
      unfold dObj at hh ⊢
      rw [set_same hh]
      simp only
      rw [tabv_len (tabDel_len D.seed D.old k)]
      rfl
    · exact a7.keep (fun b hb => hset b (fun e2 => (db_not h).1 (e2 ▸ (tabDel_blocks _ _ _ _).subset hb)))
    · refine h.hy.keep (fun b hb => ?_)
      rw [hset b (fun e2 => (db_not h).2 (e2 ▸ hb)), set_other (b := b) _ (fun e2 => old_young h a5 (e2 ▸ hb))]
    · have hs : (({ D with old := tabDel D.seed D.old k, n := D.n - 1 } : DM α).blocks db).Sublist (D.blocks db) := by
        unfold DM.blocks
        exact ((tabDel_blocks _ _ _ _).append (.refl _)).cons_cons _
      exact hs.nodup h.nd
    · show (tabDel D.seed D.old k).length ≤ _
      rw [tabDel_len]; exact h.bo
    · show D.n - 1 ≤ _
      have := h.bn; omega
  | none =>
    rw [h1] at hp
    have hp2 : linkAt ty D.seed D.yb D.young k = some p := by simpa using hp
    obtain ⟨e, r, a1, a2, a3, a4, a5, a6, a7⟩ := h.hy.del (nd_young h.nd) hp2
    have hpd : p.block ≠ db := fun e2 => (db_not h).2 (e2 ▸ a5)
    have hcut : D.cutOut k = { D with young := tabDel D.seed D.young k, n := D.n - 1 } := by unfold DM.cutOut; rw [linkAt_none.1 h1]; rfl
    refine ⟨e, r, hfis, a2, a3, a4, hpd, List.mem_cons_of_mem _ (List.mem_append_right _ a5), ?_⟩
    have hset : ∀ b, b ≠ db → ((w.setCell p (ptr r)).setCell ⟨db, 4, none⟩ (.int .i64 ((D.n - 1 : Nat) : Int))).heap[b]? = (w.setCell p (ptr r)).heap[b]? := fun b hb2 => set_other _ hb2
    rw [hcut] at hks ⊢
    refine ⟨?_, ?_, ?_, ?_, h.sd, hks, h.bo, ?_, ?_⟩
    · have hh : (w.setCell p (ptr r)).heap[db]? = some (dObj ty D) := by rw [set_other (b := db) _ (fun e2 => hpd e2.symm)]; exact h.hd
      unfold dObj at hh ⊢
      rw [set_same hh]
      simp only
      rw [tabv_len (tabDel_len D.seed D.young k)]
      rfl
    · refine h.ho.keep (fun b hb => ?_)
      rw [hset b (fun e2 => (db_not h).1 (e2 ▸ hb)), set_other (b := b) _ (fun e2 => old_young h hb (e2 ▸ a5))]
    · exact a7.keep (fun b hb => hset b (fun e2 => (db_not h).2 (e2 ▸ (tabDel_blocks _ _ _ _).subset hb)))
    · have hs : (({ D with young := tabDel D.seed D.young k, n := D.n - 1 } : DM α).blocks db).Sublist (D.blocks db) := by
        unfold DM.blocks
        exact ((List.Sublist.refl _).append (tabDel_blocks _ _ _ _)).cons_cons _
      exact hs.nodup h.nd
    · show (tabDel D.seed D.young k).length ≤ _
      rw [tabDel_len]; exact h.by_
    · show D.n - 1 ≤ _
      have := h.bn; omega
theorem shrunk_le (n B : Nat) (hn : 2 * n ≤ B) : ∀ (f s : Nat), s ≤ B → shrunk n f s ≤ B
  | 0, s, h => h
  | f + 1, s, h => by
    unfold shrunk
    split
    · exact shrunk_le n B hn f (2 * s) (by omega)
    · exact h
/-- A table for what is left. -/
theorem shrink_mem (h : DictIs ty w db D) (hc : D.young = [] ∧ 4 < D.old.length ∧ 8 * D.n ≤ D.old.length) :
    DictIs ty ((w.alloc (.cells (List.replicate (shrunk D.n 64 4) (.pointer none)).toArray ty.p (0, 0))).setCell ⟨db, 2, none⟩ (.slice (some ⟨w.heap.size, 0, none⟩) (shrunk D.n 64 4) (shrunk D.n 64 4))) db (D.shrink w.heap.size) := by
  have hg : D.shrink w.heap.size = { D with yb := w.heap.size, young := List.replicate (shrunk D.n 64 4) [] } := by unfold DM.shrink; rw [if_pos hc]
  have hdb := hlt h.hd
  have hne : w.heap.size ≠ db := by omega
  have hs4 := shrunk_ge D.n 64 4 (by decide)
  have hbn := h.bn
  have hsb := shrunk_le D.n 17592186044416 (by omega) 64 4 (by decide)
  generalize shrunk D.n 64 4 = s at hg hs4 hsb ⊢
  rw [hg]
  refine ⟨?_, ?_, new_tab _ _ _ ?_, ?_, h.sd, ?_, h.bo, by simpa using hsb, h.bn⟩
  · have := alloc_old (.cells (List.replicate s (.pointer none)).toArray ty.p (0, 0)) h.hd
    unfold dObj at this ⊢
    rw [set_same this]
    simp only
    rw [tabv_ne (t := List.replicate s []) (by intro e; have := congrArg List.length e; simp at this; omega)]
    simp
  · refine h.ho.keep (fun b hb => ?_)
    have hb2 := h.ho.lt b hb
    rw [set_other (b := b) _ (fun e2 => (db_not h).1 (by have e3 : b = db := e2; rw [← e3]; exact hb)), Below.heap_alloc _ _ _ hb2]
  · rw [set_other (b := w.heap.size) _ hne]; exact alloc_new _ _
  · unfold DM.blocks
    simp only [tblocks_replicate w.heap.size s (by omega)]
    have := h.nd
    unfold DM.blocks at this
    rw [hc.1, tblocks_nil, List.append_nil] at this
    rw [← List.cons_append]
    refine List.nodup_append.2 ⟨this, by simp, fun a ha b hb => ?_⟩
    simp at hb; subst hb
    have := h.lt a (by unfold DM.blocks; rw [hc.1, tblocks_nil, List.append_nil]; exact ha)
    omega
  · intro e he
    refine h.ks e ?_
    unfold DM.all at he ⊢
    simp only at he
    rw [List.flatten_replicate_nil, List.append_nil] at he
    exact List.mem_append_left _ he
end
end Go.Proofs.YthmbhkgllfngmaaGreatDoor.ks
/- A dict: Delete. -/
namespace Go.Proofs.YthmbhkgllfngmaaGreatDoor.ks
open Go.ChangeShapes Go.WideShapes Go.RowKit
set_option linter.unusedVariables false
set_option linter.unusedSimpArgs false
theorem shrunk_stop (n f s : Nat) (h : n ≤ s) : shrunk n f s = s := by
  cases f with
  | zero => rfl
  | succ f => unfold shrunk; rw [if_neg (by omega)]
set_option maxRecDepth 100000 in
set_option maxHeartbeats 1000000 in
theorem delC (db : Nat) (D : DM Nat) (k : ByteArray) (w : World) (hwf : D.WF) (h : DictIs dty w db D) (hk : k.size ≤ maxLen) :
    Calls Tryz.prog 66 #[dp db, .string k] w fun r w' => ∃ b tb, r = .returned (.bool b) ∧ DictIs dty w' db (D.del k tb) ∧ Keeps (D.blocks db) w w' ∧ (∀ x ∈ (D.del k tb).blocks db, x ∈ D.blocks db ∨ w.heap.size ≤ x) := by
  obtain ⟨hw1, hsp, hsd, hsn⟩ := DM.step_facts hwf
  obtain ⟨xb, hxb⟩ := DM.step_blocks hwf db
  obtain ⟨_, hsub⟩ := sub_nodup_of hxb h.nd
  have hstep := stepC db D w hwf h
  have hset : ∀ tb, D.del k tb = D.step.drop k tb := fun _ => rfl
  simp only [hset]
  generalize D.step = E at hw1 hsp hsn hsub hstep ⊢
  have HW1 := khid hw1
  have HSUB := khid hsub
  have HSTEP := khid hstep
  have HK := khid hk
  clear hwf h hset hsp hsn hsd hw1 hxb hsub hstep hk
  unfold dp
  go_enter Tryz.func66, Tryz.ntmps66
  go_wp2_with fail
  refine HSTEP.out.mono ?_
  rintro r w1 ⟨rfl, h1, hk1⟩
  have H1 := khid h1
  have HK1 := khid hk1
  have hsz1 := hk1.size
  clear h1 hk1
  go_wp2_with fail
  refine (findC db E k _ H1.out HK.out).mono ?_
  rintro r w2 ⟨rfl, rfl⟩
  obtain ⟨p, hp⟩ : ∃ p, p = E.linkOf dty k := ⟨_, rfl⟩
  rw [← hp]
  cases p with
  | none =>
    have hf := link_none.1 hp.symm
    have hall : ∀ e ∈ E.all, e.k ≠ k := by rw [DM.find_eq HW1.out] at hf; exact chainFind_none hf
    have hd := DM.drop_none HW1.out 0 hall
    have HD := khid hd
    clear hp hf hall hd
    go_wp2_with fail
    go_ret
    exact ⟨_, 0, rfl, by rw [HD.out]; exact H1.out, HK1.out, by rw [HD.out]; exact fun x hx => .inl (HSUB.out x hx)⟩
  | some a =>
    obtain ⟨e, r, hfi, he, hc, hfz, had, hab, hcut⟩ := cut_mem H1.out HW1.out hp.symm
    obtain ⟨ab, ao, asp⟩ := a
    obtain rfl : asp = none := World.cell?_spot hc
    have hnx : w1.cell? ⟨e.b, 2, none⟩ = some (ptr r) := next_cell he
    obtain ⟨q, hq⟩ := ptr_is r
    rw [hq] at hnx hcut
    unfold ptr at hc
    have hc4 : w1.cell? ⟨db, 4, none⟩ = some (.int .i64 E.n) := H1.out.c4
    have hf4 : w1.frozen? ⟨db, 4, none⟩ = false := H1.out.free 4
    have hpos : 0 < E.n := by
      rw [HW1.out.n]
      rw [DM.find_eq HW1.out] at hfi
      obtain ⟨e9, he9⟩ := Option.isSome_iff_exists.1 hfi
      exact List.length_pos_iff.2 (List.ne_nil_of_mem (chainFind_some he9).1)
    have hadd : ∀ tb, w1.heap.size ≤ tb → ∀ x ∈ (E.drop k tb).blocks db, x ∈ D.blocks db ∨ w.heap.size ≤ x := by
      intro tb ht x hx
      rcases (DM.drop_blocks H1.out.nd (k := k) (tb := tb) (fun hm => by have := H1.out.lt _ hm; omega)).2 x hx with h1 | h1
      · exact .inl (HSUB.out x h1)
      · right; omega
    have HADD := khid hadd
    clear hadd
    have hdrop := fun tb => DM.drop_cut (k := k) hfi tb
    obtain ⟨l1, l2⟩ := cutOut_len (D := E) (k := k)
    have l3 := cutOut_young (D := E) (k := k)
    have HCUT := khid hcut
    have HDROP := khid hdrop
    have hbn := H1.out.bn
    have hbo := H1.out.bo
    rw [show ((E.n - 1 : Nat) : Int) = (E.n : Int) - 1 by omega] at HCUT
    have hab2 := HSUB.out _ hab
    have HAB2 := khid hab2
    clear hp hfi he hcut hdrop hab hab2 hq
    go_wp2_with fail
    obtain ⟨W, hW⟩ : ∃ W, W = (w1.setCell ⟨ab, ao, none⟩ (.pointer q)).setCell ⟨db, 4, none⟩ (.int .i64 ((E.n : Int) - 1)) := ⟨_, rfl⟩
    have HKW : Hid (Keeps (D.blocks db) w W) := khid (by
      rw [hW]
      exact (HK1.out.setCell (p := ⟨ab, ao, none⟩) (.inl HAB2.out) _).setCell (p := ⟨db, 4, none⟩) (.inl (by simp [DM.blocks])) _)
    have hszW : w1.heap.size ≤ W.heap.size := by rw [hW]; simp [World.setCell]
    rw [← hW] at HCUT ⊢
    clear hW hc hfz had hnx hc4 hf4 HAB2
    have HL1 := khid l1
    have HL2 := khid l2
    have HL3 := khid l3
    clear l1 l2 l3
    generalize E.cutOut k = G at HCUT HDROP HL1 HL2 HL3
    have c1 := HCUT.out.c1
    have c2 := HCUT.out.c2
    have c4 := HCUT.out.c4
    have f2 := HCUT.out.free 2
    obtain ⟨oa, hoa⟩ := tabv_form G.ob G.old
    obtain ⟨ya, hya⟩ := tabv_form G.yb G.young
    rw [hoa] at c1
    rw [hya] at c2
    have hbo2 := HCUT.out.bo
    have hbn2 := HCUT.out.bn
    generalize hln : G.old.length = n at c1 hbo2
    generalize hgn : G.n = m at c4 hbn2
    have HLN := khid hln
    have HGN := khid hgn
    have hno : ∀ j, ¬ (G.young = [] ∧ 4 < n ∧ 8 * m ≤ n) → ∃ tb, DictIs dty (W.drewN j) db (E.drop k tb) ∧ Keeps (D.blocks db) w (W.drewN j) ∧ (∀ x ∈ (E.drop k tb).blocks db, x ∈ D.blocks db ∨ w.heap.size ≤ x) := by
      intro j hc
      refine ⟨W.heap.size, ?_, HKW.out.drewN j, HADD.out _ hszW⟩
      rw [HDROP.out]
      unfold DM.shrink
      rw [if_neg (by rw [HLN.out, HGN.out]; exact hc)]
      exact drew_dict HCUT.out j
    have HNO := khid hno
    clear hoa hya hln hgn hno
    by_cases hy : G.young = []
    · have hmv : mv G = false := by unfold mv; rw [hy]; rfl
      have HY := khid hy
      clear hy
      by_cases h4 : 4 < n
      · have h4i : (4 : Int) < (n : Int) := by omega
        by_cases h8 : 8 * m ≤ n
        · have h8i : 8 * (m : Int) ≤ (n : Int) := by omega
          go_wp2_with fail
          go_quiet ((go_at_call 69; exact Calls.quiet_of_same (movingD G db _ _ (drew_dict HCUT.out _) hmv)))
          obtain ⟨W2, hW2⟩ : ∃ W2, W2 = W.drewN nq := ⟨_, rfl⟩
          have HD2 : Hid (DictIs dty W2 db G) := khid (by rw [hW2]; exact drew_dict HCUT.out nq)
          have hsz2 : W.heap.size ≤ W2.heap.size := by rw [hW2]; exact Nat.le_refl _
          have HK2 : Hid (Keeps (D.blocks db) w W2) := khid (by rw [hW2]; exact HKW.out.drewN nq)
          rw [← hW2]
          clear hW2 c1 c2 c4 f2
          have HG := khid (shrink_mem HD2.out ⟨HY.out, by rw [HLN.out]; exact h4, by rw [HLN.out, HGN.out]; exact h8⟩)
          rw [HGN.out] at HG
          have hsb := shrunk_le m 17592186044416 (by omega) 64 4 (by decide)
          have c4 := HD2.out.c4
          rw [HGN.out] at c4
          have f2 := HD2.out.free 2
          have c2 := HD2.out.c2
          have n2 := World.new_ne W2 ⟨db, 2, none⟩ c2
          obtain ⟨ya2, hya2⟩ := tabv_form G.yb G.young
          rw [hya2] at c2
          have hdb2 : db < W2.heap.size := hlt HD2.out.hd
          have HSB := khid hsb
          clear hya2 hsb
          go_wp2_with fail
          go_loopg [6] 64 (fun g t wr => wr = W2 ∧ ∃ s : Nat, t = .int .i64 (s : Int) ∧ Hid (shrunk m g s = shrunk m 64 4 ∧ 4 * 2 ^ (64 - g) ≤ s ∧ g ≤ 64 ∧ s ≤ 17592186044416))
          case atStart => exact ⟨rfl, 4, rfl, khid ⟨rfl, by decide, by decide, by decide⟩⟩
          case round =>
            obtain ⟨rfl, s, rfl, HS⟩ := hrel
            by_cases hlt2 : s < m
            · have hsl : s ≤ 17592186044416 := HS.out.2.2.2
              have hg0 : gk ≠ 0 := by
                rintro rfl
                have := HS.out.2.1
                have h64 : (4 : Nat) * 2 ^ (64 - 0) = 73786976294838206464 := rfl
                omega
              go_wp2_with fail
              go_roundg (gk - 1)
              case measure => omega
              case rel =>
                obtain ⟨a1, a2, a3, a4⟩ := HS.out
                refine ⟨rfl, s * 2, by go_num, khid ⟨?_, ?_, by omega, by omega⟩⟩
                · rw [← a1]
                  obtain ⟨g', rfl⟩ : ∃ g', gk = g' + 1 := ⟨gk - 1, by omega⟩
                  conv => rhs; unfold shrunk
                  rw [if_pos hlt2, Nat.mul_comm]
                  rfl
                · rw [show 64 - (gk - 1) = (64 - gk) + 1 by omega, Nat.pow_succ]; omega
            · have hse : shrunk m 64 4 = s := by rw [← HS.out.1]; exact shrunk_stop _ _ _ (by omega)
              rw [hse] at HG
              have hsl : s ≤ 17592186044416 := HS.out.2.2.2
              have hmk := fun w : World => run_mk w (s : Int) s rfl (by omega)
              clear hse
              go_wp2_with fail
              go_ret
              refine ⟨true, wr.heap.size, rfl, ?_, (HK2.out.setCell (p := ⟨db, 2, none⟩) (.inl (by simp [DM.blocks])) _).alloc _, HADD.out _ (by omega)⟩
              rw [HDROP.out, ← World.setCell_alloc_past _ db 2 _ hdb2, ← List.toArray_replicate]
              exact HG.out
        · have h8i : decide (8 * (m : Int) ≤ (n : Int)) = false := by simp; omega
          go_wp2_with fail
          go_quiet ((go_at_call 69; exact Calls.quiet_of_same (movingD G db _ _ (drew_dict HCUT.out _) hmv)))
          go_wp2_with fail
          go_ret
          obtain ⟨tb, t1, t2, t3⟩ := HNO.out nq (by omega)
          exact ⟨_, tb, rfl, t1, t2, t3⟩
      · have h4i : decide ((4 : Int) < (n : Int)) = false := by simp; omega
        go_wp2_with fail
        go_quiet ((go_at_call 69; exact Calls.quiet_of_same (movingD G db _ _ (drew_dict HCUT.out _) hmv)))
        go_wp2_with fail
        go_ret
        obtain ⟨tb, t1, t2, t3⟩ := HNO.out nq (by omega)
        exact ⟨_, tb, rfl, t1, t2, t3⟩
    · have hmv : mv G = true := by unfold mv; cases hd : G.young with | nil => exact absurd hd hy | cons => rfl
      have HY := khid hy
      clear hy
      go_wp2_with fail
      go_quiet ((go_at_call 69; exact Calls.quiet_of_same (movingD G db _ _ (drew_dict HCUT.out _) hmv)))
      go_wp2_with fail
      go_ret
      obtain ⟨tb, t1, t2, t3⟩ := HNO.out nq (fun hc => HY.out hc.1)
      exact ⟨_, tb, rfl, t1, t2, t3⟩
end Go.Proofs.YthmbhkgllfngmaaGreatDoor.ks
