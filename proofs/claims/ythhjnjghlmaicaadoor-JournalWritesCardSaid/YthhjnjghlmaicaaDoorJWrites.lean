/- JournalWrites: Write of any effects is what the reference writes, asked twice; the effects stay, and are not kept. Condition: the listed tables of the library read as their initialisers lay them (tied). -/
import Derived.Test.YthhjnjghlmaicaaDoorOpenR
import Derived.LaidMore
namespace Go.Proofs.YthhjnjghlmaicaaDoor.jr
open Go.ChangeShapes Go.WideShapes Go.ChangeAt Go.RowKit
set_option linter.unusedVariables false

theorem wrL_len (ll : List (List ByteArray)) : (wrL ll).length ≤ 16777216 := by
  unfold wrL
  split
  · rename_i h; exact h.2
  · simp
theorem rowb_own {w : World} {base : Nat} {v : Value} {l : List Int} (h : w.ownsRow base 5 1 v l.length (l.map (Value.int .u8))) : RowB w v l := by
  obtain ⟨a, cap, rfl, _, _, ha⟩ := own_form h
  refine ⟨a, cap, rfl, fun hn => ?_⟩
  obtain ⟨g, rfl⟩ := ha hn
  exact ⟨g, 0, rfl, fun i hi => by rw [Nat.zero_add, h.cellAt i (by omega)]; exact map_at _ _ _ _ hi⟩
theorem row2_below {B : Nat} {w W : World} {v : Value} {ll : List (List ByteArray)} (h : Row2 w v ll) (hb : Below w.heap.size w W) : Row2 W v ll := by
  obtain ⟨a', c', e, h⟩ := h
  refine ⟨a', c', e, fun hn => ?_⟩
  obtain ⟨g, off, ea, hc⟩ := h hn
  refine ⟨g, off, ea, fun i hi => ?_⟩
  obtain ⟨y, hy, hr⟩ := hc i hi
  exact ⟨y, (hb.cell (World.block_lt_of_cell? _ _ hy)).trans hy, row1_below (B := 0) hr hb⟩
theorem row2_drewN {w : World} {v : Value} {ll : List (List ByteArray)} (h : Row2 w v ll) (j : Nat) : Row2 (w.drewN j) v ll := row2_below (B := 0) h (below_drewN (Below.refl _ _) j)

set_option maxRecDepth 100000 in
set_option maxHeartbeats 6000000 in
theorem walk (ll : List (List ByteArray)) (n : Nat) (hn : ll.length = n) (a : Option Addr) (cap : Nat) (w : World) (hl : n ≤ 5864062014804) (hm : ∀ i, i < n → (ll.getD i []).length ≤ 8796093022207) (hx : Row2 w (.slice a n cap) ll) (htab : TB w.heap.size w) :
    Calls Tryd.prog 3 #[.slice a n cap] w fun e w' => e = .returned (.bool true) ∧ Below w.heap.size w w' := by
  have HX := jhid hx
  have HN := jhid hn
  have HM := jhid hm
  have HT := jhid htab
  have hml : ∀ l ∈ ll, l.length ≤ 8796093022207 := by
    intro l hl
    obtain ⟨i, hi⟩ := List.getElem?_of_mem hl
    have hi' := (List.getElem?_eq_some_iff.1 hi).1
    have := hm i (by omega)
    rwa [List.getD_eq_getElem?_getD, hi] at this
  have HML := jhid hml
  have HWL := jhid (wrL_len ll)
  clear hx hn hm htab hml
  go_enter Tryd.func3, Tryd.ntmps3
  go_wp2_with fail
  refine (twin4 ll n HN.out a cap w hl HM.out HX.out).mono ?_
  rintro e w1 ⟨vin, rfl, hown1, hb1⟩
  have HOWN1 := jhid hown1
  have HB1 := jhid hb1
  clear hown1 hb1
  go_wp2_with fail
  refine (write5 ll n HN.out a cap w1 (by omega) HM.out (row2_below (B := 0) HX.out HB1.out) (tb_next HT.out HB1.out)).mono ?_
  rintro e w2 ⟨vx, rfl, hox, hb2⟩
  have HOX := jhid hox
  have HB2 := jhid hb2
  clear hox hb2
  have hs1 := HB1.out.size
  have hs2 := HB2.out.size
  have hin2 : Own2 w2 w.heap.size w1.heap.size vin ll := own2_kept HOWN1.out (Kept.ofBelow HB2.out) (fun k _ h => h)
  have HIN2 := jhid hin2
  clear hin2
  obtain ⟨ain, cin, ein, _⟩ := own2_row HIN2.out
  rw [HN.out] at ein
  subst ein
  have hb02 : Below w.heap.size w w2 := HB1.out.trans (HB2.out.mono (by omega))
  have HB02 := jhid hb02
  clear hb02
  go_wp2_with fail
  refine (write6 ll n HN.out ain cin w2 (by omega) HM.out (own2_row HIN2.out) (tb_next HT.out HB02.out |> fun h => h)).mono ?_
  rintro e w3 ⟨va, rfl, hoa, hb3⟩
  have HOA := jhid hoa
  have HB3 := jhid hb3
  clear hoa hb3
  have hs3 := HB3.out.size
  have hin3 : Own2 w3 w.heap.size w1.heap.size (.slice ain n cin) ll := own2_kept HIN2.out (Kept.ofBelow HB3.out) (fun k _ h => by omega)
  have HIN3 := jhid hin3
  have hb03 : Below w.heap.size w w3 := HB02.out.trans (HB3.out.mono (by omega))
  have HB03 := jhid hb03
  clear hin3 hb03
  go_wp2_with fail
  refine (write6 ll n HN.out ain cin w3 (by omega) HM.out (own2_row HIN3.out) (tb_next HT.out HB03.out |> fun h => h)).mono ?_
  rintro e w4 ⟨vb, rfl, hob, hb4⟩
  have HOB := jhid hob
  have HB4 := jhid hb4
  clear hob hb4
  have hs4 := HB4.out.size
  have hin4 : Own2 w4 w.heap.size w1.heap.size (.slice ain n cin) ll := own2_kept HIN3.out (Kept.ofBelow HB4.out) (fun k _ h => by omega)
  have hx4 : w4.ownsRow w1.heap.size 5 1 vx (wrL ll).length ((wrL ll).map (Value.int .u8)) := ownsRow_kept ((Kept.ofBelow (B := w2.heap.size) (HB3.out.trans (HB4.out.mono hs3)))) HOX.out (fun k e => (HOX.out.lt k e).2)
  have ha4 : w4.ownsRow w2.heap.size 5 1 va (wrL ll).length ((wrL ll).map (Value.int .u8)) := ownsRow_kept (Kept.ofBelow HB4.out) HOA.out (fun k e => (HOA.out.lt k e).2)
  have hb04 : Below w.heap.size w w4 := HB03.out.trans (HB4.out.mono (by omega))
  have hal : ∀ k, va.ownBlock = some k → k < w3.heap.size := fun k e => (HOA.out.lt k e).2
  have hxl : ∀ k, vx.ownBlock = some k → k < w2.heap.size := fun k e => (HOX.out.lt k e).2
  have HIN4 := jhid hin4
  have HX4 := jhid hx4
  have HA4 := jhid ha4
  have HB04 := jhid hb04
  have HAL := jhid hal
  have HXL := jhid hxl
  clear hin4 hx4 ha4 hb04 hal hxl
  go_wp2_with fail
  refine (bsame (wrL ll) va vx w4 (rowb_own HA4.out) (rowb_own HX4.out) (by have := HWL.out; omega)).mono ?_
  rintro e w5 ⟨rfl, j1, rfl⟩
  go_wp2_with fail
  refine (bsame (wrL ll) vb vx (w4.drewN j1) (rowb_own (ownsRow_kept ((Kept.refl (fun _ => True) w4).drewN j1) HOB.out (fun _ _ => trivial))) (rowb_own (ownsRow_kept ((Kept.refl (fun _ => True) w4).drewN j1) HX4.out (fun _ _ => trivial))) (by have := HWL.out; omega)).mono ?_
  rintro e w5 ⟨rfl, j2, rfl⟩
  go_wp2_with fail
  have hin5 : Row2 (w4.drewN (j1 + j2)) (.slice ain n cin) ll := row2_drewN (own2_row HIN4.out) _
  have hef5 : Row2 (w4.drewN (j1 + j2)) (.slice a n cap) ll := row2_drewN (row2_below (B := 0) HX.out HB04.out) _
  refine (sameC ll (.slice ain n cin) (.slice a n cap) _ hin5 hef5 (by rw [HN.out]; omega) (fun l hl => by have := HML.out l hl; omega)).mono ?_
  clear hin5 hef5
  rintro e w5 ⟨rfl, j3, rfl⟩
  obtain ⟨w5, hw5⟩ : ∃ w5, w5 = (w4.drewN (j1 + j2)).drewN j3 := ⟨_, rfl⟩
  have hk5 : Kept (fun _ => True) w4 w5 := by rw [hw5]; exact ((Kept.refl _ _).drewN (j1 + j2)).drewN j3
  rw [← hw5]
  have HK5 := jhid hk5
  have hs5 := hk5.size
  clear hw5 hk5
  obtain ⟨aa, ca, rfl, _⟩ := own_form HA4.out
  go_wp2_with fail
  refine (spoilBytesG (wrL ll) w2.heap.size aa _ ca w5 rfl (by have := HWL.out; omega) (by omega) (ownsRow_kept HK5.out HA4.out (fun _ _ => trivial))).mono ?_
  rintro e w6 ⟨rfl, hk6⟩
  have HK6 := jhid hk6
  have hs6 := hk6.size
  clear hk6
  have hin6 : Own2 w6 w.heap.size w1.heap.size (.slice ain n cin) ll :=
    own2_kept (own2_kept HIN4.out HK5.out (fun _ _ _ => trivial)) HK6.out (fun k _ h e => by have := (HA4.out.lt k e).1; omega)
  have HIN6 := jhid hin6
  clear hin6
  go_wp2_with fail
  refine (spoilC ll w.heap.size w1.heap.size (.slice ain n cin) w6 HIN6.out (by omega) (by omega) (by rw [HN.out]; omega) HML.out).mono ?_
  rintro e w7 ⟨rfl, hk7⟩
  have HK7 := jhid hk7
  have hs7 := hk7.size
  clear hk7
  have hb7 : w7.ownsRow w3.heap.size 5 1 vb (wrL ll).length ((wrL ll).map (Value.int .u8)) :=
    ownsRow_kept HK7.out (ownsRow_kept HK6.out (ownsRow_kept HK5.out HOB.out (fun _ _ => trivial)) (fun k e e2 => by have := (HOB.out.lt k e).1; have := HAL.out k e2; omega)) (fun k e => by have := (HOB.out.lt k e).1; right; omega)
  have hx7 : w7.ownsRow w1.heap.size 5 1 vx (wrL ll).length ((wrL ll).map (Value.int .u8)) :=
    ownsRow_kept HK7.out (ownsRow_kept HK6.out (ownsRow_kept HK5.out HX4.out (fun _ _ => trivial)) (fun k e e2 => by have := (HA4.out.lt k e2).1; have := HXL.out k e; omega)) (fun k e => by have := (HX4.out.lt k e).1; right; omega)
  have hend : Below w.heap.size w w7 := by
    have h5 : Below w.heap.size w w5 := HB04.out.trans (HK5.out.below (by omega) (fun _ _ => trivial))
    have h6 : Below w.heap.size w w6 := h5.trans (HK6.out.below (by omega) (fun k h e => by have := (HA4.out.lt k e).1; omega))
    exact h6.trans (HK7.out.below (by omega) (fun k h => .inl h))
  have HB7 := jhid hb7
  have HX7 := jhid hx7
  have HEND := jhid hend
  clear hb7 hx7 hend
  go_wp2_with fail
  refine (bsame (wrL ll) vb vx w7 (rowb_own HB7.out) (rowb_own HX7.out) (by have := HWL.out; omega)).mono ?_
  rintro e w8 ⟨rfl, j4, rfl⟩
  go_wp2_with fail
  go_ret
  exact ⟨rfl, below_drewN HEND.out j4⟩

theorem own : ownKnob Tryd.prog.godebug = none := by kernel_rfl
theorem laidOut : laidOutB Tryd.prog = true := by kernel_rfl
theorem cells4 : Tryd.prog.cellsOf 33 = 1 := by kernel_rfl

/-- The door's own heap meets the condition. -/
theorem door_met (os : Os) (args : Array Value) : laidMetH Tryd.prog Rows.journalWritesRow.laid ((World.doorLaid Tryd.prog 400 os).forCall (fun _ _ => 0) ⟨#[], args, []⟩).memory :=
  laidMetH_of_parts3 (fuel := 8) (laidMet_of_run' 8 (by kernel_rfl) (by kernel_rfl)) (by kernel_rfl) (by kernel_rfl)
end Go.Proofs.YthhjnjghlmaicaaDoor.jr
