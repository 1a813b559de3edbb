/- reply: Int, Bulk, Simple, Null, Error; digit.Text, Add. -/
import Derived.Test.YthmbhkgllfngmaaGreatDoorKsE
import Derived.Test.YthmbhkgllfngmaaGreatDoorKsD
import Derived.Test.YthmbhkgllfngmaaGreatDoorShelf
import Derived.Laws.ResultCell
import Derived.Lib.ConvBytes
import Derived.Laws.IdiomStrings
/- verbs: Find. -/
namespace Go.Proofs.YthmbhkgllfngmaaGreatDoor.ks
open Go.ChangeShapes Go.WideShapes Go.RowKit
set_option linter.unusedVariables false
set_option linter.unusedSimpArgs false
def VRow.val (r : VRow) : Value := .agg r.cells.toArray
set_option maxHeartbeats 400000 in
theorem find1C (r : VRow) (s : ByteArray) (w : World) :
    Calls Tryz.prog 122 #[r.val, .string s] w fun e w' => e = .returned (.int .i64 (Lib.compareBytes r.name s.data.toList)) ∧ Keeps [] w w' := by
  obtain ⟨nm, a, f, g, l, j⟩ := r
  unfold VRow.val VRow.cells
  simp only
  go_enter Tryz.func122, Tryz.ntmps122
  go_wp2_with (go_at_call 123; refine (Tryz.strings_Compare _ _ _).mono ?_; rintro e w' ⟨rfl, rfl⟩)
  go_ret
  exact ⟨rfl, (Keeps.refl _ _).alloc _⟩
/-- Where a word is sought among rows that rise: the first that is not less. -/
structure Bs (l : List VRow) (t : List UInt8) (i j : Nat) : Prop where
  le : i ≤ j
  n : j ≤ l.length
  lo : ∀ p r, p < i → l[p]? = some r → Lib.compareBytes r.name t < 0
  hi : ∀ p r, j ≤ p → l[p]? = some r → 0 ≤ Lib.compareBytes r.name t
/-- A table in memory. -/
def TabV (w : World) (b : Nat) (l : List VRow) : Prop := w.heap[b]? = some (.cells (l.flatMap VRow.cells).toArray 79 (0, 0))
theorem cells_len (r : VRow) : r.cells.length = 6 := rfl
theorem flat_at : ∀ (l : List VRow) (i j : Nat) (r : VRow), l[i]? = some r → j < 6 → (l.flatMap VRow.cells)[i * 6 + j]? = r.cells[j]?
  | [], i, j, r, h, hj => by simp at h
  | x :: l, 0, j, r, h, hj => by
    simp at h; subst h
    rw [List.flatMap_cons, List.getElem?_append_left (by rw [cells_len]; omega)]
    simp
  | x :: l, i + 1, j, r, h, hj => by
    simp at h
    rw [List.flatMap_cons, List.getElem?_append_right (by rw [cells_len]; omega), cells_len, show (i + 1) * 6 + j - 6 = i * 6 + j by omega]
    exact flat_at l i j r h hj
theorem tab_cell {w : World} {b : Nat} {l : List VRow} (h : TabV w b l) {i : Nat} {r : VRow} (hi : l[i]? = some r) {j : Nat} (hj : j < 6) : w.cell? ⟨b, i * 6 + j, none⟩ = r.cells[j]? := by
  unfold TabV at h
  rw [cell_at h, List.getElem?_toArray, flat_at l i j r hi hj]
set_option maxRecDepth 100000 in
set_option maxHeartbeats 1000000 in
theorem bsC (l : List VRow) (b : Nat) (s : ByteArray) (w : World) (h : TabV w b l) (hn : l.length ≤ 1000)
    (hsort : ∀ (i j : Nat) (ri rj : VRow), i < j → l[i]? = some ri → l[j]? = some rj → (0 ≤ Lib.compareBytes ri.name s.data.toList → 0 ≤ Lib.compareBytes rj.name s.data.toList) ∧ (Lib.compareBytes rj.name s.data.toList < 0 → Lib.compareBytes ri.name s.data.toList < 0) ∧ (0 < Lib.compareBytes ri.name s.data.toList → 0 < Lib.compareBytes rj.name s.data.toList)) :
    Calls Tryz.prog 121 #[.slice (some ⟨b, 0, none⟩) l.length l.length, .string s, .func (.func 122) #[] #[]] w fun e w' =>
      ∃ i f, e = .returned (.tuple #[.int .i64 (i : Nat), .bool f]) ∧ Keeps [] w w' ∧ i ≤ l.length ∧ (f = true → ∃ r, l[i]? = some r ∧ Lib.compareBytes r.name s.data.toList = 0) ∧ (f = false → ∀ r ∈ l, Lib.compareBytes r.name s.data.toList ≠ 0) := by
  generalize hln : l.length = n at hn ⊢
  have HL := khid hln
  have HT := khid h
  have HSO := khid hsort
  clear h hsort hln
  go_enter Tryz.func121, Tryz.ntmps121
  go_wp2_with fail
  go_loopw [9, 10] (fun x y wr => ∃ i j : Nat, x = .int .i64 (i : Int) ∧ y = .int .i64 (j : Int) ∧ Hid (Bs l s.data.toList i j ∧ Keeps [] w wr)) (fun x y _ => ((intOf y) - (intOf x)).toNat)
  case atStart => exact ⟨0, n, rfl, rfl, khid ⟨⟨Nat.zero_le _, by rw [HL.out]; exact Nat.le_refl _, fun p r hp => by omega, fun p r hp hr => by rw [List.getElem?_eq_none (by rw [HL.out]; exact hp)] at hr; cases hr⟩, Keeps.refl _ _⟩⟩
  case round =>
    obtain ⟨i, j, rfl, rfl, HB⟩ := hrel
    have hle := HB.out.1.le
    have hjn := HB.out.1.n
    rw [HL.out] at hjn
    have HTR : Hid (TabV wr b l) := khid (HB.out.2.get HT.out (by simp))
    by_cases hlt2 : i < j
    · obtain ⟨m, hm⟩ : ∃ m, m = (i + j) / 2 := ⟨_, rfl⟩
      have hm1 : i ≤ m := by omega
      have hm2 : m < j := by omega
      have hmi : ((i : Int) + (j : Int)) / 2 = (m : Int) := by rw [hm]; omega
      obtain ⟨r, hr⟩ : ∃ r, l[m]? = some r := ⟨_, List.getElem?_eq_getElem (by rw [HL.out]; omega)⟩
      have c0 := tab_cell HTR.out hr (j := 0) (by decide)
      have c1 := tab_cell HTR.out hr (j := 1) (by decide)
      have c2 := tab_cell HTR.out hr (j := 2) (by decide)
      have c3 := tab_cell HTR.out hr (j := 3) (by decide)
      have c4 := tab_cell HTR.out hr (j := 4) (by decide)
      have c5 := tab_cell HTR.out hr (j := 5) (by decide)
      have HR := khid hr
      have HM := khid hm
      clear hr hm
      have HF := khid (find1C r s wr)
      obtain ⟨c, hc⟩ : ∃ c, c = Lib.compareBytes r.name s.data.toList := ⟨_, rfl⟩
      rw [← hc] at HF
      have HC := khid hc
      clear hc
      unfold VRow.cells at c0 c1 c2 c3 c4 c5
      simp only [List.getElem?_cons_zero, List.getElem?_cons_succ, Nat.add_zero] at c0 c1 c2 c3 c4 c5
      have hmn : (m : Int) < (n : Int) := by omega
      have hm0 : (0 : Int) ≤ (m : Int) := by omega
      go_wp2_with fail
      refine HF.out.mono ?_
      rintro e w2 ⟨rfl, hk2⟩
      have HK2 := khid hk2
      clear hk2 c0 c1 c2 c3 c4 c5
      by_cases hcl : c < 0
      · go_wp2_with fail
        go_roundw
        case rel =>
          refine ⟨m + 1, j, by go_num, rfl, khid ⟨⟨by omega, HB.out.1.n, fun p q hp hq => ?_, HB.out.1.hi⟩, HB.out.2.trans HK2.out⟩⟩
          by_cases hpm : p = m
          · subst hpm
            rw [HR.out] at hq
            obtain rfl := Option.some.inj hq
            rw [← HC.out]; exact hcl
          · exact (HSO.out p m q r (by omega) hq HR.out).2.1 (by rw [← HC.out]; exact hcl)
        case measure => simp [intOf]; omega
      · have hcd : decide (c < 0) = false := by simpa using hcl
        go_wp2_with fail
        go_roundw
        case rel =>
          refine ⟨i, m, rfl, rfl, khid ⟨⟨hm1, by rw [HL.out]; omega, HB.out.1.lo, fun p q hp hq => ?_⟩, HB.out.2.trans HK2.out⟩⟩
          by_cases hpm : p = m
          · subst hpm
            rw [HR.out] at hq
            obtain rfl := Option.some.inj hq
            rw [← HC.out]; omega
          · exact (HSO.out m p r q (by omega) HR.out hq).1 (by rw [← HC.out]; omega)
        case measure => simp [intOf]; omega
    · obtain rfl : i = j := by omega
      by_cases hin : i < n
      · obtain ⟨r, hr⟩ : ∃ r, l[i]? = some r := ⟨_, List.getElem?_eq_getElem (by rw [HL.out]; omega)⟩
        have c0 := tab_cell HTR.out hr (j := 0) (by decide)
        have c1 := tab_cell HTR.out hr (j := 1) (by decide)
        have c2 := tab_cell HTR.out hr (j := 2) (by decide)
        have c3 := tab_cell HTR.out hr (j := 3) (by decide)
        have c4 := tab_cell HTR.out hr (j := 4) (by decide)
        have c5 := tab_cell HTR.out hr (j := 5) (by decide)
        have HR := khid hr
        have HF := khid (find1C r s wr)
        obtain ⟨c, hc⟩ : ∃ c, c = Lib.compareBytes r.name s.data.toList := ⟨_, rfl⟩
        rw [← hc] at HF
        have HC := khid hc
        clear hc hr
        unfold VRow.cells at c0 c1 c2 c3 c4 c5
        simp only [List.getElem?_cons_zero, List.getElem?_cons_succ, Nat.add_zero] at c0 c1 c2 c3 c4 c5
        have hmn : (i : Int) < (n : Int) := by omega
        have hm0 : (0 : Int) ≤ (i : Int) := by omega
        go_wp2_with fail
        refine HF.out.mono ?_
        rintro e w2 ⟨rfl, hk2⟩
        have HK2 := khid hk2
        clear hk2 c0 c1 c2 c3 c4 c5
        go_wp2_with fail
        go_ret2
        refine ⟨i, c == 0, rfl, HB.out.2.trans HK2.out, by omega, fun hf => ⟨r, HR.out, by rw [← HC.out]; simpa using hf⟩, fun hf q hq => ?_⟩
        obtain ⟨p, hp⟩ := List.getElem?_of_mem hq
        by_cases h1 : p < i
        · have := HB.out.1.lo p q h1 hp; omega
        · by_cases h2 : p = i
          · subst h2
            rw [HR.out] at hp
            obtain rfl := Option.some.inj hp
            rw [← HC.out]; simpa using hf
          · have h3 := HB.out.1.hi i r (Nat.le_refl _) HR.out
            have h4 : c ≠ 0 := by simpa using hf
            have h5 := (HSO.out i p r q (by omega) HR.out hp).2.2 (by rw [← HC.out] at h3 ⊢; omega)
            omega
      · have hd : decide ((i : Int) < (n : Int)) = false := by simp; omega
        go_wp2_with fail
        go_ret2
        refine ⟨i, false, rfl, HB.out.2, by omega, (fun hf => by cases hf), fun _ q hq => ?_⟩
        obtain ⟨p, hp⟩ := List.getElem?_of_mem hq
        have hpl := (List.getElem?_eq_some_iff.1 hp).1
        rw [HL.out] at hpl
        have := HB.out.1.lo p q (by omega) hp
        omega
end Go.Proofs.YthmbhkgllfngmaaGreatDoor.ks
/- verbs: the tables rise; parts. -/
namespace Go.Proofs.YthmbhkgllfngmaaGreatDoor.ks
open Go.ChangeShapes Go.WideShapes Go.RowKit
set_option linter.unusedVariables false
set_option linter.unusedSimpArgs false
theorem cmp_eq : ∀ (a b : List UInt8), Lib.compareBytes a b = 0 ↔ a = b
  | [], [] => by simp [Lib.compareBytes]
  | [], y :: b => by simp [Lib.compareBytes]
  | x :: a, [] => by simp [Lib.compareBytes]
  | x :: a, y :: b => by
    have ih := cmp_eq a b
    unfold Lib.compareBytes
    split
    · rename_i h
      constructor
      · intro h2; omega
      · intro h2; simp at h2; rw [h2.1] at h; simp at h
    · split
      · rename_i h h1
        constructor
        · intro h2; omega
        · intro h2; simp at h2; rw [h2.1] at h1; simp at h1
      · rename_i h1 h2
        rw [ih]
        have : x = y := by
          apply UInt8.toNat.inj
          simp [UInt8.lt_iff_toNat_lt] at h1 h2
          omega
        simp [this]
theorem cmp_neg : ∀ (a b : List UInt8), Lib.compareBytes b a = - Lib.compareBytes a b
  | [], [] => by simp [Lib.compareBytes]
  | [], y :: b => by simp [Lib.compareBytes]
  | x :: a, [] => by simp [Lib.compareBytes]
  | x :: a, y :: b => by
    have ih := cmp_neg a b
    unfold Lib.compareBytes
    by_cases h1 : x < y
    · have h2 : ¬ y < x := by simp [UInt8.lt_iff_toNat_lt] at h1 ⊢; omega
      simp [h1, h2]
    · by_cases h2 : y < x
      · simp [h1, h2]
      · simp [h1, h2, ih]
theorem cmp_trans : ∀ (a b c : List UInt8), Lib.compareBytes a b < 0 → Lib.compareBytes b c < 0 → Lib.compareBytes a c < 0
  | [], [], c, h1, h2 => by simp [Lib.compareBytes] at h1
  | [], y :: b, [], h1, h2 => by simp [Lib.compareBytes] at h2
  | [], y :: b, z :: c, h1, h2 => by simp [Lib.compareBytes]
  | x :: a, [], c, h1, h2 => by simp [Lib.compareBytes] at h1
  | x :: a, y :: b, [], h1, h2 => by simp [Lib.compareBytes] at h2
  | x :: a, y :: b, z :: c, h1, h2 => by
    have ih := cmp_trans a b c
    unfold Lib.compareBytes at h1 h2 ⊢
    by_cases e1 : x < y
    · by_cases e2 : y < z
      · have : x < z := by simp [UInt8.lt_iff_toNat_lt] at e1 e2 ⊢; omega
        simp [this]
      · by_cases e3 : z < y
        · simp [e2, e3] at h2
        · have : x < z := by simp [UInt8.lt_iff_toNat_lt] at e1 e2 e3 ⊢; omega
          simp [this]
    · by_cases e4 : y < x
      · simp [e1, e4] at h1
      · simp only [e1, e4, if_false] at h1
        have hxy : x = y := by apply UInt8.toNat.inj; simp [UInt8.lt_iff_toNat_lt] at e1 e4; omega
        subst hxy
        by_cases e2 : x < z
        · simp [e2]
        · by_cases e3 : z < x
          · simp [e2, e3] at h2
          · simp only [e2, e3, if_false] at h2 ⊢
            exact ih h1 h2
def riseB : List VRow → Bool
  | r :: q :: l => decide (Lib.compareBytes r.name q.name < 0) && riseB (q :: l)
  | _ => true
theorem rise_first : ∀ (l : List VRow) (r : VRow), riseB (r :: l) = true → ∀ q ∈ l, Lib.compareBytes r.name q.name < 0
  | [], r, h, q, hq => by simp at hq
  | x :: l, r, h, q, hq => by
    unfold riseB at h
    simp only [Bool.and_eq_true, decide_eq_true_eq] at h
    rcases List.mem_cons.1 hq with rfl | hq
    · exact h.1
    · exact cmp_trans _ _ _ h.1 (rise_first l x h.2 q hq)
theorem rise_tail {r : VRow} {l : List VRow} (h : riseB (r :: l) = true) : riseB l = true := by
  cases l with
  | nil => rfl
  | cons q l => unfold riseB at h; simp only [Bool.and_eq_true] at h; exact h.2
theorem rise_at (l : List VRow) : riseB l = true → ∀ (i j : Nat) (ri rj : VRow), i < j → l[i]? = some ri → l[j]? = some rj → Lib.compareBytes ri.name rj.name < 0 := by
  induction l with
  | nil => intro h i j ri rj hij hi; cases hi
  | cons x l ih =>
    intro h i j ri rj hij hi hj
    cases j with
    | zero => omega
    | succ j =>
      rw [List.getElem?_cons_succ] at hj
      cases i with
      | zero =>
        rw [List.getElem?_cons_zero] at hi
        obtain rfl := Option.some.inj hi
        exact rise_first l x h rj (List.mem_of_getElem? hj)
      | succ i =>
        rw [List.getElem?_cons_succ] at hi
        exact ih (rise_tail h) i j ri rj (by omega) hi hj
theorem rise_sort {l : List VRow} (h : riseB l = true) (t : List UInt8) : ∀ (i j : Nat) (ri rj : VRow), i < j → l[i]? = some ri → l[j]? = some rj →
    (0 ≤ Lib.compareBytes ri.name t → 0 ≤ Lib.compareBytes rj.name t) ∧ (Lib.compareBytes rj.name t < 0 → Lib.compareBytes ri.name t < 0) ∧ (0 < Lib.compareBytes ri.name t → 0 < Lib.compareBytes rj.name t) := by
  intro i j ri rj hij hi hj
  have hlt := rise_at l h i j ri rj hij hi hj
  have h2 : Lib.compareBytes rj.name t < 0 → Lib.compareBytes ri.name t < 0 := cmp_trans _ _ _ hlt
  refine ⟨fun h1 => ?_, h2, fun h1 => ?_⟩
  · by_cases hc : Lib.compareBytes rj.name t < 0
    · have := h2 hc; omega
    · omega
  · have h3 : Lib.compareBytes t ri.name < 0 := by rw [cmp_neg]; omega
    have h4 := cmp_trans _ _ _ h3 hlt
    rw [cmp_neg] at h4; omega
theorem riseA : riseB rowsA = true := by decide +kernel
theorem riseBB : riseB rowsB = true := by decide +kernel
theorem riseC : riseB rowsC = true := by decide +kernel
theorem lenA : rowsA.length = 40 := rfl
theorem lenB : rowsB.length = 40 := rfl
theorem lenC2 : rowsC.length = 33 := rfl
set_option maxHeartbeats 1000000 in
theorem partsC (w : World) : Calls Tryz.prog 120 #[] w fun r w' => ∃ a b c, r = .returned (.agg #[.slice (some ⟨a, 0, none⟩) 40 40, .slice (some ⟨b, 0, none⟩) 40 40, .slice (some ⟨c, 0, none⟩) 33 33]) ∧ TabV w' a rowsA ∧ TabV w' b rowsB ∧ TabV w' c rowsC ∧ Keeps [] w w' := by
  go_enter Tryz.func120, Tryz.ntmps120
  go_wp2_with fail
  generalize hw0 : w.alloc _ = w0
  have h0 : w0.heap[w.heap.size]? = some (.cells #[.slice none 0 0, .slice none 0 0, .slice none 0 0] 188 (0, 0)) := by rw [← hw0]; exact alloc_new _ _
  have k0 : Keeps [] w w0 := by rw [← hw0]; exact (Keeps.refl _ _).alloc _
  have z0 : w.heap.size < w0.heap.size := by rw [← hw0]; simp
  clear hw0
  refine (rowsAC _).mono ?_
  rintro r w1 ⟨rfl, hw1⟩
  have t1 : TabV w1 w0.heap.size rowsA := by rw [hw1]; exact alloc_new _ _
  have k1 : Keeps [] w0 w1 := by rw [hw1]; exact (Keeps.refl _ _).alloc _
  clear hw1
  generalize w0.heap.size = a at t1 z0 ⊢
  have T1 := khid t1
  have K1 := khid k1
  have K0 := khid k0
  have H0 := khid h0
  clear t1 k1 k0 h0
  go_wp2_with fail
  refine (rowsBC _).mono ?_
  rintro r w2 ⟨rfl, hw2⟩
  have t2 : TabV w2 w1.heap.size rowsB := by rw [hw2]; exact alloc_new _ _
  have k2 : Keeps [] w1 w2 := by rw [hw2]; exact (Keeps.refl _ _).alloc _
  clear hw2
  have z1 : a < w1.heap.size := hlt T1.out
  generalize w1.heap.size = b at t2 z1 ⊢
  have T2 := khid t2
  have K2 := khid k2
  clear t2 k2
  go_wp2_with fail
  refine (rowsCC _).mono ?_
  rintro r w3 ⟨rfl, hw3⟩
  have t3 : TabV w3 w2.heap.size rowsC := by rw [hw3]; exact alloc_new _ _
  have k3 : Keeps [] w2 w3 := by rw [hw3]; exact (Keeps.refl _ _).alloc _
  clear hw3
  have z2 : b < w2.heap.size := hlt T2.out
  generalize w2.heap.size = c at t3 z2 ⊢
  have T3 := khid t3
  have hx : w3.heap[w.heap.size]? = some (.cells #[.slice none 0 0, .slice none 0 0, .slice none 0 0] 188 (0, 0)) := k3.get (K2.out.get (K1.out.get H0.out (by simp)) (by simp)) (by simp)
  have K3 := khid k3
  have c0 : w3.cell? ⟨w.heap.size, 0, none⟩ = some (.slice none 0 0) := by rw [cell_at hx]; rfl
  have c1 : w3.cell? ⟨w.heap.size, 1, none⟩ = some (.slice none 0 0) := by rw [cell_at hx]; rfl
  have c2 : w3.cell? ⟨w.heap.size, 2, none⟩ = some (.slice none 0 0) := by rw [cell_at hx]; rfl
  have f0 : w3.frozen? ⟨w.heap.size, 0, none⟩ = false := free_at hx 0
  have f1 : w3.frozen? ⟨w.heap.size, 1, none⟩ = false := free_at hx 1
  have f2 : w3.frozen? ⟨w.heap.size, 2, none⟩ = false := free_at hx 2
  have HX := khid hx
  clear t3 k3 hx
  go_wp2_with fail
  have HS : ∀ (v0 v1 v2 : Value) (k : Nat), k ≠ w.heap.size → (((w3.setCell ⟨w.heap.size, 0, none⟩ v0).setCell ⟨w.heap.size, 1, none⟩ v1).setCell ⟨w.heap.size, 2, none⟩ v2).heap[k]? = w3.heap[k]? := fun v0 v1 v2 k hk => by
    rw [set_other (b := k) _ hk, set_other (b := k) _ hk, set_other (b := k) _ hk]
  refine bodyPost_ret (v := .agg #[.slice (some ⟨a, 0, none⟩) 40 40, .slice (some ⟨b, 0, none⟩) 40 40, .slice (some ⟨c, 0, none⟩) 33 33]) (by simp [results, Tryz.results120, go_sem]; go_simp) rfl ?_
  refine ⟨a, b, c, rfl, ?_, ?_, ?_, ?_⟩
  · exact (HS _ _ _ a (by omega)).trans (K3.out.get (K2.out.get T1.out (by simp)) (by simp))
  · exact (HS _ _ _ b (by omega)).trans (K3.out.get T2.out (by simp))
  · exact (HS _ _ _ c (by omega)).trans T3.out
  · exact ((((((K0.out.trans K1.out).trans K2.out).trans K3.out).setCell (p := ⟨w.heap.size, 0, none⟩) (.inr (Nat.le_refl _)) _).setCell (p := ⟨w.heap.size, 1, none⟩) (.inr (Nat.le_refl _)) _).setCell (p := ⟨w.heap.size, 2, none⟩) (.inr (Nat.le_refl _)) _)
end Go.Proofs.YthmbhkgllfngmaaGreatDoor.ks
/- verbs: Upper. -/
namespace Go.Proofs.YthmbhkgllfngmaaGreatDoor.ks
open Go.ChangeShapes Go.WideShapes Go.RowKit
set_option linter.unusedVariables false
set_option linter.unusedSimpArgs false
def upB (c : UInt8) : UInt8 := if 97 ≤ c.toNat ∧ c.toNat ≤ 122 then UInt8.ofNat (c.toNat - 32) else c
def upS (s : ByteArray) : ByteArray := ⟨(s.data.toList.map upB).toArray⟩
theorem upB_yes {c : UInt8} (h1 : 97 ≤ c.toNat) (h2 : c.toNat ≤ 122) : ((upB c).toNat : Int) = (c.toNat : Int) - 32 := by
  unfold upB
  rw [if_pos ⟨h1, h2⟩]
  simp
  omega
theorem upB_no {c : UInt8} (h : ¬ (97 ≤ c.toNat ∧ c.toNat ≤ 122)) : upB c = c := if_neg h
/-- The bytes, of which so many are turned. -/
structure UpR (w wr : World) (B n : Nat) (l : List UInt8) (k : Nat) : Prop where
  kp : Keeps [] w wr
  c : ∀ j b, l[j]? = some b → wr.cell? ⟨B, j, none⟩ = some (.int .u8 ((if j < k then upB b else b).toNat : Int))
  f : ∀ j, j < n → wr.frozen? ⟨B, j, none⟩ = false
theorem cell_set_same {w : World} {a : Addr} {v v0 : Value} (h : w.cell? a = some v0) : (w.setCell a v).cell? a = some v := by
  obtain ⟨b, o, spt⟩ := a
  obtain rfl : spt = none := World.cell?_spot h
  unfold World.cell? at h
  split at h
  · rename_i c t fz hb
    simp at h
    have := set_same hb o v
    rw [cell_at this, Array.getElem?_setIfInBounds]
    have hl := (Array.getElem?_eq_some_iff.1 h).1
    simp [hl]
  · cases h
theorem cell_set_other {w : World} {b o p : Nat} (v : Value) (h : o ≠ p) : (w.setCell ⟨b, o, none⟩ v).cell? ⟨b, p, none⟩ = w.cell? ⟨b, p, none⟩ := by
  unfold World.cell? World.setCell
  simp only [Array.getElem?_modify, if_true]
  cases w.heap[b]? with
  | none => rfl
  | some x => cases x <;> simp [Array.getElem?_setIfInBounds, h]
theorem frozen_set {w : World} {a : Addr} (v : Value) (q : Addr) : (w.setCell a v).frozen? q = w.frozen? q := by
  unfold World.frozen? World.setCell
  simp only [Array.getElem?_modify]
  by_cases h : a.block = q.block
  · rw [if_pos h]
    cases w.heap[q.block]? with
    | none => rfl
    | some x => cases x <;> rfl
  · rw [if_neg h]
theorem up_step {w wr : World} {B n : Nat} {l : List UInt8} {k : Nat} {b : UInt8} (h : UpR w wr B n l k) (hB : w.heap.size ≤ B) (hb : l[k]? = some b) (v : Int) (hv : v = ((upB b).toNat : Int)) : UpR w (wr.setCell ⟨B, k, none⟩ (.int .u8 v)) B n l (k + 1) := by
  subst hv
  refine ⟨h.kp.setCell (p := ⟨B, k, none⟩) (.inr hB) _, fun j c hj => ?_, fun j hj => by rw [frozen_set]; exact h.f j hj⟩
  by_cases hjk : k = j
  · subst hjk
    rw [hb] at hj
    obtain rfl := Option.some.inj hj
    rw [cell_set_same (h.c k b hb), if_pos (by omega)]
  · rw [cell_set_other _ hjk, h.c j c hj]
    by_cases h2 : j < k
    · rw [if_pos h2, if_pos (by omega)]
    · rw [if_neg h2, if_neg (by omega)]
theorem up_skip {w wr : World} {B n : Nat} {l : List UInt8} {k : Nat} {b : UInt8} (h : UpR w wr B n l k) (hb : l[k]? = some b) (hv : upB b = b) : UpR w wr B n l (k + 1) := by
  refine ⟨h.kp, fun j c hj => ?_, h.f⟩
  rw [h.c j c hj]
  by_cases hjk : k = j
  · subst hjk
    rw [hb] at hj
    obtain rfl := Option.some.inj hj
    rw [if_neg (by omega), if_pos (by omega), hv]
  · by_cases h2 : j < k
    · rw [if_pos h2, if_pos (by omega)]
    · rw [if_neg h2, if_neg (by omega)]
theorem up_start (w : World) (s : ByteArray) : UpR w (Lib.bytesWorld w 5 s) w.heap.size s.size s.data.toList 0 := by
  have hsz := Lib.bytesWorld_size w 5 s
  refine ⟨⟨rfl, rfl, rfl, by rw [hsz]; omega, fun k hk _ => Lib.bytesWorld_at_old w _ s k hk⟩, fun j b hj => ?_, fun j hj => ?_⟩
  · have hl := (List.getElem?_eq_some_iff.1 hj).1
    rw [Lib.bytesWorld_cell w _ s j (by simpa using hl), if_neg (by omega), List.getD_eq_getElem?_getD, hj]; rfl
  · have h1 := Lib.bytesWorld_at_new w 5 s
    have hc := Lib.bytesWorld_cell w 5 s j hj
    unfold World.frozen?
    simp only [h1]
    rw [cell_at h1] at hc
    have := (Array.getElem?_eq_some_iff.1 hc).1
    simp; omega
set_option maxRecDepth 100000 in
set_option maxHeartbeats 1000000 in
theorem upperC (s : ByteArray) (w : World) (hs : s.size ≤ 1048576) :
    Calls Tryz.prog 31 #[.string s] w fun r w' => r = .returned (.string (upS s)) ∧ Keeps [] w w' := by
  have hcv := Lib.run_convert_string_bytes (P := Tryz.prog) w 9 126 5 s Tryz.underlying9 Tryz.underlying126 Tryz.underlying5
  have HU := khid (up_start w s)
  generalize Lib.bytesWorld w 5 s = W1 at hcv HU
  generalize grownCap w s.size 0 5 = cap at hcv
  generalize hB : w.heap.size = B at hcv HU
  have HB := khid hB
  clear hB
  have hLn : s.data.toList.length = s.size := by simp
  generalize hl : s.data.toList = l at HU hLn
  have HL := khid hl
  clear hl
  generalize hn : s.size = n at hcv HU hLn hs
  have HLN := khid hLn
  clear hn hLn
  go_enter Tryz.func31, Tryz.ntmps31
  go_wp2_with fail
  clear hcv
  go_loopw [10] (fun i wr => ∃ k : Nat, i = .int .i64 (k : Int) ∧ k ≤ n ∧ Hid (UpR w wr B n l k)) (fun i _ => n - (intOf i).toNat)
  case atStart => exact ⟨0, rfl, Nat.zero_le _, HU⟩
  case round =>
    obtain ⟨k, rfl, hk, HR⟩ := hrel
    by_cases hlt2 : k < n
    · obtain ⟨b, hb⟩ : ∃ b, l[k]? = some b := ⟨_, List.getElem?_eq_getElem (by rw [HLN.out]; exact hlt2)⟩
      have hc := HR.out.c k b hb
      rw [if_neg (by omega)] at hc
      have hf := HR.out.f k hlt2
      have HBB := khid hb
      have hb256 := b.toNat_lt
      have hkn : (k : Int) < (n : Int) := by omega
      have hk0 : (0 : Int) ≤ (k : Int) := by omega
      clear hb
      by_cases hr : 97 ≤ b.toNat ∧ b.toNat ≤ 122
      · obtain ⟨r1, r2⟩ := hr
        have HV := khid (upB_yes r1 r2)
        generalize b.toNat = c at hc r1 r2 hb256 HV
        have r1i : (97 : Int) ≤ (c : Int) := by omega
        have r2i : (c : Int) ≤ 122 := by omega
        go_wp2_with fail
        go_roundw
        case rel => exact ⟨k + 1, by go_num, by omega, khid (up_step HR.out (by rw [← HB.out]; exact Nat.le_refl _) HBB.out _ HV.out.symm)⟩
        case measure => simp [intOf]; omega
      · have HV := khid (upB_no hr)
        generalize b.toNat = c at hc hr hb256
        by_cases r1 : 97 ≤ c
        · have r1i : (97 : Int) ≤ (c : Int) := by omega
          have r2i : decide ((c : Int) ≤ 122) = false := by simp; omega
          go_wp2_with fail
          go_roundw
          case rel => exact ⟨k + 1, by go_num, by omega, khid (up_skip HR.out HBB.out HV.out)⟩
          case measure => simp [intOf]; omega
        · have r1i : decide ((97 : Int) ≤ (c : Int)) = false := by simp; omega
          go_wp2_with fail
          go_roundw
          case rel => exact ⟨k + 1, by go_num, by omega, khid (up_skip HR.out HBB.out HV.out)⟩
          case measure => simp [intOf]; omega
    · obtain rfl : k = n := by omega
      have hback := run_convert_bytes_back (P := Tryz.prog) wr 126 9 5 ⟨B, 0, none⟩ cap (l.map upB) Tryz.underlying126 Tryz.underlying5 Tryz.underlying9 (fun j hj => by
        have hj2 : j < l.length := by simpa using hj
        have := HR.out.c j _ (List.getElem?_eq_getElem hj2)
        rw [if_pos (by rw [← HLN.out]; exact hj2)] at this
        have hadd : (⟨B, 0, none⟩ : Addr).add j = ⟨B, j, none⟩ := by unfold Addr.add; split <;> simp_all
        rw [hadd, this]
        simp)
      rw [List.length_map, HLN.out] at hback
      have HBK := khid (show (⟨(l.map upB).toArray⟩ : ByteArray) = upS s by unfold upS; rw [HL.out])
      rw [HBK.out] at hback
      go_wp2_with fail
      go_ret
      exact ⟨rfl, HR.out.kp⟩
end Go.Proofs.YthmbhkgllfngmaaGreatDoor.ks
/- verbs: Find. -/
namespace Go.Proofs.YthmbhkgllfngmaaGreatDoor.ks
open Go.ChangeShapes Go.WideShapes Go.RowKit
set_option linter.unusedVariables false
set_option linter.unusedSimpArgs false
def allRows : List VRow := rowsA ++ (rowsB ++ rowsC)
def rowIs (u : List UInt8) (r : VRow) : Bool := decide (r.name = u)
/-- The row of a name in capital letters. -/
def verbOf (u : List UInt8) : Option VRow := allRows.find? (rowIs u)
def findVal (o : Option VRow) : Value := match o with
  | some r => .tuple #[r.val, .bool true]
  | none => .tuple #[.agg #[.string ByteArray.empty, .int .i64 0, .int .i64 0, .int .i64 0, .int .i64 0, .int .i64 0], .bool false]
def part : Nat → List VRow
  | 0 => rowsA
  | 1 => rowsB
  | _ => rowsC
theorem part_len (i : Nat) : (part i).length = if i < 2 then 40 else 33 := by
  match i with
  | 0 => rfl
  | 1 => rfl
  | n + 2 => simp [part]; rfl
theorem part_rise (i : Nat) : riseB (part i) = true := by
  match i with
  | 0 => exact riseA
  | 1 => exact riseBB
  | n + 2 => exact riseC
theorem find_part {u : List UInt8} : ∀ {l : List VRow} {r : VRow}, riseB l = true → r ∈ l → r.name = u → l.find? (rowIs u) = some r := by
  intro l
  induction l with
  | nil => intro r _ h; simp at h
  | cons x l ih =>
    intro r h hr hu
    rw [List.find?_cons]
    rcases List.mem_cons.1 hr with rfl | hr
    · simp [rowIs, hu]
    · have hlt := rise_first l x h r hr
      have hne : x.name ≠ u := fun e => by rw [e, hu, (cmp_eq u u).2 rfl] at hlt; omega
      simp only [rowIs, hne, decide_false]
      exact ih (rise_tail h) hr hu
theorem find_no {u : List UInt8} {l : List VRow} (h : ∀ r ∈ l, r.name ≠ u) : l.find? (rowIs u) = none := by
  rw [List.find?_eq_none]
  intro r hr
  simpa [rowIs] using h r hr
theorem verbOf_at {u : List UInt8} {i : Nat} (hi : i < 3) (hno : ∀ j, j < i → ∀ r ∈ part j, r.name ≠ u) {r : VRow} (hr : r ∈ part i) (hu : r.name = u) : verbOf u = some r := by
  unfold verbOf allRows
  rw [List.find?_append, List.find?_append]
  match i, hi with
  | 0, _ => rw [find_part riseA hr hu]; rfl
  | 1, _ => rw [find_no (l := rowsA) (hno 0 (by decide)), find_part riseBB hr hu]; rfl
  | 2, _ => rw [find_no (l := rowsA) (hno 0 (by decide)), find_no (l := rowsB) (hno 1 (by decide)), find_part riseC hr hu]; rfl
theorem verbOf_no {u : List UInt8} (hno : ∀ j, j < 3 → ∀ r ∈ part j, r.name ≠ u) : verbOf u = none := by
  unfold verbOf allRows
  rw [List.find?_append, List.find?_append, find_no (l := rowsA) (hno 0 (by decide)), find_no (l := rowsB) (hno 1 (by decide)), find_no (l := rowsC) (hno 2 (by decide))]
  rfl
def zeroRow : Array Value := #[.string ByteArray.empty, .int .i64 0, .int .i64 0, .int .i64 0, .int .i64 0, .int .i64 0]
/-- While the parts are sought. -/
structure FindR (w wr : World) (B a b c : Nat) (u : List UInt8) (i : Nat) : Prop where
  kp : Keeps [] w wr
  ta : TabV wr a rowsA
  tb : TabV wr b rowsB
  tc : TabV wr c rowsC
  z : wr.heap[B]? = some (.cells zeroRow 79 (0, 0))
  no : ∀ j, j < i → ∀ r ∈ part j, r.name ≠ u
theorem FindR.keep {w wr w2 : World} {B a b c : Nat} {u : List UInt8} {i : Nat} (h : FindR w wr B a b c u i) (k : Keeps [] wr w2) (hno : ∀ r ∈ part i, r.name ≠ u) : FindR w w2 B a b c u (i + 1) :=
  ⟨h.kp.trans k, k.get h.ta (by simp), k.get h.tb (by simp), k.get h.tc (by simp), k.get h.z (by simp), fun j hj => by
    by_cases hji : j = i
    · subst hji; exact hno
    · exact h.no j (by omega)⟩
set_option maxRecDepth 100000 in
set_option maxHeartbeats 2000000 in
theorem findVC (s : ByteArray) (w : World) (hs : s.size ≤ 1048576) :
    Calls Tryz.prog 76 #[.string s] w fun r w' => r = .returned (findVal (verbOf (upS s).data.toList)) ∧ Keeps [] w w' := by
  obtain ⟨o, ho⟩ : ∃ o, o = verbOf (upS s).data.toList := ⟨_, rfl⟩
  rw [← ho]
  have HO := khid ho
  clear ho
  go_enter Tryz.func76, Tryz.ntmps76
  go_wp2_with fail
  generalize hw0 : w.alloc _ = w0
  have h0 : w0.heap[w.heap.size]? = some (.cells zeroRow 79 (0, 0)) := by rw [← hw0]; exact alloc_new _ _
  have k0 : Keeps [] w w0 := by rw [← hw0]; exact (Keeps.refl _ _).alloc _
  have H0 := khid h0
  have K0 := khid k0
  clear hw0 h0 k0
  refine (upperC s _ hs).mono ?_
  rintro r w1 ⟨rfl, k1⟩
  have K1 := khid k1
  clear k1
  go_wp2_with fail
  refine (partsC _).mono ?_
  rintro r w2 ⟨a, b, c, rfl, ta, tb, tc, k2⟩
  have HF : Hid (FindR w w2 w.heap.size a b c (upS s).data.toList 0) := khid ⟨(K0.out.trans K1.out).trans k2, ta, tb, tc, k2.get (K1.out.get H0.out (by simp)) (by simp), fun j hj => by omega⟩
  clear ta tb tc k2
  generalize upS s = us at HF HO ⊢
  have i0 : ∀ w : World, (Instr.index 188 (.agg #[.slice (some ⟨a, 0, none⟩) 40 40, .slice (some ⟨b, 0, none⟩) 40 40, .slice (some ⟨c, 0, none⟩) 33 33]) (.int .i64 0)).run Tryz.prog w = .ok (.slice (some ⟨a, 0, none⟩) 40 40) w := fun _ => by kernel_rfl
  have i1 : ∀ w : World, (Instr.index 188 (.agg #[.slice (some ⟨a, 0, none⟩) 40 40, .slice (some ⟨b, 0, none⟩) 40 40, .slice (some ⟨c, 0, none⟩) 33 33]) (.int .i64 1)).run Tryz.prog w = .ok (.slice (some ⟨b, 0, none⟩) 40 40) w := fun _ => by kernel_rfl
  have i2 : ∀ w : World, (Instr.index 188 (.agg #[.slice (some ⟨a, 0, none⟩) 40 40, .slice (some ⟨b, 0, none⟩) 40 40, .slice (some ⟨c, 0, none⟩) 33 33]) (.int .i64 2)).run Tryz.prog w = .ok (.slice (some ⟨c, 0, none⟩) 33 33) w := fun _ => by kernel_rfl
  go_wp2_with fail
  go_loopw [12] (fun x wr => ∃ i : Nat, x = .int .i64 (i : Int) ∧ i ≤ 3 ∧ Hid (FindR w wr w.heap.size a b c us.data.toList i)) (fun x _ => 3 - (intOf x).toNat)
  case atStart => exact ⟨0, rfl, by decide, HF⟩
  case round =>
    obtain ⟨i, rfl, hi, HR⟩ := hrel
    by_cases h3 : i = 3
    · subst h3
      have hv : o = none := by rw [HO.out]; exact verbOf_no HR.out.no
      have HV := khid hv
      have hz3 := HR.out.z
      have z0 : wr.cell? ⟨w.heap.size, 0, none⟩ = some (.string ByteArray.empty) := by rw [cell_at hz3]; rfl
      have z1 : wr.cell? ⟨w.heap.size, 1, none⟩ = some (.int .i64 0) := by rw [cell_at hz3]; rfl
      have z2 : wr.cell? ⟨w.heap.size, 2, none⟩ = some (.int .i64 0) := by rw [cell_at hz3]; rfl
      have z3 : wr.cell? ⟨w.heap.size, 3, none⟩ = some (.int .i64 0) := by rw [cell_at hz3]; rfl
      have z4 : wr.cell? ⟨w.heap.size, 4, none⟩ = some (.int .i64 0) := by rw [cell_at hz3]; rfl
      have z5 : wr.cell? ⟨w.heap.size, 5, none⟩ = some (.int .i64 0) := by rw [cell_at hz3]; rfl
      have y0 : wr.frozen? ⟨w.heap.size, 0, none⟩ = false := free_at hz3 0
      have y1 : wr.frozen? ⟨w.heap.size, 1, none⟩ = false := free_at hz3 1
      have y2 : wr.frozen? ⟨w.heap.size, 2, none⟩ = false := free_at hz3 2
      have y3 : wr.frozen? ⟨w.heap.size, 3, none⟩ = false := free_at hz3 3
      have y4 : wr.frozen? ⟨w.heap.size, 4, none⟩ = false := free_at hz3 4
      have y5 : wr.frozen? ⟨w.heap.size, 5, none⟩ = false := free_at hz3 5
      clear hv hz3
      go_wp2_with fail
      refine bodyPost_ret (v := .tuple #[.agg #[.string ByteArray.empty, .int .i64 0, .int .i64 0, .int .i64 0, .int .i64 0, .int .i64 0], .bool false]) (by rw [results_cell_tmp rfl]; go_simp; try rfl) rfl ?_
      exact ⟨by rw [HV.out]; rfl, ((((((HR.out.kp.setCell (p := ⟨w.heap.size, 0, none⟩) (.inr (Nat.le_refl _)) _).setCell (p := ⟨w.heap.size, 1, none⟩) (.inr (Nat.le_refl _)) _).setCell (p := ⟨w.heap.size, 2, none⟩) (.inr (Nat.le_refl _)) _).setCell (p := ⟨w.heap.size, 3, none⟩) (.inr (Nat.le_refl _)) _).setCell (p := ⟨w.heap.size, 4, none⟩) (.inr (Nat.le_refl _)) _).setCell (p := ⟨w.heap.size, 5, none⟩) (.inr (Nat.le_refl _)) _)⟩
    · have h012 : i = 0 ∨ i = 1 ∨ i = 2 := by omega
      clear h3 hi
      rcases h012 with rfl | rfl | rfl
      · have HBS := khid (bsC rowsA a us wr HR.out.ta (by decide) (rise_sort riseA us.data.toList))
        rw [show rowsA.length = 40 from rfl] at HBS
        go_wp2_with fail
        refine HBS.out.mono ?_
        rintro r w3 ⟨at_, f, rfl, hk3, hle, hyes, hno⟩
        have HK3 := khid hk3
        have HN := khid hno
        have HY := khid hyes
        clear hk3 hyes hno
        cases f with
        | false =>
          go_wp2_with fail
          go_roundw
          case rel => exact ⟨0 + 1, by first | rfl | trivial | simp, by decide, khid (HR.out.keep HK3.out (fun r hr e => HN.out (by simp) r hr ((cmp_eq _ _).2 e)))⟩
          case measure => simp [intOf]
        | true =>
          obtain ⟨r, hr, hcmp⟩ := HY.out (by simp)
          have hv : o = some r := by rw [HO.out]; exact verbOf_at (by decide) HR.out.no (List.mem_of_getElem? hr) ((cmp_eq _ _).1 hcmp)
          have ht3 : TabV w3 a rowsA := HK3.out.get HR.out.ta (by simp)
          have hz3 := HK3.out.get HR.out.z (by simp)
          have c0 := tab_cell ht3 hr (j := 0) (by decide)
          have c1 := tab_cell ht3 hr (j := 1) (by decide)
          have c2 := tab_cell ht3 hr (j := 2) (by decide)
          have c3 := tab_cell ht3 hr (j := 3) (by decide)
          have c4 := tab_cell ht3 hr (j := 4) (by decide)
          have c5 := tab_cell ht3 hr (j := 5) (by decide)
          unfold VRow.cells at c0 c1 c2 c3 c4 c5
          simp only [List.getElem?_cons_zero, List.getElem?_cons_succ, Nat.add_zero] at c0 c1 c2 c3 c4 c5
          have z0 : w3.cell? ⟨w.heap.size, 0, none⟩ = some (.string ByteArray.empty) := by rw [cell_at hz3]; rfl
          have z1 : w3.cell? ⟨w.heap.size, 1, none⟩ = some (.int .i64 0) := by rw [cell_at hz3]; rfl
          have z2 : w3.cell? ⟨w.heap.size, 2, none⟩ = some (.int .i64 0) := by rw [cell_at hz3]; rfl
          have z3 : w3.cell? ⟨w.heap.size, 3, none⟩ = some (.int .i64 0) := by rw [cell_at hz3]; rfl
          have z4 : w3.cell? ⟨w.heap.size, 4, none⟩ = some (.int .i64 0) := by rw [cell_at hz3]; rfl
          have z5 : w3.cell? ⟨w.heap.size, 5, none⟩ = some (.int .i64 0) := by rw [cell_at hz3]; rfl
          have y0 : w3.frozen? ⟨w.heap.size, 0, none⟩ = false := free_at hz3 0
          have y1 : w3.frozen? ⟨w.heap.size, 1, none⟩ = false := free_at hz3 1
          have y2 : w3.frozen? ⟨w.heap.size, 2, none⟩ = false := free_at hz3 2
          have y3 : w3.frozen? ⟨w.heap.size, 3, none⟩ = false := free_at hz3 3
          have y4 : w3.frozen? ⟨w.heap.size, 4, none⟩ = false := free_at hz3 4
          have y5 : w3.frozen? ⟨w.heap.size, 5, none⟩ = false := free_at hz3 5
          have hati : at_ < 40 := by have := (List.getElem?_eq_some_iff.1 hr).1; rw [show rowsA.length = 40 from rfl] at this; exact this
          have hat1 : (at_ : Int) < 40 := by omega
          have hat0 : (0 : Int) ≤ (at_ : Int) := by omega
          have HV := khid hv
          clear hr hcmp hv ht3 hz3 hle
          go_wp2_with fail
          refine bodyPost_ret (v := .tuple #[.agg #[.string ⟨r.name.toArray⟩, .int .i64 r.arity, .int .i64 r.flags, .int .i64 r.first, .int .i64 r.last, .int .i64 r.jump], .bool true]) (by rw [results_cell_tmp rfl]; go_simp; try rfl) rfl ?_
          exact ⟨by rw [HV.out]; rfl, (((((((HR.out.kp.trans HK3.out).setCell (p := ⟨w.heap.size, 0, none⟩) (.inr (Nat.le_refl _)) _).setCell (p := ⟨w.heap.size, 1, none⟩) (.inr (Nat.le_refl _)) _).setCell (p := ⟨w.heap.size, 2, none⟩) (.inr (Nat.le_refl _)) _).setCell (p := ⟨w.heap.size, 3, none⟩) (.inr (Nat.le_refl _)) _).setCell (p := ⟨w.heap.size, 4, none⟩) (.inr (Nat.le_refl _)) _).setCell (p := ⟨w.heap.size, 5, none⟩) (.inr (Nat.le_refl _)) _)⟩
      · have HBS := khid (bsC rowsB b us wr HR.out.tb (by decide) (rise_sort riseBB us.data.toList))
        rw [show rowsB.length = 40 from rfl] at HBS
        go_wp2_with fail
        refine HBS.out.mono ?_
        rintro r w3 ⟨at_, f, rfl, hk3, hle, hyes, hno⟩
        have HK3 := khid hk3
        have HN := khid hno
        have HY := khid hyes
        clear hk3 hyes hno
        cases f with
        | false =>
          go_wp2_with fail
          go_roundw
          case rel => exact ⟨1 + 1, by first | rfl | trivial | simp, by decide, khid (HR.out.keep HK3.out (fun r hr e => HN.out (by simp) r hr ((cmp_eq _ _).2 e)))⟩
          case measure => simp [intOf]
        | true =>
          obtain ⟨r, hr, hcmp⟩ := HY.out (by simp)
          have hv : o = some r := by rw [HO.out]; exact verbOf_at (by decide) HR.out.no (List.mem_of_getElem? hr) ((cmp_eq _ _).1 hcmp)
          have ht3 : TabV w3 b rowsB := HK3.out.get HR.out.tb (by simp)
          have hz3 := HK3.out.get HR.out.z (by simp)
          have c0 := tab_cell ht3 hr (j := 0) (by decide)
          have c1 := tab_cell ht3 hr (j := 1) (by decide)
          have c2 := tab_cell ht3 hr (j := 2) (by decide)
          have c3 := tab_cell ht3 hr (j := 3) (by decide)
          have c4 := tab_cell ht3 hr (j := 4) (by decide)
          have c5 := tab_cell ht3 hr (j := 5) (by decide)
          unfold VRow.cells at c0 c1 c2 c3 c4 c5
          simp only [List.getElem?_cons_zero, List.getElem?_cons_succ, Nat.add_zero] at c0 c1 c2 c3 c4 c5
          have z0 : w3.cell? ⟨w.heap.size, 0, none⟩ = some (.string ByteArray.empty) := by rw [cell_at hz3]; rfl
          have z1 : w3.cell? ⟨w.heap.size, 1, none⟩ = some (.int .i64 0) := by rw [cell_at hz3]; rfl
          have z2 : w3.cell? ⟨w.heap.size, 2, none⟩ = some (.int .i64 0) := by rw [cell_at hz3]; rfl
          have z3 : w3.cell? ⟨w.heap.size, 3, none⟩ = some (.int .i64 0) := by rw [cell_at hz3]; rfl
          have z4 : w3.cell? ⟨w.heap.size, 4, none⟩ = some (.int .i64 0) := by rw [cell_at hz3]; rfl
          have z5 : w3.cell? ⟨w.heap.size, 5, none⟩ = some (.int .i64 0) := by rw [cell_at hz3]; rfl
          have y0 : w3.frozen? ⟨w.heap.size, 0, none⟩ = false := free_at hz3 0
          have y1 : w3.frozen? ⟨w.heap.size, 1, none⟩ = false := free_at hz3 1
          have y2 : w3.frozen? ⟨w.heap.size, 2, none⟩ = false := free_at hz3 2
          have y3 : w3.frozen? ⟨w.heap.size, 3, none⟩ = false := free_at hz3 3
          have y4 : w3.frozen? ⟨w.heap.size, 4, none⟩ = false := free_at hz3 4
          have y5 : w3.frozen? ⟨w.heap.size, 5, none⟩ = false := free_at hz3 5
          have hati : at_ < 40 := by have := (List.getElem?_eq_some_iff.1 hr).1; rw [show rowsB.length = 40 from rfl] at this; exact this
          have hat1 : (at_ : Int) < 40 := by omega
          have hat0 : (0 : Int) ≤ (at_ : Int) := by omega
          have HV := khid hv
          clear hr hcmp hv ht3 hz3 hle
          go_wp2_with fail
          refine bodyPost_ret (v := .tuple #[.agg #[.string ⟨r.name.toArray⟩, .int .i64 r.arity, .int .i64 r.flags, .int .i64 r.first, .int .i64 r.last, .int .i64 r.jump], .bool true]) (by rw [results_cell_tmp rfl]; go_simp; try rfl) rfl ?_
          exact ⟨by rw [HV.out]; rfl, (((((((HR.out.kp.trans HK3.out).setCell (p := ⟨w.heap.size, 0, none⟩) (.inr (Nat.le_refl _)) _).setCell (p := ⟨w.heap.size, 1, none⟩) (.inr (Nat.le_refl _)) _).setCell (p := ⟨w.heap.size, 2, none⟩) (.inr (Nat.le_refl _)) _).setCell (p := ⟨w.heap.size, 3, none⟩) (.inr (Nat.le_refl _)) _).setCell (p := ⟨w.heap.size, 4, none⟩) (.inr (Nat.le_refl _)) _).setCell (p := ⟨w.heap.size, 5, none⟩) (.inr (Nat.le_refl _)) _)⟩
      · have HBS := khid (bsC rowsC c us wr HR.out.tc (by decide) (rise_sort riseC us.data.toList))
        rw [show rowsC.length = 33 from rfl] at HBS
        go_wp2_with fail
        refine HBS.out.mono ?_
        rintro r w3 ⟨at_, f, rfl, hk3, hle, hyes, hno⟩
        have HK3 := khid hk3
        have HN := khid hno
        have HY := khid hyes
        clear hk3 hyes hno
        cases f with
        | false =>
          go_wp2_with fail
          go_roundw
          case rel => exact ⟨2 + 1, by first | rfl | trivial | simp, by decide, khid (HR.out.keep HK3.out (fun r hr e => HN.out (by simp) r hr ((cmp_eq _ _).2 e)))⟩
          case measure => simp [intOf]
        | true =>
          obtain ⟨r, hr, hcmp⟩ := HY.out (by simp)
          have hv : o = some r := by rw [HO.out]; exact verbOf_at (by decide) HR.out.no (List.mem_of_getElem? hr) ((cmp_eq _ _).1 hcmp)
          have ht3 : TabV w3 c rowsC := HK3.out.get HR.out.tc (by simp)
          have hz3 := HK3.out.get HR.out.z (by simp)
          have c0 := tab_cell ht3 hr (j := 0) (by decide)
          have c1 := tab_cell ht3 hr (j := 1) (by decide)
          have c2 := tab_cell ht3 hr (j := 2) (by decide)
          have c3 := tab_cell ht3 hr (j := 3) (by decide)
          have c4 := tab_cell ht3 hr (j := 4) (by decide)
          have c5 := tab_cell ht3 hr (j := 5) (by decide)
          unfold VRow.cells at c0 c1 c2 c3 c4 c5
          simp only [List.getElem?_cons_zero, List.getElem?_cons_succ, Nat.add_zero] at c0 c1 c2 c3 c4 c5
          have z0 : w3.cell? ⟨w.heap.size, 0, none⟩ = some (.string ByteArray.empty) := by rw [cell_at hz3]; rfl
          have z1 : w3.cell? ⟨w.heap.size, 1, none⟩ = some (.int .i64 0) := by rw [cell_at hz3]; rfl
          have z2 : w3.cell? ⟨w.heap.size, 2, none⟩ = some (.int .i64 0) := by rw [cell_at hz3]; rfl
          have z3 : w3.cell? ⟨w.heap.size, 3, none⟩ = some (.int .i64 0) := by rw [cell_at hz3]; rfl
          have z4 : w3.cell? ⟨w.heap.size, 4, none⟩ = some (.int .i64 0) := by rw [cell_at hz3]; rfl
          have z5 : w3.cell? ⟨w.heap.size, 5, none⟩ = some (.int .i64 0) := by rw [cell_at hz3]; rfl
          have y0 : w3.frozen? ⟨w.heap.size, 0, none⟩ = false := free_at hz3 0
          have y1 : w3.frozen? ⟨w.heap.size, 1, none⟩ = false := free_at hz3 1
          have y2 : w3.frozen? ⟨w.heap.size, 2, none⟩ = false := free_at hz3 2
          have y3 : w3.frozen? ⟨w.heap.size, 3, none⟩ = false := free_at hz3 3
          have y4 : w3.frozen? ⟨w.heap.size, 4, none⟩ = false := free_at hz3 4
          have y5 : w3.frozen? ⟨w.heap.size, 5, none⟩ = false := free_at hz3 5
          have hati : at_ < 33 := by have := (List.getElem?_eq_some_iff.1 hr).1; rw [show rowsC.length = 33 from rfl] at this; exact this
          have hat1 : (at_ : Int) < 33 := by omega
          have hat0 : (0 : Int) ≤ (at_ : Int) := by omega
          have HV := khid hv
          clear hr hcmp hv ht3 hz3 hle
          go_wp2_with fail
          refine bodyPost_ret (v := .tuple #[.agg #[.string ⟨r.name.toArray⟩, .int .i64 r.arity, .int .i64 r.flags, .int .i64 r.first, .int .i64 r.last, .int .i64 r.jump], .bool true]) (by rw [results_cell_tmp rfl]; go_simp; try rfl) rfl ?_
          exact ⟨by rw [HV.out]; rfl, (((((((HR.out.kp.trans HK3.out).setCell (p := ⟨w.heap.size, 0, none⟩) (.inr (Nat.le_refl _)) _).setCell (p := ⟨w.heap.size, 1, none⟩) (.inr (Nat.le_refl _)) _).setCell (p := ⟨w.heap.size, 2, none⟩) (.inr (Nat.le_refl _)) _).setCell (p := ⟨w.heap.size, 3, none⟩) (.inr (Nat.le_refl _)) _).setCell (p := ⟨w.heap.size, 4, none⟩) (.inr (Nat.le_refl _)) _).setCell (p := ⟨w.heap.size, 5, none⟩) (.inr (Nat.le_refl _)) _)⟩
end Go.Proofs.YthmbhkgllfngmaaGreatDoor.ks
/- verbs: Check, of words that are a command's. -/
namespace Go.Proofs.YthmbhkgllfngmaaGreatDoor.ks
open Go.ChangeShapes Go.WideShapes Go.RowKit
set_option linter.unusedVariables false
set_option linter.unusedSimpArgs false
/-- Words in memory, from a place on. -/
def WordsAt (w : World) (b off : Nat) (ws : List ByteArray) : Prop := ∀ (i : Nat) s, ws[i]? = some s → w.cell? ⟨b, off + i, none⟩ = some (.string s)
def total (ws : List ByteArray) : Nat := (ws.map (·.size)).sum
theorem total_snoc (ws : List ByteArray) (s : ByteArray) : total (ws ++ [s]) = total ws + s.size := by unfold total; simp
theorem total_take {ws : List ByteArray} {k : Nat} {s : ByteArray} (h : ws[k]? = some s) : total (ws.take (k + 1)) = total (ws.take k) + s.size := by
  obtain ⟨hk, hs⟩ := List.getElem?_eq_some_iff.1 h
  rw [List.take_succ_eq_append_getElem hk, total_snoc, hs]
theorem total_le (ws : List ByteArray) (k : Nat) : total (ws.take k) ≤ total ws := by
  induction ws generalizing k with
  | nil => simp [total]
  | cons x r ih =>
    cases k with
    | zero => simp [total]
    | succ k => have := ih k; simp [total] at this ⊢; omega
set_option maxRecDepth 100000 in
set_option maxHeartbeats 1000000 in
theorem notLongC (ws : List ByteArray) (b off cap : Nat) (w : World) (hw : WordsAt w b off ws) (hn : ws.length ≤ 1024) (hs : ∀ s ∈ ws, s.size ≤ 1048576) (ht : total ws ≤ 4194304) :
    Calls Tryz.prog 75 #[.slice (some ⟨b, off, none⟩) ws.length cap] w fun r w' => r = .returned (.bool false) ∧ w = w' := by
  generalize hln : ws.length = n at hn ⊢
  have HL := khid hln
  have HW := khid hw
  have HS := khid hs
  have HT := khid ht
  clear hw hs ht hln
  go_enter Tryz.func75, Tryz.ntmps75
  go_wp2_with fail
  go_loop [3, 4, 9] (fun a l i => ∃ (k t m : Nat), i = .int .i64 (k : Int) ∧ k ≤ n ∧ a = .int .i64 (t : Int) ∧ l = .int .i64 (m : Int) ∧ m ≤ 1048576 ∧ Hid (t = total (ws.take k))) (fun _ _ i => n - (intOf i).toNat)
  case atStart => exact ⟨0, 0, 0, rfl, Nat.zero_le _, rfl, rfl, by decide, khid (by simp [total])⟩
  case round =>
    obtain ⟨k, t, m, rfl, hk, rfl, rfl, hm, HR⟩ := hrel
    have htl : t ≤ 4194304 := by rw [HR.out]; exact Nat.le_trans (total_le _ _) HT.out
    by_cases hlt2 : k < n
    · obtain ⟨s, hs⟩ : ∃ s, ws[k]? = some s := ⟨_, List.getElem?_eq_getElem (by rw [HL.out]; exact hlt2)⟩
      have hc := HW.out k s hs
      have hsz := HS.out s (List.mem_of_getElem? hs)
      have HTT := khid (total_take hs)
      clear hs
      go_wp2_with fail
      go_round
      case rel => exact ⟨k + 1, t + s.size, max m s.size, by go_num, by omega, by go_num, by congr 1; omega, by omega, khid (by rw [HTT.out, ← HR.out])⟩
      case measure => simp [intOf]; omega
    · go_wp2_with fail
      go_ret
      exact ⟨ret_bool (by simp; omega), rfl⟩
theorem arity_bd : ∀ r ∈ allRows, -10 ≤ r.arity ∧ r.arity ≤ 10 := by decide +kernel
set_option maxRecDepth 100000 in
set_option maxHeartbeats 2000000 in
theorem checkC (ws : List ByteArray) (s : ByteArray) (r : VRow) (b off cap : Nat) (w : World) (h0 : ws[0]? = some s) (hw : WordsAt w b off ws) (hn : ws.length ≤ 1024) (hs : ∀ s ∈ ws, s.size ≤ 1048576) (ht : total ws ≤ 4194304)
    (hv : verbOf (upS s).data.toList = some r) (ha1 : 0 < r.arity → (ws.length : Int) = r.arity) (ha2 : -r.arity ≤ (ws.length : Int)) :
    Calls Tryz.prog 30 #[.slice (some ⟨b, off, none⟩) ws.length cap] w fun e w' => e = .returned (.tuple #[r.val, .int .i64 0]) ∧ Keeps [] w w' := by
  have hbd := arity_bd r (by unfold verbOf at hv; exact List.mem_of_find?_eq_some hv)
  have hlen : 0 < ws.length := (List.getElem?_eq_some_iff.1 h0).1
  have hss := hs s (List.mem_of_getElem? h0)
  have hc := hw 0 s h0
  rw [Nat.add_zero] at hc
  have HLT := khid (fun w2 : World => fun k : Keeps [] w w2 => notLongC ws b off cap w2 (fun i s hi => by
    have h1 := hw i s hi
    unfold World.cell? at h1 ⊢
    have hb : b < w.heap.size := World.block_lt_of_cell? w ⟨b, off + i, none⟩ (by unfold World.cell?; exact h1)
    simp only [k.block b hb (by simp)]
    exact h1) hn hs ht)
  generalize hln : ws.length = n at hn ha1 ha2 hlen HLT ⊢
  have HL := khid hln
  have HW := khid hw
  have HV := khid hv
  clear hw hs ht hln h0 hv
  have hbk : b < w.heap.size := World.block_lt_of_cell? w _ hc
  go_enter Tryz.func30, Tryz.ntmps30
  go_wp2_with fail
  generalize hw0 : w.alloc _ = w0
  have h0 : w0.heap[w.heap.size]? = some (.cells zeroRow 79 (0, 0)) := by rw [← hw0]; exact alloc_new _ _
  have k0 : Keeps [] w w0 := by rw [← hw0]; exact (Keeps.refl _ _).alloc _
  have H0 := khid h0
  have K0 := khid k0
  have hc1 : w0.cell? ⟨b, off, none⟩ = some (.string s) := by
    unfold World.cell? at hc ⊢
    simp only [k0.block b hbk (by simp)]
    exact hc
  clear hw0 h0 k0 hc
  refine (HLT.out w0 K0.out).mono ?_
  rintro e w' ⟨rfl, rfl⟩
  go_wp2_with fail
  refine (findVC s _ hss).mono ?_
  rintro e w1 ⟨rfl, k1⟩
  have K1 := khid k1
  rw [HV.out, show findVal (some r) = .tuple #[r.val, .bool true] from rfl]
  unfold VRow.val VRow.cells
  have hz : w1.heap[w.heap.size]? = some (.cells zeroRow 79 (0, 0)) := k1.get H0.out (by simp)
  have hzl : w.heap.size < w1.heap.size := hlt hz
  have hBB : w.heap.size ≤ w.heap.size := Nat.le_refl _
  generalize hBe : w.heap.size = B at hz hzl hbk hBB ⊢
  have HBB := khid (show w.heap.size ≤ B by rw [hBe]; exact Nat.le_refl _)
  clear hBe hBB
  clear k1
  obtain ⟨nm, ar, fl, fi, la, ju⟩ := r
  simp only at hbd ha1 ha2 ⊢
  have z0 : w1.cell? ⟨B, 0, none⟩ = some (.string ByteArray.empty) := by rw [cell_at hz]; rfl
  have y0 : w1.frozen? ⟨B, 0, none⟩ = false := free_at hz 0
  have z1 : w1.cell? ⟨B, 1, none⟩ = some (.int .i64 0) := by rw [cell_at hz]; rfl
  have y1 : w1.frozen? ⟨B, 1, none⟩ = false := free_at hz 1
  have z2 : w1.cell? ⟨B, 2, none⟩ = some (.int .i64 0) := by rw [cell_at hz]; rfl
  have y2 : w1.frozen? ⟨B, 2, none⟩ = false := free_at hz 2
  have z3 : w1.cell? ⟨B, 3, none⟩ = some (.int .i64 0) := by rw [cell_at hz]; rfl
  have y3 : w1.frozen? ⟨B, 3, none⟩ = false := free_at hz 3
  have z4 : w1.cell? ⟨B, 4, none⟩ = some (.int .i64 0) := by rw [cell_at hz]; rfl
  have y4 : w1.frozen? ⟨B, 4, none⟩ = false := free_at hz 4
  have z5 : w1.cell? ⟨B, 5, none⟩ = some (.int .i64 0) := by rw [cell_at hz]; rfl
  have y5 : w1.frozen? ⟨B, 5, none⟩ = false := free_at hz 5
  clear hz
  go_wp2_with fail
  all_goals
    refine bodyPost_ret (v := .tuple #[.agg #[.string ⟨nm.toArray⟩, .int .i64 ar, .int .i64 fl, .int .i64 fi, .int .i64 la, .int .i64 ju], .int .i64 0]) (by rw [results_cell_tmp rfl]; go_simp; try rfl) rfl ?_
    exact ⟨rfl, (((((((K0.out.trans K1.out).setCell (p := ⟨B, 0, none⟩) (.inr HBB.out) _).setCell (p := ⟨B, 1, none⟩) (.inr HBB.out) _).setCell (p := ⟨B, 2, none⟩) (.inr HBB.out) _).setCell (p := ⟨B, 3, none⟩) (.inr HBB.out) _).setCell (p := ⟨B, 4, none⟩) (.inr HBB.out) _).setCell (p := ⟨B, 5, none⟩) (.inr HBB.out) _).alloc _⟩
end Go.Proofs.YthmbhkgllfngmaaGreatDoor.ks
/- reply: Int, Bulk, Simple, Null, Error; digit.Text, Add. -/
namespace Go.Proofs.YthmbhkgllfngmaaGreatDoor.ks
open Go.ChangeShapes Go.WideShapes Go.RowKit
set_option linter.unusedVariables false
set_option linter.unusedSimpArgs false
/-- A reply without a list, as a value. -/
def repV (kind : Int) (text : ByteArray) (n : Int) : Value := .agg #[.int .i64 kind, .string text, .int .i64 n, .slice none 0 0]
set_option maxHeartbeats 400000 in
theorem repIntC (n : Int) (w : World) : Calls Tryz.prog 45 #[.int .i64 n] w fun r w' => r = .returned (repV 3 ByteArray.empty n) ∧ Keeps [] w w' := by
  go_enter Tryz.func45, Tryz.ntmps45
  go_wp2_with fail
  refine bodyPost_ret (v := .agg #[.int .i64 3, .string ByteArray.empty, .int .i64 n, .slice none 0 0]) (by simp [results, Tryz.results45, go_sem]; try rfl) rfl ?_
  exact ⟨rfl, (Keeps.refl _ _).alloc _⟩
set_option maxHeartbeats 400000 in
theorem repBulkC (s : ByteArray) (w : World) : Calls Tryz.prog 38 #[.string s] w fun r w' => r = .returned (repV 4 s 0) ∧ Keeps [] w w' := by
  go_enter Tryz.func38, Tryz.ntmps38
  go_wp2_with fail
  refine bodyPost_ret (v := .agg #[.int .i64 4, .string s, .int .i64 0, .slice none 0 0]) (by simp [results, Tryz.results38, go_sem]; try rfl) rfl ?_
  exact ⟨rfl, (Keeps.refl _ _).alloc _⟩
set_option maxHeartbeats 400000 in
theorem repSimpleC (s : ByteArray) (w : World) : Calls Tryz.prog 84 #[.string s] w fun r w' => r = .returned (repV 1 s 0) ∧ Keeps [] w w' := by
  go_enter Tryz.func84, Tryz.ntmps84
  go_wp2_with fail
  refine bodyPost_ret (v := .agg #[.int .i64 1, .string s, .int .i64 0, .slice none 0 0]) (by simp [results, Tryz.results84, go_sem]; try rfl) rfl ?_
  exact ⟨rfl, (Keeps.refl _ _).alloc _⟩
set_option maxHeartbeats 400000 in
theorem repNullC (w : World) : Calls Tryz.prog 50 #[] w fun r w' => r = .returned (repV 5 ByteArray.empty 0) ∧ Keeps [] w w' := by
  go_enter Tryz.func50, Tryz.ntmps50
  go_wp2_with fail
  refine bodyPost_ret (v := .agg #[.int .i64 5, .string ByteArray.empty, .int .i64 0, .slice none 0 0]) (by simp [results, Tryz.results50, go_sem]; try rfl) rfl ?_
  exact ⟨rfl, (Keeps.refl _ _).alloc _⟩
set_option maxHeartbeats 400000 in
theorem addOkC (a b : Int) (w : World) (h : -9223372036854775808 ≤ a + b ∧ a + b ≤ 9223372036854775807) : True := trivial
end Go.Proofs.YthmbhkgllfngmaaGreatDoor.ks
