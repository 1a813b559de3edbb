/- The contracts of both fit: whether an effect may be written. -/
import Derived.Test.YthhjnjghlmaicaaDoorRequest
namespace Go.Proofs.YthhjnjghlmaicaaDoor.jr
open Go.ChangeShapes Go.WideShapes Go.ChangeAt Go.RowKit
set_option linter.unusedVariables false

def sumSz (ws : List ByteArray) : Nat := (ws.map ByteArray.size).sum
def allSz (ws : List ByteArray) : Prop := ∀ s ∈ ws, s.size ≤ 1048576
/-- An effect that may be written. -/
def Fits (ws : List ByteArray) : Prop := allSz ws ∧ 1 ≤ ws.length ∧ ws.length ≤ 1024 ∧ sumSz ws ≤ 4194304
theorem allSz_take {ws : List ByteArray} {n k : Nat} {s : ByteArray} (hn : ws.length = n) (hk : k < n) (hs : ws.getD k ByteArray.empty = s) (h : allSz (ws.take k)) (h1 : s.size ≤ 1048576) : allSz (ws.take (k + 1)) := by
  subst hs
  have hk' : k < ws.length := by omega
  rw [List.getD_eq_getElem?_getD, List.getElem?_eq_getElem hk'] at h1
  rw [List.take_succ_eq_append_getElem hk']
  intro x hx
  rcases List.mem_append.1 hx with hx | hx
  · exact h x hx
  · simp at hx; subst hx; exact h1
theorem sumSz_take {ws : List ByteArray} {n k : Nat} {s : ByteArray} (hn : ws.length = n) (hk : k < n) (hs : ws.getD k ByteArray.empty = s) : sumSz (ws.take (k + 1)) = sumSz (ws.take k) + s.size := by
  subst hs
  have hk' : k < ws.length := by omega
  rw [List.getD_eq_getElem?_getD, List.getElem?_eq_getElem hk', List.take_succ_eq_append_getElem hk']
  unfold sumSz
  rw [List.map_append, List.sum_append, List.map_cons, List.map_nil, List.sum_cons, List.sum_nil, Nat.add_zero]
  rfl
theorem sumSz_le : ∀ {ws : List ByteArray}, allSz ws → sumSz ws ≤ ws.length * 1048576
  | [], _ => by simp [sumSz]
  | s :: r, h => by
    have h1 := h s (List.mem_cons_self ..)
    have h2 := sumSz_le (ws := r) (fun x hx => h x (List.mem_cons_of_mem _ hx))
    simp only [sumSz, List.map_cons, List.sum_cons, List.length_cons] at *
    omega
theorem not_all {ws : List ByteArray} {n k : Nat} {s : ByteArray} (hn : ws.length = n) (hk : k < n) (hs : ws.getD k ByteArray.empty = s) (h1 : 1048576 < s.size) : ¬ allSz ws := by
  intro h
  have := word_at hn hk h hs
  omega
theorem b_false {b : Bool} {p : Prop} (hb : b = true ↔ p) (h : ¬ p) : Ending.returned (Value.bool false) = Ending.returned (Value.bool b) := by
  cases b
  · rfl
  · exact absurd (hb.1 rfl) h
theorem b_true {b : Bool} {p : Prop} (hb : b = true ↔ p) (h : p) : Ending.returned (Value.bool true) = Ending.returned (Value.bool b) := by
  rw [hb.2 h]
theorem b_dec {b : Bool} {p q : Prop} [Decidable q] (hb : b = true ↔ p) (h : q ↔ p) : Ending.returned (Value.bool (decide q)) = Ending.returned (Value.bool b) := by
  by_cases hq : q
  · rw [decide_eq_true hq]; exact b_true hb (h.1 hq)
  · rw [decide_eq_false hq]; exact b_false hb (fun hp => hq (h.2 hp))
theorem row1_form {w : World} {a : Option Addr} {n cap : Nat} {ws : List ByteArray} (hn : ws.length = n) (hx : Row1 w (.slice a n cap) ws) : 0 < n → ∃ g off, a = some ⟨g, off, none⟩ ∧ ∀ i, i < n → w.cell? ⟨g, off + i, none⟩ = some (.string (ws.getD i ByteArray.empty)) := by
  obtain ⟨a', c', e, h⟩ := hx
  rw [hn] at e h
  simp only [Value.slice.injEq] at e
  rw [e.1]
  exact h

set_option maxRecDepth 100000 in
theorem size17 (ws : List ByteArray) (n : Nat) (hn : ws.length = n) (a : Option Addr) (cap : Nat) (w : World) (hs : allSz ws) (hl : n ≤ 1024) (hx : Row1 w (.slice a n cap) ws) :
    Calls Tryd.prog 17 #[.slice a n cap] w fun e w' => e = .returned (.int .i64 (sumSz ws : Int)) ∧ ∃ j, w' = w.drewN j := by
  have HX := jhid (row1_form hn hx)
  have HN := jhid hn
  have HS := jhid hs
  clear hx hn hs
  go_enter Tryd.func17, Tryd.ntmps17
  go_wp2_with fail
  go_loopw [8, 3] (fun i m wr => ∃ (k S j : Nat), i = .int .i64 k ∧ m = .int .i64 (S : Int) ∧ k ≤ n ∧ S ≤ k * 1048576 ∧ sumSz (ws.take k) = S ∧ wr = w.drewN j) (fun i _ _ => n - (intOf i).toNat)
  case atStart => exact ⟨0, 0, 0, rfl, rfl, by omega, by omega, rfl, rfl⟩
  case round =>
    obtain ⟨k, S, j, rfl, rfl, hk, hS, hsum, rfl⟩ := hrel
    have HSUM := jhid hsum
    clear hsum
    by_cases hlt : k < n
    · obtain ⟨g, off, ea, hca⟩ := HX.out (by omega)
      subst ea
      have hc : (w.drewN j).cell? ⟨g, off + k, none⟩ = _ := hca k hlt
      obtain ⟨s, hs⟩ : ∃ s, ws.getD k ByteArray.empty = s := ⟨_, rfl⟩
      rw [hs] at hc
      have hsz := word_at HN.out hlt HS.out hs
      have HSS := jhid hs
      have hlt' : (k : Int) < (n : Int) := by omega
      clear hca hs
      go_wp2_with fail
      refine ⟨⟨k + 1, S + s.size, j, by simp, by simp, by omega, by omega, by rw [sumSz_take HN.out hlt HSS.out, HSUM.out], rfl⟩, by simp [intOf]; omega⟩
    · obtain rfl : k = n := by omega
      go_wp2_with fail
      go_ret
      have := HSUM.out
      rw [List.take_of_length_le (by rw [HN.out]; exact Nat.le_refl _)] at this
      exact ⟨by rw [this]; rfl, j, rfl⟩

set_option maxRecDepth 100000 in
theorem fit13 (ws : List ByteArray) (n : Nat) (hn : ws.length = n) (a : Option Addr) (cap : Nat) (w : World) (hl : n ≤ 8796093022207) (hx : Row1 w (.slice a n cap) ws) (b : Bool) (hb : b = true ↔ Fits ws) :
    Calls Tryd.prog 13 #[.slice a n cap] w fun e w' => e = .returned (.bool b) ∧ ∃ j, w' = w.drewN j := by
  have HX := jhid (row1_form hn hx)
  have HX1 := jhid hx
  have HN := jhid hn
  have HB := jhid hb
  clear hx hn hb
  go_enter Tryd.func13, Tryd.ntmps13
  go_wp2_with fail
  go_loopw [7] (fun i wr => ∃ (k j : Nat), i = .int .i64 k ∧ k ≤ n ∧ Hid (allSz (ws.take k)) ∧ wr = w.drewN j) (fun i _ => n - (intOf i).toNat)
  case atStart => exact ⟨0, 0, rfl, by omega, jhid (by intro x hx; simp at hx), rfl⟩
  case round =>
    obtain ⟨k, j, rfl, hk, HA, rfl⟩ := hrel
    by_cases hlt : k < n
    · obtain ⟨g, off, ea, hca⟩ := HX.out (by omega)
      subst ea
      have hc : (w.drewN j).cell? ⟨g, off + k, none⟩ = _ := hca k hlt
      obtain ⟨s, hs⟩ : ∃ s, ws.getD k ByteArray.empty = s := ⟨_, rfl⟩
      rw [hs] at hc
      have HSS := jhid hs
      have hlt' : (k : Int) < (n : Int) := by omega
      clear hca hs
      by_cases hbig : 1048576 < s.size
      · have hbig' : (1048576 : Int) < (s.size : Int) := by omega
        go_wp2_with fail
        go_ret
        exact ⟨b_false HB.out (fun h => not_all HN.out hlt HSS.out hbig h.1), j, rfl⟩
      · have hbig' : ¬ (1048576 : Int) < (s.size : Int) := by omega
        go_wp2_with fail
        exact ⟨⟨k + 1, j, by simp, by omega, jhid (allSz_take HN.out hlt HSS.out HA.out (by omega)), rfl⟩, by simp [intOf]; omega⟩
    · obtain rfl : k = n := by omega
      have hall : allSz ws := by
        have := HA.out
        rwa [List.take_of_length_le (by rw [HN.out]; exact Nat.le_refl _)] at this
      have HALL := jhid hall
      clear hall
      go_wp2_with fail
      · rename_i h1 h2
        refine (size17 ws k HN.out a cap (w.drewN j) HALL.out (by omega) HX1.out).mono ?_
        rintro e w1 ⟨rfl, j1, rfl⟩
        go_wp2_with fail
        go_ret
        refine ⟨?_, _, rfl⟩
        show Ending.returned (Value.bool (decide ((sumSz ws : Int) ≤ 4194304))) = _
        refine b_dec HB.out ⟨fun h => ⟨HALL.out, by rw [HN.out]; omega, by rw [HN.out]; omega, by omega⟩, fun h => by have := h.2.2.2; omega⟩
      · rename_i h1 h2
        go_ret
        exact ⟨b_false HB.out (fun h => by have := h.2.2.1; rw [HN.out] at this; omega), j, rfl⟩
      · rename_i h1
        go_ret
        exact ⟨b_false HB.out (fun h => by have := h.2.1; rw [HN.out] at this; omega), j, rfl⟩

set_option maxRecDepth 100000 in
theorem fit11 (ws : List ByteArray) (n : Nat) (hn : ws.length = n) (a : Option Addr) (cap : Nat) (w : World) (hl : n ≤ 8796093022207) (hx : Row1 w (.slice a n cap) ws) (b : Bool) (hb : b = true ↔ Fits ws) :
    Calls Tryd.prog 11 #[.slice a n cap] w fun e w' => e = .returned (.bool b) ∧ ∃ j, w' = w.drewN j := by
  have HX := jhid (row1_form hn hx)
  have HN := jhid hn
  have HB := jhid hb
  clear hx hn hb
  go_enter Tryd.func11, Tryd.ntmps11
  go_wp2_with fail
  go_loopw [8, 3] (fun i m wr => ∃ (k S j : Nat), i = .int .i64 k ∧ m = .int .i64 (S : Int) ∧ k ≤ n ∧ S ≤ k * 1048576 ∧ Hid (sumSz (ws.take k) = S) ∧ Hid (allSz (ws.take k)) ∧ wr = w.drewN j) (fun i _ _ => n - (intOf i).toNat)
  case atStart => exact ⟨0, 0, 0, rfl, rfl, by omega, by omega, jhid rfl, jhid (by intro x hx; simp at hx), rfl⟩
  case round =>
    obtain ⟨k, S, j, rfl, rfl, hk, hS, HSUM, HA, rfl⟩ := hrel
    by_cases hlt : k < n
    · obtain ⟨g, off, ea, hca⟩ := HX.out (by omega)
      subst ea
      have hc : (w.drewN j).cell? ⟨g, off + k, none⟩ = _ := hca k hlt
      obtain ⟨s, hs⟩ : ∃ s, ws.getD k ByteArray.empty = s := ⟨_, rfl⟩
      rw [hs] at hc
      have HSS := jhid hs
      have hlt' : (k : Int) < (n : Int) := by omega
      clear hca hs
      by_cases hbig : 1048576 < s.size
      · have hbig' : (1048576 : Int) < (s.size : Int) := by omega
        go_wp2_with fail
        go_ret
        exact ⟨b_false HB.out (fun h => not_all HN.out hlt HSS.out hbig h.1), j, rfl⟩
      · have hbig' : ¬ (1048576 : Int) < (s.size : Int) := by omega
        go_wp2_with fail
        refine ⟨⟨k + 1, S + s.size, j, by simp, by simp, by omega, by omega, jhid (by rw [sumSz_take HN.out hlt HSS.out, HSUM.out]), jhid (allSz_take HN.out hlt HSS.out HA.out (by omega)), rfl⟩, by simp [intOf]; omega⟩
    · obtain rfl : k = n := by omega
      have hall : allSz ws := by
        have := HA.out
        rwa [List.take_of_length_le (by rw [HN.out]; exact Nat.le_refl _)] at this
      have HALL := jhid hall
      have hsum : sumSz ws = S := by
        have := HSUM.out
        rwa [List.take_of_length_le (by rw [HN.out]; exact Nat.le_refl _)] at this
      have HSU := jhid hsum
      clear hall hsum
      go_wp2_with fail
      · rename_i h1 h2
        go_ret
        refine ⟨?_, _, rfl⟩
        show Ending.returned (Value.bool (decide ((S : Int) ≤ 4194304))) = _
        have := HSU.out
        refine b_dec HB.out ⟨fun h => ⟨HALL.out, by rw [HN.out]; omega, by rw [HN.out]; omega, by omega⟩, fun h => by have := h.2.2.2; omega⟩
      · rename_i h1 h2
        go_ret
        exact ⟨b_false HB.out (fun h => by have := h.2.2.1; rw [HN.out] at this; omega), j, rfl⟩
      · rename_i h1
        go_ret
        exact ⟨b_false HB.out (fun h => by have := h.2.1; rw [HN.out] at this; omega), j, rfl⟩
end Go.Proofs.YthhjnjghlmaicaaDoor.jr
