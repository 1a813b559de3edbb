/- The contract of pantryref28.Same: of two lists that read the same it says true, and draws alone. -/
import Derived.Test.YthhjnjghlmaicaaDoorBase
namespace Go.Proofs.YthhjnjghlmaicaaDoor.jr
open Go.ChangeShapes Go.WideShapes Go.ChangeAt Go.RowKit
set_option linter.unusedVariables false

theorem jhid {p : Prop} (h : p) : Hid p := h
/-- A slice of strings reads so. -/
def Row1 (w : World) (x : Value) (ss : List ByteArray) : Prop :=
  ∃ a cap, x = .slice a ss.length cap ∧ (0 < ss.length → ∃ g off, a = some ⟨g, off, none⟩ ∧ ∀ i, i < ss.length → w.cell? ⟨g, off + i, none⟩ = some (.string (ss.getD i ByteArray.empty)))
/-- A slice of such slices reads so. -/
def Row2 (w : World) (x : Value) (ll : List (List ByteArray)) : Prop :=
  ∃ a cap, x = .slice a ll.length cap ∧ (0 < ll.length → ∃ g off, a = some ⟨g, off, none⟩ ∧ ∀ i, i < ll.length → ∃ y, w.cell? ⟨g, off + i, none⟩ = some y ∧ Row1 w y (ll.getD i []))

set_option maxRecDepth 100000 in
set_option maxHeartbeats 3000000 in
theorem sameC (ll : List (List ByteArray)) (x y : Value) (w : World) (hx : Row2 w x ll) (hy : Row2 w y ll) (hn : ll.length ≤ 9223372036854775806) (hm : ∀ l ∈ ll, l.length ≤ 9223372036854775806) :
    Calls Tryd.prog 8 #[x, y] w fun e w' => e = .returned (.bool true) ∧ ∃ n, w' = w.drewN n := by
  obtain ⟨a, cap, rfl, ha⟩ := hx
  obtain ⟨b, cap', rfl, hb⟩ := hy
  obtain ⟨n, hnn⟩ : ∃ n, ll.length = n := ⟨_, rfl⟩
  rw [hnn] at ha hb hn ⊢
  have HA := jhid ha
  have HB := jhid hb
  have HN := jhid hnn
  have HM := jhid hm
  clear ha hb hnn hm
  go_enter Tryd.func8, Tryd.ntmps8
  go_wp2
  go_loopw [14, 5, 6] (fun i _ _ wr => ∃ (k j : Nat), i = .int .i64 k ∧ k ≤ n ∧ wr = w.drewN j) (fun i _ _ _ => n - (intOf i).toNat)
  case atStart => exact ⟨0, 0, rfl, by omega, rfl⟩
  case round =>
    obtain ⟨k, j, rfl, hk, rfl⟩ := hrel
    by_cases hlt : k < n
    · obtain ⟨g, off, ea, hca⟩ := HA.out (by omega)
      obtain ⟨g', off', eb, hcb⟩ := HB.out (by omega)
      subst ea
      subst eb
      obtain ⟨u, hu, a1, c1, rfl, h1⟩ := hca k hlt
      obtain ⟨u', hu', a2, c2, rfl, h2⟩ := hcb k hlt
      obtain ⟨m, hmm⟩ : ∃ m, (ll.getD k []).length = m := ⟨_, rfl⟩
      have hm1 : m ≤ 9223372036854775806 := by
        rw [← hmm]
        refine HM.out _ ?_
        rw [List.getD_eq_getElem?_getD, List.getElem?_eq_getElem (by rw [HN.out]; exact hlt)]; simp
      rw [hmm] at hu hu' h1 h2
      have H1 := jhid h1
      have H2 := jhid h2
      have HMM := jhid hmm
      clear h1 h2 hmm hca hcb
      have hlt' : (k : Int) < (n : Int) := by omega
      go_wp2
      go_quiet (fail)
      go_wp2
      go_loopw [33] (fun i wr => ∃ (q j : Nat), i = .int .i64 q ∧ q ≤ m ∧ wr = w.drewN j) (fun i _ => m - (intOf i).toNat)
      case atStart => exact ⟨0, _, rfl, by omega, rfl⟩
      case round =>
        obtain ⟨q, j', rfl, hq, rfl⟩ := hrel
        by_cases hlq : q < m
        · obtain ⟨g1, off1, e1, hc1⟩ := H1.out (by omega)
          obtain ⟨g2, off2, e2, hc2⟩ := H2.out (by omega)
          subst e1
          subst e2
          have hs1 := hc1 q hlq
          have hs2 := hc2 q hlq
          obtain ⟨s, hs⟩ : ∃ s, (ll.getD k []).getD q ByteArray.empty = s := ⟨_, rfl⟩
          rw [hs] at hs1 hs2
          clear hs hc1 hc2
          have hlq' : (q : Int) < (m : Int) := by omega
          go_wp2
          go_quiet (fail)
          go_wp2
          go_roundw
          case rel => exact ⟨q + 1, _, by go_num, by omega, rfl⟩
          case measure => simp [intOf]; omega
        · go_wp2
          go_roundw
          case rel => exact ⟨k + 1, _, by go_num, by omega, rfl⟩
          case measure => simp [intOf]; omega
    · go_wp2
      go_ret
      exact ⟨rfl, _, rfl⟩
end Go.Proofs.YthhjnjghlmaicaaDoor.jr
