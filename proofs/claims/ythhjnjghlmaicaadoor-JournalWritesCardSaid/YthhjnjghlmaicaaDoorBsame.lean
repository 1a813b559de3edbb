/- The contract of pantrylaw28.same: of two rows of bytes that read the same it says true, and draws alone. -/
import Derived.Test.YthhjnjghlmaicaaDoorSame
namespace Go.Proofs.YthhjnjghlmaicaaDoor.jr
open Go.ChangeShapes Go.WideShapes Go.ChangeAt Go.RowKit
set_option linter.unusedVariables false

/-- A slice of bytes reads so. -/
def RowB (w : World) (x : Value) (l : List Int) : Prop :=
  ∃ a cap, x = .slice a l.length cap ∧ (0 < l.length → ∃ g off, a = some ⟨g, off, none⟩ ∧ ∀ i, i < l.length → w.cell? ⟨g, off + i, none⟩ = some (.int .u8 (l.getD i 0)))

set_option maxRecDepth 100000 in
set_option maxHeartbeats 3000000 in
theorem bsame (l : List Int) (x y : Value) (w : World) (hx : RowB w x l) (hy : RowB w y l) (hn : l.length ≤ 9223372036854775806) :
    Calls Tryd.prog 7 #[x, y] w fun e w' => e = .returned (.bool true) ∧ ∃ n, w' = w.drewN n := by
  obtain ⟨a, cap, rfl, ha⟩ := hx
  obtain ⟨b, cap', rfl, hb⟩ := hy
  obtain ⟨n, hnn⟩ : ∃ n, l.length = n := ⟨_, rfl⟩
  rw [hnn] at ha hb hn ⊢
  have HA := jhid ha
  have HB := jhid hb
  clear ha hb hnn
  go_enter Tryd.func7, Tryd.ntmps7
  go_wp2
  go_loopw [13] (fun i wr => ∃ (k j : Nat), i = .int .i64 k ∧ k ≤ n ∧ wr = w.drewN j) (fun i _ => n - (intOf i).toNat)
  case atStart => exact ⟨0, 0, rfl, by omega, rfl⟩
  case round =>
    obtain ⟨k, j, rfl, hk, rfl⟩ := hrel
    by_cases hlt : k < n
    · obtain ⟨g, off, ea, hca⟩ := HA.out (by omega)
      obtain ⟨g', off', eb, hcb⟩ := HB.out (by omega)
      subst ea
      subst eb
      have h1 := hca k hlt
      have h2 := hcb k hlt
      obtain ⟨s, hs⟩ : ∃ s, l.getD k 0 = s := ⟨_, rfl⟩
      rw [hs] at h1 h2
      clear hs hca hcb
      have hlt' : (k : Int) < (n : Int) := by omega
      go_wp2
      go_quiet (fail)
      go_wp2
      go_roundw
      case rel => exact ⟨k + 1, _, by go_num, by omega, rfl⟩
      case measure => simp [intOf]; omega
    · go_wp2
      go_ret
      exact ⟨rfl, _, rfl⟩
end Go.Proofs.YthhjnjghlmaicaaDoor.jr
