/- The contract of pantrylaw28.spoilBytes: it writes into the row that it is handed alone. -/
import Derived.Test.YthhjnjghlmaicaaDoorKept
namespace Go.Proofs.YthhjnjghlmaicaaDoor.jr
open Go.ChangeShapes Go.WideShapes Go.ChangeAt Go.RowKit
set_option linter.unusedVariables false

theorem info5 : (Tryd.prog.info? 5).map (fun i => (i.zero, i.size, i.bytes)) = some (some (.int .u8 0), 1, 1) := by kernel_rfl
theorem info9 : (Tryd.prog.info? 9).map (fun i => (i.zero, i.size, i.bytes)) = some (some (.string ByteArray.empty), 1, 16) := by kernel_rfl
theorem info45 : (Tryd.prog.info? 33).map (fun i => (i.zero, i.size, i.bytes)) = some (some (.slice none 0 0), 1, 24) := by kernel_rfl

theorem three_one {x y z : Int} : ∀ u ∈ [Value.int .u8 x, .int .u8 y, .int .u8 z], u.oneCell' = true := by intro u hu; simp at hu; rcases hu with rfl | rfl | rfl <;> rfl
theorem own_first {w : World} {base : Nat} {e : TypeId} {g n cap : Nat} {xs : List Value} (ho : w.ownsRow base e 1 (.slice (some ⟨g, 0, none⟩) n cap) n xs) (h : 0 < n) : ∃ c, w.cell? ⟨g, 0, none⟩ = some c := by
  rw [ho.cellAt 0 (by omega)]
  exact ⟨_, List.getElem?_eq_getElem (by rw [ho.1]; omega)⟩
def Ended (S : Nat → Prop) (w : World) (e : Ending) (w' : World) : Prop := e = .returned (.tuple #[]) ∧ Kept S w w'

set_option maxRecDepth 100000 in
set_option maxHeartbeats 3000000 in
theorem spoilBytesC (l : List Int) (g n cap : Nat) (w : World) (hn : l.length = n) (hcap : n + 3 ≤ cap) (hcm : cap ≤ 9223372036854775806)
    (hown : w.ownsRow 0 5 1 (.slice (some ⟨g, 0, none⟩) n cap) n (l.map (Value.int .u8))) :
    Calls Tryd.prog 9 #[.slice (some ⟨g, 0, none⟩) n cap] w (Ended (· ≠ g) w) := by
  obtain ⟨i5, hi5, hz5, hs5, hb5⟩ := info_parts info5
  have HN := jhid hn
  clear hn
  go_enter Tryd.func9, Tryd.ntmps9
  go_wp2
  go_loopw [5, 2] (fun i _ wr => ∃ (k : Nat) (xs : List Value), i = .int .i64 k ∧ k ≤ n ∧ Kept (· ≠ g) w wr ∧ wr.ownsRow 0 5 1 (.slice (some ⟨g, 0, none⟩) n cap) n xs ∧ (∀ j, k ≤ j → j < n → xs[j]? = some (.int .u8 (l.getD j 0)))) (fun i _ _ => n - (intOf i).toNat)
  case atStart => exact ⟨0, _, rfl, by omega, Kept.refl _ _, hown, fun j _ hj => by
    rw [List.getElem?_map, List.getElem?_eq_getElem (by rw [HN.out]; exact hj), List.getD_eq_getElem?_getD, List.getElem?_eq_getElem (by rw [HN.out]; exact hj)]; rfl⟩
  case round =>
    obtain ⟨k, xs, rfl, hk, hkept, hrow, hxs⟩ := hrel
    by_cases hlt : k < n
    · have hcell := hrow.cellAt k (by omega)
      rw [hxs k (Nat.le_refl _) hlt] at hcell
      have hfz := hrow.frozenAt k
      obtain ⟨x, hx⟩ : ∃ x, l.getD k 0 = x := ⟨_, rfl⟩
      rw [hx] at hcell
      have hlt' : (k : Int) < (n : Int) := by omega
      have HK := jhid hkept
      have HR := jhid hrow
      have HX := jhid hxs
      clear hkept hrow hxs hx
      go_wp2
      go_roundw
      case rel =>
        obtain ⟨h1, h2⟩ := HR.out.stored k (.int .u8 (bits BinOp.xor IntKind.u8 x 165))
        exact ⟨k + 1, _, by go_num, by omega, HK.out.setCell (fun _ h => h rfl) _, h1, fun j hj hjn => by rw [List.getElem?_set_ne (by omega)]; exact HX.out j (by omega) hjn⟩
      case measure => simp [intOf]; omega
    · have HK := jhid hkept
      have HR := jhid hrow
      have hge : (n : Int) ≤ (k : Int) := by omega
      clear hkept hxs hrow
      go_wp2_with (at_builtin; refine wpList_append_fits _ rfl _ _ 24 rfl 0 5 i5 1 Tryd.underlying24 hi5 hs5 g n cap _ rfl (HR.out.alloc _) _ 3 3 [.int .u8 1, .int .u8 2, .int .u8 3] rfl rfl ?_ ?_ ?_ ?_; exact cells_new wr [.int .u8 1, .int .u8 2, .int .u8 3] 5; exact three_one; exact hcap; intro w1 ho1 hg1; have hf1 := ho1.frozenAt 0; obtain ⟨c0, hc0⟩ := own_first ho1 (by omega); have HO := jhid ho1; have HG := jhid hg1; clear ho1 hg1)
      go_end0
      exact ⟨rfl, ((HK.out.alloc _).grown HG.out (fun k hk _ h => h (Option.some.inj hk).symm)).setCell (fun _ h => h rfl) _⟩
end Go.Proofs.YthhjnjghlmaicaaDoor.jr
