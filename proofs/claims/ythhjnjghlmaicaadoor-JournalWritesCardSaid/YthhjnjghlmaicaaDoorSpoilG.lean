/- The contract of pantrylaw28.spoilBytes at any row of the call's own, empty or not: it writes into that row alone. -/
import Derived.Test.YthhjnjghlmaicaaDoorWrite
namespace Go.Proofs.YthhjnjghlmaicaaDoor.jr
open Go.ChangeShapes Go.WideShapes Go.ChangeAt Go.RowKit
set_option linter.unusedVariables false

set_option maxRecDepth 100000 in
set_option maxHeartbeats 3000000 in
theorem spoilBytesG (l : List Int) (base : Nat) (a : Option Addr) (n cap : Nat) (w : World) (hn : l.length = n) (hm : n ≤ 1099511627776) (hbase : base ≤ w.heap.size)
    (hown : w.ownsRow base 5 1 (.slice a n cap) n (l.map (Value.int .u8))) :
    Calls Tryd.prog 9 #[.slice a n cap] w (Ended (fun k => (Value.slice a n cap).ownBlock ≠ some k) w) := by
  obtain ⟨i5, hi5, hz5, hs5, hb5⟩ := info_parts info5
  have HN := jhid hn
  have HO := jhid hown
  have HF := jhid (own_form hown)
  clear hn hown
  go_enter Tryd.func9, Tryd.ntmps9
  go_wp2
  go_loopw [5, 2] (fun i _ wr => ∃ (k : Nat) (xs : List Value), i = .int .i64 k ∧ k ≤ n ∧ Kept (fun k => (Value.slice a n cap).ownBlock ≠ some k) w wr ∧ wr.ownsRow base 5 1 (.slice a n cap) n xs ∧ (∀ j, k ≤ j → j < n → xs[j]? = some (.int .u8 (l.getD j 0)))) (fun i _ _ => n - (intOf i).toNat)
  case atStart => exact ⟨0, _, rfl, by omega, Kept.refl _ _, HO.out, fun j _ hj => by
    rw [List.getElem?_map, List.getElem?_eq_getElem (by rw [HN.out]; exact hj), List.getD_eq_getElem?_getD, List.getElem?_eq_getElem (by rw [HN.out]; exact hj)]; rfl⟩
  case round =>
    obtain ⟨k, xs, rfl, hk, hkept, hrow, hxs⟩ := hrel
    by_cases hlt : k < n
    · obtain ⟨a', cap', e, _, _, hg⟩ := HF.out
      simp only [Value.slice.injEq] at e
      obtain ⟨g, ea⟩ := hg (by omega)
      rw [← e.1] at ea
      clear e hg
      subst ea
      have hcell := hrow.cellAt k (by omega)
      rw [hxs k (Nat.le_refl _) hlt] at hcell
      have hfz := hrow.frozenAt k
      obtain ⟨x, hx⟩ : ∃ x, l.getD k 0 = x := ⟨_, rfl⟩
      rw [hx] at hcell
      have hlt' : (k : Int) < (n : Int) := by omega
      have HK := jhid hkept
      have HR := jhid hrow
      have HX := jhid hxs
      clear hkept hrow hxs hx
      go_wp2
      go_roundw
      case rel =>
        obtain ⟨h1, h2⟩ := HR.out.stored k (.int .u8 (bits BinOp.xor IntKind.u8 x 165))
        exact ⟨k + 1, _, by go_num, by omega, HK.out.setCell (p := ⟨g, k, none⟩) (fun _ h => h rfl) _, h1, fun j hj hjn => by rw [List.getElem?_set_ne (by omega)]; exact HX.out j (by omega) hjn⟩
      case measure => simp [intOf]; omega
    · have HK := jhid hkept
      have HR := jhid hrow
      have hge : (n : Int) ≤ (k : Int) := by omega
      have hsz := hkept.size
      clear hkept hxs hrow
      go_wp2_with (at_builtin; refine wpList_app _ rfl _ _ 24 rfl base 5 i5 (.int .u8 0) 1 Tryd.underlying24 hi5 hz5 hs5 hb5 rfl (.slice a n cap) n _ rfl (HR.out.alloc _) ⟨wr.heap.size, 0, none⟩ 3 3 [.int .u8 1, .int .u8 2, .int .u8 3] rfl rfl (by omega) (cells_new wr [.int .u8 1, .int .u8 2, .int .u8 3] 5) three_one (by unfold maxLen; omega) (by omega) (by simp; omega) ?_; intro g2 cap2 w1 ho1 hg1 hx1; have hf1 := ho1.frozenAt 0; obtain ⟨c0, hc0⟩ := own_first ho1 (by omega); have HO := jhid ho1; have HG := jhid hg1; have HXX := jhid hx1; clear ho1 hg1 hx1)
      go_end0
      refine ⟨rfl, ((HK.out.alloc _).grown HG.out (fun k hk _ h => h hk)).setCell (fun hlt h => ?_) _⟩
      rcases HXX.out with e | ⟨e, _⟩
      · exact h e
      · simp at e hlt; omega
end Go.Proofs.YthhjnjghlmaicaaDoor.jr
