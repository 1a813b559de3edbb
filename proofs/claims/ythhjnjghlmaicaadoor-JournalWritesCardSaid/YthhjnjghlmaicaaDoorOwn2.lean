/- Slices of slices of strings of the call's own: kept, and grown by one. -/
import Derived.Test.YthhjnjghlmaicaaDoorSpoil
namespace Go.Proofs.YthhjnjghlmaicaaDoor.jr
open Go.ChangeShapes Go.WideShapes Go.ChangeAt Go.RowKit
set_option linter.unusedVariables false

theorem own2_nil (w : World) (B L : Nat) : Own2 w B L (.slice none 0 0) [] :=
  ⟨[], World.ownsRow_nil _ _ _ _, fun k h => by simp [Value.ownBlock] at h, fun i h => by simp at h, fun i j x y _ h => by simp at h⟩

theorem own2_kept {S : Nat → Prop} {a b : World} {B L : Nat} {v : Value} {ll : List (List ByteArray)} (h : Own2 a B L v ll) (hk : Kept S a b) (hS : ∀ k, B ≤ k → k < L → S k) : Own2 b B L v ll := by
  obtain ⟨xs, h1, h2, h3, h4⟩ := h
  refine ⟨xs, ownsRow_kept hk h1 (fun k e => hS k (h1.lt k e).1 (h2 k e)), h2, fun i hi => ?_, h4⟩
  obtain ⟨x, hx, hi1, hi2⟩ := h3 i hi
  exact ⟨x, hx, ownsRow_kept hk hi1 (fun k e => hS k (hi1.lt k e).1 (hi2 k e)), hi2⟩

theorem own2_mono {w : World} {B L L' : Nat} {v : Value} {ll : List (List ByteArray)} (h : Own2 w B L v ll) (hL : L ≤ L') : Own2 w B L' v ll := by
  obtain ⟨xs, h1, h2, h3, h4⟩ := h
  refine ⟨xs, h1, fun k e => by have := h2 k e; omega, fun i hi => ?_, h4⟩
  obtain ⟨x, hx, hi1, hi2⟩ := h3 i hi
  exact ⟨x, hx, hi1, fun k e => by have := hi2 k e; omega⟩

theorem map_at {α β : Type} (f : α → β) (d : α) : ∀ (l : List α) (j : Nat), j < l.length → (l.map f)[j]? = some (f (l.getD j d))
  | [], j, h => by simp at h
  | x :: l, 0, h => by simp
  | x :: l, j + 1, h => by simpa using map_at f d l j (by simpa using h)

theorem own2_row {w : World} {B L : Nat} {v : Value} {ll : List (List ByteArray)} (h : Own2 w B L v ll) : Row2 w v ll := by
  obtain ⟨xs, h1, h2, h3, h4⟩ := h
  obtain ⟨a, cap, rfl, _, _, ha⟩ := own_form h1
  refine ⟨a, cap, rfl, fun hn => ?_⟩
  obtain ⟨g, rfl⟩ := ha hn
  refine ⟨g, 0, rfl, fun i hi => ?_⟩
  obtain ⟨x, hx, hi1, hi2⟩ := h3 i hi
  refine ⟨x, by rw [Nat.zero_add, h1.cellAt i (by omega)]; exact hx, ?_⟩
  obtain ⟨b, c, rfl, _, _, hb⟩ := own_form hi1
  refine ⟨b, c, rfl, fun hm => ?_⟩
  obtain ⟨g', rfl⟩ := hb hm
  refine ⟨g', 0, rfl, fun j hj => ?_⟩
  rw [Nat.zero_add, hi1.cellAt j (by omega)]
  exact map_at _ _ _ _ hj

/-- One list more: behind 'append(v, x)'. -/
theorem own2_push {wr w1 : World} {B L L1 : Nat} {v x : Value} {ll : List (List ByteArray)} {ws : List ByteArray} {xs : List Value} {o : Obj} {g2 cap2 : Nat} (hBL : B ≤ L)
    (h1 : wr.ownsRow B 33 1 v ll.length xs) (h2 : ∀ k, v.ownBlock = some k → k < L) (h3 : ∀ i, i < ll.length → ∃ x, xs[i]? = some x ∧ Inner wr B L x (ll.getD i []))
    (h4 : ∀ (i j : Nat) (x y : Value), i < j → xs[i]? = some x → xs[j]? = some y → ∀ k, x.ownBlock = some k → y.ownBlock ≠ some k)
    (hx : wr.ownsRow L 9 1 x ws.length (ws.map Value.string))
    (ho : w1.ownsRow B 33 1 (.slice (some ⟨g2, 0, none⟩) (ll.length + 1) cap2) (ll.length + 1) (xs ++ [x])) (hg : (wr.alloc o).grownBy w1 v.ownBlock)
    (hL1 : L1 = w1.heap.size) (hL : L ≤ wr.heap.size) : Own2 w1 B L1 (.slice (some ⟨g2, 0, none⟩) (ll.length + 1) cap2) (ll ++ [ws]) := by
  subst hL1
  have hsz : wr.heap.size ≤ w1.heap.size := by have := hg.size; simp at this; omega
  have hxl : xs.length = ll.length := by have := h1.1; omega
  have keep : ∀ (y : Value) (zs : List Value) (m C : Nat), wr.ownsRow C 9 1 y m zs → w1.ownsRow C 9 1 y m zs := fun y zs m C hy =>
    (hy.alloc o).kept hg (by
      cases hb : y.ownBlock with
      | none => exact .inl rfl
      | some b => exact .inr (fun e => own_apart h1 hy (by decide) b e.symm hb))
  refine ⟨xs ++ [x], by simpa using ho, fun k e => (ho.lt k e).2, fun i hi => ?_, ?_⟩
  · by_cases hi2 : i < ll.length
    · obtain ⟨y, hy, hi1, hl⟩ := h3 i hi2
      refine ⟨y, by rw [List.getElem?_append_left (by omega)]; exact hy, ?_⟩
      rw [List.getD_eq_getElem?_getD, List.getElem?_append_left hi2, ← List.getD_eq_getElem?_getD]
      exact ⟨keep _ _ _ _ hi1, fun k e => by have := hl k e; omega⟩
    · have hi3 : i = ll.length := by simp at hi; omega
      subst hi3
      refine ⟨x, by rw [List.getElem?_append_right (by omega), hxl]; simp, ?_⟩
      rw [List.getD_eq_getElem?_getD, List.getElem?_append_right (Nat.le_refl _)]
      simp only [Nat.sub_self, List.getElem?_cons_zero, Option.getD_some]
      have hk := keep _ _ _ _ hx
      refine ⟨⟨hk.1, ?_⟩, fun k e => (hk.lt k e).2⟩
      rcases hk.2 with hn | ⟨g, cap, cur, e, hb, r⟩
      · exact .inl hn
      · exact .inr ⟨g, cap, cur, e, by omega, r⟩
  · intro i j y z hij hy hz k hk hk2
    have hj : j < ll.length + 1 := by
      have := (List.getElem?_eq_some_iff.1 hz).1
      simp at this; omega
    rw [List.getElem?_append_left (by omega)] at hy
    by_cases hj2 : j < ll.length
    · rw [List.getElem?_append_left (by omega)] at hz
      exact h4 i j y z hij hy hz k hk hk2
    · have hj3 : j = ll.length := by omega
      subst hj3
      rw [List.getElem?_append_right (by omega), hxl] at hz
      simp at hz
      subst hz
      obtain ⟨y', hy', _, hl⟩ := h3 i (by omega)
      rw [hy] at hy'
      obtain rfl := Option.some.inj hy'
      have e1 := hl k hk
      have e2 := (hx.lt k hk2).1
      omega
end Go.Proofs.YthhjnjghlmaicaaDoor.jr
