/- The contracts of reply.Bulks and of the reference's Bulks: an array of bulks. -/
import Derived.Test.YthhjnjghlmaicaaDoorWNum
import Derived.Deep.AppendLies
import Derived.Deep.RegionLaw
import Derived.Deep.RegionWith
namespace Go.Proofs.YthhjnjghlmaicaaDoor.jr
open Go.ChangeShapes Go.WideShapes Go.ChangeAt Go.RowKit
set_option linter.unusedVariables false
theorem info39 : (Tryd.prog.info? 39).map (fun i => (i.zero, i.size, i.bytes)) = some (some (.agg #[.int .i64 0, .string ByteArray.empty, .int .i64 0, .slice none 0 0]), 4, 56) := by kernel_rfl

def BulkV (s : ByteArray) : Value := .agg #[.int .i64 4, .string s, .int .i64 0, .slice none 0 0]
theorem bulk24 (s : ByteArray) (w : World) :
    Calls Tryd.prog 24 #[.string s] w fun e w' => e = .returned (.agg #[.int .i64 4, .string s, .int .i64 0, .slice none 0 0]) ∧ w' = w.alloc (.cells #[.int .i64 4, .string s, .int .i64 0, .slice none 0 0] 39) := by
  go_enter Tryd.func24, Tryd.ntmps24
  go_wp2_with fail
  refine bodyPost_ret (v := .agg #[.int .i64 4, .string s, .int .i64 0, .slice none 0 0]) (by simp [results, Tryd.results24, go_sem]) rfl ?_
  exact ⟨rfl, rfl⟩
theorem bulk21 (s : ByteArray) (w : World) :
    Calls Tryd.prog 21 #[.string s] w fun e w' => e = .returned (.agg #[.int .i64 4, .string s, .int .i64 0, .slice none 0 0]) ∧ w' = w.alloc (.cells #[.int .i64 4, .string s, .int .i64 0, .slice none 0 0] 39) := by
  go_enter Tryd.func21, Tryd.ntmps21
  go_wp2_with fail
  refine bodyPost_ret (v := .agg #[.int .i64 4, .string s, .int .i64 0, .slice none 0 0]) (by simp [results, Tryd.results21, go_sem]) rfl ?_
  exact ⟨rfl, rfl⟩
def bulkCells (s : ByteArray) : List Value := [.int .i64 4, .string s, .int .i64 0, .slice none 0 0]
def bulksCells (ws : List ByteArray) : List Value := ws.flatMap bulkCells
theorem bulk_one (s : ByteArray) : ∀ u ∈ bulkCells s, u.oneCell' = true := by
  intro u hu
  simp only [bulkCells, List.mem_cons, List.not_mem_nil, or_false] at hu
  rcases hu with rfl | rfl | rfl | rfl <;> rfl
theorem row_next {w : World} {ws : List ByteArray} {n : Nat} {k : Nat} (hn : ws.length = n) (hk : k < n) {v2 : Value} {b e s : Nat} (h : w.ownsRow b e s v2 (k + 1) (bulksCells (ws.take k) ++ bulkCells (ws.getD k ByteArray.empty))) :
    w.ownsRow b e s v2 (k + 1) (bulksCells (ws.take (k + 1))) := by
  have e : bulksCells (ws.take (k + 1)) = bulksCells (ws.take k) ++ bulkCells (ws.getD k ByteArray.empty) := by
    have hk' : k < ws.length := by omega
    rw [List.take_succ_eq_append_getElem hk', List.getD_eq_getElem?_getD, List.getElem?_eq_getElem hk']
    unfold bulksCells
    rw [List.flatMap_append, List.flatMap_cons, List.flatMap_nil, List.append_nil]
    rfl
  rw [e]; exact h
theorem ownsRow_base {w : World} {b b' : Nat} {e : TypeId} {size n : Nat} {v : Value} {xs : List Value} (h : w.ownsRow b e size v n xs) (hb : b' ≤ b) : w.ownsRow b' e size v n xs := by
  refine ⟨h.1, ?_⟩
  rcases h.2 with hn | ⟨g, cap, cur, rfl, hbg, r⟩
  · exact .inl hn
  · exact .inr ⟨g, cap, cur, rfl, by omega, r⟩
/-- What the round's walk reads. -/
structure BkRel (ws : List ByteArray) (w : World) (k : Nat) (v : Value) (wr : World) : Prop where
  hp : wr.heap[w.heap.size + 1]? = some (.cells #[.int .i64 6, .string ByteArray.empty, .int .i64 0, v] 39 (0, 0))
  hr : wr.heap[w.heap.size]? = some (.cells #[.int .i64 0, .string ByteArray.empty, .int .i64 0, .slice none 0 0] 39 (0, 0))
  ho : wr.ownsRow (w.heap.size + 2) 39 4 v k (bulksCells (ws.take k))
  hb : Below w.heap.size w wr
  hs : w.heap.size + 2 ≤ wr.heap.size
namespace BkRel
variable {ws : List ByteArray} {w wr w1 : World} {k : Nat} {v v1 : Value}
theorem c3 (h : BkRel ws w k v wr) : wr.cell? ⟨w.heap.size + 1, 3, none⟩ = some v := cell_of_row _ _ _ _ _ _ h.hp
theorem c3a (h : BkRel ws w k v wr) (o : Obj) : (wr.alloc o).cell? ⟨w.heap.size + 1, 3, none⟩ = some v := by
  rw [World.cell?_alloc_lt _ _ _ (by have := h.hs; show w.heap.size + 1 < _; omega)]; exact h.c3
theorem c3b (h : BkRel ws w k v wr) (o o' : Obj) : ((wr.alloc o).alloc o').cell? ⟨w.heap.size + 1, 3, none⟩ = some v := by
  rw [World.cell?_alloc_lt _ _ _ (by have := h.hs; show w.heap.size + 1 < _; simp; omega)]; exact h.c3a o
/-- Behind the append: what the walk reads. -/
theorem c3c (h : BkRel ws w k v wr) (o o' : Obj) (hg : ((wr.alloc o).alloc o').grownBy w1 v.ownBlock) : w1.heap[w.heap.size + 1]? = some (.cells #[.int .i64 6, .string ByteArray.empty, .int .i64 0, v] 39 (0, 0)) := by
  have h1 := h.hs
  rw [hg.block (w.heap.size + 1) (by simp; omega) (fun e => by have := (h.ho.lt _ e.symm).1; omega)]
  rw [Below.heap_alloc _ _ _ (by simp; omega), Below.heap_alloc _ _ _ (by omega)]
  exact h.hp
theorem c3d (h : BkRel ws w k v wr) (o o' : Obj) (hg : ((wr.alloc o).alloc o').grownBy w1 v.ownBlock) : w1.cell? ⟨w.heap.size + 1, 3, none⟩ = some v ∧ w1.frozen? ⟨w.heap.size + 1, 3, none⟩ = false :=
  ⟨cell_of_row _ _ _ _ _ _ (h.c3c o o' hg), by simp [World.frozen?, h.c3c o o' hg]⟩
theorem next {n g2 cap2 : Nat} {o o' : Obj} (h : BkRel ws w k v wr) (hn : ws.length = n) (hk : k < n) (hg : ((wr.alloc o).alloc o').grownBy w1 v.ownBlock)
    (ho : w1.ownsRow (w.heap.size + 2) 39 4 (.slice (some ⟨g2, 0, none⟩) (k + 1) cap2) (k + 1) (bulksCells (ws.take k) ++ bulkCells (ws.getD k ByteArray.empty))) :
    BkRel ws w (k + 1) (.slice (some ⟨g2, 0, none⟩) (k + 1) cap2) (w1.setCell ⟨w.heap.size + 1, 3, none⟩ (.slice (some ⟨g2, 0, none⟩) (k + 1) cap2)) := by
  have h1 := h.hs
  have h2 := h.c3c o o' hg
  have h3 := (ho.lt g2 rfl).1
  have h4 := hg.size
  simp at h4
  refine ⟨?_, ?_, ownsRow_setCell_other (row_next hn hk ho) (fun e => ?_) _, ?_, ?_⟩
  · rw [heap_setCell_same _ _ _ _ _ _ h2]
    rfl
  · rw [Below.heap_setCell _ _ _ _ (by show w.heap.size ≠ w.heap.size + 1; omega), hg.block w.heap.size (by simp; omega) (fun e => by have := (h.ho.lt _ e.symm).1; omega), Below.heap_alloc _ _ _ (by simp; omega), Below.heap_alloc _ _ _ (by omega)]
    exact h.hr
  · have := Option.some.inj e
    simp at this
    omega
  · exact (((h.hb.alloc (by omega) o).alloc (by simp; omega) o').grown hg (by simp; omega) (fun j e => by have := (h.ho.lt _ e).1; omega)).setCell (by show w.heap.size ≤ w.heap.size + 1; omega) _
  · rw [World.setCell]
    simp; omega
theorem drew (h : BkRel ws w k v wr) : BkRel ws w k v wr.drew := ⟨h.hp, h.hr, h.ho, h.hb.drew, h.hs⟩
end BkRel
theorem bk_news (W : World) (o : Obj) (s : ByteArray) : ∀ j u, (bulkCells s)[j]? = some u → ((W.alloc o).alloc (.cells #[.int .i64 4, .string s, .int .i64 0, .slice none 0 0] 39)).cell? ((⟨W.heap.size + 1, 0, none⟩ : Addr).add j) = some u := by
  have := cells_new (W.alloc o) (bulkCells s) 39
  simpa [bulkCells] using this

set_option maxRecDepth 100000 in
set_option maxHeartbeats 3000000 in
theorem bulks19 (ws : List ByteArray) (a : Option Addr) (n cap : Nat) (w : World) (hn : ws.length = n) (hx : Row1 w (.slice a n cap) ws) (hm : n ≤ 1024) :
    Calls Tryd.prog 19 #[.slice a n cap] w fun e w' => ∃ v, e = .returned (.agg #[.int .i64 6, .string ByteArray.empty, .int .i64 0, v]) ∧ w'.ownsRow w.heap.size 39 4 v n (bulksCells ws) ∧ Below w.heap.size w w' := by
  obtain ⟨i39, hi39, hz39, hs39, hb39⟩ := info_parts info39
  have hx' : 0 < n → ∃ g off, a = some ⟨g, off, none⟩ ∧ ∀ i, i < n → w.cell? ⟨g, off + i, none⟩ = some (.string (ws.getD i ByteArray.empty)) := by
    obtain ⟨a', c', e, h⟩ := hx
    rw [hn] at e h
    simp only [Value.slice.injEq] at e
    rw [e.1]
    exact h
  have HX := jhid hx'
  have HN := jhid hn
  clear hx hx' hn
  have h0 : BkRel ws w 0 (.slice none 0 0) ((w.alloc (.cells #[.int .i64 0, .string ByteArray.empty, .int .i64 0, .slice none 0 0] 39)).alloc (.cells #[.int .i64 6, .string ByteArray.empty, .int .i64 0, .slice none 0 0] 39)) := by
    refine ⟨?_, ?_, by simpa [bulksCells] using World.ownsRow_nil _ _ _ _, ((Below.refl _ _).alloc (Nat.le_refl _) _).alloc (by simp) _, by simp⟩
    · have := heap_alloc_new (w.alloc (.cells #[.int .i64 0, .string ByteArray.empty, .int .i64 0, .slice none 0 0] 39)) (.cells #[.int .i64 6, .string ByteArray.empty, .int .i64 0, .slice none 0 0] 39)
      simpa using this
    · rw [Below.heap_alloc _ _ _ (by simp)]
      exact heap_alloc_new _ _
  have H0 := jhid h0
  clear h0
  go_enter Tryd.func19, Tryd.ntmps19
  go_wp2_with fail
  go_loopw [9] (fun i wr => ∃ (k : Nat) (v : Value), i = .int .i64 k ∧ k ≤ n ∧ BkRel ws w k v wr) (fun i _ => n - (intOf i).toNat)
  case atStart => exact ⟨0, _, rfl, by omega, H0.out⟩
  case round =>
    obtain ⟨k, v, rfl, hk, hrel⟩ := hrel
    by_cases hlt : k < n
    · obtain ⟨g, off, ea, hca⟩ := HX.out (by omega)
      subst ea
      have hc := (hrel.hb.cell (World.block_lt_of_cell? _ _ (hca k hlt))).trans (hca k hlt)
      have h3 := hrel.c3
      have h3a := hrel.c3a
      have h3b := hrel.c3b
      obtain ⟨s, hs⟩ : ∃ s, ws.getD k ByteArray.empty = s := ⟨_, rfl⟩
      rw [hs] at hc
      have HS := jhid hs
      clear hs
      have HSZ := jhid hrel.hs
      have HR := jhid hrel.drew
      have hlt' : (k : Int) < (n : Int) := by omega
      clear hrel hca
      go_wp2_with fail
      go_region_law (first | (go_simp; go_at_call 24; refine (bulk24 _ _).mono ?_; rintro e w1 ⟨rfl, rfl⟩) | (refine step_append_lies _ rfl (.tmp 14) (.tmp 17) 37 rfl (w.heap.size + 2) 39 i39 _ 4 56 Tryd.underlying37 hi39 hz39 hs39 hb39 rfl (by omega) v k (bulksCells (ws.take k)) (by simp [Act.eval]) ((HR.out.ho.alloc _).alloc _) ⟨wr.heap.size + 1, 0, none⟩ 1 1 (bulkCells s) (by simp [Act.eval]) rfl (bk_news wr.drew _ s) (bulk_one _) (by omega) (by unfold maxLen; omega) (by omega) (by have := HSZ.out; simp; omega) _ rfl ?_; intro g2 cap2 w1 ho1 hg1 hl1 hlt1; have HO1 := jhid ho1; have HG1 := jhid hg1; have hcs := HR.out.c3d _ _ HG1.out; have hcs1 := hcs.1; have hcs2 := hcs.2; clear hcs ho1 hg1 hl1 hlt1))
      all_goals go_wp2_with fail
      all_goals exact ⟨⟨k + 1, _, by simp, by omega, HR.out.next HN.out hlt HG1.out (HS.out.symm ▸ HO1.out)⟩, by simp [intOf]; omega⟩
    · obtain rfl : k = n := by omega
      obtain ⟨va, vcap, rfl, _⟩ := own_form hrel.ho
      have HR := jhid hrel
      have hcr : ∀ j : Nat, wr.cell? ⟨w.heap.size, j, none⟩ = (#[.int .i64 0, .string ByteArray.empty, .int .i64 0, .slice none 0 0] : Array Value)[j]? := fun j => cell_of_row _ _ _ _ _ _ hrel.hr
      have hcp : ∀ j : Nat, wr.cell? ⟨w.heap.size + 1, j, none⟩ = (#[.int .i64 6, .string ByteArray.empty, .int .i64 0, .slice va k vcap] : Array Value)[j]? := fun j => cell_of_row _ _ _ _ _ _ hrel.hp
      have hr0 := hcr 0
      have hr1 := hcr 1
      have hr2 := hcr 2
      have hr3 := hcr 3
      have hp0 := hcp 0
      have hp1 := hcp 1
      have hp2 := hcp 2
      have hp3 := hcp 3
      simp at hr0 hr1 hr2 hr3 hp0 hp1 hp2 hp3
      have hfr : ∀ j : Nat, wr.frozen? ⟨w.heap.size, j, none⟩ = false := fun j => by simp [World.frozen?, hrel.hr]
      clear hrel hcr hcp
      go_wp2_with fail
      refine bodyPost_ret (v := .agg #[.int .i64 6, .string ByteArray.empty, .int .i64 0, .slice va k vcap]) (by simp [results, Tryd.results19, go_sem, hr0, hr1, hr2, hr3]) rfl ?_
      have ho := HR.out.ho
      rw [List.take_of_length_le (by rw [HN.out]; exact Nat.le_refl _)] at ho
      have st : ∀ {X : World} {j : Nat} {u : Value}, X.ownsRow (w.heap.size + 2) 39 4 (.slice va k vcap) k (bulksCells ws) → (X.setCell ⟨w.heap.size, j, none⟩ u).ownsRow (w.heap.size + 2) 39 4 (.slice va k vcap) k (bulksCells ws) := fun h => ownsRow_setCell_below h (by show w.heap.size < w.heap.size + 2; omega) _
      have sb : ∀ {X : World} {j : Nat} {u : Value}, Below w.heap.size w X → Below w.heap.size w (X.setCell ⟨w.heap.size, j, none⟩ u) := fun h => h.setCell (Nat.le_refl _) _
      exact ⟨_, rfl, ownsRow_base (st (st (st (st ho)))) (by omega), sb (sb (sb (sb HR.out.hb)))⟩
set_option maxRecDepth 100000 in
set_option maxHeartbeats 3000000 in
theorem bulks16 (ws : List ByteArray) (a : Option Addr) (n cap : Nat) (w : World) (hn : ws.length = n) (hx : Row1 w (.slice a n cap) ws) (hm : n ≤ 1024) :
    Calls Tryd.prog 16 #[.slice a n cap] w fun e w' => ∃ v, e = .returned (.agg #[.int .i64 6, .string ByteArray.empty, .int .i64 0, v]) ∧ w'.ownsRow w.heap.size 39 4 v n (bulksCells ws) ∧ Below w.heap.size w w' := by
  obtain ⟨i39, hi39, hz39, hs39, hb39⟩ := info_parts info39
  have hx' : 0 < n → ∃ g off, a = some ⟨g, off, none⟩ ∧ ∀ i, i < n → w.cell? ⟨g, off + i, none⟩ = some (.string (ws.getD i ByteArray.empty)) := by
    obtain ⟨a', c', e, h⟩ := hx
    rw [hn] at e h
    simp only [Value.slice.injEq] at e
    rw [e.1]
    exact h
  have HX := jhid hx'
  have HN := jhid hn
  clear hx hx' hn
  have h0 : BkRel ws w 0 (.slice none 0 0) ((w.alloc (.cells #[.int .i64 0, .string ByteArray.empty, .int .i64 0, .slice none 0 0] 39)).alloc (.cells #[.int .i64 6, .string ByteArray.empty, .int .i64 0, .slice none 0 0] 39)) := by
    refine ⟨?_, ?_, by simpa [bulksCells] using World.ownsRow_nil _ _ _ _, ((Below.refl _ _).alloc (Nat.le_refl _) _).alloc (by simp) _, by simp⟩
    · have := heap_alloc_new (w.alloc (.cells #[.int .i64 0, .string ByteArray.empty, .int .i64 0, .slice none 0 0] 39)) (.cells #[.int .i64 6, .string ByteArray.empty, .int .i64 0, .slice none 0 0] 39)
      simpa using this
    · rw [Below.heap_alloc _ _ _ (by simp)]
      exact heap_alloc_new _ _
  have H0 := jhid h0
  clear h0
  go_enter Tryd.func16, Tryd.ntmps16
  go_wp2_with fail
  go_loopw [9] (fun i wr => ∃ (k : Nat) (v : Value), i = .int .i64 k ∧ k ≤ n ∧ BkRel ws w k v wr) (fun i _ => n - (intOf i).toNat)
  case atStart => exact ⟨0, _, rfl, by omega, H0.out⟩
  case round =>
    obtain ⟨k, v, rfl, hk, hrel⟩ := hrel
    by_cases hlt : k < n
    · obtain ⟨g, off, ea, hca⟩ := HX.out (by omega)
      subst ea
      have hc := (hrel.hb.cell (World.block_lt_of_cell? _ _ (hca k hlt))).trans (hca k hlt)
      have h3 := hrel.c3
      have h3a := hrel.c3a
      have h3b := hrel.c3b
      obtain ⟨s, hs⟩ : ∃ s, ws.getD k ByteArray.empty = s := ⟨_, rfl⟩
      rw [hs] at hc
      have HS := jhid hs
      clear hs
      have HSZ := jhid hrel.hs
      have HR := jhid hrel.drew
      have hlt' : (k : Int) < (n : Int) := by omega
      clear hrel hca
      go_wp2_with fail
      go_region_law (first | (go_simp; go_at_call 21; refine (bulk21 _ _).mono ?_; rintro e w1 ⟨rfl, rfl⟩) | (refine step_append_lies _ rfl (.tmp 14) (.tmp 17) 37 rfl (w.heap.size + 2) 39 i39 _ 4 56 Tryd.underlying37 hi39 hz39 hs39 hb39 rfl (by omega) v k (bulksCells (ws.take k)) (by simp [Act.eval]) ((HR.out.ho.alloc _).alloc _) ⟨wr.heap.size + 1, 0, none⟩ 1 1 (bulkCells s) (by simp [Act.eval]) rfl (bk_news wr.drew _ s) (bulk_one _) (by omega) (by unfold maxLen; omega) (by omega) (by have := HSZ.out; simp; omega) _ rfl ?_; intro g2 cap2 w1 ho1 hg1 hl1 hlt1; have HO1 := jhid ho1; have HG1 := jhid hg1; have hcs := HR.out.c3d _ _ HG1.out; have hcs1 := hcs.1; have hcs2 := hcs.2; clear hcs ho1 hg1 hl1 hlt1))
      all_goals go_wp2_with fail
      all_goals exact ⟨⟨k + 1, _, by simp, by omega, HR.out.next HN.out hlt HG1.out (HS.out.symm ▸ HO1.out)⟩, by simp [intOf]; omega⟩
    · obtain rfl : k = n := by omega
      obtain ⟨va, vcap, rfl, _⟩ := own_form hrel.ho
      have HR := jhid hrel
      have hcr : ∀ j : Nat, wr.cell? ⟨w.heap.size, j, none⟩ = (#[.int .i64 0, .string ByteArray.empty, .int .i64 0, .slice none 0 0] : Array Value)[j]? := fun j => cell_of_row _ _ _ _ _ _ hrel.hr
      have hcp : ∀ j : Nat, wr.cell? ⟨w.heap.size + 1, j, none⟩ = (#[.int .i64 6, .string ByteArray.empty, .int .i64 0, .slice va k vcap] : Array Value)[j]? := fun j => cell_of_row _ _ _ _ _ _ hrel.hp
      have hr0 := hcr 0
      have hr1 := hcr 1
      have hr2 := hcr 2
      have hr3 := hcr 3
      have hp0 := hcp 0
      have hp1 := hcp 1
      have hp2 := hcp 2
      have hp3 := hcp 3
      simp at hr0 hr1 hr2 hr3 hp0 hp1 hp2 hp3
      have hfr : ∀ j : Nat, wr.frozen? ⟨w.heap.size, j, none⟩ = false := fun j => by simp [World.frozen?, hrel.hr]
      clear hrel hcr hcp
      go_wp2_with fail
      refine bodyPost_ret (v := .agg #[.int .i64 6, .string ByteArray.empty, .int .i64 0, .slice va k vcap]) (by simp [results, Tryd.results16, go_sem, hr0, hr1, hr2, hr3]) rfl ?_
      have ho := HR.out.ho
      rw [List.take_of_length_le (by rw [HN.out]; exact Nat.le_refl _)] at ho
      have st : ∀ {X : World} {j : Nat} {u : Value}, X.ownsRow (w.heap.size + 2) 39 4 (.slice va k vcap) k (bulksCells ws) → (X.setCell ⟨w.heap.size, j, none⟩ u).ownsRow (w.heap.size + 2) 39 4 (.slice va k vcap) k (bulksCells ws) := fun h => ownsRow_setCell_below h (by show w.heap.size < w.heap.size + 2; omega) _
      have sb : ∀ {X : World} {j : Nat} {u : Value}, Below w.heap.size w X → Below w.heap.size w (X.setCell ⟨w.heap.size, j, none⟩ u) := fun h => h.setCell (Nat.le_refl _) _
      exact ⟨_, rfl, ownsRow_base (st (st (st (st ho)))) (by omega), sb (sb (sb (sb HR.out.hb)))⟩
end Go.Proofs.YthhjnjghlmaicaaDoor.jr
