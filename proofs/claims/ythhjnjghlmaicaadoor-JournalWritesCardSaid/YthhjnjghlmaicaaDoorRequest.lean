/- The contracts of reply.lay and of the reference's written at an array of bulks; of both Requests. -/
import Derived.Test.YthhjnjghlmaicaaDoorLay
namespace Go.Proofs.YthhjnjghlmaicaaDoor.jr
open Go.Lib (wpList_append_own_string)
open Go.ChangeShapes Go.WideShapes Go.ChangeAt Go.RowKit
set_option linter.unusedVariables false

def bulksI (ws : List ByteArray) : List Int := ws.flatMap bulkI
def reqI (ws : List ByteArray) : List Int := [42] ++ (strI (dec ws.length) ++ [13, 10]) ++ bulksI ws
theorem bulkI_length (s : ByteArray) (h : s.size ≤ 1048576) : (bulkI s).length ≤ 1048602 := by
  have := dec_size s.size (by omega)
  simp only [bulkI, List.length_append, strI_length, List.length_cons, List.length_nil]
  omega
theorem bulksI_length : ∀ (ws : List ByteArray), (∀ s ∈ ws, s.size ≤ 1048576) → (bulksI ws).length ≤ ws.length * 1048602
  | [], _ => by simp [bulksI]
  | s :: r, h => by
    have h1 := bulkI_length s (h s (List.mem_cons_self ..))
    have h2 := bulksI_length r (fun x hx => h x (List.mem_cons_of_mem _ hx))
    simp only [bulksI, List.flatMap_cons, List.length_append, List.length_cons] at *
    omega
theorem bulksI_take (ws : List ByteArray) (k : Nat) (hk : k < ws.length) : bulksI (ws.take (k + 1)) = bulksI (ws.take k) ++ bulkI (ws.getD k ByteArray.empty) := by
  rw [List.take_succ_eq_append_getElem hk, List.getD_eq_getElem?_getD, List.getElem?_eq_getElem hk]
  unfold bulksI
  rw [List.flatMap_append, List.flatMap_cons, List.flatMap_nil, List.append_nil]
  rfl
theorem bulksCells_at : ∀ (ws : List ByteArray) (k : Nat), k < ws.length → (bulksCells ws)[k * 4]? = some (.int .i64 4) ∧ (bulksCells ws)[k * 4 + 1]? = some (.string (ws.getD k ByteArray.empty)) ∧ (bulksCells ws)[k * 4 + 2]? = some (.int .i64 0) ∧ (bulksCells ws)[k * 4 + 3]? = some (.slice none 0 0)
  | [], k, h => by simp at h
  | s :: r, 0, _ => by simp [bulksCells, bulkCells]
  | s :: r, k + 1, h => by
    have := bulksCells_at r k (by simpa using h)
    have e : ∀ j, (bulksCells (s :: r))[(k + 1) * 4 + j]? = (bulksCells r)[k * 4 + j]? := by
      intro j
      rw [show (k + 1) * 4 + j = 4 + (k * 4 + j) by omega]
      simp only [bulksCells, List.flatMap_cons]
      rw [List.getElem?_append_right (by simp [bulkCells])]
      simp [bulkCells]
    have e0 := e 0
    rw [Nat.add_zero, Nat.add_zero] at e0
    rw [e0, e 1, e 2, e 3]
    simpa using this

/-- A list of bulks reads so. -/
def RList (w : World) (v : Value) (ws : List ByteArray) : Prop :=
  ∃ a cap, v = .slice a ws.length cap ∧ (0 < ws.length → ∃ g, a = some ⟨g, 0, none⟩ ∧ ∀ k, k < ws.length → w.cell? ⟨g, k * 4, none⟩ = some (.int .i64 4) ∧ w.cell? ⟨g, k * 4 + 1, none⟩ = some (.string (ws.getD k ByteArray.empty)) ∧ w.cell? ⟨g, k * 4 + 2, none⟩ = some (.int .i64 0) ∧ w.cell? ⟨g, k * 4 + 3, none⟩ = some (.slice none 0 0))
theorem rlist_of {w : World} {b : Nat} {v : Value} {ws : List ByteArray} (h : w.ownsRow b 39 4 v ws.length (bulksCells ws)) : RList w v ws := by
  obtain ⟨a, cap, rfl, hcm, hnc, ha⟩ := own_form h
  refine ⟨a, cap, rfl, fun hn => ?_⟩
  obtain ⟨g, rfl⟩ := ha hn
  refine ⟨g, rfl, fun k hk => ?_⟩
  have := bulksCells_at ws k hk
  rw [h.cellAt _ (by omega), h.cellAt _ (by omega), h.cellAt _ (by omega), h.cellAt _ (by omega)]
  exact this

def headI (n : Nat) : List Int := [42] ++ (strI (dec n) ++ [13, 10])
theorem headI_eq (n : Nat) : ([] : List Int) ++ [42] ++ strI (dec n ++ (⟨#[13, 10]⟩ : ByteArray)) = headI n := by
  rw [strI_append, show strI (⟨#[13, 10]⟩ : ByteArray) = [13, 10] from rfl]
  rfl
theorem headI_length (n : Nat) (h : n ≤ 1024) : (headI n).length ≤ 24 := by
  have := dec_size n (by omega)
  simp only [headI, List.length_append, strI_length, List.length_cons, List.length_nil]
  omega
/-- Within the loop: the bytes so far are the call's own. -/
structure LT (base : Nat) (w0 : World) (v : Value) (xs : List Int) (W : World) : Prop where
  own : W.ownsRow base 5 1 v xs.length (xs.map (Value.int .u8))
  bel : Below base w0 W
  tab : TB base w0
  bas : base ≤ W.heap.size
namespace LT
variable {base B : Nat} {w0 W W1 : World} {cs : Array Value} {v v1 : Value} {xs ys : List Int}
theorem of (h : LS base w0 B cs v xs W) : LT base w0 v xs W := ⟨h.own, h.bel, h.tab, h.size⟩
theorem alloc (h : LT base w0 v xs W) (o : Obj) : LT base w0 v xs (W.alloc o) := ⟨h.own.alloc o, h.bel.alloc h.bas o, h.tab, by have := h.bas; simp; omega⟩
theorem here (h : LT base w0 v xs W) : TB base W := h.tab.on h.bel
end LT
theorem words_len (ws : List ByteArray) (n k : Nat) (hn : ws.length = n) (hk : k ≤ n) (hm : n ≤ 1024) (hs : ∀ s ∈ ws, s.size ≤ 1048576) : (headI n ++ bulksI (ws.take k)).length ≤ 1073774624 := by
  have h1 := headI_length n hm
  have h2 := bulksI_length (ws.take k) (fun s h => hs s (List.mem_of_mem_take h))
  rw [List.length_take] at h2
  rw [List.length_append]
  have h3 : min k ws.length ≤ 1024 := by omega
  have h4 : min k ws.length * 1048602 ≤ 1024 * 1048602 := Nat.mul_le_mul_right _ h3
  omega
theorem word_at {ws : List ByteArray} {n k : Nat} {s : ByteArray} (hn : ws.length = n) (hk : k < n) (hw : ∀ s ∈ ws, s.size ≤ 1048576) (hs : ws.getD k ByteArray.empty = s) : s.size ≤ 1048576 := by
  subst hs
  refine hw _ ?_
  rw [List.getD_eq_getElem?_getD, List.getElem?_eq_getElem (by rw [hn]; exact hk)]
  exact List.getElem_mem _
theorem step_I {ws : List ByteArray} {n k : Nat} {s : ByteArray} (hn : ws.length = n) (hk : k < n) (hs : ws.getD k ByteArray.empty = s) : headI n ++ bulksI (ws.take k) ++ bulkI s = headI n ++ bulksI (ws.take (k + 1)) := by
  rw [bulksI_take ws k (by omega), hs, List.append_assoc]
theorem last_I {ws : List ByteArray} {n : Nat} (hn : ws.length = n) : headI n ++ bulksI (ws.take n) = reqI ws := by
  rw [List.take_of_length_le (by omega), ← hn]; rfl

set_option maxRecDepth 100000 in
set_option maxHeartbeats 3000000 in
theorem lay6 (ws : List ByteArray) (n : Nat) (hn : ws.length = n) (a : Option Addr) (cap : Nat) (w : World) (hs : ∀ s ∈ ws, s.size ≤ 1048576) (hl : n ≤ 1024) (hr : RList w (.slice a n cap) ws) (htab : TB w.heap.size w) :
    Calls Tryd.prog 18 #[.slice none 0 0, .agg #[.int .i64 6, .string ByteArray.empty, .int .i64 0, .slice a n cap]] w fun e w' => ∃ v', e = .returned v' ∧ w'.ownsRow w.heap.size 5 1 v' (reqI ws).length ((reqI ws).map (Value.int .u8)) ∧ Below w.heap.size w w' := by
  obtain ⟨i5, hi5, hz5, hs5, hb5⟩ := info_parts info5
  have h0 : LS w.heap.size w w.heap.size #[.int .i64 6, .string ByteArray.empty, .int .i64 0, .slice a n cap] (.slice none 0 0) [] (w.alloc (.cells #[.int .i64 6, .string ByteArray.empty, .int .i64 0, .slice a n cap] 39)) :=
    ⟨heap_alloc_new _ _, by simpa using World.ownsRow_nil _ _ _ _, (Below.refl _ _).alloc (Nat.le_refl _) _, htab, Nat.le_refl _⟩
  have H0 := jhid h0
  have hdl := dec_size n (by omega)
  have hd2 : (dec n ++ (⟨#[13, 10]⟩ : ByteArray)).size ≤ 23 := by
    rw [ByteArray.size_append]
    have : (⟨#[13, 10]⟩ : ByteArray).size = 2 := rfl
    omega
  have hr' : 0 < n → ∃ g, a = some ⟨g, 0, none⟩ ∧ ∀ k, k < n → w.cell? ⟨g, k * 4, none⟩ = some (.int .i64 4) ∧ w.cell? ⟨g, k * 4 + 1, none⟩ = some (.string (ws.getD k ByteArray.empty)) ∧ w.cell? ⟨g, k * 4 + 2, none⟩ = some (.int .i64 0) ∧ w.cell? ⟨g, k * 4 + 3, none⟩ = some (.slice none 0 0) := by
    obtain ⟨a', c', e, h⟩ := hr
    rw [hn] at e h
    simp only [Value.slice.injEq] at e
    rw [e.1]
    exact h
  have HRL := jhid hr'
  have HN := jhid hn
  have HSS := jhid hs
  clear h0 htab hr hr' hs hn
  go_enter Tryd.func18, Tryd.ntmps18
  go_wp2_with (first | (go_at_call 22; refine (sign22 6 (by omega) _).mono ?_; rintro e w1 ⟨rfl, rfl⟩) | (at_builtin; refine wpList_app _ rfl (.tmp 7) (.tmp 11) 24 rfl w.heap.size 5 i5 (.int .u8 0) 1 Tryd.underlying24 hi5 hz5 hs5 hb5 rfl (.slice none 0 0) 0 [] rfl (by simpa using World.ownsRow_nil _ _ _ _) ⟨w.heap.size + 1, 0, none⟩ 1 1 [.int .u8 42] rfl rfl (by omega) (by have := cells_new (w.alloc (.cells #[.int .i64 6, .string ByteArray.empty, .int .i64 0, .slice a n cap] 39)) [.int .u8 42] 5; simpa using this) (one_byte _) (by unfold maxLen; omega) (by omega) (by simp; omega) ?_; intro g2 cap2 w1 ho1 hg1 hx1; have h1 := (H0.out.alloc _).grown (ys := [42]) hg1 ho1; have H1 := jhid h1; have hc0 := h1.cell 0; have hc3 := h1.cell 3; simp at hc0 hc3; clear h1 ho1 hg1 hx1) | (go_at_call 23; refine (text23 n (by omega) _ H1.out.here).mono ?_; rintro e w2 ⟨rfl, hb2⟩; have h2 := H1.out.below hb2; have H2 := jhid h2; have hd3 := h2.cell 3; simp at hd3; clear h2 hb2) | (at_builtin; refine wpList_append_own_string _ rfl (.tmp 40) (.tmp 45) 24 9 rfl w.heap.size 5 i5 Tryd.underlying24 Tryd.underlying9 hi5 hz5 hs5 hb5 (.slice (some ⟨g2, 0, none⟩) (0 + 1) cap2) _ _ rfl H2.out.own (dec n ++ (⟨#[13, 10]⟩ : ByteArray)) rfl ?_ ?_ H2.out.size ?_; (unfold maxLen; show 1 + _ ≤ _; omega); (show 1 + _ ≤ _; omega); intro v3 w3 ho3 hg3 hx3; have h3 := H2.out.str hg3 ho3; have H3 := jhid h3; have he3 := h3.cell 3; simp at he3; clear h3 ho3 hg3 hx3))
  go_loopw [50, 0] (fun i b wr => ∃ (k : Nat), i = .int .i64 k ∧ k ≤ n ∧ LT w.heap.size w b (headI n ++ bulksI (ws.take k)) wr) (fun i _ _ => n - (intOf i).toNat)
  case atStart => exact ⟨0, rfl, by omega, by rw [headI_eq] at H3; simpa [bulksI] using LT.of H3.out⟩
  case round =>
    obtain ⟨k, rfl, hk, hrel⟩ := hrel
    by_cases hlt : k < n
    · obtain ⟨g, ea, hca⟩ := HRL.out (by omega)
      subst ea
      obtain ⟨q0, q1, q2, q3⟩ := hca k hlt
      obtain ⟨s, hs⟩ : ∃ s, ws.getD k ByteArray.empty = s := ⟨_, rfl⟩
      rw [hs] at q1
      have q0 := (hrel.bel.cell (World.block_lt_of_cell? _ _ q0)).trans q0
      have q1 := (hrel.bel.cell (World.block_lt_of_cell? _ _ q1)).trans q1
      have q2 := (hrel.bel.cell (World.block_lt_of_cell? _ _ q2)).trans q2
      have q3 := (hrel.bel.cell (World.block_lt_of_cell? _ _ q3)).trans q3
      have HS := jhid hs
      have HR := jhid hrel
      have hlt' : (k : Int) < (n : Int) := by omega
      clear hrel hca hs
      go_wp2_with fail
      have HA := jhid (HR.out.alloc (.cells #[.int .i64 4, .string s, .int .i64 0, .slice none 0 0] 39))
      have hsz := HR.out.bas
      refine (lay4 s w.heap.size u0 (headI n ++ bulksI (ws.take k)) _ (word_at HN.out hlt HSS.out HS.out) (by have := words_len ws n k HN.out hk hl HSS.out; omega) HA.out.own HA.out.bas HA.out.here).mono ?_
      rintro e w5 ⟨v5, rfl, ho5, hb5⟩
      rw [step_I HN.out hlt HS.out] at ho5
      have H5 : Hid (LT w.heap.size w v5 (headI n ++ bulksI (ws.take (k + 1))) w5) := jhid ⟨ho5, HA.out.bel.trans hb5, HA.out.tab, Nat.le_trans HA.out.bas hb5.size⟩
      clear ho5 hb5
      go_wp2_with fail
      exact ⟨⟨k + 1, by simp, by omega, H5.out⟩, by simp [intOf]; omega⟩
    · obtain rfl : k = n := by omega
      have HR := jhid hrel
      clear hrel
      go_wp2_with fail
      go_ret
      have ho := HR.out.own
      rw [last_I HN.out] at ho
      exact ⟨_, rfl, ho, HR.out.bel⟩
theorem headI_eq2 (n : Nat) : ([] : List Int) ++ strI ((⟨#[42]⟩ : ByteArray) ++ dec n ++ (⟨#[13, 10]⟩ : ByteArray)) = headI n := by
  rw [strI_append, strI_append, show strI (⟨#[13, 10]⟩ : ByteArray) = [13, 10] from rfl, show strI (⟨#[42]⟩ : ByteArray) = [42] from rfl]
  simp only [headI, List.nil_append, List.append_assoc]
set_option maxRecDepth 100000 in
set_option maxHeartbeats 3000000 in
theorem written6 (ws : List ByteArray) (n : Nat) (hn : ws.length = n) (a : Option Addr) (cap : Nat) (w : World) (hs : ∀ s ∈ ws, s.size ≤ 1048576) (hl : n ≤ 1024) (hr : RList w (.slice a n cap) ws) (htab : TB w.heap.size w) :
    Calls Tryd.prog 15 #[.slice none 0 0, .agg #[.int .i64 6, .string ByteArray.empty, .int .i64 0, .slice a n cap], .int .i64 4611686018427387904] w fun e w' => ∃ v', e = .returned v' ∧ w'.ownsRow w.heap.size 5 1 v' (reqI ws).length ((reqI ws).map (Value.int .u8)) ∧ Below w.heap.size w w' := by
  obtain ⟨i5, hi5, hz5, hs5, hb5⟩ := info_parts info5
  have h0 : LS w.heap.size w w.heap.size #[.int .i64 6, .string ByteArray.empty, .int .i64 0, .slice a n cap] (.slice none 0 0) [] (w.alloc (.cells #[.int .i64 6, .string ByteArray.empty, .int .i64 0, .slice a n cap] 39)) :=
    ⟨heap_alloc_new _ _, by simpa using World.ownsRow_nil _ _ _ _, (Below.refl _ _).alloc (Nat.le_refl _) _, htab, Nat.le_refl _⟩
  have H0 := jhid h0
  have hdl := dec_size n (by omega)
  have hd2 : ((⟨#[42]⟩ : ByteArray) ++ dec n ++ (⟨#[13, 10]⟩ : ByteArray)).size ≤ 24 := by
    rw [ByteArray.size_append, ByteArray.size_append]
    have : (⟨#[13, 10]⟩ : ByteArray).size = 2 := rfl
    have : (⟨#[42]⟩ : ByteArray).size = 1 := rfl
    omega
  have hr' : 0 < n → ∃ g, a = some ⟨g, 0, none⟩ ∧ ∀ k, k < n → w.cell? ⟨g, k * 4, none⟩ = some (.int .i64 4) ∧ w.cell? ⟨g, k * 4 + 1, none⟩ = some (.string (ws.getD k ByteArray.empty)) ∧ w.cell? ⟨g, k * 4 + 2, none⟩ = some (.int .i64 0) ∧ w.cell? ⟨g, k * 4 + 3, none⟩ = some (.slice none 0 0) := by
    obtain ⟨a', c', e, h⟩ := hr
    rw [hn] at e h
    simp only [Value.slice.injEq] at e
    rw [e.1]
    exact h
  have HRL := jhid hr'
  have HN := jhid hn
  have HSS := jhid hs
  clear h0 htab hr hr' hs hn
  go_enter Tryd.func15, Tryd.ntmps15
  go_wp2_with (first | (go_at_call 20; refine (text20 n (by omega) _).mono ?_; rintro e w2 ⟨rfl, j2, rfl⟩; have h2 := H0.out.drewN j2; have H2 := jhid h2; clear h2) | (at_builtin; refine wpList_append_own_string _ rfl (.tmp 70) (.tmp 77) 24 9 rfl w.heap.size 5 i5 Tryd.underlying24 Tryd.underlying9 hi5 hz5 hs5 hb5 (.slice none 0 0) _ _ rfl H2.out.own ((⟨#[42]⟩ : ByteArray) ++ dec n ++ (⟨#[13, 10]⟩ : ByteArray)) rfl ?_ ?_ H2.out.size ?_; (unfold maxLen; show 0 + _ ≤ _; omega); (show 0 + _ ≤ _; omega); intro v3 w3 ho3 hg3 hx3; have h3 := H2.out.str hg3 ho3; have H3 := jhid h3; have he3 := h3.cell 3; simp at he3; clear h3 ho3 hg3 hx3))
  go_loopw [82, 0] (fun i b wr => ∃ (k L : Nat) (va : Option Addr) (vc : Nat), i = .int .i64 k ∧ b = .slice va L vc ∧ k ≤ n ∧ L ≤ 1073774624 ∧ LT w.heap.size w b (headI n ++ bulksI (ws.take k)) wr) (fun i _ _ => n - (intOf i).toNat)
  case atStart =>
    have h4 := LT.of H3.out
    rw [headI_eq2] at h4
    obtain ⟨va, vc, e, _⟩ := own_form h4.own
    exact ⟨0, _, va, vc, rfl, e, by omega, by have := headI_length n hl; omega, by simpa [bulksI] using h4⟩
  case round =>
    obtain ⟨k, L, va, vc, rfl, rfl, hk, hL, hrel⟩ := hrel
    by_cases hlt : k < n
    · obtain ⟨g, ea, hca⟩ := HRL.out (by omega)
      subst ea
      obtain ⟨q0, q1, q2, q3⟩ := hca k hlt
      obtain ⟨s, hs⟩ : ∃ s, ws.getD k ByteArray.empty = s := ⟨_, rfl⟩
      rw [hs] at q1
      have q0 := (hrel.bel.cell (World.block_lt_of_cell? _ _ q0)).trans q0
      have q1 := (hrel.bel.cell (World.block_lt_of_cell? _ _ q1)).trans q1
      have q2 := (hrel.bel.cell (World.block_lt_of_cell? _ _ q2)).trans q2
      have q3 := (hrel.bel.cell (World.block_lt_of_cell? _ _ q3)).trans q3
      have HS := jhid hs
      have HR := jhid hrel
      have hlt' : (k : Int) < (n : Int) := by omega
      have hLm : ¬ (4611686018427387904 : Int) < (L : Int) := by omega
      clear hrel hca hs
      go_wp2_with fail
      have HA := jhid (HR.out.alloc (.cells #[.int .i64 4, .string s, .int .i64 0, .slice none 0 0] 39))
      have hsz := HR.out.bas
      refine (written4 s w.heap.size (.slice va L vc) (headI n ++ bulksI (ws.take k)) 4611686018427387904 _ (word_at HN.out hlt HSS.out HS.out) (by have := words_len ws n k HN.out hk hl HSS.out; omega) HA.out.own HA.out.bas HA.out.here).mono ?_
      rintro e w5 ⟨v5, rfl, ho5, hb5⟩
      rw [step_I HN.out hlt HS.out] at ho5
      have H5 : Hid (LT w.heap.size w v5 (headI n ++ bulksI (ws.take (k + 1))) w5) := jhid ⟨ho5, HA.out.bel.trans hb5, HA.out.tab, Nat.le_trans HA.out.bas hb5.size⟩
      clear ho5 hb5
      go_wp2_with fail
      obtain ⟨va5, vc5, e5, _⟩ := own_form H5.out.own
      exact ⟨⟨k + 1, _, va5, vc5, by simp, e5, by omega, words_len ws n (k + 1) HN.out (by omega) hl HSS.out, H5.out⟩, by simp [intOf]; omega⟩
    · obtain rfl : k = n := by omega
      have HR := jhid hrel
      clear hrel
      go_wp2_with fail
      go_ret
      have ho := HR.out.own
      rw [last_I HN.out] at ho
      exact ⟨_, rfl, ho, HR.out.bel⟩

theorem tb_next {w w1 : World} (h : TB w.heap.size w) (hb : Below w.heap.size w w1) : TB w1.heap.size w1 := Lib.tabBelow_of_tabIs (h w1 hb)
set_option maxRecDepth 100000 in
theorem request14 (ws : List ByteArray) (n : Nat) (hn : ws.length = n) (a : Option Addr) (cap : Nat) (w : World) (hs : ∀ s ∈ ws, s.size ≤ 1048576) (hl : n ≤ 1024) (hx : Row1 w (.slice a n cap) ws) (htab : TB w.heap.size w) :
    Calls Tryd.prog 14 #[.slice a n cap] w fun e w' => ∃ v', e = .returned v' ∧ w'.ownsRow w.heap.size 5 1 v' (reqI ws).length ((reqI ws).map (Value.int .u8)) ∧ Below w.heap.size w w' := by
  have c1 := bulks19 ws a n cap w hn hx hl
  have HT := jhid htab
  have HS := jhid hs
  have HN := jhid hn
  clear htab hs hn hx
  go_enter Tryd.func14, Tryd.ntmps14
  go_wp2_with fail
  refine c1.mono ?_
  rintro e w1 ⟨v, rfl, ho1, hb1⟩
  clear c1
  obtain ⟨va, vc, rfl, _⟩ := own_form ho1
  have HO1 := jhid ho1
  have HB1 := jhid hb1
  clear ho1 hb1
  go_wp2_with fail
  have hr : RList w1 (.slice va n vc) ws := rlist_of (by rw [HN.out]; exact HO1.out)
  refine (lay6 ws n HN.out va vc w1 HS.out hl hr (tb_next HT.out HB1.out)).mono ?_
  rintro e w2 ⟨v2, rfl, ho2, hb2⟩
  clear hr
  have HO2 := jhid ho2
  have HB2 := jhid hb2
  clear ho2 hb2
  go_wp2_with fail
  go_ret
  exact ⟨v2, rfl, ownsRow_base HO2.out HB1.out.size, HB1.out.trans (HB2.out.mono HB1.out.size)⟩
set_option maxRecDepth 100000 in
theorem request12 (ws : List ByteArray) (n : Nat) (hn : ws.length = n) (a : Option Addr) (cap : Nat) (w : World) (hs : ∀ s ∈ ws, s.size ≤ 1048576) (hl : n ≤ 1024) (hx : Row1 w (.slice a n cap) ws) (htab : TB w.heap.size w) :
    Calls Tryd.prog 12 #[.slice a n cap] w fun e w' => ∃ v', e = .returned v' ∧ w'.ownsRow w.heap.size 5 1 v' (reqI ws).length ((reqI ws).map (Value.int .u8)) ∧ Below w.heap.size w w' := by
  have c1 := bulks16 ws a n cap w hn hx hl
  have HT := jhid htab
  have HS := jhid hs
  have HN := jhid hn
  clear htab hs hn hx
  go_enter Tryd.func12, Tryd.ntmps12
  go_wp2_with fail
  refine c1.mono ?_
  rintro e w1 ⟨v, rfl, ho1, hb1⟩
  clear c1
  obtain ⟨va, vc, rfl, _⟩ := own_form ho1
  have HO1 := jhid ho1
  have HB1 := jhid hb1
  clear ho1 hb1
  go_wp2_with fail
  have hr : RList w1 (.slice va n vc) ws := rlist_of (by rw [HN.out]; exact HO1.out)
  refine (written6 ws n HN.out va vc w1 HS.out hl hr (tb_next HT.out HB1.out)).mono ?_
  rintro e w2 ⟨v2, rfl, ho2, hb2⟩
  clear hr
  have HO2 := jhid ho2
  have HB2 := jhid hb2
  clear ho2 hb2
  go_wp2_with fail
  go_ret
  exact ⟨v2, rfl, ownsRow_base HO2.out HB1.out.size, HB1.out.trans (HB2.out.mono HB1.out.size)⟩
end Go.Proofs.YthhjnjghlmaicaaDoor.jr
