/- The contracts of reply.lay and of the reference's written at a bulk. -/
import Derived.Test.YthhjnjghlmaicaaDoorBulks
namespace Go.Proofs.YthhjnjghlmaicaaDoor.jr
open Go.Lib (wpList_append_own_string)
open Go.ChangeShapes Go.WideShapes Go.ChangeAt Go.RowKit
set_option linter.unusedVariables false

def strI (s : ByteArray) : List Int := s.data.toList.map fun b => (b.toNat : Int)
theorem strI_length (s : ByteArray) : (strI s).length = s.size := by unfold strI; rw [List.length_map, Array.length_toList]; rfl
theorem strCells_strI (s : ByteArray) : Lib.strCells s = (strI s).map (Value.int .u8) := by simp [Lib.strCells, strI]
theorem strI_append (s t : ByteArray) : strI (s ++ t) = strI s ++ strI t := by unfold strI; rw [ByteArray.data_append, Array.toList_append, List.map_append]
def bulkI (s : ByteArray) : List Int := [36] ++ (strI (dec s.size) ++ [13, 10]) ++ strI s ++ [13, 10]
theorem dec_size (n : Nat) (hn : n ≤ 9223372036854775807) : (dec n).size ≤ 21 := by
  have := dec_length n hn
  simpa [dec, ByteArray.size] using this
abbrev TB (base : Nat) (w : World) : Prop := Lib.TabBelow Tryd.prog base w "internal/strconv.uint64pow10" .u64 Lib.pow10Tab

/-- Within a call of lay: the box with the reply, the bytes so far. -/
structure LS (base : Nat) (w0 : World) (B : Nat) (cs : Array Value) (v : Value) (xs : List Int) (W : World) : Prop where
  box : W.heap[B]? = some (.cells cs 39 (0, 0))
  own : W.ownsRow base 5 1 v xs.length (xs.map (Value.int .u8))
  bel : Below base w0 W
  tab : TB base w0
  bas : base ≤ B
namespace LS
variable {base B : Nat} {w0 W W1 : World} {cs : Array Value} {v v1 : Value} {xs ys : List Int}
theorem lt (h : LS base w0 B cs v xs W) : B < W.heap.size := lt_of_block h.box
theorem size (h : LS base w0 B cs v xs W) : base ≤ W.heap.size := by have := h.lt; have := h.bas; omega
theorem here (h : LS base w0 B cs v xs W) : Lib.TabIs Tryd.prog W "internal/strconv.uint64pow10" .u64 Lib.pow10Tab := h.tab W h.bel
theorem cell (h : LS base w0 B cs v xs W) (j : Nat) : W.cell? ⟨B, j, none⟩ = cs[j]? := cell_of_row _ _ _ _ _ _ h.box
theorem apart (h : LS base w0 B cs v xs W) : v.ownBlock ≠ some B := by
  intro e
  rcases h.own.2 with ⟨rfl, _⟩ | ⟨g, cap, cur, rfl, _, hg, _⟩
  · simp [Value.ownBlock] at e
  · simp [Value.ownBlock] at e
    subst e
    have := h.box
    rw [hg] at this
    simp at this
theorem alloc (h : LS base w0 B cs v xs W) (o : Obj) : LS base w0 B cs v xs (W.alloc o) :=
  ⟨by rw [Below.heap_alloc _ _ _ h.lt]; exact h.box, h.own.alloc o, h.bel.alloc h.size o, h.tab, h.bas⟩
theorem below (h : LS base w0 B cs v xs W) (hb : Below W.heap.size W W1) : LS base w0 B cs v xs W1 :=
  ⟨by rw [hb.block _ h.lt]; exact h.box, ownsRow_kept (Kept.ofBelow hb) h.own (fun k e => (h.own.lt k e).2), h.bel.trans (hb.mono h.size), h.tab, h.bas⟩
theorem drewN (h : LS base w0 B cs v xs W) (n : Nat) : LS base w0 B cs v xs (W.drewN n) := ⟨h.box, h.own, below_drewN h.bel n, h.tab, h.bas⟩
theorem grown (h : LS base w0 B cs v xs W) (hg : W.grownBy W1 v.ownBlock) (ho : W1.ownsRow base 5 1 v1 (xs.length + ys.length) (xs.map (Value.int .u8) ++ ys.map (Value.int .u8))) : LS base w0 B cs v1 (xs ++ ys) W1 :=
  ⟨by rw [hg.block _ h.lt (fun e => h.apart e.symm)]; exact h.box, by simpa using ho, h.bel.grown hg h.size (fun k e => (h.own.lt k e).1), h.tab, h.bas⟩
theorem str (h : LS base w0 B cs v xs W) {s : ByteArray} (hg : W.grownBy W1 v.ownBlock) (ho : W1.ownsRow base 5 1 v1 (xs.length + s.size) (xs.map (Value.int .u8) ++ Lib.strCells s)) : LS base w0 B cs v1 (xs ++ strI s) W1 :=
  h.grown hg (by rw [strI_length, ← strCells_strI]; exact ho)
end LS

theorem sign22 (k : Nat) (hk : k < 8) (w : World) :
    Calls Tryd.prog 22 #[.int .i64 (k : Int)] w fun e w' => e = .returned (.int .u8 ([63, 43, 45, 58, 36, 36, 42, 42].getD k 0)) ∧ w' = w := by
  have hk' : k = 0 ∨ k = 1 ∨ k = 2 ∨ k = 3 ∨ k = 4 ∨ k = 5 ∨ k = 6 ∨ k = 7 := by omega
  rcases hk' with rfl | rfl | rfl | rfl | rfl | rfl | rfl | rfl <;>
  (go_enter Tryd.func22, Tryd.ntmps22
   go_wp2
   go_ret
   exact ⟨rfl, rfl⟩)
theorem one_byte (k : Int) : ∀ u ∈ [Value.int .u8 k], u.oneCell' = true := by intro u hu; simp at hu; subst hu; rfl

set_option maxRecDepth 100000 in
set_option maxHeartbeats 3000000 in
theorem lay4 (s : ByteArray) (base : Nat) (v : Value) (xs : List Int) (w : World) (hs : s.size ≤ 1048576) (hl : xs.length ≤ 1099511627776) (hown : w.ownsRow base 5 1 v xs.length (xs.map (Value.int .u8))) (hbase : base ≤ w.heap.size) (htab : TB base w) :
    Calls Tryd.prog 18 #[v, .agg #[.int .i64 4, .string s, .int .i64 0, .slice none 0 0]] w fun e w' => ∃ v', e = .returned v' ∧ w'.ownsRow base 5 1 v' (xs ++ bulkI s).length ((xs ++ bulkI s).map (Value.int .u8)) ∧ Below base w w' := by
  obtain ⟨i5, hi5, hz5, hs5, hb5⟩ := info_parts info5
  have h0 : LS base w w.heap.size #[.int .i64 4, .string s, .int .i64 0, .slice none 0 0] v xs (w.alloc (.cells #[.int .i64 4, .string s, .int .i64 0, .slice none 0 0] 39)) :=
    ⟨heap_alloc_new _ _, hown.alloc _, (Below.refl _ _).alloc hbase _, htab, hbase⟩
  have H0 := jhid h0
  have hdl := dec_size s.size (by omega)
  have hd2 : (dec s.size ++ (⟨#[13, 10]⟩ : ByteArray)).size ≤ 23 := by
    rw [ByteArray.size_append]
    have : (⟨#[13, 10]⟩ : ByteArray).size = 2 := rfl
    omega
  have hL2 : (xs ++ [36] ++ strI (dec s.size ++ (⟨#[13, 10]⟩ : ByteArray))).length ≤ 1099511627776 + 24 := by
    rw [List.length_append, List.length_append, strI_length]
    simp only [List.length_cons, List.length_nil]
    omega
  have hL3 : (xs ++ [36] ++ strI (dec s.size ++ (⟨#[13, 10]⟩ : ByteArray)) ++ strI s).length ≤ 1099511627776 + 24 + 1048576 := by
    rw [List.length_append, strI_length]
    omega
  have HL2 := jhid hL2
  have HL3 := jhid hL3
  clear h0 hown htab hL2 hL3
  go_enter Tryd.func18, Tryd.ntmps18
  go_wp2_with (first | (go_at_call 22; refine (sign22 4 (by omega) _).mono ?_; rintro e w1 ⟨rfl, rfl⟩) | (at_builtin; refine wpList_app _ rfl (.tmp 7) (.tmp 11) 24 rfl base 5 i5 (.int .u8 0) 1 Tryd.underlying24 hi5 hz5 hs5 hb5 rfl v xs.length (xs.map (Value.int .u8)) rfl (H0.out.own.alloc _) ⟨w.heap.size + 1, 0, none⟩ 1 1 [.int .u8 36] rfl rfl (by omega) (by have := cells_new (w.alloc (.cells #[.int .i64 4, .string s, .int .i64 0, .slice none 0 0] 39)) [.int .u8 36] 5; simpa using this) (one_byte _) (by unfold maxLen; omega) (by omega) (by simp; omega) ?_; intro g2 cap2 w1 ho1 hg1 hx1; have h1 := (H0.out.alloc _).grown (ys := [36]) hg1 ho1; have H1 := jhid h1; have hc0 := h1.cell 0; have hc1 := h1.cell 1; simp at hc0 hc1; clear h1 ho1 hg1 hx1) | (go_at_call 23; refine (text23 s.size (by omega) _ H1.out.here).mono ?_; rintro e w2 ⟨rfl, hb2⟩; have h2 := H1.out.below hb2; have H2 := jhid h2; have hd1 := h2.cell 1; simp at hd1; clear h2 hb2) | (at_builtin; refine wpList_append_own_string _ rfl (.tmp 24) (.tmp 29) 24 9 rfl base 5 i5 Tryd.underlying24 Tryd.underlying9 hi5 hz5 hs5 hb5 (.slice (some ⟨g2, 0, none⟩) (xs.length + 1) cap2) (xs ++ [36]).length ((xs ++ [36]).map (Value.int .u8)) rfl H2.out.own (dec s.size ++ (⟨#[13, 10]⟩ : ByteArray)) rfl ?_ ?_ H2.out.size ?_; (unfold maxLen; rw [List.length_append]; simp only [List.length_cons, List.length_nil]; omega); (rw [List.length_append]; simp only [List.length_cons, List.length_nil]; omega); intro v3 w3 ho3 hg3 hx3; have h3 := H2.out.str hg3 ho3; have H3 := jhid h3; have he1 := h3.cell 1; simp at he1; clear h3 ho3 hg3 hx3) | (at_builtin; refine wpList_append_own_string _ rfl (.tmp 31) (.tmp 33) 24 9 rfl base 5 i5 Tryd.underlying24 Tryd.underlying9 hi5 hz5 hs5 hb5 v3 _ _ rfl H3.out.own s rfl ?_ ?_ H3.out.size ?_; (have := HL2.out; unfold maxLen; omega); (have := HL2.out; omega); intro v4 w4 ho4 hg4 hx4; have h4 := H3.out.str hg4 ho4; have H4 := jhid h4; clear h4 ho4 hg4 hx4) | (at_builtin; refine wpList_append_own_string _ rfl (.tmp 61) (.const (.string ⟨#[13, 10]⟩)) 24 9 rfl base 5 i5 Tryd.underlying24 Tryd.underlying9 hi5 hz5 hs5 hb5 v4 _ _ rfl H4.out.own ⟨#[13, 10]⟩ rfl ?_ ?_ H4.out.size ?_; (have := HL3.out; unfold maxLen; show _ + 2 ≤ _; omega); (have := HL3.out; show _ + 2 ≤ _; omega); intro v5 w5 ho5 hg5 hx5; have h5 := H4.out.str hg5 ho5; have H5 := jhid h5; clear h5 ho5 hg5 hx5))
  go_ret
  have e1 : xs ++ [36] ++ strI (dec s.size ++ (⟨#[13, 10]⟩ : ByteArray)) ++ strI s ++ strI (⟨#[13, 10]⟩ : ByteArray) = xs ++ bulkI s := by
    rw [strI_append, show strI (⟨#[13, 10]⟩ : ByteArray) = [13, 10] from rfl]
    simp only [bulkI, List.append_assoc]
  exact ⟨v5, rfl, e1 ▸ H5.out.own, H5.out.bel⟩

set_option maxRecDepth 100000 in
set_option maxHeartbeats 3000000 in
theorem written4 (s : ByteArray) (base : Nat) (v : Value) (xs : List Int) (m : Int) (w : World) (hs : s.size ≤ 1048576) (hl : xs.length ≤ 1099511627776) (hown : w.ownsRow base 5 1 v xs.length (xs.map (Value.int .u8))) (hbase : base ≤ w.heap.size) (htab : TB base w) :
    Calls Tryd.prog 15 #[v, .agg #[.int .i64 4, .string s, .int .i64 0, .slice none 0 0], .int .i64 m] w fun e w' => ∃ v', e = .returned v' ∧ w'.ownsRow base 5 1 v' (xs ++ bulkI s).length ((xs ++ bulkI s).map (Value.int .u8)) ∧ Below base w w' := by
  obtain ⟨i5, hi5, hz5, hs5, hb5⟩ := info_parts info5
  have h0 : LS base w w.heap.size #[.int .i64 4, .string s, .int .i64 0, .slice none 0 0] v xs (w.alloc (.cells #[.int .i64 4, .string s, .int .i64 0, .slice none 0 0] 39)) :=
    ⟨heap_alloc_new _ _, hown.alloc _, (Below.refl _ _).alloc hbase _, htab, hbase⟩
  have H0 := jhid h0
  have hdl := dec_size s.size (by omega)
  have hd2 : ((⟨#[36]⟩ : ByteArray) ++ dec s.size ++ (⟨#[13, 10]⟩ : ByteArray)).size ≤ 24 := by
    rw [ByteArray.size_append, ByteArray.size_append]
    have : (⟨#[13, 10]⟩ : ByteArray).size = 2 := rfl
    have : (⟨#[36]⟩ : ByteArray).size = 1 := rfl
    omega
  have hL2 : (xs ++ strI ((⟨#[36]⟩ : ByteArray) ++ dec s.size ++ (⟨#[13, 10]⟩ : ByteArray))).length ≤ 1099511627776 + 24 := by
    rw [List.length_append, strI_length]
    omega
  have hL3 : (xs ++ strI ((⟨#[36]⟩ : ByteArray) ++ dec s.size ++ (⟨#[13, 10]⟩ : ByteArray)) ++ strI s).length ≤ 1099511627776 + 24 + 1048576 := by
    rw [List.length_append, strI_length]
    omega
  have HL2 := jhid hL2
  have HL3 := jhid hL3
  clear h0 hown htab hL2 hL3
  go_enter Tryd.func15, Tryd.ntmps15
  go_wp2_with (first | (go_at_call 20; refine (text20 s.size (by omega) _).mono ?_; rintro e w2 ⟨rfl, j2, rfl⟩; have h2 := H0.out.drewN j2; have H2 := jhid h2; have hd1 := h2.cell 1; simp at hd1; clear h2) | (at_builtin; refine wpList_append_own_string _ rfl (.tmp 42) (.tmp 49) 24 9 rfl base 5 i5 Tryd.underlying24 Tryd.underlying9 hi5 hz5 hs5 hb5 v _ _ rfl H2.out.own ((⟨#[36]⟩ : ByteArray) ++ dec s.size ++ (⟨#[13, 10]⟩ : ByteArray)) rfl ?_ ?_ H2.out.size ?_; (unfold maxLen; omega); omega; intro v3 w3 ho3 hg3 hx3; have h3 := H2.out.str hg3 ho3; have H3 := jhid h3; have he1 := h3.cell 1; simp at he1; clear h3 ho3 hg3 hx3) | (at_builtin; refine wpList_append_own_string _ rfl (.tmp 51) (.tmp 53) 24 9 rfl base 5 i5 Tryd.underlying24 Tryd.underlying9 hi5 hz5 hs5 hb5 v3 _ _ rfl H3.out.own s rfl ?_ ?_ H3.out.size ?_; (have := HL2.out; unfold maxLen; omega); (have := HL2.out; omega); intro v4 w4 ho4 hg4 hx4; have h4 := H3.out.str hg4 ho4; have H4 := jhid h4; clear h4 ho4 hg4 hx4) | (at_builtin; refine wpList_append_own_string _ rfl (.tmp 55) (.tmp 56) 24 9 rfl base 5 i5 Tryd.underlying24 Tryd.underlying9 hi5 hz5 hs5 hb5 v4 _ _ rfl H4.out.own ⟨#[13, 10]⟩ rfl ?_ ?_ H4.out.size ?_; (have := HL3.out; unfold maxLen; show _ + 2 ≤ _; omega); (have := HL3.out; show _ + 2 ≤ _; omega); intro v5 w5 ho5 hg5 hx5; have h5 := H4.out.str hg5 ho5; have H5 := jhid h5; clear h5 ho5 hg5 hx5))
  go_ret
  have e1 : xs ++ strI ((⟨#[36]⟩ : ByteArray) ++ dec s.size ++ (⟨#[13, 10]⟩ : ByteArray)) ++ strI s ++ strI (⟨#[13, 10]⟩ : ByteArray) = xs ++ bulkI s := by
    rw [strI_append, strI_append, show strI (⟨#[13, 10]⟩ : ByteArray) = [13, 10] from rfl, show strI (⟨#[36]⟩ : ByteArray) = [36] from rfl]
    simp only [bulkI, List.append_assoc]
  exact ⟨v5, rfl, e1 ▸ H5.out.own, H5.out.bel⟩
end Go.Proofs.YthhjnjghlmaicaaDoor.jr
