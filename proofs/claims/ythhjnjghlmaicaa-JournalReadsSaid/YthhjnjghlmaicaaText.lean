/- The contract of journal's reader.text: it reads what 'text' says. -/
import Derived.Test.YthhjnjghlmaicaaNum
import Derived.Lib.SlBytesConst
namespace Go.Proofs.Ythhjnjghlmaicaa.jr
open Go.ChangeShapes Go.WideShapes Go.ChangeAt Go.RowKit
open JSpec
set_option linter.unusedVariables false

def TextPost (r : R (List Int)) (R0 : Nat) (g off len cap : Nat) (w : World) (e : Ending) (w' : World) : Prop :=
  match r with
  | .whole s c => e = .returned (.tuple #[.string (strOfNums s), .int .i64 0]) ∧ w' = (w.setCell ⟨R0, 0, none⟩ (.slice (some ⟨g, off + c, none⟩) (len - c) (cap - c))).alloc (.cells #[.int .u8 13, .int .u8 10] 5 (2, 3))
  | .ends => e = .returned (.tuple #[.string ByteArray.empty, .int .i64 1]) ∧ w' = w.alloc (.cells #[.int .u8 13, .int .u8 10] 5 (2, 3))
  | .wrong => e = .returned (.tuple #[.string ByteArray.empty, .int .i64 2]) ∧ w' = w.alloc (.cells #[.int .u8 13, .int .u8 10] 5 (2, 3))

theorem tp_wrong {r : R (List Int)} (h : r = .wrong) (R0 g off len cap : Nat) (w : World) : TextPost r R0 g off len cap w (.returned (.tuple #[.string ByteArray.empty, .int .i64 2])) (w.alloc (.cells #[.int .u8 13, .int .u8 10] 5 (2, 3))) := by subst h; exact ⟨rfl, rfl⟩
theorem tp_ends {r : R (List Int)} (h : r = .ends) (R0 g off len cap : Nat) (w : World) : TextPost r R0 g off len cap w (.returned (.tuple #[.string ByteArray.empty, .int .i64 1])) (w.alloc (.cells #[.int .u8 13, .int .u8 10] 5 (2, 3))) := by subst h; exact ⟨rfl, rfl⟩
theorem tp_whole {r : R (List Int)} {s : List Int} {c : Nat} (h : r = .whole s c) (R0 g off len cap : Nat) (w : World) : TextPost r R0 g off len cap w (.returned (.tuple #[.string (strOfNums s), .int .i64 0])) ((w.setCell ⟨R0, 0, none⟩ (.slice (some ⟨g, off + c, none⟩) (len - c) (cap - c))).alloc (.cells #[.int .u8 13, .int .u8 10] 5 (2, 3))) := by subst h; exact ⟨rfl, rfl⟩

set_option maxRecDepth 100000 in
set_option maxHeartbeats 2000000 in
theorem textC (l : List Int) (n : Nat) (R0 g off cap : Nat) (w : World)
    (hR : w.cell? ⟨R0, 0, none⟩ = some (.slice (some ⟨g, off, none⟩) l.length cap)) (hF : w.frozen? ⟨R0, 0, none⟩ = false)
    (hl : l.length < cap) (hcap : cap ≤ 9223372036854775807) (hn : n ≤ 2000000)
    (hc : ∀ i, i < l.length → w.cell? ⟨g, off + i, none⟩ = some (.int .u8 (l.getD i 0))) (hb : ∀ x ∈ l, 0 ≤ x ∧ x ≤ 255) :
    Calls Try.prog 22 #[.pointer (some ⟨R0, 0, none⟩), .int .i64 (n : Int)] w (TextPost (text l n) R0 g off l.length cap w) := by
  have hbn : ∀ i, i < l.length → 0 ≤ l.getD i 0 ∧ l.getD i 0 ≤ 255 := fun i hi => hb _ (by rw [List.getD_eq_getElem?_getD, List.getElem?_eq_getElem hi]; simp)
  clear hb
  have hRb := World.block_lt_of_cell? w _ hR
  have HC : Hid (∀ i, i < l.length → w.cell? ⟨g, off + i, none⟩ = some (.int .u8 (l.getD i 0))) := hc
  have HB : Hid (∀ i, i < l.length → 0 ≤ l.getD i 0 ∧ l.getD i 0 ≤ 255) := hbn
  clear hc hbn
  have hR' : ∀ o, (w.alloc o).cell? ⟨R0, 0, none⟩ = some (.slice (some ⟨g, off, none⟩) l.length cap) := fun o => by
    rw [World.cell?_alloc_lt _ _ _ hRb]; exact hR
  have hF' : ∀ o, (w.alloc o).frozen? ⟨R0, 0, none⟩ = false := fun o => by
    rw [World.frozen?_alloc_old _ _ _ (Nat.ne_of_lt hRb)]; exact hF
  clear hR hF
  have hm0 : (w.alloc (.cells #[.int .u8 13, .int .u8 10] 5 (2, 3))).cell? ⟨w.heap.size, 0, none⟩ = some (.int .u8 13) := by unfold World.cell?; rw [show (w.alloc (.cells #[.int .u8 13, .int .u8 10] 5 (2, 3))).heap[w.heap.size]? = some _ from heap_alloc_new w _]; rfl
  have hm1 : (w.alloc (.cells #[.int .u8 13, .int .u8 10] 5 (2, 3))).cell? ⟨w.heap.size, 1, none⟩ = some (.int .u8 10) := by unfold World.cell?; rw [show (w.alloc (.cells #[.int .u8 13, .int .u8 10] 5 (2, 3))).heap[w.heap.size]? = some _ from heap_alloc_new w _]; rfl
  have kc := fun (w : World) (C : Array Value) (n c : Nat) => Lib.run_convert_bytes_const (P := Try.prog) w 34 5 C n c Try.underlying34 Try.underlying5
  by_cases h1 : l.length ≤ n
  · have HW : Hid (text l n = .ends) := by unfold text; exact if_pos h1
    go_enter Try.func22, Try.ntmps22
    go_wp2
    refine wp_loop_rounds 3 ?_
    rw [rounds_succ]
    go_wp2
    go_ret2
    exact tp_ends HW.out _ _ _ _ _ _
  · obtain ⟨x, hx⟩ : ∃ x, l.getD n 0 = x := ⟨_, rfl⟩
    have hcx := HC.out n (by omega)
    have hbx := HB.out n (by omega)
    rw [hx] at hcx hbx
    have hxb := World.block_lt_of_cell? w _ hcx
    have hcx' : ∀ o, (w.alloc o).cell? ⟨g, off + n, none⟩ = some (.int .u8 x) := fun o => by
      rw [World.cell?_alloc_lt _ _ _ hxb]; exact hcx
    clear hcx hxb
    by_cases h2 : x = 13
    · subst h2
      by_cases h3 : l.length ≤ n + 1
      · have HW : Hid (text l n = .ends) := by unfold text; rw [if_neg h1, if_neg (by rw [hx]; decide), if_pos h3]; exact rfl
        clear hx
        go_enter Try.func22, Try.ntmps22
        go_wp2
        refine wp_loop_rounds 3 ?_
        rw [rounds_succ]
        go_wp2
        rw [rounds_succ]
        go_wp2
        go_ret2
        exact tp_ends HW.out _ _ _ _ _ _
      · obtain ⟨y, hy⟩ : ∃ y, l.getD (n + 1) 0 = y := ⟨_, rfl⟩
        have hcy := HC.out (n + 1) (by omega)
        have hby := HB.out (n + 1) (by omega)
        rw [hy] at hcy hby
        have hyb := World.block_lt_of_cell? w _ hcy
        have hcy' : ∀ o, (w.alloc o).cell? ⟨g, off + (n + 1), none⟩ = some (.int .u8 y) := fun o => by
          rw [World.cell?_alloc_lt _ _ _ hyb]; exact hcy
        clear hcy hyb
        by_cases h4 : y = 10
        · subst h4
          have HW : Hid (text l n = .whole (l.take n) (n + 2)) := by unfold text; rw [if_neg h1, if_neg (by rw [hx]; decide), if_neg h3, if_neg (by rw [hy]; decide)]; exact rfl
          clear hx hy
          have hcv := fun o => run_convert_bytes_arg (P := Try.prog) (w.alloc o) 34 5 Try.underlying34 Try.underlying5 g off n cap (l.take n) (by simp; omega) (fun i hi => by
            have h := HC.out i (by omega)
            rw [World.cell?_alloc_lt _ _ _ (World.block_lt_of_cell? w _ h), h]
            simp [List.getD_eq_getElem?_getD, hi]) 9 Try.underlying9
          go_enter Try.func22, Try.ntmps22
          go_wp2
          refine wp_loop_rounds 3 ?_
          rw [rounds_succ]
          go_wp2
          rw [rounds_succ]
          go_wp2
          rw [rounds_succ]
          go_wp2
          go_ret2
          exact tp_whole HW.out _ _ _ _ _ _
        · have HW : Hid (text l n = .wrong) := by unfold text; rw [if_neg h1, if_neg (by rw [hx]; decide), if_neg h3, if_pos (by rw [hy]; exact h4)]; exact rfl
          have h4' : (y == 10) = false := by simpa using h4
          clear hx hy
          go_enter Try.func22, Try.ntmps22
          go_wp2
          refine wp_loop_rounds 3 ?_
          rw [rounds_succ]
          go_wp2
          rw [rounds_succ]
          go_wp2
          go_ret2
          exact tp_wrong HW.out _ _ _ _ _ _
    · have HW : Hid (text l n = .wrong) := by unfold text; rw [if_neg h1, if_pos (by rw [hx]; exact h2)]; exact rfl
      have h2' : (x == 13) = false := by simpa using h2
      clear hx
      go_enter Try.func22, Try.ntmps22
      go_wp2
      refine wp_loop_rounds 3 ?_
      rw [rounds_succ]
      go_wp2
      go_ret2
      exact tp_wrong HW.out _ _ _ _ _ _
end Go.Proofs.Ythhjnjghlmaicaa.jr
