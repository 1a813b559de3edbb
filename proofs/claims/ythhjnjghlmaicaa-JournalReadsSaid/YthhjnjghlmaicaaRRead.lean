/- The contract of pantryref28.Read: it reads what 'reads' says. -/
import Derived.Test.YthhjnjghlmaicaaEff
namespace Go.Proofs.Ythhjnjghlmaicaa.jr
open Go.ChangeShapes Go.WideShapes Go.ChangeAt Go.RowKit
open JSpec
set_option linter.unusedVariables false

def ReadPost (l : List Int) (w : World) (e : Ending) (w' : World) : Prop :=
  if 16777216 < l.length then e = .returned (.tuple #[.slice none 0 0, .int .i64 0, .int .i64 2]) ∧ Below w.heap.size w w'
  else match reads l (l.length + 1) 0 [] with
    | none => e = .returned (.tuple #[.slice none 0 0, .int .i64 0, .int .i64 280]) ∧ Below w.heap.size w w'
    | some (es, k) => ∃ v, e = .returned (.tuple #[v, .int .i64 (k : Int), .int .i64 0]) ∧ Own2 w' w.heap.size w'.heap.size v (es.map strs) ∧ Below w.heap.size w w'

theorem one_own {w : World} {b n : Nat} {e : TypeId} {x : Value} {xs : List Value} (h : w.ownsRow b e 1 x n xs) : ∀ u ∈ [x], u.oneCell' = true := by
  obtain ⟨a, c, rfl, _⟩ := own_form h
  exact one_slice
theorem rr_own {wr w1 : World} {B L L1 : Nat} {v x : Value} {acc : List (List (List Int))} {ws : List (List Int)} {xs : List Value} {o : Obj} {g2 cap2 : Nat} (hBL : B ≤ L)
    (h1 : wr.ownsRow B 45 1 v acc.length xs) (h2 : ∀ k, v.ownBlock = some k → k < L) (h3 : ∀ i, i < (acc.map strs).length → ∃ x, xs[i]? = some x ∧ Inner wr B L x ((acc.map strs).getD i []))
    (h4 : ∀ (i j : Nat) (x y : Value), i < j → xs[i]? = some x → xs[j]? = some y → ∀ k, x.ownBlock = some k → y.ownBlock ≠ some k)
    (hx : wr.ownsRow L 9 1 x (strs ws).length ((strs ws).map Value.string))
    (ho : w1.ownsRow B 45 1 (.slice (some ⟨g2, 0, none⟩) (acc.length + 1) cap2) (acc.length + 1) (xs ++ [x])) (hg : (wr.alloc o).grownBy w1 v.ownBlock)
    (hL1 : L1 = w1.heap.size) (hL : L ≤ wr.heap.size) : Own2 w1 B L1 (.slice (some ⟨g2, 0, none⟩) (acc.length + 1) cap2) ((acc ++ [ws]).map strs) := by
  have e : (acc.map strs).length = acc.length := List.length_map _
  have := own2_push (ll := acc.map strs) (ws := strs ws) hBL (by rw [e]; exact h1) h2 h3 h4 hx (by rw [e]; exact ho) hg hL1 hL
  rw [e] at this
  simpa using this
def RRel (l : List Int) (B : Nat) (w : World) (v at_ : Value) (wr : World) : Prop :=
  ∃ (p f : Nat) (acc : List (List (List Int))), at_ = .int .i64 (p : Int) ∧ p ≤ l.length ∧ l.length - p < f ∧ acc.length ≤ p ∧ reads l f p acc = reads l (l.length + 1) 0 [] ∧
    Own2 wr B wr.heap.size v (acc.map strs) ∧ Below B w wr

theorem reads_succ (bs : List Int) (f k : Nat) (acc : List (List (List Int))) : reads bs (f + 1) k acc = (match effect bs k with
    | .whole ws k' => reads bs f k' (acc ++ [ws])
    | .ends => some (acc, k)
    | .wrong => none) := rfl

theorem rd_none {l : List Int} {w w' : World} (hl : ¬ 16777216 < l.length) (h : reads l (l.length + 1) 0 [] = none) (hb : Below w.heap.size w w') : ReadPost l w (.returned (.tuple #[.slice none 0 0, .int .i64 0, .int .i64 280])) w' := by
  unfold ReadPost; rw [if_neg hl, h]; exact ⟨rfl, hb⟩
theorem rd_some {l : List Int} {w w' : World} {es : List (List (List Int))} {k : Nat} {v : Value} (hl : ¬ 16777216 < l.length) (h : reads l (l.length + 1) 0 [] = some (es, k)) (ho : Own2 w' w.heap.size w'.heap.size v (es.map strs)) (hb : Below w.heap.size w w') : ReadPost l w (.returned (.tuple #[v, .int .i64 (k : Int), .int .i64 0])) w' := by
  unfold ReadPost; rw [if_neg hl, h]; exact ⟨v, rfl, ho, hb⟩

set_option maxRecDepth 100000 in
set_option maxHeartbeats 6000000 in
theorem rread (l : List Int) (a : Option Addr) (g off cap : Nat) (w : World) (hb : RefBytes w l a g off cap) :
    Calls Try.prog 12 #[.slice a l.length cap] w (ReadPost l w) := by
  obtain ⟨i45, hi45, hz45, hs45, hb45⟩ := info_parts info45
  have HB := jhid hb
  have hlc := hb.2.2.2.1
  have hcc := hb.2.2.2.2.1
  by_cases hlong : 16777216 < l.length
  · have hlong' : (16777216 : Int) < (l.length : Int) := by omega
    have HL := jhid hlong
    clear hb hlong
    go_enter Try.func12, Try.ntmps12
    go_wp2
    go_ret3
    exact (if_pos HL.out).mpr ⟨rfl, Below.refl _ _⟩
  · have hlong' : ¬ (16777216 : Int) < (l.length : Int) := by omega
    have HL := jhid hlong
    have hll : l.length ≤ 16777216 := by omega
    clear hb hlong
    go_enter Try.func12, Try.ntmps12
    go_wp2_with fail
    obtain ⟨B, hBw⟩ : ∃ B, B = w.heap.size := ⟨_, rfl⟩
    have HBW := jhid hBw
    clear hBw
    go_loopw [5, 6] (fun v at_ wr => RRel l B w v at_ wr) (fun _ at_ _ => l.length - (intOf at_).toNat)
    case atStart => exact ⟨0, l.length + 1, [], rfl, by omega, by omega, by simp, rfl, own2_nil _ _ _, Below.refl _ _⟩
    case round =>
      obtain ⟨p, f, acc, rfl, hp, hf, hac, hrd, hown, hbel⟩ := hrel
      obtain ⟨f', rfl⟩ : ∃ f', f = f' + 1 := ⟨f - 1, by omega⟩
      rw [reads_succ] at hrd
      have HBL := jhid hbel
      have HOW := jhid hown
      have HBR : Hid (RefBytes wr l a g off cap) := HB.out.kept hbel HBW.out
      clear hbel hown
      cases hr : effect l p with
      | wrong =>
        rw [hr] at hrd
        have HW := jhid hrd.symm
        clear hrd
        go_wp2_with fail
        refine (reffect l p a g off cap _ HBR.out hp).mono ?_
        intro e w' hpo
        rw [hr] at hpo
        obtain ⟨rfl, hb2⟩ := hpo
        have HB2 := jhid hb2
        clear hr hb2
        go_wp2_with fail
        go_ret3
        exact rd_none HL.out HW.out (by rw [← HBW.out]; exact HBL.out.trans (HB2.out.mono (by have := HBL.out.size; rw [HBW.out]; exact this)))
      | ends =>
        rw [hr] at hrd
        have HW := jhid hrd.symm
        clear hrd
        go_wp2_with fail
        refine (reffect l p a g off cap _ HBR.out hp).mono ?_
        intro e w' hpo
        rw [hr] at hpo
        obtain ⟨rfl, hb2⟩ := hpo
        have HB2 := jhid hb2
        clear hr hb2
        go_wp2_with fail
        go_ret3
        refine rd_some HL.out HW.out ?_ ?_
        · rw [← HBW.out]
          exact own2_mono (own2_kept HOW.out (Kept.ofBelow HB2.out) (fun k _ h => h)) HB2.out.size
        · rw [← HBW.out]; exact HBL.out.trans (HB2.out.mono (by have := HBL.out.size; rw [HBW.out]; exact this))
      | whole ws k' =>
        rw [hr] at hrd
        have HW := jhid hrd
        have hk := effect_len hp hr
        clear hrd
        go_wp2_with fail
        refine (reffect l p a g off cap _ HBR.out hp).mono ?_
        intro e w' hpo
        rw [hr] at hpo
        obtain ⟨x, he, hox, hb2⟩ := hpo
        obtain ⟨ax, cx, rfl, _, _, _⟩ := own_form hox
        subst he
        obtain ⟨xs, h1, h2, h3, h4⟩ := own2_kept HOW.out (Kept.ofBelow hb2) (fun k _ h => h)
        have hsz0 : B ≤ wr.heap.size := by have := HBL.out.size; rw [HBW.out]; exact this
        have hsz1 : B ≤ w'.heap.size := Nat.le_trans hsz0 hb2.size
        have hsz2 : ∀ o, B ≤ (w'.alloc o).heap.size := by intro o; simp; omega
        rw [List.length_map] at h1
        have H1 := jhid h1
        have H2 := jhid h2
        have H3 := jhid h3
        have H4 := jhid h4
        have HSZ := jhid hsz2
        have HX := jhid hox
        have HB2 := jhid hb2
        have hacl : acc.length ≤ 16777216 := by omega
        clear hr hb2 h1 h2 h3 h4 hsz2 hox
        go_wp2_with (at_builtin; refine wpList_app _ rfl _ _ 35 rfl B 45 i45 _ 24 Try.underlying35 hi45 hz45 hs45 hb45 rfl _ acc.length _ rfl (H1.out.alloc _) _ 1 1 [.slice ax ws.length cx] rfl rfl (by decide) ?_ ?_ ?_ ?_ ?_ ?_; exact cells_new w' [.slice ax ws.length cx] 45; exact one_slice; (unfold maxLen; omega); omega; exact HSZ.out _; intro g2 cap2 w1 ho1 hg1 hd1; have HO := jhid ho1; have HG := jhid hg1; clear ho1 hg1 hd1)
        go_roundw
        case rel => exact ⟨k', f', acc ++ [ws], rfl, hk.2, by omega, by simp; omega, HW.out, rr_own (L := wr.heap.size) hsz0 H1.out H2.out H3.out H4.out (by simpa [strs] using HX.out) HO.out HG.out rfl HB2.out.size, ((HBL.out.trans (HB2.out.mono hsz0)).alloc hsz1 _).grown HG.out (HSZ.out _) (fun j hj => (H1.out.lt j hj).1)⟩
        case measure => first | (simp [intOf]; done) | (simp [intOf]; omega)
end Go.Proofs.Ythhjnjghlmaicaa.jr
