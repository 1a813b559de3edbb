/- JournalReads: Read of any bytes is what the reference reads, asked twice; the bytes stay, and are not kept; no list is shared. No condition. -/
import Derived.Test.YthhjnjghlmaicaaRead
import Derived.ChangeOld
import Derived.SizedLaws
namespace Go.Proofs.Ythhjnjghlmaicaa.jr
open Go.ChangeShapes Go.WideShapes Go.ChangeAt Go.RowKit
open JSpec
set_option linter.unusedVariables false

theorem reads_bound (l : List Int) : ∀ (f k : Nat) (acc es : List (List (List Int))) (k' : Nat), k ≤ l.length → acc.length ≤ k → (∀ ws ∈ acc, ws.length ≤ 1024) → reads l f k acc = some (es, k') → es.length ≤ l.length ∧ k' ≤ l.length ∧ (∀ ws ∈ es, ws.length ≤ 1024)
  | 0, k, acc, es, k', hk, ha, hw, h => by
    simp only [reads, Option.some.injEq, Prod.mk.injEq] at h
    obtain ⟨rfl, rfl⟩ := h
    exact ⟨by omega, hk, hw⟩
  | f + 1, k, acc, es, k', hk, ha, hw, h => by
    rw [reads_succ] at h
    cases he : effect l k with
    | wrong => rw [he] at h; cases h
    | ends =>
      rw [he] at h
      simp only [Option.some.injEq, Prod.mk.injEq] at h
      obtain ⟨rfl, rfl⟩ := h
      exact ⟨by omega, hk, hw⟩
    | whole ws k2 =>
      rw [he] at h
      have hl := effect_len hk he
      refine reads_bound l f k2 _ es k' (by omega) (by simp; omega) ?_ h
      intro x hx
      rcases List.mem_append.1 hx with hx | hx
      · exact hw x hx
      · simp at hx
        subst hx
        unfold effect at he
        split at he
        · rename_i v a hn
          have h1 := num_len (by omega) hn
          rw [List.length_drop] at h1
          have := words_len l _ _ _ _ _ _ (by omega) (by omega) he
          simp at this
          omega
        · cases he
        · cases he

/-- What both Reads answer. -/
def rdL (l : List Int) : List (List ByteArray) := if 16777216 < l.length then [] else match reads l (l.length + 1) 0 [] with | none => [] | some (es, _) => es.map strs
def rdN (l : List Int) : Nat := if 16777216 < l.length then 0 else match reads l (l.length + 1) 0 [] with | none => 0 | some (_, k) => k
def rdC (l : List Int) : Int := if 16777216 < l.length then 2 else match reads l (l.length + 1) 0 [] with | none => 280 | some _ => 0

theorem rdL_bound (l : List Int) : (rdL l).length ≤ 16777216 ∧ ∀ x ∈ rdL l, x.length ≤ 16777216 := by
  unfold rdL
  split
  · simp
  · split
    · simp
    · rename_i es k h
      have := reads_bound l _ _ _ _ _ (Nat.zero_le _) (by simp) (by simp) h
      refine ⟨by rw [List.length_map]; omega, fun x hx => ?_⟩
      obtain ⟨y, hy, rfl⟩ := List.mem_map.1 hx
      have := this.2.2 y hy
      rw [strs, List.length_map]; omega

theorem zero_own {w : World} {b n : Nat} {e : TypeId} {xs : List Value} {g cap : Nat} (h : w.ownsRow b e 1 (.slice (some ⟨g, 0, none⟩) (0 + n) cap) (0 + n) ([] ++ xs)) : w.ownsRow b e 1 (.slice (some ⟨g, 0, none⟩) n cap) n xs := by simpa using h
theorem in_cells {w : World} {b n G cap : Nat} {l : List Int} {ys : List Value} (h : w.ownsRow b 5 1 (.slice (some ⟨G, 0, none⟩) (n + 3) cap) (n + 3) (l.map (Value.int .u8) ++ ys)) (i : Nat) (hi : i < l.length) (hn : l.length = n) : w.cell? ⟨G, i, none⟩ = some (.int .u8 (l.getD i 0)) := by
  rw [h.cellAt i (by omega), List.getElem?_append_left (by simpa using hi)]
  exact map_at _ _ _ _ hi
theorem in_more {w : World} {b n G cap : Nat} {l : List Int} {ys : List Value} (h : w.ownsRow b 5 1 (.slice (some ⟨G, 0, none⟩) (n + 3) cap) (n + 3) (l.map (Value.int .u8) ++ ys)) (hn : l.length = n) (i : Nat) (hi : i < 3) : w.cell? ⟨G, n + i, none⟩ = ys[i]? := by
  rw [h.cellAt (n + i) (by omega), List.getElem?_append_right (by simp; omega)]
  simp [hn]
theorem own2_drewN {w : World} {B L : Nat} {v : Value} {ll : List (List ByteArray)} (h : Own2 w B L v ll) (j : Nat) : Own2 (w.drewN j) B L v ll := own2_kept h ((Kept.refl (fun _ => True) w).drewN j) (fun _ _ _ => trivial)
theorem own_drewN {w : World} {b n : Nat} {e : TypeId} {s : Nat} {v : Value} {xs : List Value} (h : w.ownsRow b e s v n xs) (j : Nat) : (w.drewN j).ownsRow b e s v n xs := ownsRow_kept ((Kept.refl (fun _ => True) w).drewN j) h (fun _ _ => trivial)
theorem rowb_in {w : World} {b n G cap : Nat} {l : List Int} {ys : List Value} (h : w.ownsRow b 5 1 (.slice (some ⟨G, 0, none⟩) (n + 3) cap) (n + 3) (l.map (Value.int .u8) ++ ys)) (hn : l.length = n) : RowB w (.slice (some ⟨G, 0, none⟩) n (n + 3)) l :=
  ⟨_, _, by rw [hn], fun _ => ⟨G, 0, rfl, fun i hi => by rw [Nat.zero_add]; exact in_cells h i hi hn⟩⟩
theorem rowb_ref {w : World} {l : List Int} {a : Option Addr} {g off cap n : Nat} (h : RefBytes w l a g off cap) (hn : l.length = n) (j1 : Nat) : RowB (w.drewN j1) (.slice a n cap) l :=
  ⟨a, cap, by rw [hn], fun h0 => ⟨g, off, h.1 (fun e => by rw [e] at h0; simp at h0), fun i hi => h.2.1 i hi⟩⟩
theorem own_take {w : World} {b n G cap : Nat} {l : List Int} {ys : List Value} (h : w.ownsRow b 5 1 (.slice (some ⟨G, 0, none⟩) (n + 3) cap) (n + 3) (l.map (Value.int .u8) ++ ys)) (hn : l.length = n) : w.ownsRow 0 5 1 (.slice (some ⟨G, 0, none⟩) n cap) n (l.map (Value.int .u8)) := by
  refine ⟨by simp [hn], ?_⟩
  rcases h.2 with ⟨h', _⟩ | ⟨g', cap', cur, h', hb, hg, hnc, hcm, hcs, htake⟩
  · simp at h'
  · simp only [Value.slice.injEq, Option.some.injEq, Addr.mk.injEq, and_true, true_and] at h'
    obtain ⟨rfl, rfl⟩ := h'
    refine .inr ⟨G, cap, cur, rfl, Nat.zero_le _, hg, by omega, hcm, hcs, ?_⟩
    have e : cur.toList.take n = (cur.toList.take ((n + 3) * 1)).take n := by rw [List.take_take]; congr 1; omega
    rw [Nat.mul_one, e, htake, List.take_left' (by simp [hn])]
def RP (l : List Int) (w : World) (e : Ending) (w' : World) : Prop :=
  ∃ v, e = .returned (.tuple #[v, .int .i64 (rdN l : Int), .int .i64 (rdC l)]) ∧ Own2 w' w.heap.size w'.heap.size v (rdL l) ∧ Below w.heap.size w w'
theorem rp_of {l : List Int} {w w' : World} {e : Ending} (h : ReadPost l w e w') : RP l w e w' := by
  unfold ReadPost at h
  unfold RP rdL rdN rdC
  split at h
  · rename_i hl
    simp only [if_pos hl]
    exact ⟨_, h.1, own2_nil _ _ _, h.2⟩
  · rename_i hl
    simp only [if_neg hl]
    split at h
    · rename_i he
      simp only [he]
      exact ⟨_, h.1, own2_nil _ _ _, h.2⟩
    · rename_i es k he
      simp only [he]
      exact h

set_option maxRecDepth 100000 in
set_option maxHeartbeats 6000000 in
theorem walk (l : List Int) (a : Option Addr) (g off cap : Nat) (w : World) (hb : RefBytes w l a g off cap) (hcap : cap ≤ 140737488351232) (hnil : a = none → cap = 0) :
    Calls Try.prog 5 #[.slice a l.length cap] w fun e w' => e = .returned (.bool true) ∧ Below w.heap.size w w' := by
  obtain ⟨i5, hi5, hz5, hs5, hb5⟩ := info_parts info5
  have hlc := hb.2.2.2.1
  have HB := jhid hb
  obtain ⟨n, hn⟩ : ∃ n, l.length = n := ⟨_, rfl⟩
  rw [hn] at hlc ⊢
  have HN := jhid hn
  have HNIL := jhid hnil
  have hnews : ∀ ad, a = some ad → ∀ j u, (l.map (Value.int .u8))[j]? = some u → w.cell? (ad.add j) = some u := by
    intro ad e j u hu
    have hj : j < l.length := by
      have := (List.getElem?_eq_some_iff.1 hu).1
      simpa using this
    have := hb.1 (by intro e; rw [e] at hj; simp at hj)
    rw [this] at e
    obtain rfl := Option.some.inj e
    rw [map_at _ 0 _ _ hj] at hu
    obtain rfl := Option.some.inj hu
    have h2 := hb.2.1 j hj
    have hadd : (⟨g, off, none⟩ : Addr).add j = ⟨g, off + j, none⟩ := by unfold Addr.add; split <;> simp_all
    rw [hadd]; exact h2
  have HW := jhid hnews
  have hone : ∀ u ∈ l.map (Value.int .u8), u.oneCell' = true := ints_oneCell _ _
  have HO := jhid hone
  clear hb hn hnil hnews hone
  go_enter Try.func5, Try.ntmps5
  go_wp2_with (first | (at_make; refine wpList_make_own _ rfl _ _ 34 rfl w.heap.size 5 i5 _ 1 Try.underlying34 hi5 hz5 hs5 _ _ _ (n + 3) rfl rfl ?_ ?_ ?_ ?_ ?_; go_num; (rw [hb5]; omega); (unfold maxLen; omega); exact Nat.le_refl _; intro w1 ho1 hg1; have HO1 := jhid ho1; have HG1 := jhid hg1; clear ho1 hg1) | (at_builtin; refine wpList_append_fits_any _ rfl (.tmp 17) (.tmp 18) 34 rfl w.heap.size 5 i5 1 Try.underlying34 hi5 hs5 _ 0 (n + 3) [] rfl HO1.out a n cap (l.map (Value.int .u8)) rfl ?_ ?_ ?_ HO.out ?_ ?_; (rw [List.length_map, HN.out]; omega); (intro e; have := HNIL.out e; omega); exact fun ad e j u hu => HG1.out.cell (HW.out ad e j u hu) (by simp); omega; intro w2 ho2 hg2; have HO2 := jhid ho2; have HG2 := jhid hg2; clear ho2 hg2) | (at_builtin; refine wpList_append_fits _ rfl (.tmp 19) (.tmp 20) 34 rfl w.heap.size 5 i5 1 Try.underlying34 hi5 hs5 w.heap.size n (n + 3) (l.map (Value.int .u8)) ?_ ?_ ⟨w2.heap.size, 0, none⟩ 3 3 [.int .u8 1, .int .u8 2, .int .u8 3] rfl rfl ?_ ?_ ?_ ?_; (first | rfl | simp); exact (zero_own HO2.out).alloc _; exact cells_new w2 [.int .u8 1, .int .u8 2, .int .u8 3] 5; exact three_one; omega; intro w3 ho3 hg3; have HO3 := jhid ho3; have HG3 := jhid hg3; clear ho3 hg3))
  have hbel3 : Below w.heap.size w w3 := by
    have h1 : Below w.heap.size w w1 := (Below.refl _ _).grown HG1.out (Nat.le_refl _) (fun k e => by cases e)
    have h2 : Below w.heap.size w w2 := h1.grown HG2.out h1.size (fun k e => by rw [Option.some.inj e]; exact Nat.le_refl _)
    exact (h2.alloc h2.size _).grown HG3.out (by have := h2.size; simp; omega) (fun k e => by rw [Option.some.inj e]; exact Nat.le_refl _)
  have hrb3 : RefBytes w3 l a g off cap := HB.out.kept hbel3 rfl
  have HRB3 := jhid hrb3
  have HBEL3 := jhid hbel3
  clear hbel3 hrb3
  have c2 := rread l a g off cap w3 HRB3.out
  rw [HN.out] at c2
  refine c2.mono ?_
  intro e w4 hp
  clear c2
  obtain ⟨vw, rfl, how4, hb4⟩ := rp_of hp
  clear hp
  have HOW4 := jhid how4
  have HB4 := jhid hb4
  clear how4 hb4
  have c3 := pread l w.heap.size (n + 3) w4 (by rw [HN.out]; omega) (by omega) (by have h8 := (HO3.out.lt w.heap.size rfl).2; have h9 := HB4.out.size; omega)
    (fun i hi => by rw [HB4.out.cell (p := ⟨w.heap.size, i, none⟩) (HO3.out.lt w.heap.size rfl).2]; exact in_cells HO3.out i hi (by rw [HN.out])) HB.out.2.2.1
  rw [HN.out] at c3
  go_wp2_with fail
  refine c3.mono ?_
  intro e w5 hp
  clear c3
  obtain ⟨vl, rfl, how5, hb5'⟩ := rp_of hp
  clear hp
  have HOW5 := jhid how5
  have HB5 := jhid hb5'
  clear how5 hb5'
  have c4 := pread l w.heap.size (n + 3) w5 (by rw [HN.out]; omega) (by omega) (by have h8 := (HO3.out.lt w.heap.size rfl).2; have h9 := HB4.out.size; have h10 := HB5.out.size; omega)
    (fun i hi => by rw [HB5.out.cell (p := ⟨w.heap.size, i, none⟩) (Nat.lt_of_lt_of_le (HO3.out.lt w.heap.size rfl).2 HB4.out.size), HB4.out.cell (p := ⟨w.heap.size, i, none⟩) (HO3.out.lt w.heap.size rfl).2]; exact in_cells HO3.out i hi (by rw [HN.out])) HB.out.2.2.1
  rw [HN.out] at c4
  go_wp2_with fail
  refine c4.mono ?_
  intro e w6 hp
  clear c4
  obtain ⟨vm, rfl, how6, hb6'⟩ := rp_of hp
  clear hp
  have HOW6 := jhid how6
  have HB6 := jhid hb6'
  clear how6 hb6'
  go_wp2_with fail
  have hs34 := HB4.out.size
  have hs45 := HB5.out.size
  have hs56 := HB6.out.size
  have hs3 := HBEL3.out.size
  have hG3 : w.heap.size < w3.heap.size := (HO3.out.lt w.heap.size rfl).2
  have hol : Own2 w6 w4.heap.size w5.heap.size vl (rdL l) := own2_kept HOW5.out (Kept.ofBelow HB6.out) (fun k _ h => h)
  have how : Own2 w6 w3.heap.size w4.heap.size vw (rdL l) := own2_kept (own2_kept HOW4.out (Kept.ofBelow HB5.out) (fun k _ h => h)) (Kept.ofBelow HB6.out) (fun k _ h => by omega)
  have hin6 : w6.ownsRow w.heap.size 5 1 (.slice (some ⟨w.heap.size, 0, none⟩) (n + 3) (n + 3)) (n + 3) (l.map (Value.int .u8) ++ [.int .u8 1, .int .u8 2, .int .u8 3]) :=
    ownsRow_kept (Kept.ofBelow HB6.out) (ownsRow_kept (Kept.ofBelow HB5.out) (ownsRow_kept (Kept.ofBelow HB4.out) HO3.out (fun k e => by cases e; show w.heap.size < _; omega)) (fun k e => by cases e; show w.heap.size < _; omega)) (fun k e => by cases e; show w.heap.size < _; omega)
  have hrb6 : RefBytes w6 l a g off cap := HRB3.out.kept (HB4.out.trans ((HB5.out.mono hs34).trans (HB6.out.mono (by omega)))) rfl
  have hbel6 : Below w.heap.size w w6 := HBEL3.out.trans (((HB4.out.trans ((HB5.out.mono hs34).trans (HB6.out.mono (by omega))))).mono (by omega))
  have HOL := jhid hol
  have HOWW := jhid how
  have HIN := jhid hin6
  have HRB := jhid hrb6
  have HBE := jhid hbel6
  have hbd := rdL_bound l
  have HBD := jhid hbd
  clear hol how hin6 hrb6 hbel6 hbd
  refine (sameC (rdL l) vl vw w6 (own2_row HOL.out) (own2_row HOWW.out) (by have := HBD.out.1; omega) (fun x hx => by have := HBD.out.2 x hx; omega)).mono ?_
  rintro e w7 ⟨rfl, j1, rfl⟩
  go_wp2_with fail
  refine (sameC (rdL l) vm vw _ (own2_row (own2_drewN HOW6.out j1)) (own2_row (own2_drewN HOWW.out j1)) (by have := HBD.out.1; omega) (fun x hx => by have := HBD.out.2 x hx; omega)).mono ?_
  rintro e w7 ⟨rfl, j2, rfl⟩
  go_wp2_with fail
  have c5 := bsame l (.slice (some ⟨w.heap.size, 0, none⟩) n (n + 3)) (.slice a n cap) (w6.drewN (j1 + j2)) (rowb_in (own_drewN HIN.out _) HN.out) (rowb_ref HRB.out HN.out _) (by rw [HN.out]; omega)
  refine c5.mono ?_
  clear c5
  rintro e w7 ⟨rfl, j3, rfl⟩
  obtain ⟨w8, hw8⟩ : ∃ w8, w8 = (w6.drewN (j1 + j2)).drewN j3 := ⟨_, rfl⟩
  have hk8 : Kept (fun _ => True) w6 w8 := by rw [hw8]; exact ((Kept.refl _ _).drewN _).drewN j3
  rw [← hw8]
  have HK8 := jhid hk8
  have hin8 := ownsRow_kept hk8 HIN.out (fun _ _ => trivial)
  have hc0 := in_more hin8 HN.out 0 (by omega)
  have hc1 := in_more hin8 HN.out 1 (by omega)
  have hc2 := in_more hin8 HN.out 2 (by omega)
  simp at hc0 hc1 hc2
  have HIN8 := jhid hin8
  clear hw8 hk8 hin8
  go_wp2_with fail
  have hs68 : w6.heap.size ≤ w8.heap.size := HK8.out.size
  refine (spoilC (rdL l) w4.heap.size w5.heap.size vl w8 (own2_kept HOL.out HK8.out (fun _ _ _ => trivial)) (by omega) (by omega) HBD.out.1 HBD.out.2).mono ?_
  rintro e w9 ⟨rfl, hk9⟩
  have HK9 := jhid hk9
  have hown9 := own_take (ownsRow_kept hk9 HIN8.out (fun k e => by cases e; left; show w.heap.size < _; omega)) HN.out
  have HO9 := jhid hown9
  clear hk9 hown9 hc0 hc1 hc2
  go_wp2_with fail
  refine (spoilBytesC l w.heap.size n (n + 3) w9 HN.out (by omega) (by omega) HO9.out).mono ?_
  rintro e w10 ⟨rfl, hk10⟩
  have HK10 := jhid hk10
  have hs89 : w8.heap.size ≤ w9.heap.size := HK9.out.size
  clear hk10
  have hm10 : Own2 w10 w5.heap.size w6.heap.size vm (rdL l) := own2_kept (own2_kept (own2_kept HOW6.out HK8.out (fun _ _ _ => trivial)) HK9.out (fun k h _ => .inr h)) HK10.out (fun k h _ e => by omega)
  have hw10 : Own2 w10 w3.heap.size w4.heap.size vw (rdL l) := own2_kept (own2_kept (own2_kept HOWW.out HK8.out (fun _ _ _ => trivial)) HK9.out (fun k _ h => .inl h)) HK10.out (fun k h _ e => by omega)
  have hend : Below w.heap.size w w10 := by
    have h1 : Below w.heap.size w w8 := HBE.out.trans (HK8.out.below (by have := HBE.out.size; omega) (fun _ _ => trivial))
    have h2 : Below w.heap.size w w9 := h1.trans (HK9.out.below h1.size (fun k h => .inl (by omega)))
    exact h2.trans (HK10.out.below h2.size (fun k h e => by omega))
  have HM10 := jhid hm10
  have HW10 := jhid hw10
  have HEND := jhid hend
  clear hm10 hw10 hend
  go_wp2_with fail
  refine (sameC (rdL l) vm vw w10 (own2_row HM10.out) (own2_row HW10.out) (by have := HBD.out.1; omega) (fun x hx => by have := HBD.out.2 x hx; omega)).mono ?_
  rintro e w11 ⟨rfl, j4, rfl⟩
  go_wp2_with fail
  go_ret
  exact ⟨rfl, below_drewN HEND.out j4⟩

theorem own : ownKnob Try.prog.godebug = none := by kernel_rfl
theorem laidOut : laidOutB Try.prog = true := by kernel_rfl

set_option maxRecDepth 100000 in
theorem lifted (os : Os) (started : os.Started) (H : Type) (enc : TypeId × Value → H) :
    ReturnsInHanded {} Try.checked os 5 .any (Rows.journalReadsSpec.pre6 enc Try.prog Try.f5 Rows.journalReadsRow.domain false) (Rows.journalReadsSpec.post enc Try.prog Try.f5 false true false false) := by
  refine returnsInHanded_of_change_sized (C := Try.checked) own started (by kernel_rfl) Try.func5
    (ChangeSpec.witness6 (enc := enc) (C := Try.checked) false ⟨#[], #[.slice none 0 0], []⟩ 8 (by kernel_rfl) (by kernel_rfl) (by kernel_rfl) (by kernel_rfl)) ?_
  intro W base args ds gs before hval0 hW hcnd hsz _
  have hval : ∀ (j : Nat) t v, Try.f5.params[j]? = some t → args[j]? = some v → Value.okWide Try.prog W .any base t v := hval0
  have hW' := hW
  obtain ⟨p, q, hA0, hV, rfl, hfz, hnd⟩ := hW
  have hA : DataW.TrodAll enc Try.prog W 0 (fun _ => true) true Try.f5.params.toList args.toList ds p := hA0
  rw [Try.params5] at hA hval hsz
  obtain ⟨v0, vs0, d0, ds0, p0, q0, hargs, rfl, rfl, h0, r0⟩ := trodAll_cons hA
  obtain ⟨rfl, rfl, rfl⟩ := trodAll_nil r0
  obtain rfl : args = #[v0] := by cases args; simp_all
  obtain ⟨rfl, rfl⟩ := trodVars_none hV
  obtain ⟨a0, len0, cap0, rfl⟩ := okWide_slice Try.underlying34 (hval 0 34 v0 rfl rfl)
  have k0 := h0
  have lt0 : ∀ x ∈ p0, x.block < W.heap.size := by obtain ⟨m, hm⟩ := k0; exact DataW.trod_lt m _ _ _ hm
  have hargs : ∃ (l : List Int) (g off : Nat), l.length = len0 ∧ RefBytes W l a0 g off cap0 ∧ cap0 ≤ 140737488351232 ∧ (a0 = none → cap0 = 0) := by
    obtain ⟨fuel, hf⟩ := h0
    rcases open_ints Try.underlying34 Try.underlying5 (by kernel_rfl) hf with ⟨hcs, _⟩ | ⟨x, l, c, zs, hcs, _, hl, hm, hz, hx, hcell, hwz⟩
    · simp [Value.cells] at hcs
      obtain ⟨rfl, rfl, rfl⟩ := hcs
      exact ⟨[], 0, 0, rfl, ⟨fun h => absurd rfl h, fun i h => by simp at h, fun x h => by simp at h, Nat.zero_le _, by omega, fun h => by simp at h⟩, by omega, fun _ => rfl⟩
    · simp [Value.cells] at hcs
      obtain ⟨rfl, rfl, rfl⟩ := hcs
      simp only [Prod.mk.injEq] at hx
      have hlen : len0 ≤ cap0 := hl
      have hzl : zs.length = cap0 := by simpa using hz
      have hb := sized_slice (j := 0) (t := 34) (e := 5) hsz rfl (by rw [hx.1]; rfl) Try.underlying34
      rw [show Try.checked.prog.bytesOf 5 = 1 by kernel_rfl] at hb
      simp only [lits, List.length_map, List.length_take, List.length_drop] at hb
      have hr : reachBytes = 140737488351232 := by decide
      have hcap : cap0 ≤ 140737488351232 := by omega
      have hlt : (zs.take len0).length = len0 := by simp; omega
      refine ⟨zs.take len0, x.block, x.off, hlt, ⟨fun hne => ?_, fun i hi => ?_, fun y hy => ?_, by rw [hlt]; exact hlen, by omega, fun h0 => ?_⟩, hcap, fun h => by cases h⟩
      · have h0 : 0 < zs.length := by
          rcases Nat.eq_zero_or_pos zs.length with h | h
          · exact absurd (by rw [List.eq_nil_of_length_eq_zero h]; simp) hne
          · exact h
        have hc := hcell 0 h0
        obtain ⟨b, off, spot⟩ := x
        have : spot = none := by simpa [Addr.add] using World.cell?_spot hc
        rw [this]
      · rw [hlt] at hi
        have h0 : 0 < zs.length := by omega
        have hc0 := hcell 0 h0
        have hc := hcell i (by omega)
        obtain ⟨b, off, spot⟩ := x
        have : spot = none := by simpa [Addr.add] using World.cell?_spot hc0
        subst this
        have hadd : (⟨b, off, none⟩ : Addr).add i = ⟨b, off + i, none⟩ := by unfold Addr.add; split <;> simp_all
        rw [hadd] at hc
        rw [hc]
        simp [List.getD_eq_getElem?_getD, hi]
      · have := hwz y (List.mem_of_mem_take hy)
        simp only [Lit.wf, IntKind.min, IntKind.max, IntKind.signed, IntKind.bits, Bool.and_eq_true] at this
        simp at this
        omega
      · rw [hlt] at h0
        exact World.block_lt_of_cell? W (x.add 0) (hcell 0 (by omega))
  obtain ⟨l, g, off, hll, hrb, hcap, hnil⟩ := hargs
  subst hll
  clear hA0 hval0
  refine (walk l a0 g off cap0 W hrb hcap hnil).mono fun e W' ⟨he, bel⟩ => ?_
  subst he
  exact ⟨_, rfl, _, _, _, [], _, [], hW', trodAll_mk1 (shut_bool Try.underlying4 _), (trodAll_cons_mk (Below.trod laidOut (by kernel_rfl) (of_decide_eq_true (by kernel_rfl)) k0 bel lt0) trodAll_mk0), rfl, bel.frame _, fun h => by cases h⟩

theorem over : Rows.journalReadsRow.holds Try.pinned (OpenSpec.ofChange Rows.journalReadsSpec) :=
  OpenClaim.holds_of_wide 5 Try.f5 rfl rfl rfl rfl rfl rfl rfl ⟨rfl, rfl, rfl, rfl, rfl⟩ rfl rfl rfl rfl rfl (by kernel_rfl) Try.func5 (by kernel_rfl)
    (of_decide_eq_true (by kernel_rfl)) (by unfold Func.isWrapper; first | (rw [if_pos (by decide +kernel)]; kernel_rfl) | (rw [if_neg (by decide +kernel)]; exact ⟨rfl, rfl⟩))
    (fun os started H enc _ => lifted os started H enc)

theorem proved : Rows.JournalReadsSaid := over
#print axioms proved
end Go.Proofs.Ythhjnjghlmaicaa.jr
