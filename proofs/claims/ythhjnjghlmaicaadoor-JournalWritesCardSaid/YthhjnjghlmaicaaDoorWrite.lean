/- The contracts of journal.Write and of the reference's Write. -/
import Derived.Test.YthhjnjghlmaicaaDoorFit
namespace Go.Proofs.YthhjnjghlmaicaaDoor.jr
open Go.ChangeShapes Go.WideShapes Go.ChangeAt Go.RowKit
set_option linter.unusedVariables false

def wrI (ll : List (List ByteArray)) : List Int := ll.flatMap reqI
def AllFit (ll : List (List ByteArray)) : Prop := ∀ ws ∈ ll, Fits ws
open Classical in
noncomputable def wrL (ll : List (List ByteArray)) : List Int := if AllFit ll ∧ (wrI ll).length ≤ 16777216 then wrI ll else []
open Classical in
noncomputable def wrC (ll : List (List ByteArray)) : Int := if AllFit ll then (if (wrI ll).length ≤ 16777216 then 0 else 2) else 280
theorem wr_unfit {ll : List (List ByteArray)} (h : ¬ AllFit ll) : wrL ll = [] ∧ wrC ll = 280 := ⟨if_neg (fun x => h x.1), if_neg h⟩
theorem wr_long {ll : List (List ByteArray)} (h : AllFit ll) (hl : 16777216 < (wrI ll).length) : wrL ll = [] ∧ wrC ll = 2 := ⟨if_neg (fun x => by have := x.2; omega), by unfold wrC; rw [if_pos h, if_neg (by omega)]⟩
theorem wr_whole {ll : List (List ByteArray)} (h : AllFit ll) (hl : (wrI ll).length ≤ 16777216) : wrL ll = wrI ll ∧ wrC ll = 0 := ⟨if_pos ⟨h, hl⟩, by unfold wrC; rw [if_pos h, if_pos hl]⟩
theorem wrI_take {ll : List (List ByteArray)} {n k : Nat} {ws : List ByteArray} (hn : ll.length = n) (hk : k < n) (hs : ll.getD k [] = ws) : wrI (ll.take (k + 1)) = wrI (ll.take k) ++ reqI ws := by
  subst hs
  have hk' : k < ll.length := by omega
  rw [List.getD_eq_getElem?_getD, List.getElem?_eq_getElem hk', List.take_succ_eq_append_getElem hk']
  unfold wrI
  rw [List.flatMap_append, List.flatMap_cons, List.flatMap_nil, List.append_nil]
  rfl
theorem wrI_prefix (ll : List (List ByteArray)) (k : Nat) : (wrI (ll.take k)).length ≤ (wrI ll).length := by
  conv => rhs; rw [← List.take_append_drop k ll]
  unfold wrI
  rw [List.flatMap_append, List.length_append]
  omega
theorem fits_at {ll : List (List ByteArray)} {n k : Nat} {ws : List ByteArray} (hn : ll.length = n) (hk : k < n) (hs : ll.getD k [] = ws) (h : AllFit ll) : Fits ws := by
  subst hs
  have hk' : k < ll.length := by omega
  rw [List.getD_eq_getElem?_getD, List.getElem?_eq_getElem hk']
  exact h _ (List.getElem_mem _)
theorem allFit_take {ll : List (List ByteArray)} {n k : Nat} {ws : List ByteArray} (hn : ll.length = n) (hk : k < n) (hs : ll.getD k [] = ws) (h : AllFit (ll.take k)) (h1 : Fits ws) : AllFit (ll.take (k + 1)) := by
  subst hs
  have hk' : k < ll.length := by omega
  rw [List.getD_eq_getElem?_getD, List.getElem?_eq_getElem hk'] at h1
  rw [List.take_succ_eq_append_getElem hk']
  intro x hx
  rcases List.mem_append.1 hx with hx | hx
  · exact h x hx
  · simp at hx; subst hx; exact h1
theorem reqI_pos (ws : List ByteArray) : 0 < (reqI ws).length := by simp [reqI]
theorem reqI_length {ws : List ByteArray} (h : Fits ws) : (reqI ws).length ≤ 1073774624 := by
  have := words_len ws ws.length ws.length rfl (Nat.le_refl _) h.2.2.1 h.1
  rwa [last_I rfl] at this
theorem row2_form {w : World} {a : Option Addr} {n cap : Nat} {ll : List (List ByteArray)} (hn : ll.length = n) (hx : Row2 w (.slice a n cap) ll) : 0 < n → ∃ g off, a = some ⟨g, off, none⟩ ∧ ∀ i, i < n → ∃ y, w.cell? ⟨g, off + i, none⟩ = some y ∧ Row1 w y (ll.getD i []) := by
  obtain ⟨a', c', e, h⟩ := hx
  rw [hn] at e h
  simp only [Value.slice.injEq] at e
  rw [e.1]
  exact h
theorem row1_below {B : Nat} {w W : World} {y : Value} {ws : List ByteArray} (h : Row1 w y ws) (hb : Below w.heap.size w W) : Row1 W y ws := by
  obtain ⟨a, c, e, h⟩ := h
  refine ⟨a, c, e, fun hn => ?_⟩
  obtain ⟨g, off, ea, hc⟩ := h hn
  exact ⟨g, off, ea, fun i hi => (hb.cell (World.block_lt_of_cell? _ _ (hc i hi))).trans (hc i hi)⟩
theorem LT.call {base : Nat} {w0 W W1 : World} {v : Value} {xs : List Int} (h : LT base w0 v xs W) (hb : Below W.heap.size W W1) : LT base w0 v xs W1 :=
  ⟨ownsRow_kept (Kept.ofBelow hb) h.own (fun k e => (h.own.lt k e).2), h.bel.trans (hb.mono h.bas), h.tab, Nat.le_trans h.bas hb.size⟩
theorem LT.app {base L N : Nat} {w0 W W1 : World} {v v1 : Value} {xs ys : List Int} (h : LT base w0 v xs W) (hg : W.grownBy W1 v.ownBlock) (hL : L = xs.length) (hN : ys.length = N) (ho : W1.ownsRow base 5 1 v1 (L + N) (xs.map (Value.int .u8) ++ ys.map (Value.int .u8))) : LT base w0 v1 (xs ++ ys) W1 := by
  subst hL hN
  exact ⟨by simpa using ho, h.bel.grown hg h.bas (fun k e => (h.own.lt k e).1), h.tab, Nat.le_trans h.bas hg.size⟩
theorem LT.ownL {base L : Nat} {w0 W : World} {v : Value} {xs : List Int} (h : LT base w0 v xs W) (hL : L = xs.length) : W.ownsRow base 5 1 v L (xs.map (Value.int .u8)) := by subst hL; exact h.own
def WrPost (ll : List (List ByteArray)) (w : World) (e : Ending) (w' : World) : Prop :=
  ∃ x, e = .returned (.tuple #[x, .int .i64 (wrC ll)]) ∧ w'.ownsRow w.heap.size 5 1 x (wrL ll).length ((wrL ll).map (Value.int .u8)) ∧ Below w.heap.size w w'
theorem wr_unfit_post {ll : List (List ByteArray)} {w w' : World} (h : ¬ AllFit ll) (hb : Below w.heap.size w w') : WrPost ll w (.returned (.tuple #[.slice none 0 0, .int .i64 280])) w' := by
  obtain ⟨e1, e2⟩ := wr_unfit h
  exact ⟨_, by rw [e2], by rw [e1]; simpa using World.ownsRow_nil _ _ _ _, hb⟩
theorem wr_long_post {ll : List (List ByteArray)} {w w' : World} (h : AllFit ll) (hl : 16777216 < (wrI ll).length) (hb : Below w.heap.size w w') : WrPost ll w (.returned (.tuple #[.slice none 0 0, .int .i64 2])) w' := by
  obtain ⟨e1, e2⟩ := wr_long h hl
  exact ⟨_, by rw [e2], by rw [e1]; simpa using World.ownsRow_nil _ _ _ _, hb⟩
theorem wr_whole_post {ll : List (List ByteArray)} {w w' : World} {x : Value} (h : AllFit ll) (hl : (wrI ll).length ≤ 16777216) (ho : w'.ownsRow w.heap.size 5 1 x (wrI ll).length ((wrI ll).map (Value.int .u8))) (hb : Below w.heap.size w w') : WrPost ll w (.returned (.tuple #[x, .int .i64 0])) w' := by
  obtain ⟨e1, e2⟩ := wr_whole h hl
  exact ⟨_, by rw [e2], by rw [e1]; exact ho, hb⟩

set_option maxRecDepth 100000 in
set_option maxHeartbeats 3000000 in
theorem write5 (ll : List (List ByteArray)) (n : Nat) (hn : ll.length = n) (a : Option Addr) (cap : Nat) (w : World) (hl : n ≤ 8796093022207) (hm : ∀ i, i < n → (ll.getD i []).length ≤ 8796093022207) (hx : Row2 w (.slice a n cap) ll) (htab : TB w.heap.size w) :
    Calls Tryd.prog 5 #[.slice a n cap] w (WrPost ll w) := by
  obtain ⟨i5, hi5, hz5, hs5, hb5⟩ := info_parts info5
  have HX := jhid (row2_form hn hx)
  have HN := jhid hn
  have HM := jhid hm
  have HT := jhid htab
  clear hx hn hm htab
  go_enter Tryd.func5, Tryd.ntmps5
  go_wp2_with fail
  go_loopw [11] (fun i wr => ∃ (k j : Nat), i = .int .i64 k ∧ k ≤ n ∧ Hid (AllFit (ll.take k)) ∧ wr = w.drewN j) (fun i _ => n - (intOf i).toNat)
  case atStart => exact ⟨0, 0, rfl, by omega, jhid (by intro x hx; simp at hx), rfl⟩
  case round =>
    obtain ⟨k, j, rfl, hk, HA, rfl⟩ := hrel
    by_cases hlt : k < n
    · obtain ⟨g, off, ea, hca⟩ := HX.out (by omega)
      subst ea
      obtain ⟨y, hc, hy⟩ := hca k hlt
      obtain ⟨ws, hs⟩ : ∃ ws, ll.getD k [] = ws := ⟨_, rfl⟩
      rw [hs] at hy
      obtain ⟨ay, cy, rfl, hy1⟩ := id hy
      have hc : (w.drewN j).cell? ⟨g, off + k, none⟩ = _ := hc
      have hmw := HM.out k hlt
      rw [hs] at hmw
      obtain ⟨m, hm1⟩ : ∃ m, ws.length = m := ⟨_, rfl⟩
      rw [hm1] at hc hy hmw
      have HY := jhid hy
      have HSS := jhid hs
      have HMM := jhid hm1
      have hlt' : (k : Int) < (n : Int) := by omega
      clear hca hs hm1 hy1 hy
      by_cases hfit : Fits ws
      · have HF := jhid hfit
        clear hfit
        go_wp2_with (go_at_call 11; refine (fit11 ws m HMM.out ay cy (w.drewN j) hmw HY.out true (by simp; exact HF.out)).mono ?_; rintro e w1 ⟨rfl, j1, rfl⟩)
        exact ⟨⟨k + 1, j + j1, by simp, by omega, jhid (allFit_take HN.out hlt HSS.out HA.out HF.out), by simp⟩, by simp [intOf]; omega⟩
      · have HF := jhid hfit
        clear hfit
        go_wp2_with (go_at_call 11; refine (fit11 ws m HMM.out ay cy (w.drewN j) hmw HY.out false (by simp; exact HF.out)).mono ?_; rintro e w1 ⟨rfl, j1, rfl⟩)
        go_ret2
        exact wr_unfit_post (fun h => HF.out (fits_at HN.out hlt HSS.out h)) (below_drewN (Below.refl _ _) _)
    · obtain rfl : k = n := by omega
      have hall : AllFit ll := by
        have := HA.out
        rwa [List.take_of_length_le (by rw [HN.out]; exact Nat.le_refl _)] at this
      have HALL := jhid hall
      clear hall HA
      go_wp2_with fail
      go_loopw [21, 4] (fun i b wr => ∃ (q L vc : Nat) (va : Option Addr), i = .int .i64 q ∧ b = .slice va L vc ∧ q ≤ k ∧ L ≤ 16777216 ∧ Hid (L = (wrI (ll.take q)).length ∧ LT w.heap.size w b (wrI (ll.take q)) wr)) (fun i _ _ => k - (intOf i).toNat)
      case atStart => exact ⟨0, 0, 0, none, rfl, rfl, by omega, by omega, jhid ⟨rfl, World.ownsRow_nil _ _ _ _, below_drewN (Below.refl _ _) j, HT.out, Nat.le_refl _⟩⟩
      case round =>
        obtain ⟨q, L, vc, va, rfl, rfl, hq, hL, HR⟩ := hrel
        by_cases hlt : q < k
        · obtain ⟨g, off, ea, hca⟩ := HX.out (by omega)
          subst ea
          obtain ⟨y, hc, hy⟩ := hca q hlt
          obtain ⟨ws, hs⟩ : ∃ ws, ll.getD q [] = ws := ⟨_, rfl⟩
          rw [hs] at hy
          obtain ⟨ay, cy, rfl, hy1⟩ := id hy
          have hf := fits_at HN.out hlt hs HALL.out
          have hc := (HR.out.2.bel.cell (World.block_lt_of_cell? _ _ hc)).trans hc
          have hy := row1_below (B := 0) hy HR.out.2.bel
          obtain ⟨m, hm1⟩ : ∃ m, ws.length = m := ⟨_, rfl⟩
          have hmf := hf.2.2.1
          have hrl := reqI_length hf
          have hrp := reqI_pos ws
          rw [hm1] at hc hy hmf
          obtain ⟨N, hN⟩ : ∃ N, (reqI ws).length = N := ⟨_, rfl⟩
          rw [hN] at hrl hrp
          have HY := jhid hy
          have HSS := jhid hs
          have HMM := jhid hm1
          have HF := jhid hf
          have HNN := jhid hN
          have hlt' : (q : Int) < (k : Int) := by omega
          clear hca hs hm1 hy1 hy hf hN
          have htb : TB wr.heap.size wr := Lib.tabBelow_of_tabIs (HR.out.2.here.here)
          have HTB := jhid htb
          clear htb
          go_wp2_with (first | (go_at_call 12; refine (request12 ws m HMM.out ay cy wr HF.out.1 hmf HY.out HTB.out).mono ?_; rintro e w1 ⟨v1, rfl, ho1, hb1⟩; obtain ⟨a1, c1, rfl, _, _, hg1⟩ := own_form ho1; obtain ⟨g1, rfl⟩ := hg1 (reqI_pos ws); rw [HNN.out] at ho1; rw [HNN.out]; have HO1 := jhid ho1; have HB1 := jhid hb1; clear ho1 hb1 hg1; have h2 := HR.out.2.call HB1.out; have H2 := jhid h2; clear h2) | (at_builtin; refine wpList_app _ rfl (.tmp 25) (.tmp 27) 24 rfl w.heap.size 5 i5 (.int .u8 0) 1 Tryd.underlying24 hi5 hz5 hs5 hb5 rfl (.slice va L vc) L _ rfl (H2.out.ownL HR.out.1) ⟨g1, 0, none⟩ N c1 ((reqI ws).map (Value.int .u8)) rfl ?_ hrp (HO1.out.cells (g := g1) rfl) (ints_oneCell _ _) ?_ ?_ H2.out.bas ?_; (rw [List.length_map, HNN.out]); (unfold maxLen; omega); omega; intro g2 cap2 w2 ho2 hg2 hx2; have h3 := H2.out.app hg2 HR.out.1 HNN.out ho2; have H3 := jhid h3; clear h3 ho2 hg2 hx2))
          · rename_i h16
            go_ret2
            have hlen : 16777216 < (wrI ll).length := by
              have h1 := wrI_prefix ll (q + 1)
              rw [wrI_take HN.out hlt HSS.out, List.length_append, ← HR.out.1, HNN.out] at h1
              omega
            exact wr_long_post HALL.out hlen H3.out.bel
          case roundEnd =>
            rename_i h16
            refine ⟨⟨q + 1, L + N, cap2, _, by simp, rfl, by omega, by omega, jhid ?_⟩, by simp [intOf]; omega⟩
            rw [wrI_take HN.out hlt HSS.out]
            exact ⟨by rw [List.length_append, ← HR.out.1, HNN.out], H3.out⟩
        · obtain rfl : q = k := by omega
          go_wp2_with fail
          go_ret2
          have h1 := HR.out.1
          have h2 := HR.out.2
          rw [List.take_of_length_le (by rw [HN.out]; exact Nat.le_refl _)] at h1 h2
          exact wr_whole_post HALL.out (by omega) h2.own h2.bel
set_option maxRecDepth 100000 in
set_option maxHeartbeats 3000000 in
theorem write6 (ll : List (List ByteArray)) (n : Nat) (hn : ll.length = n) (a : Option Addr) (cap : Nat) (w : World) (hl : n ≤ 8796093022207) (hm : ∀ i, i < n → (ll.getD i []).length ≤ 8796093022207) (hx : Row2 w (.slice a n cap) ll) (htab : TB w.heap.size w) :
    Calls Tryd.prog 6 #[.slice a n cap] w (WrPost ll w) := by
  obtain ⟨i5, hi5, hz5, hs5, hb5⟩ := info_parts info5
  have HX := jhid (row2_form hn hx)
  have HN := jhid hn
  have HM := jhid hm
  have HT := jhid htab
  clear hx hn hm htab
  go_enter Tryd.func6, Tryd.ntmps6
  go_wp2_with fail
  go_loopw [11] (fun i wr => ∃ (k j : Nat), i = .int .i64 k ∧ k ≤ n ∧ Hid (AllFit (ll.take k)) ∧ wr = w.drewN j) (fun i _ => n - (intOf i).toNat)
  case atStart => exact ⟨0, 0, rfl, by omega, jhid (by intro x hx; simp at hx), rfl⟩
  case round =>
    obtain ⟨k, j, rfl, hk, HA, rfl⟩ := hrel
    by_cases hlt : k < n
    · obtain ⟨g, off, ea, hca⟩ := HX.out (by omega)
      subst ea
      obtain ⟨y, hc, hy⟩ := hca k hlt
      obtain ⟨ws, hs⟩ : ∃ ws, ll.getD k [] = ws := ⟨_, rfl⟩
      rw [hs] at hy
      obtain ⟨ay, cy, rfl, hy1⟩ := id hy
      have hc : (w.drewN j).cell? ⟨g, off + k, none⟩ = _ := hc
      have hmw := HM.out k hlt
      rw [hs] at hmw
      obtain ⟨m, hm1⟩ : ∃ m, ws.length = m := ⟨_, rfl⟩
      rw [hm1] at hc hy hmw
      have HY := jhid hy
      have HSS := jhid hs
      have HMM := jhid hm1
      have hlt' : (k : Int) < (n : Int) := by omega
      clear hca hs hm1 hy1 hy
      by_cases hfit : Fits ws
      · have HF := jhid hfit
        clear hfit
        go_wp2_with (go_at_call 13; refine (fit13 ws m HMM.out ay cy (w.drewN j) hmw HY.out true (by simp; exact HF.out)).mono ?_; rintro e w1 ⟨rfl, j1, rfl⟩)
        exact ⟨⟨k + 1, j + j1, by simp, by omega, jhid (allFit_take HN.out hlt HSS.out HA.out HF.out), by simp⟩, by simp [intOf]; omega⟩
      · have HF := jhid hfit
        clear hfit
        go_wp2_with (go_at_call 13; refine (fit13 ws m HMM.out ay cy (w.drewN j) hmw HY.out false (by simp; exact HF.out)).mono ?_; rintro e w1 ⟨rfl, j1, rfl⟩)
        go_ret2
        exact wr_unfit_post (fun h => HF.out (fits_at HN.out hlt HSS.out h)) (below_drewN (Below.refl _ _) _)
    · obtain rfl : k = n := by omega
      have hall : AllFit ll := by
        have := HA.out
        rwa [List.take_of_length_le (by rw [HN.out]; exact Nat.le_refl _)] at this
      have HALL := jhid hall
      clear hall HA
      go_wp2_with fail
      go_loopw [21, 6] (fun i b wr => ∃ (q L vc : Nat) (va : Option Addr), i = .int .i64 q ∧ b = .slice va L vc ∧ q ≤ k ∧ L ≤ 16777216 ∧ Hid (L = (wrI (ll.take q)).length ∧ LT w.heap.size w b (wrI (ll.take q)) wr)) (fun i _ _ => k - (intOf i).toNat)
      case atStart => exact ⟨0, 0, 0, none, rfl, rfl, by omega, by omega, jhid ⟨rfl, World.ownsRow_nil _ _ _ _, below_drewN (Below.refl _ _) j, HT.out, Nat.le_refl _⟩⟩
      case round =>
        obtain ⟨q, L, vc, va, rfl, rfl, hq, hL, HR⟩ := hrel
        by_cases hlt : q < k
        · obtain ⟨g, off, ea, hca⟩ := HX.out (by omega)
          subst ea
          obtain ⟨y, hc, hy⟩ := hca q hlt
          obtain ⟨ws, hs⟩ : ∃ ws, ll.getD q [] = ws := ⟨_, rfl⟩
          rw [hs] at hy
          obtain ⟨ay, cy, rfl, hy1⟩ := id hy
          have hf := fits_at HN.out hlt hs HALL.out
          have hc := (HR.out.2.bel.cell (World.block_lt_of_cell? _ _ hc)).trans hc
          have hy := row1_below (B := 0) hy HR.out.2.bel
          obtain ⟨m, hm1⟩ : ∃ m, ws.length = m := ⟨_, rfl⟩
          have hmf := hf.2.2.1
          have hrl := reqI_length hf
          have hrp := reqI_pos ws
          rw [hm1] at hc hy hmf
          obtain ⟨N, hN⟩ : ∃ N, (reqI ws).length = N := ⟨_, rfl⟩
          rw [hN] at hrl hrp
          have HY := jhid hy
          have HSS := jhid hs
          have HMM := jhid hm1
          have HF := jhid hf
          have HNN := jhid hN
          have hlt' : (q : Int) < (k : Int) := by omega
          clear hca hs hm1 hy1 hy hf hN
          have htb : TB wr.heap.size wr := Lib.tabBelow_of_tabIs (HR.out.2.here.here)
          have HTB := jhid htb
          clear htb
          go_wp2_with (first | (go_at_call 14; refine (request14 ws m HMM.out ay cy wr HF.out.1 hmf HY.out HTB.out).mono ?_; rintro e w1 ⟨v1, rfl, ho1, hb1⟩; obtain ⟨a1, c1, rfl, _, _, hg1⟩ := own_form ho1; obtain ⟨g1, rfl⟩ := hg1 (reqI_pos ws); rw [HNN.out] at ho1; rw [HNN.out]; have HO1 := jhid ho1; have HB1 := jhid hb1; clear ho1 hb1 hg1; have h2 := HR.out.2.call HB1.out; have H2 := jhid h2; clear h2) | (at_builtin; refine wpList_app _ rfl (.tmp 25) (.tmp 27) 24 rfl w.heap.size 5 i5 (.int .u8 0) 1 Tryd.underlying24 hi5 hz5 hs5 hb5 rfl (.slice va L vc) L _ rfl (H2.out.ownL HR.out.1) ⟨g1, 0, none⟩ N c1 ((reqI ws).map (Value.int .u8)) rfl ?_ hrp (HO1.out.cells (g := g1) rfl) (ints_oneCell _ _) ?_ ?_ H2.out.bas ?_; (rw [List.length_map, HNN.out]); (unfold maxLen; omega); omega; intro g2 cap2 w2 ho2 hg2 hx2; have h3 := H2.out.app hg2 HR.out.1 HNN.out ho2; have H3 := jhid h3; clear h3 ho2 hg2 hx2))
          · rename_i h16
            go_ret2
            have hlen : 16777216 < (wrI ll).length := by
              have h1 := wrI_prefix ll (q + 1)
              rw [wrI_take HN.out hlt HSS.out, List.length_append, ← HR.out.1, HNN.out] at h1
              omega
            exact wr_long_post HALL.out hlen H3.out.bel
          case roundEnd =>
            rename_i h16
            refine ⟨⟨q + 1, L + N, cap2, _, by simp, rfl, by omega, by omega, jhid ?_⟩, by simp [intOf]; omega⟩
            rw [wrI_take HN.out hlt HSS.out]
            exact ⟨by rw [List.length_append, ← HR.out.1, HNN.out], H3.out⟩
        · obtain rfl : q = k := by omega
          go_wp2_with fail
          go_ret2
          have h1 := HR.out.1
          have h2 := HR.out.2
          rw [List.take_of_length_le (by rw [HN.out]; exact Nat.le_refl _)] at h1 h2
          exact wr_whole_post HALL.out (by omega) h2.own h2.bel
end Go.Proofs.YthhjnjghlmaicaaDoor.jr
