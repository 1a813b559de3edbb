/- The contract of pantrylaw28.twin: effects in memory of their own. -/
import Derived.Test.YthhjnjghlmaicaaDoorSpoilG
namespace Go.Proofs.YthhjnjghlmaicaaDoor.jr
open Go.ChangeShapes Go.WideShapes Go.ChangeAt Go.RowKit
set_option linter.unusedVariables false

section
variable {P : Program} (w : World)
theorem run_append_zero (base : Nat) (t ty e : TypeId) (i : TypeInfo) (size : Nat) (ht : P.underlying t = some (.slice e)) (hi : P.info? e = some i)
    (v : Value) (n : Nat) (xs : List Value) (hown : w.ownsRow base e size v n xs) (ay : Option Addr) (c : Nat) :
    (Builtin.append_ #[t, t] ty #[v, .slice ay 0 c]).run P w = .ok v w := by
  rcases hown.2 with ⟨rfl, rfl⟩ | ⟨g, cap, cur, rfl, _, _, hnc, _⟩
  · cases ay <;> simp [Builtin.append_, run_underlying ht, sizeOf, typeInfo, hi, Builtin.lenOf, Builtin.firstCells, loadCells, loadCellsFrom]
  · cases ay <;> simp [Builtin.append_, run_underlying ht, sizeOf, typeInfo, hi, Builtin.lenOf, Builtin.firstCells, hnc, storeCells, loadCells, loadCellsFrom]
theorem run_append_ref (base : Nat) (t ty e : TypeId) (i : TypeInfo) (z : Value) (bytes : Nat) (ht : P.underlying t = some (.slice e)) (hi : P.info? e = some i) (hz : i.zero = some z)
    (hsize : i.size = 1) (hby : i.bytes = bytes) (hzs : z.cells.size = 1)
    (v : Value) (n : Nat) (xs : List Value) (hown : w.ownsRow base e 1 v n xs)
    (ay : Option Addr) (m c : Nat) (news : List Value) (hl : news.length = m) (hnews : 0 < m → ∃ ad, ay = some ad ∧ ∀ j u, news[j]? = some u → w.cell? (ad.add j) = some u) (h1 : ∀ u ∈ news, u.oneCell' = true)
    (h63 : n + m ≤ maxLen) (hbytes : (n + m) * bytes ≤ 140737488355328) (hbase : base ≤ w.heap.size) :
    ∃ v' w', (Builtin.append_ #[t, t] ty #[v, .slice ay m c]).run P w = .ok v' w' ∧ w'.ownsRow base e 1 v' (n + m) (xs ++ news) ∧ w.grownBy w' v.ownBlock := by
  rcases Nat.eq_zero_or_pos m with rfl | hm
  · have hnil : news = [] := List.eq_nil_of_length_eq_zero hl
    subst hnil
    exact ⟨v, w, run_append_zero w base t ty e i 1 ht hi v n xs hown ay c, by simpa using hown, ⟨rfl, rfl, rfl, Nat.le_refl _, fun _ _ _ => rfl⟩⟩
  · obtain ⟨ad, rfl, hn⟩ := hnews hm
    obtain ⟨v', w', hr, ho, hg, _⟩ := run_append_own (P := P) w base t ty e i z 1 bytes ht hi hz hsize hby hzs (by decide) v n xs hown ad m c news (by omega) hn h1 h63 hbytes hbase
    exact ⟨v', w', hr, ho, hg⟩
theorem wpList_append_ref {ops : Array Oper} {rest : List Oper} {o : Oper} {a : Act} {Q : Exit → Act → World → Prop} (hgd : o.guard = none) (s x : Operand) (t : TypeId)
    (ho : o.op = .call { callee := .builtin .append, args := #[s, x], argTypes := #[t, t] })
    (base : Nat) (e : TypeId) (i : TypeInfo) (z : Value) (bytes : Nat) (ht : P.underlying t = some (.slice e)) (hi : P.info? e = some i) (hz : i.zero = some z)
    (hsize : i.size = 1) (hby : i.bytes = bytes) (hzs : z.cells.size = 1)
    (v : Value) (n : Nat) (xs : List Value) (hs : a.eval s = v) (hown : w.ownsRow base e 1 v n xs)
    (ay : Option Addr) (m c : Nat) (news : List Value) (hx : a.eval x = .slice ay m c) (hl : news.length = m) (hnews : 0 < m → ∃ ad, ay = some ad ∧ ∀ j u, news[j]? = some u → w.cell? (ad.add j) = some u) (h1 : ∀ u ∈ news, u.oneCell' = true)
    (h63 : n + m ≤ maxLen) (hbytes : (n + m) * bytes ≤ 140737488355328) (hbase : base ≤ w.heap.size)
    (h : ∀ v' w', w'.ownsRow base e 1 v' (n + m) (xs ++ news) → w.grownBy w' v.ownBlock → wpList P ops Q rest (a.put o.dst v') w') : wpList P ops Q (o :: rest) a w := by
  refine wpList_plain hgd fun K hK => ?_
  obtain ⟨v', w', hr, h2, h3⟩ := run_append_ref (P := P) w base t o.type e i z bytes ht hi hz hsize hby hzs v n xs hown ay m c news hl hnews h1 h63 hbytes hbase
  unfold Oper.wp
  simp [execOp, ho, resolve, invoke, builtin, hs, hx, hr, Result.andThen]
  exact hK _ _ (h v' w' h2 h3)
end
theorem strs_oneCell (ws : List ByteArray) : ∀ u ∈ ws.map Value.string, u.oneCell' = true := by
  intro u hu
  obtain ⟨s, _, rfl⟩ := List.mem_map.1 hu
  rfl
theorem row1_news {w : World} {ay : Option Addr} {m cy : Nat} {ws : List ByteArray} (hm : ws.length = m) (h : Row1 w (.slice ay m cy) ws) (o : Obj) : 0 < m → ∃ ad, ay = some ad ∧ ∀ (j : Nat) u, (ws.map Value.string)[j]? = some u → (w.alloc o).cell? (ad.add j) = some u := by
  intro hp
  obtain ⟨g, off, rfl, hc⟩ := row1_form hm h hp
  refine ⟨_, rfl, fun j u hu => ?_⟩
  have hj : j < m := by
    have := (List.getElem?_eq_some_iff.1 hu).1
    simpa [hm] using this
  rw [map_at _ ByteArray.empty _ _ (by omega)] at hu
  obtain rfl := Option.some.inj hu
  have h2 := hc j hj
  have hadd : (⟨g, off, none⟩ : Addr).add j = ⟨g, off + j, none⟩ := by unfold Addr.add; split <;> simp_all
  rw [hadd, World.cell?_alloc_lt _ _ _ (World.block_lt_of_cell? _ _ h2)]
  exact h2

theorem kept_first {wr w1 : World} {o : Obj} (hg : (wr.alloc o).grownBy w1 (some wr.heap.size)) : Kept (· < wr.heap.size) wr w1 :=
  ((Kept.refl _ wr).alloc o).grown hg (fun k e hlt hS => by have := Option.some.inj e; omega)
theorem take_next {ll : List (List ByteArray)} {n k : Nat} {ws : List ByteArray} (hn : ll.length = n) (hk : k < n) (hs : ll.getD k [] = ws) : ll.take (k + 1) = ll.take k ++ [ws] := by
  subst hs
  have hk' : k < ll.length := by omega
  rw [List.getD_eq_getElem?_getD, List.getElem?_eq_getElem hk', List.take_succ_eq_append_getElem hk']
  rfl
set_option maxRecDepth 100000 in
set_option maxHeartbeats 3000000 in
theorem twin4 (ll : List (List ByteArray)) (n : Nat) (hn : ll.length = n) (a : Option Addr) (cap : Nat) (w : World) (hl : n ≤ 5864062014804) (hm : ∀ i, i < n → (ll.getD i []).length ≤ 8796093022207) (hx : Row2 w (.slice a n cap) ll) :
    Calls Tryd.prog 4 #[.slice a n cap] w fun e w' => ∃ v, e = .returned v ∧ Own2 w' w.heap.size w'.heap.size v ll ∧ Below w.heap.size w w' := by
  obtain ⟨i9, hi9, hz9, hs9, hb9⟩ := info_parts info9
  obtain ⟨i45, hi45, hz45, hs45, hb45⟩ := info_parts info45
  have HX := jhid (row2_form hn hx)
  have HN := jhid hn
  have HM := jhid hm
  clear hx hn hm
  go_enter Tryd.func4, Tryd.ntmps4
  go_wp2_with fail
  go_loopw [8, 3] (fun i v wr => ∃ (k : Nat), i = .int .i64 k ∧ k ≤ n ∧ Hid (Own2 wr w.heap.size wr.heap.size v (ll.take k) ∧ Below w.heap.size w wr)) (fun i _ _ => n - (intOf i).toNat)
  case atStart => exact ⟨0, rfl, by omega, jhid ⟨own2_nil _ _ _, Below.refl _ _⟩⟩
  case round =>
    obtain ⟨k, rfl, hk, HR⟩ := hrel
    by_cases hlt : k < n
    · obtain ⟨g, off, ea, hca⟩ := HX.out (by omega)
      subst ea
      obtain ⟨y, hc, hy⟩ := hca k hlt
      obtain ⟨ws, hs⟩ : ∃ ws, ll.getD k [] = ws := ⟨_, rfl⟩
      rw [hs] at hy
      obtain ⟨ay, cy, rfl, hy1⟩ := id hy
      have hc := (HR.out.2.cell (World.block_lt_of_cell? _ _ hc)).trans hc
      have hy := row1_below (B := 0) hy HR.out.2
      have hmw := HM.out k hlt
      rw [hs] at hmw
      obtain ⟨m, hm1⟩ : ∃ m, ws.length = m := ⟨_, rfl⟩
      rw [hm1] at hc hy hmw
      have HY := jhid hy
      have HSS := jhid hs
      have HMM := jhid hm1
      have hlt' : (k : Int) < (n : Int) := by omega
      clear hca hs hm1 hy1 hy
      have HLEN : Hid ((ll.take k).length = k) := jhid (by rw [List.length_take, HN.out]; omega)
      have hsz0 := HR.out.2.size
      go_wp2_with (first | (at_builtin; refine wpList_append_ref _ rfl (.tmp 13) (.tmp 14) 33 rfl wr.heap.size 9 i9 (.string ByteArray.empty) 16 Tryd.underlying33 hi9 hz9 hs9 hb9 rfl (.slice (some ⟨wr.heap.size, 0, none⟩) 0 0) 0 [] rfl (World.ownsRow_lit wr #[] 0 (Nat.le_refl _) (by decide) rfl) ay m cy (ws.map Value.string) rfl (by rw [List.length_map]; exact HMM.out) (row1_news HMM.out HY.out _) (strs_oneCell ws) (by unfold maxLen; omega) (by omega) (by simp) ?_; intro v1 w1 ho1 hg1; have ho1 : w1.ownsRow wr.heap.size 9 1 v1 m (ws.map Value.string) := (by simpa using ho1); obtain ⟨av1, cv1, rfl, _⟩ := own_form ho1; have hk1 := kept_first hg1; obtain ⟨xs, q1, q2, q3, q4⟩ := own2_kept HR.out.1 hk1 (fun k _ h => h); have HK1 := jhid hk1; have HO1 := jhid ho1; have HQ1 := jhid q1; have HQ2 := jhid q2; have HQ3 := jhid q3; have HQ4 := jhid q4; have hsz1 := hk1.size; clear ho1 hg1 hk1 q1 q2 q3 q4) | (at_builtin; refine wpList_app _ rfl (.tmp 12) (.tmp 16) 22 rfl w.heap.size 33 i45 (.slice none 0 0) 24 Tryd.underlying22 hi45 hz45 hs45 hb45 rfl u3 (ll.take k).length xs rfl (HQ1.out.alloc _) ⟨w1.heap.size, 0, none⟩ 1 1 [.slice av1 m cv1] rfl rfl (by omega) (cells_new w1 [.slice av1 m cv1] 33) one_slice (by rw [HLEN.out]; unfold maxLen; omega) (by rw [HLEN.out]; omega) (by simp; omega) ?_; intro g2 cap2 w2 ho2 hg2 hx2; have HO2 := jhid ho2; have HG2 := jhid hg2; clear ho2 hg2 hx2))
      have hown : Own2 w2 w.heap.size w2.heap.size (.slice (some ⟨g2, 0, none⟩) ((ll.take k).length + 1) cap2) (ll.take k ++ [ws]) :=
        own2_push HR.out.2.size HQ1.out HQ2.out HQ3.out HQ4.out (by rw [HMM.out]; exact HO1.out) HO2.out HG2.out rfl HK1.out.size
      have hbel : Below w.heap.size w w2 :=
        ((HR.out.2.trans (HK1.out.below HR.out.2.size (fun k h => Nat.lt_of_lt_of_le h HR.out.2.size))).alloc (Nat.le_trans HR.out.2.size HK1.out.size) _).grown HG2.out (by have := HR.out.2.size; simp; omega) (fun k e => (HQ1.out.lt k e).1)
      rw [← take_next HN.out hlt HSS.out] at hown
      exact ⟨⟨k + 1, by simp, by omega, jhid ⟨by rw [← List.length_take]; exact hown, hbel⟩⟩, by simp [intOf]; omega⟩
    · obtain rfl : k = n := by omega
      go_wp2_with fail
      go_ret
      have h1 := HR.out.1
      rw [List.take_of_length_le (by rw [HN.out]; exact Nat.le_refl _)] at h1
      exact ⟨_, rfl, h1, HR.out.2⟩
end Go.Proofs.YthhjnjghlmaicaaDoor.jr
