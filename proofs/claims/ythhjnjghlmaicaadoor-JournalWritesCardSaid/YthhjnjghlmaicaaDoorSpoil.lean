/- The contract of pantrylaw28.spoil: it writes into the blocks of what it is handed alone. -/
import Derived.Test.YthhjnjghlmaicaaDoorSpoilB
import Derived.Test.YthhjnjghlmaicaaDoorApp
namespace Go.Proofs.YthhjnjghlmaicaaDoor.jr
open Go.ChangeShapes Go.WideShapes Go.ChangeAt Go.RowKit
set_option linter.unusedVariables false

/-- A slice of strings of the call's own, in a block below L. -/
def Inner (w : World) (B L : Nat) (x : Value) (ss : List ByteArray) : Prop :=
  w.ownsRow B 9 1 x ss.length (ss.map Value.string) ∧ ∀ k, x.ownBlock = some k → k < L
/-- A slice of such slices: all blocks from B on, below L; the inner ones apart. -/
def Own2 (w : World) (B L : Nat) (v : Value) (ll : List (List ByteArray)) : Prop :=
  ∃ xs, w.ownsRow B 33 1 v ll.length xs ∧ (∀ k, v.ownBlock = some k → k < L) ∧ (∀ i, i < ll.length → ∃ x, xs[i]? = some x ∧ Inner w B L x (ll.getD i [])) ∧
    ∀ (i j : Nat) (x y : Value), i < j → xs[i]? = some x → xs[j]? = some y → ∀ k, x.ownBlock = some k → y.ownBlock ≠ some k

theorem own_form {w : World} {base : Nat} {e : TypeId} {size n : Nat} {v : Value} {xs : List Value} (h : w.ownsRow base e size v n xs) :
    ∃ a cap, v = .slice a n cap ∧ cap ≤ maxLen ∧ n ≤ cap ∧ (0 < n → ∃ g, a = some ⟨g, 0, none⟩) := by
  rcases h.2 with ⟨rfl, rfl⟩ | ⟨g, cap, cur, rfl, hb, hg, hn, hc, _⟩
  · exact ⟨none, 0, rfl, by simp [maxLen], Nat.le_refl _, fun h => by omega⟩
  · exact ⟨_, cap, rfl, hc, hn, fun _ => ⟨g, rfl⟩⟩

theorem own_apart {w : World} {b1 b2 : Nat} {e1 e2 : TypeId} {s1 s2 n1 n2 : Nat} {v1 v2 : Value} {x1 x2 : List Value} (h1 : w.ownsRow b1 e1 s1 v1 n1 x1) (h2 : w.ownsRow b2 e2 s2 v2 n2 x2) (he : e1 ≠ e2) : ∀ k, v1.ownBlock = some k → v2.ownBlock ≠ some k := by
  intro k hk1 hk2
  rcases h1.2 with ⟨rfl, _⟩ | ⟨g1, cap1, cur1, rfl, _, hg1, _⟩
  · simp [Value.ownBlock] at hk1
  · rcases h2.2 with ⟨rfl, _⟩ | ⟨g2, cap2, cur2, rfl, _, hg2, _⟩
    · simp [Value.ownBlock] at hk2
    · simp [Value.ownBlock] at hk1 hk2
      subst hk1; subst hk2
      rw [hg1] at hg2
      simp at hg2
      exact he hg2.2

theorem cells_new1 (W : World) (o : Obj) (v : Value) (t : TypeId) : ∀ (j : Nat) u, [v][j]? = some u → ((W.alloc o).alloc (.cells #[v] t)).cell? ((⟨W.heap.size + 1, 0, none⟩ : Addr).add j) = some u := by
  have := cells_new (W.alloc o) [v] t
  simpa using this
theorem one_slice {a : Option Addr} {n c : Nat} : ∀ u ∈ [Value.slice a n c], u.oneCell' = true := by intro u hu; simp at hu; subst hu; rfl
theorem one_str {s : ByteArray} : ∀ u ∈ [Value.string s], u.oneCell' = true := by intro u hu; simp at hu; subst hu; rfl
def SpRel (w : World) (B L : Nat) (v : Value) (n : Nat) (xs0 : List Value) (ll : List (List ByteArray)) (k : Nat) (xs : List Value) (wr : World) : Prop :=
  Kept (fun k => k < B ∨ L ≤ k) w wr ∧ wr.ownsRow B 33 1 v n xs ∧ ∀ j, k ≤ j → j < n → xs[j]? = xs0[j]? ∧ ∃ x, xs0[j]? = some x ∧ Inner wr B L x (ll.getD j [])

/-- Within a round: 'x' is the slice whose strings are written. -/
def InRel (w : World) (B L : Nat) (v : Value) (n : Nat) (xs0 : List Value) (ll : List (List ByteArray)) (k : Nat) (xs : List Value) (x : Value) (m : Nat) (wi : World) : Prop :=
  Kept (fun k => k < B ∨ L ≤ k) w wi ∧ wi.ownsRow B 33 1 v n xs ∧ (∃ ys, wi.ownsRow B 9 1 x m ys) ∧ ∀ j, k < j → j < n → xs[j]? = xs0[j]? ∧ ∃ y, xs0[j]? = some y ∧ Inner wi B L y (ll.getD j [])

theorem InRel.put {w : World} {B L : Nat} {v : Value} {n : Nat} {xs0 : List Value} {ll : List (List ByteArray)} {k : Nat} {xs : List Value} {m g c q : Nat} {wi : World} (hq : q < m)
    (h : InRel w B L v n xs0 ll k xs (.slice (some ⟨g, 0, none⟩) m c) m wi) (hg : g < L) (hx : xs0[k]? = some (.slice (some ⟨g, 0, none⟩) m c))
    (hp : ∀ (i j : Nat) (x y : Value), i < j → xs0[i]? = some x → xs0[j]? = some y → ∀ k, x.ownBlock = some k → y.ownBlock ≠ some k) (u : Value) :
    InRel w B L v n xs0 ll k xs (.slice (some ⟨g, 0, none⟩) m c) m (wi.setCell ⟨g, q, none⟩ u) := by
  obtain ⟨h1, h2, ⟨ys, h3⟩, h4⟩ := h
  have hgB : B ≤ g := (h3.lt g rfl).1
  refine ⟨h1.setCell (fun _ hs => by rcases hs with hs | hs <;> simp at hs <;> omega) u, ownsRow_setCell_other (a := ⟨g, q, none⟩) h2 (fun e => own_apart h2 h3 (by decide) _ e rfl) u, ⟨_, (h3.stored q u).1⟩, fun j hj hjn => ?_⟩
  obtain ⟨e, y, hy, hi, hl⟩ := h4 j hj hjn
  exact ⟨e, y, hy, ownsRow_setCell_other (a := ⟨g, q, none⟩) hi (hp k j _ y hj hx hy g rfl) u, hl⟩

/-- What the walk reads behind the append of a round. -/
theorem after_app {wr w1 : World} {B g n cap k : Nat} {xs ys zs : List Value} {x u : Value} {m g2 cap2 : Nat} {o : Obj} (hr : wr.ownsRow B 33 1 (.slice (some ⟨g, 0, none⟩) n cap) n xs) (hy : wr.ownsRow B 9 1 x m ys)
    (ho : w1.ownsRow B 9 1 (.slice (some ⟨g2, 0, none⟩) (m + 1) cap2) (m + 1) zs) (hg : (wr.alloc o).grownBy w1 x.ownBlock) (hm : 0 < m + 1)
    (hc : wr.cell? ⟨g, k, none⟩ = some u) (hk : k < n) :
    (∃ c, w1.cell? ⟨g2, 0, none⟩ = some c) ∧ w1.frozen? ⟨g2, 0, none⟩ = false ∧ (∀ y, (w1.setCell ⟨g2, 0, none⟩ y).cell? ⟨g, k, none⟩ = some u) ∧ (∀ y, (w1.setCell ⟨g2, 0, none⟩ y).frozen? ⟨g, k, none⟩ = false) ∧ (∃ c, w1.cell? ⟨g, k, none⟩ = some c) ∧ Hid (w1.ownsRow B 33 1 (.slice (some ⟨g, 0, none⟩) n cap) n xs ∧ g2 ≠ g) := by
  have hrow : w1.ownsRow B 33 1 (.slice (some ⟨g, 0, none⟩) n cap) n xs := (hr.alloc o).kept hg (.inr (fun e => own_apart hr hy (by decide) g rfl (e ▸ rfl)))
  have hne : g2 ≠ g := fun e => own_apart ho hrow (by decide) g2 rfl (by rw [e]; rfl)
  have hcg : w1.cell? ⟨g, k, none⟩ = some u := by rw [hrow.cellAt k (by omega), ← hr.cellAt k (by omega)]; exact hc
  refine ⟨own_first ho hm, ho.frozenAt 0, fun y => ?_, fun y => ?_, ⟨u, hcg⟩, hrow, hne⟩
  · rw [World.cell?_setCell_other w1 _ _ _ (fun e => hne (congrArg Addr.block e))]; exact hcg
  · rw [World.frozen?_setCell]; exact hrow.frozenAt k

theorem sp_next {w wr w1 : World} {B L : Nat} {n k m g cap g2 cap2 : Nat} {xs0 xs ys zs : List Value} {ll : List (List ByteArray)} {x : Value} {o : Obj}
    (hlt : k < n) (hx : xs0[k]? = some x) (hgl : ∀ g', x.ownBlock = some g' → B ≤ g' ∧ g' < L)
    (hp : ∀ (i j : Nat) (x y : Value), i < j → xs0[i]? = some x → xs0[j]? = some y → ∀ k, x.ownBlock = some k → y.ownBlock ≠ some k)
    (hk : Kept (fun k => k < B ∨ L ≤ k) w wr) (hr : wr.ownsRow B 33 1 (.slice (some ⟨g, 0, none⟩) n cap) n xs) (hy : wr.ownsRow B 9 1 x m ys)
    (hrest : ∀ j, k < j → j < n → xs[j]? = xs0[j]? ∧ ∃ y, xs0[j]? = some y ∧ Inner wr B L y (ll.getD j [])) (hg1 : B ≤ g) (hg2 : g < L)
    (ho : w1.ownsRow B 9 1 (.slice (some ⟨g2, 0, none⟩) (m + 1) cap2) (m + 1) zs) (hg : (wr.alloc o).grownBy w1 x.ownBlock) (hd : x.ownBlock = some g2 ∨ ((wr.alloc o).heap.size ≤ g2 ∧ (wr.alloc o).grownBy w1 none))
    (hr1 : w1.ownsRow B 33 1 (.slice (some ⟨g, 0, none⟩) n cap) n xs) (hne : g2 ≠ g) (u : Value) :
    SpRel w B L (.slice (some ⟨g, 0, none⟩) n cap) n xs0 ll (k + 1) (xs.set k (.slice (some ⟨g2, 0, none⟩) (m + 1) cap2)) ((w1.setCell ⟨g2, 0, none⟩ u).setCell ⟨g, k, none⟩ (.slice (some ⟨g2, 0, none⟩) (m + 1) cap2)) := by
  have hsz := hk.size
  refine ⟨(((hk.alloc o).grown hg ?_).setCell ?_ u).setCell ?_ _, ((ownsRow_setCell_other (a := ⟨g2, 0, none⟩) hr1 (fun e => hne (Option.some.inj e).symm) u).stored k _).1, ?_⟩
  · intro j hj _ hs
    have := hgl j hj
    omega
  · intro hlt2 hs
    simp only at hlt2 hs
    rcases hd with hd | ⟨hd, _⟩
    · have := hgl g2 hd
      omega
    · simp at hd
      omega
  · intro _ hs
    simp only at hs
    omega
  · intro j hj hjn
    obtain ⟨e, y, hy0, hi, hl⟩ := hrest j (by omega) hjn
    refine ⟨by rw [List.getElem?_set_ne (by omega)]; exact e, y, hy0, ?_, hl⟩
    have a1 : w1.ownsRow B 9 1 y (ll.getD j []).length ((ll.getD j []).map Value.string) := (hi.alloc o).kept hg (by
      cases hb : y.ownBlock with
      | none => exact .inl rfl
      | some b => exact .inr (fun e => hp k j x y (by omega) hx hy0 b e.symm hb))
    have a2 : y.ownBlock ≠ some g2 := fun e => by
      rcases hd with hd | ⟨hd, _⟩
      · exact hp k j x y (by omega) hx hy0 g2 hd e
      · have := (hi.lt g2 e).2
        simp at hd
        omega
    have a3 := ownsRow_setCell_other (a := ⟨g2, 0, none⟩) a1 a2 u
    exact ownsRow_setCell_other (a := ⟨g, k, none⟩) a3 (fun e => own_apart a1 hr1 (by decide) _ e rfl) _

theorem sp_end {w wr w1 : World} {B L : Nat} {n cap g2 : Nat} {a : Option Addr} {xs : List Value} {o1 o2 : Obj}
    (hk : Kept (fun k => k < B ∨ L ≤ k) w wr) (hr : wr.ownsRow B 33 1 (.slice a n cap) n xs) (hL : ∀ k, (Value.slice a n cap).ownBlock = some k → k < L)
    (hg : ((wr.alloc o1).alloc o2).grownBy w1 (Value.slice a n cap).ownBlock) (hd : (Value.slice a n cap).ownBlock = some g2 ∨ (((wr.alloc o1).alloc o2).heap.size ≤ g2 ∧ ((wr.alloc o1).alloc o2).grownBy w1 none)) (u : Value) :
    Kept (fun k => k < B ∨ L ≤ k) w (w1.setCell ⟨g2, 0, none⟩ u) := by
  have hsz := hk.size
  refine ((((hk.alloc o1).alloc o2).grown hg ?_).setCell ?_ u)
  · intro j hj _ hs
    have h1 := (hr.lt j hj).1
    have h2 := hL j hj
    omega
  · intro hlt2 hs
    simp only at hlt2 hs
    rcases hd with hd | ⟨hd, _⟩
    · have h1 := (hr.lt g2 hd).1
      have h2 := hL g2 hd
      omega
    · simp at hd
      omega

set_option maxRecDepth 100000 in
set_option maxHeartbeats 6000000 in
theorem spoilC (ll : List (List ByteArray)) (B L : Nat) (v : Value) (w : World) (hown : Own2 w B L v ll) (hB : B ≤ w.heap.size) (hL : L ≤ w.heap.size)
    (hn : ll.length ≤ 5864062014804) (hm : ∀ l ∈ ll, l.length ≤ 8796093022207) :
    Calls Tryd.prog 10 #[v] w (Ended (fun k => k < B ∨ L ≤ k) w) := by
  obtain ⟨i9, hi9, hz9, hs9, hb9⟩ := info_parts info9
  obtain ⟨i45, hi45, hz45, hs45, hb45⟩ := info_parts info45
  obtain ⟨xs0, hrow0, hvL, hin0, hap0⟩ := hown
  obtain ⟨a, cap, hv, hcap, hncap, ha⟩ := own_form hrow0
  subst hv
  obtain ⟨n, hnn⟩ : ∃ n, ll.length = n := ⟨_, rfl⟩
  rw [hnn] at hrow0 hvL hin0 hncap ha hn ⊢
  have hm' : ∀ i, i < n → (ll.getD i []).length ≤ 8796093022207 := fun i hi => hm _ (by rw [List.getD_eq_getElem?_getD, List.getElem?_eq_getElem (by rw [hnn]; exact hi)]; simp)
  have HN := jhid hnn
  have HM := jhid hm'
  have HR0 := jhid hrow0
  have HV := jhid hvL
  have HI := jhid hin0
  have HP := jhid hap0
  have HA := jhid ha
  have HC := jhid hcap
  clear hnn hm hm' hrow0 hvL hin0 hap0 ha hcap hncap
  go_enter Tryd.func10, Tryd.ntmps10
  go_wp2
  go_loopw [7, 2, 3, 4] (fun i _ _ _ wr => ∃ (k : Nat) (xs : List Value), i = .int .i64 k ∧ k ≤ n ∧ SpRel w B L (.slice a n cap) n xs0 ll k xs wr) (fun i _ _ _ _ => n - (intOf i).toNat)
  case atStart => exact ⟨0, xs0, rfl, by omega, Kept.refl _ _, HR0.out, fun j _ hj => ⟨rfl, HI.out j hj⟩⟩
  case round =>
    obtain ⟨k, xs, rfl, hk, hrel⟩ := hrel
    by_cases hlt : k < n
    · obtain ⟨hkept, hrow, hrest⟩ := hrel
      obtain ⟨g, rfl⟩ := HA.out (by omega)
      obtain ⟨hx1, x, hx2, hinner⟩ := hrest k (Nat.le_refl _) hlt
      obtain ⟨m, hmm⟩ : ∃ m, (ll.getD k []).length = m := ⟨_, rfl⟩
      have hmb := HM.out k hlt
      rw [hmm] at hmb
      obtain ⟨hin1, hin2⟩ := hinner
      rw [hmm] at hin1
      obtain ⟨ax, cx, rfl, hcx, hmc, hax⟩ := own_form hin1
      have hcell := hrow.cellAt k (by omega)
      rw [hx1, hx2] at hcell
      have hfz := hrow.frozenAt k
      have hlt' : (k : Int) < (n : Int) := by omega
      have HK := jhid hkept
      have HR := jhid hrow
      have HX := jhid hrest
      have HX2 := jhid hx2
      have HX1 := jhid hx1
      have HIN := jhid hin1
      have HIL := jhid hin2
      have HAX := jhid hax
      have HMM := jhid hmm
      have HCX := jhid hcx
      clear hkept hrow hrest hx1 hx2 hin1 hin2 hax hmm hcx hmc
      go_wp2
      obtain ⟨wo, rfl⟩ : ∃ wo : World, wo = wr := ⟨_, rfl⟩
      go_loopw [15, 3] (fun i _ wi => ∃ (q : Nat), i = .int .i64 q ∧ q ≤ m ∧ InRel w B L (.slice (some ⟨g, 0, none⟩) n cap) n xs0 ll k xs (.slice ax m cx) m wi) (fun i _ _ => m - (intOf i).toNat)
      case atStart => exact ⟨0, rfl, by omega, HK.out, HR.out, ⟨_, HIN.out⟩, fun j hj hjn => HX.out j (by omega) hjn⟩
      case round =>
        obtain ⟨q, rfl, hq, hin⟩ := hrel
        by_cases hlq : q < m
        · obtain ⟨g', rfl⟩ := HAX.out (by omega)
          have hgL := HIL.out g' rfl
          have HPUT : Hid (InRel w B L (.slice (some ⟨g, 0, none⟩) n cap) n xs0 ll k xs (.slice (some ⟨g', 0, none⟩) m cx) m (wr.setCell ⟨g', q, none⟩ (.string ⟨#[115, 112, 111, 105, 108, 116]⟩))) := hin.put hlq hgL HX2.out HP.out _
          have hcell1 := hin.2.1.cellAt k (by omega)
          rw [HX1.out, HX2.out] at hcell1
          obtain ⟨ys, hys⟩ := hin.2.2.1
          have hfz1 := hys.frozenAt q
          obtain ⟨yq, hyq⟩ : ∃ y, wr.cell? ⟨g', q, none⟩ = some y := by
            rw [hys.cellAt q (by omega)]
            exact ⟨_, List.getElem?_eq_getElem (by rw [hys.1]; omega)⟩
          have hlq' : (q : Int) < (m : Int) := by omega
          clear hin hys hfz hcell
          go_wp2
          go_roundw
          case rel => exact ⟨q + 1, by go_num, by omega, HPUT.out⟩
          case measure => simp [intOf]; omega
        · have hge : (m : Int) ≤ (q : Int) := by omega
          have hcell1 := hin.2.1.cellAt k (by omega)
          rw [HX1.out, HX2.out] at hcell1
          obtain ⟨hk1, hrow1, ⟨ys, hys⟩, hrest1⟩ := hin
          have HK1 := jhid hk1
          have HR1 := jhid hrow1
          have HY1 := jhid hys
          have HX3 := jhid hrest1
          clear hk1 hrow1 hys hrest1 hfz hcell
          have hgL : ∀ g', (Value.slice ax m cx).ownBlock = some g' → B ≤ g' ∧ g' < L := fun g' e => ⟨(HY1.out.lt g' e).1, HIL.out g' e⟩
          have HGL := jhid hgL
          have hgo : B ≤ g := (HR1.out.lt g rfl).1
          have hgo2 : g < L := HV.out g rfl
          have hszr : B ≤ (wr.alloc (.cells #[.string ⟨#[109, 111, 114, 101]⟩] 9)).heap.size := by have := HK1.out.size; simp; omega
          have HSZ := jhid hszr
          clear hgL hszr
          go_wp2_with (at_builtin; refine wpList_app _ rfl _ _ 33 rfl B 9 i9 _ 16 Tryd.underlying33 hi9 hz9 hs9 hb9 rfl _ m ys rfl (HY1.out.alloc _) _ 1 1 [.string ⟨#[109, 111, 114, 101]⟩] rfl rfl (by decide) ?_ ?_ ?_ ?_ ?_ ?_; exact cells_new wr [.string ⟨#[109, 111, 114, 101]⟩] 9; exact one_str; (unfold maxLen; omega); omega; exact HSZ.out; intro g2 cap2 w1 ho1 hg1 hd1; obtain ⟨⟨c0, hc0⟩, hf0, hcg, hfg, ⟨c0', hc0'⟩, HO2⟩ := after_app HR1.out HY1.out ho1 hg1 (by omega) hcell1 (by omega); have HO := jhid ho1; have HG := jhid hg1; have HD := jhid hd1; clear ho1 hg1 hd1 hcell1)
          go_roundw
          case rel => exact ⟨k + 1, _, by go_num, by omega, sp_next hlt HX2.out HGL.out HP.out HK1.out HR1.out HY1.out HX3.out hgo hgo2 HO.out HG.out HD.out HO2.out.1 HO2.out.2 _⟩
          case measure => simp [intOf]; omega
    · obtain ⟨hkept, hrow, _⟩ := hrel
      have hge : (n : Int) ≤ (k : Int) := by omega
      have HK := jhid hkept
      have HR := jhid hrow
      have hszr : ∀ o1 o2, B ≤ ((wr.alloc o1).alloc o2).heap.size := by intro o1 o2; have := hkept.size; simp; omega
      have HSZ := jhid hszr
      clear hkept hrow hszr
      go_wp2_with (at_builtin; refine wpList_app _ rfl _ _ 22 rfl B 33 i45 _ 24 Tryd.underlying22 hi45 hz45 hs45 hb45 rfl _ n xs rfl ((HR.out.alloc _).alloc _) _ 1 1 [.slice (some ⟨wr.heap.size, 0, none⟩) 1 1] rfl rfl (by decide) ?_ ?_ ?_ ?_ ?_ ?_; exact cells_new1 wr _ _ 33; exact one_slice; (unfold maxLen; omega); omega; exact HSZ.out _ _; intro g2 cap2 w1 ho1 hg1 hd1; have hf1 := ho1.frozenAt 0; obtain ⟨c0, hc0⟩ := own_first ho1 (by omega); have HO := jhid ho1; have HG := jhid hg1; have HD := jhid hd1; clear ho1 hg1 hd1)
      go_end0
      exact ⟨rfl, sp_end HK.out HR.out HV.out HG.out HD.out _⟩
end Go.Proofs.YthhjnjghlmaicaaDoor.jr
