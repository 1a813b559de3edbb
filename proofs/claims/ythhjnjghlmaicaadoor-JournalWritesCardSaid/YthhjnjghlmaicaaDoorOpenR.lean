/- An argument that is a slice of slices of strings, opened: what it reads as, and how long it can be. -/
import Derived.Test.YthhjnjghlmaicaaDoorTwin
import Derived.ChangeOld
import Derived.SizedLaws
import Derived.SliceStrings
import Derived.Deep.Slices
namespace Go.Proofs.YthhjnjghlmaicaaDoor.jr
open Go.ChangeShapes Go.WideShapes Go.ChangeAt Go.RowKit Go.Deep
set_option linter.unusedVariables false

theorem weightsAll_mem {H : Type} {P : Program} {e : TypeId} : ∀ {ds : List (DataW H)} {i : Nat} {d : DataW H}, ds[i]? = some d → ∀ n ∈ d.weights P e, n ∈ DataW.weightsAll P e ds
  | [], i, d, h, n, hn => by simp at h
  | x :: r, 0, d, h, n, hn => by
    simp at h; subst h
    simp only [DataW.weightsAll, List.mem_append]; exact .inl hn
  | x :: r, i + 1, d, h, n, hn => by
    simp at h
    simp only [DataW.weightsAll, List.mem_append]; exact .inr (weightsAll_mem h n hn)

section
variable {H : Type} {enc : TypeId × Value → H} {P : Program} {w : World} {base : Nat} {held : Bool}
theorem open_row1 {e q : TypeId} {fuel : Nat} {v : Value} {x : DataW H × List MemPlace} (he : P.underlying e = some (.slice q)) (hq : P.underlying q = some .string)
    (cq : P.cellsOf q = 1) (h : DataW.trod enc P w base (fun _ => true) held fuel e [v] = some x) :
    ∃ ss : List ByteArray, Row1 w v ss ∧ (∀ s ∈ ss, s.size ≤ maxLen) ∧ (ss = [] ∨ ∃ sp : List (DataW H), x.1 = .slice (strs ss) sp) := by
  rcases open_strings he hq cq h with ⟨hcs, rfl⟩ | ⟨a, len, cap, ss, hcs, _, hl, hm, hz, rfl, hcell, hsz⟩
  · simp at hcs
    subst hcs
    exact ⟨[], ⟨none, 0, rfl, fun h => by simp at h⟩, fun s h => by simp at h, .inl rfl⟩
  · simp only [if_true] at hz
    simp at hcs
    subst hcs
    have hlt : (ss.take len).length = len := by rw [List.length_take]; omega
    refine ⟨ss.take len, ⟨some a, cap, by rw [hlt], fun h0 => ?_⟩, fun s hs => hsz s (List.mem_of_mem_take hs), .inr ⟨_, rfl⟩⟩
    rw [hlt] at h0
    have hc0 := hcell 0 (by omega)
    obtain ⟨b, off, spot⟩ := a
    have : spot = none := by simpa [Addr.add] using World.cell?_spot hc0
    subst this
    refine ⟨b, off, rfl, fun i hi => ?_⟩
    rw [hlt] at hi
    have hc := hcell i (by omega)
    have hadd : (⟨b, off, none⟩ : Addr).add i = ⟨b, off + i, none⟩ := by unfold Addr.add; split <;> simp_all
    rw [hadd] at hc
    rw [hc]
    simp [List.getD_eq_getElem?_getD, hi]

theorem open_rows2 {t e q : TypeId} {fuel : Nat} {cs : List Value} {x : DataW H × List MemPlace} (ht : P.underlying t = some (.slice e)) (he : P.underlying e = some (.slice q)) (hq : P.underlying q = some .string)
    (ce : P.cellsOf e = 1) (cq : P.cellsOf q = 1) (be : P.bytesOf e = 24) (bq : P.bytesOf q = 16) (h : DataW.trod enc P w base (fun _ => true) held fuel t cs = some x) (hw : ∀ n ∈ x.1.weights P t, n ≤ reachBytes) :
    ∃ (a : Option Addr) (len cap : Nat) (ll : List (List ByteArray)), cs = [.slice a len cap] ∧ ll.length = len ∧ len * 24 ≤ reachBytes ∧ (∀ i, i < len → (ll.getD i []).length * 16 ≤ reachBytes) ∧ (∀ i, i < len → ∀ s ∈ ll.getD i [], s.size ≤ maxLen) ∧ Row2 w (.slice a len cap) ll := by
  rcases open_slice1 ht ce h with ⟨rfl, rfl⟩ | ⟨a, len, cap, m, n, V, D, Pl, rfl, hb, hl, hm, hmm, rfl, hx⟩
  · exact ⟨none, 0, 0, [], rfl, rfl, by omega, fun i hi => by omega, fun i hi => by omega, none, 0, rfl, fun h => by simp at h⟩
  simp only [if_true] at hmm
  subst hmm
  have hwe : ((List.range len).map D).length + ((List.range (m - len)).map fun j => D (len + j)).length = m := by simp; omega
  have h24 : m * 24 ≤ reachBytes := by
    have := hw (m * 24) (by simp only [DataW.weights, ht, be]; rw [hwe]; simp)
    exact this
  have each : ∀ r, r < len → ∃ y : List ByteArray, Row1 w (V r) y ∧ y.length * 16 ≤ reachBytes ∧ ∀ s ∈ y, s.size ≤ maxLen := by
    intro r hr
    obtain ⟨ss, h1, h2, h3⟩ := open_row1 he hq cq (hx r (by omega)).2
    refine ⟨ss, h1, ?_, h2⟩
    rcases h3 with rfl | ⟨sp, hD⟩
    · simp
    · have hmem : (ss.length + sp.length) * 16 ∈ (D r).weights P e := by
        have hD' : D r = .slice (strs ss) sp := hD
        rw [hD']; simp only [DataW.weights, he, bq]
        simp [strs]
      have hin : (ss.length + sp.length) * 16 ∈ (DataW.slice ((List.range len).map D) ((List.range (m - len)).map fun j => D (len + j))).weights P t := by
        simp only [DataW.weights, ht]
        refine List.mem_cons_of_mem _ (List.mem_append.2 (.inl (weightsAll_mem (i := r) ?_ _ hmem)))
        simp [hr]
      have := hw _ hin
      omega
  obtain ⟨y, hy⟩ := choose_lt each
  refine ⟨some a, len, m, (List.range len).map y, rfl, by simp, by omega, fun i hi => ?_, fun i hi => ?_, some a, m, by simp, fun h0 => ?_⟩
  · simp [List.getD_eq_getElem?_getD, hi]; exact (hy i hi).2.1
  · simp [List.getD_eq_getElem?_getD, hi]; exact (hy i hi).2.2
  · simp at h0
    have hc0 := (hx 0 (by omega)).1
    obtain ⟨b, off, spot⟩ := a
    have : spot = none := by simpa [Addr.add] using World.cell?_spot hc0
    subst this
    refine ⟨b, off, rfl, fun i hi => ?_⟩
    simp at hi
    have hc := (hx i (by omega)).1
    have hadd : (⟨b, off, none⟩ : Addr).add i = ⟨b, off + i, none⟩ := by unfold Addr.add; split <;> simp_all
    rw [hadd] at hc
    refine ⟨V i, hc, ?_⟩
    simp [List.getD_eq_getElem?_getD, hi]; exact (hy i hi).1
end
end Go.Proofs.YthhjnjghlmaicaaDoor.jr
