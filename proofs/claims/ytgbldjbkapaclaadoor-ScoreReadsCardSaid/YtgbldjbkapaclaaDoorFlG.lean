/- From what the rows list of the library's tables to what the walks ask of memory. -/
import Derived.Test.YtgbldjbkapaclaaDoorFlF
import Derived.Test.YtgbldjbkapaclaaDoorFlE
import Derived.Deep.RegionWith
import Derived.Test.YtgbldjbkapaclaaDoorRows
import Derived.Lib.LaidU8
import Derived.ProofKit
/- The walk of score's laid. -/
namespace Go.Proofs.YtgbldjbkapaclaaDoor.fl
open Go.ChangeShapes Go.WideShapes Go.ChangeAt Go.RowKit
set_option linter.unusedVariables false
set_option linter.unusedSimpArgs false
end Go.Proofs.YtgbldjbkapaclaaDoor.fl
/- The walk of the reference's Shortest. -/
namespace Go.Proofs.YtgbldjbkapaclaaDoor.fl
open Go.ChangeShapes Go.WideShapes Go.ChangeAt Go.RowKit
set_option linter.unusedVariables false
end Go.Proofs.YtgbldjbkapaclaaDoor.fl
/- The walk of score's Print. -/
namespace Go.Proofs.YtgbldjbkapaclaaDoor.fl
open Go.ChangeShapes Go.WideShapes Go.ChangeAt Go.RowKit
set_option linter.unusedVariables false
set_option linter.unusedSimpArgs false
theorem sgw_mod (s : Bool) (u : Nat) (h : u < 9223372036854775808) : (sgw s + u) % 9223372036854775808 = u := by cases s <;> simp [sgw] <;> omega
end Go.Proofs.YtgbldjbkapaclaaDoor.fl
/- The walks of the reference's text and Print. -/
namespace Go.Proofs.YtgbldjbkapaclaaDoor.fl
open Go.ChangeShapes Go.WideShapes Go.ChangeAt Go.RowKit
set_option linter.unusedVariables false
set_option linter.unusedSimpArgs false
end Go.Proofs.YtgbldjbkapaclaaDoor.fl
/- The walk of the reference's Print. Printed by mkN36.py. -/
namespace Go.Proofs.YtgbldjbkapaclaaDoor.fl
open Go.ChangeShapes Go.WideShapes Go.ChangeAt Go.RowKit
set_option linter.unusedVariables false
set_option linter.unusedSimpArgs false
end Go.Proofs.YtgbldjbkapaclaaDoor.fl
/- The walk of the law ScoreTells. -/
namespace Go.Proofs.YtgbldjbkapaclaaDoor.fl
open Go.ChangeShapes Go.WideShapes Go.ChangeAt Go.RowKit
set_option linter.unusedVariables false
end Go.Proofs.YtgbldjbkapaclaaDoor.fl
/- From what the rows list of the library's tables to what the walks ask of memory. -/
namespace Go.Proofs.YtgbldjbkapaclaaDoor.fl
open Go.ChangeShapes Go.WideShapes Go.ChangeAt Go.RowKit Go.Lib
set_option linter.unusedVariables false
set_option linter.unusedSimpArgs false
theorem reads_open {P : Program} {w : World} {n : String} {d : DataW Unit} (h : VarReads P w n d) {g t : Nat} (hg : P.globalNamed n = some g) (ht : (P.globals[g]?).map (·.type) = some t) :
    ∃ cs fuel p, w.var? P n = some cs ∧ DataW.trod (fun _ => ()) P w 0 (fun _ => true) false fuel t cs.toList = some (d, p) := by
  obtain ⟨g', t', cs, fuel, p, hg', ht', hv, hd⟩ := h
  obtain rfl := Option.some.inj (hg.symm.trans hg')
  obtain rfl := Option.some.inj (ht.symm.trans ht')
  exact ⟨cs, fuel, p, hv, hd⟩
section
variable {P : Program} {w : World} {sp : Nat → Bool} {held : Bool}
theorem trod_fl {fuel : Nat} {t : TypeId} {cs : List Value} {x : DataW Unit × List MemPlace} {k : FloatKind} (ht : P.underlying t = some (.float k)) (h : DataW.trod (fun _ => ()) P w 0 sp held fuel t cs = some x) :
    ∃ b, cs = [.float k b] ∧ x = (.lit (.float k b), []) := by
  cases fuel with
  | zero => simp [DataW.trod] at h
  | succ n =>
    unfold DataW.trod at h
    rw [ht] at h
    split at h <;> simp_all
/-- A field that is an integer. -/
theorem fld {fuel : Nat} {t : TypeId} {cs : List Value} {ds : List (DataW Unit)} {p : List MemPlace} {fs : Array Field} (ht : P.underlying t = some (.struct fs)) (h : DataW.trod (fun _ => ()) P w 0 sp held fuel t cs = some (.agg ds, p))
    (i : Nat) (f : Field) (hf : fs[i]? = some f) {k : IntKind} (hk : P.underlying f.type = some (.int k)) (hc : P.cellsOf f.type = 1) {z : Int} (hz : ds[i]? = some (.lit (.int k z))) : cs[f.offset]? = some (.int k z) := by
  obtain ⟨xs, n, rfl, hx, hl, hxl, hfs⟩ := DataW.trod_struct ht h
  have h0 := hfs i f hf
  have e := congrArg Prod.fst hx
  simp only [DataW.agg.injEq] at e
  subst e
  rw [List.getElem?_map] at hz
  cases hb : xs[i]? with
  | none => rw [hb] at hz; cases hz
  | some b =>
    rw [hb] at hz h0
    simp only [Option.map_some, Option.some.injEq] at hz
    obtain ⟨m, hm, rfl, _⟩ := DataW.trod_int hk h0
    simp only [DataW.lit.injEq, Lit.int.injEq, true_and] at hz
    subst hz
    rw [hc] at hm
    have := congrArg (·[0]?) hm
    simpa [List.getElem?_take, List.getElem?_drop] using this
end
theorem info_of {W : World} (h : VarReads Tryd.prog W "internal/strconv.float64info" Rows.laid_internal_strconv_float64info) : W.cell? ⟨10, 0, none⟩ = some (.int .u64 52) := by
  obtain ⟨cs, fuel, p, hv, hd⟩ := reads_open h (g := 10) (t := 108) (by kernel_rfl) (by kernel_rfl)
  have h1 := fld Tryd.underlying108 hd 0 _ rfl (k := .u64) (by kernel_rfl) (by kernel_rfl) (z := 52) rfl
  rw [World.var?_cell (by kernel_rfl) hv 0, ← Array.getElem?_toList]
  exact h1
theorem opt_of {W : World} (h : VarReads Tryd.prog W "internal/strconv.optimize" Rows.laid_internal_strconv_optimize) : W.cell? ⟨9, 0, none⟩ = some (.bool true) := by
  obtain ⟨cs, fuel, p, hv, hd⟩ := reads_open h (g := 9) (t := 4) (by kernel_rfl) (by kernel_rfl)
  obtain ⟨b, hb, hx⟩ := DataW.trod_bool Tryd.underlying4 hd
  have e := congrArg Prod.fst hx
  have e2 : true = b := by
    have : (DataW.lit (.bool true) : DataW Unit) = .lit (.bool b) := e
    simpa using this
  rw [World.var?_cell (by kernel_rfl) hv 0, ← Array.getElem?_toList, hb, ← e2]
  rfl
theorem tab_of {W : World} (h : VarReads Tryd.prog W "internal/strconv.pow10Tab" Rows.laid_internal_strconv_pow10Tab) : P10 W := by
  obtain ⟨cs, fuel, p, hv, hd⟩ := reads_open h (g := 14) (t := 151) (by kernel_rfl) (by kernel_rfl)
  obtain ⟨xs, m, rfl, hx, hl, hxl, hel⟩ := DataW.trod_array Tryd.underlying151 hd
  have e : Go.Pinned.pow10Rows.map (fun x => (DataW.agg [.lit (.int .u64 x.1), .lit (.int .u64 x.2)] : DataW Unit)) = xs.map (·.1) := by
    have := congrArg Prod.fst hx
    have h2 : (DataW.agg (Go.Pinned.pow10Rows.map (fun x => (DataW.agg [.lit (.int .u64 x.1), .lit (.int .u64 x.2)] : DataW Unit))) : DataW Unit) = .agg (xs.map (·.1)) := this
    simpa only [DataW.agg.injEq] using h2
  have hc2 : Tryd.prog.cellsOf 150 = 2 := by kernel_rfl
  intro i hi
  have h1 := hel i hi
  rw [hc2] at h1
  have hb : ∃ b, xs[i]? = some b := ⟨xs[i]'(by omega), List.getElem?_eq_getElem (by omega)⟩
  obtain ⟨⟨bd, bp⟩, hb⟩ := hb
  have hr : Go.Pinned.pow10Rows[i]? = some (tHi i, tLo i) := by
    unfold tHi tLo
    have : i < Go.Pinned.pow10Rows.length := by rw [rows_length]; exact hi
    rw [List.getD_eq_getElem?_getD, List.getElem?_eq_getElem this]
    rfl
  have e2 := congrArg (·[i]?) e
  simp only [List.getElem?_map, hr, hb, Option.map_some, Option.some.injEq] at e2
  rw [hb] at h1
  subst e2
  have f0 := fld Tryd.underlying150 h1 0 _ rfl (k := .u64) (by kernel_rfl) (by kernel_rfl) (z := (tHi i : Nat)) rfl
  have f1 := fld Tryd.underlying150 h1 1 _ rfl (k := .u64) (by kernel_rfl) (by kernel_rfl) (z := (tLo i : Nat)) rfl
  have c0 := World.var?_cell (w := W) (show Tryd.prog.globalNamed "internal/strconv.pow10Tab" = some 14 by kernel_rfl) hv (i * 2)
  have c1 := World.var?_cell (w := W) (show Tryd.prog.globalNamed "internal/strconv.pow10Tab" = some 14 by kernel_rfl) hv (i * 2 + 1)
  rw [← Array.getElem?_toList] at c0 c1
  refine ⟨c0.trans ?_, c1.trans ?_⟩
  · have : (List.take 2 (List.drop (i * 2) cs.toList))[0]? = some (.int .u64 (tHi i : Nat)) := f0
    simpa [List.getElem?_take, List.getElem?_drop] using this
  · have : (List.take 2 (List.drop (i * 2) cs.toList))[1]? = some (.int .u64 (tLo i : Nat)) := f1
    simpa [List.getElem?_take, List.getElem?_drop] using this
theorem p10_of {W : World} (h : VarReads Tryd.prog W "internal/strconv.float64pow10" Rows.laid_internal_strconv_float64pow10) :
    ∃ g o, W.cell? ⟨13, 0, none⟩ = some (.slice (some ⟨g, o, none⟩) 23 23) ∧ ∀ i, i ≤ 22 → W.cell? ⟨g, o + i, none⟩ = some (.float .f64 (p10bits.getD i 0)) := by
  obtain ⟨cs, fuel, p, hv, hd⟩ := reads_open h (g := 13) (t := 146) (by kernel_rfl) (by kernel_rfl)
  have hdd : (Rows.laid_internal_strconv_float64pow10 : DataW Unit) = .slice (p10bits.map fun b => .lit (.float .f64 b)) [] := by rfl
  rw [hdd] at hd
  have hc : Tryd.prog.cellsOf 22 = 1 := by kernel_rfl
  rcases DataW.trod_slice Tryd.underlying146 hd with ⟨_, hx⟩ | ⟨a, len, cap, el, rs, m, rfl, hcs, hx, _, hlc, _, hel, helem, hsp, _⟩
  · cases hx
  have e0 := congrArg Prod.fst hx
  simp only [DataW.slice.injEq] at e0
  obtain ⟨eE, eR⟩ := e0
  have hlen : len = 23 := by
    have := congrArg List.length eE
    simp only [List.length_map] at this
    rw [hel] at this
    exact this.symm
  have hrs : rs.length = 0 := by
    have := congrArg List.length eR
    simp only [List.length_map, List.length_nil] at this
    exact this.symm
  have hcap : cap = 23 := by
    have := (hsp rfl).1
    omega
  have hcell : ∀ i, i < 23 → W.cell? (a.add i) = some (.float .f64 (p10bits.getD i 0)) := by
    intro i hi
    have h1 := helem i (by omega)
    rw [hc] at h1
    obtain ⟨b, hb⟩ : ∃ b, el[i]? = some b := ⟨el[i]'(by omega), List.getElem?_eq_getElem (by omega)⟩
    rw [hb] at h1
    obtain ⟨ce, hce, hte⟩ := Option.bind_eq_some_iff.1 h1
    obtain ⟨z, hz, hbz⟩ := trod_fl Tryd.underlying22 hte
    have hb1 : b.1 = .lit (.float .f64 (p10bits.getD i 0)) := by
      have := congrArg (·[i]?) eE
      have hl2 : p10bits.length = 23 := rfl
      simp only [List.getElem?_map, hb, Option.map_some] at this
      rw [List.getElem?_eq_getElem (by omega)] at this
      simp only [Option.map_some, Option.some.injEq] at this
      rw [List.getD_eq_getElem?_getD, List.getElem?_eq_getElem (by omega)]
      exact this.symm
    rw [hbz] at hb1
    simp only [DataW.lit.injEq, Lit.float.injEq, true_and] at hb1
    obtain ⟨_, _, hcc⟩ := World.cells?_some hce
    have := hcc 0 (by omega)
    rw [hz] at this
    simp only [Nat.mul_one] at this
    have e1 : (a.add i).add 0 = a.add i := by simp [Addr.add]
    rw [e1] at this
    rw [this, ← hb1]
    rfl
  obtain ⟨R, o, sR⟩ := a
  obtain rfl : sR = none := by
    have h00 := hcell 0 (by decide)
    have : (Addr.add ⟨R, o, sR⟩ 0) = ⟨R, o, sR⟩ := by simp [Addr.add]
    rw [this] at h00
    exact Go.Proofs.cell_spot h00
  refine ⟨R, o, ?_, fun j hj => ?_⟩
  · rw [World.var?_cell (by kernel_rfl) hv 0, ← Array.getElem?_toList, hcs, hlen, hcap]
    rfl
  · have := hcell j (by omega)
    rwa [Addr.add_lit] at this
theorem er_of {W : World} {nm : String} {x : DataW Unit} (h : VarReads Tryd.prog W "strconv.ErrRange" (.iface nm x)) : ∃ ev, W.cell? ⟨7, 0, none⟩ = some ev ∧ (ev = .nilIface ∨ ∃ te pe, ev = .iface te pe) := by
  obtain ⟨cs, fuel, p, hv, hd⟩ := reads_open h (g := 7) (t := 41) (by kernel_rfl) (by kernel_rfl)
  have key : ∃ u v, cs.toList = [.iface u v] := by
    cases fuel with
    | zero => simp [DataW.trod] at hd
    | succ n =>
      unfold DataW.trod at hd
      rw [Tryd.underlying41] at hd
      split at hd <;> simp_all
  obtain ⟨u, v, hk⟩ := key
  refine ⟨.iface u v, ?_, .inr ⟨u, v, rfl⟩⟩
  rw [World.var?_cell (by kernel_rfl) hv 0, ← Array.getElem?_toList, hk]
  rfl
theorem u64_of {W : World} (h : VarReads Tryd.prog W "internal/strconv.uint64pow10" Rows.laid_internal_strconv_uint64pow10) : Lib.TabIs Tryd.prog W "internal/strconv.uint64pow10" .u64 Lib.pow10Tab := by
  obtain ⟨cs, fuel, p, hv, hd⟩ := reads_open h (g := 16) (t := 165) (by kernel_rfl) (by kernel_rfl)
  have hdd : (Rows.laid_internal_strconv_uint64pow10 : DataW Unit) = Lib.tabData .u64 Lib.pow10Tab := by rfl
  rw [hdd] at hd
  have := Lib.cells_of_tab Tryd.underlying165 Tryd.underlying32 (by kernel_rfl) (by kernel_rfl) hd
  unfold Lib.TabIs
  rw [hv, ← this]
theorem fs_of {W : World} {l : List (String × DataW Unit)} (h : laidMet Tryd.prog l W)
    (h1 : ("internal/strconv.float64info", Rows.laid_internal_strconv_float64info) ∈ l) (h2 : ("internal/strconv.optimize", Rows.laid_internal_strconv_optimize) ∈ l) (h3 : ("internal/strconv.pow10Tab", Rows.laid_internal_strconv_pow10Tab) ∈ l)
    (h4 : ("internal/strconv.float64pow10", Rows.laid_internal_strconv_float64pow10) ∈ l) (h5 : ("strconv.ErrRange", Rows.laid_strconv_ErrRange) ∈ l) (h6 : ("internal/strconv.uint64pow10", Rows.laid_internal_strconv_uint64pow10) ∈ l) : FS W :=
  ⟨⟨⟨info_of (Lib.laidMet.reads h h1), p10_of (Lib.laidMet.reads h h4)⟩, opt_of (Lib.laidMet.reads h h2), tab_of (Lib.laidMet.reads h h3), er_of (Lib.laidMet.reads h h5)⟩, u64_of (Lib.laidMet.reads h h6)⟩
end Go.Proofs.YtgbldjbkapaclaaDoor.fl
