/- The law's library variables, out of the row's list and the world's shape. -/
import Derived.Test.YthmbhkgllfngmaaGreatDoorKsK
import Derived.Test.YthmbhkgllfngmaaGreatDoorRows
import Derived.Lib.LaidU8
import Derived.ProofKit
import Derived.HandedShaped
import Derived.Shelf.Vars
/- The law's library variables, out of the row's list and the world's shape. -/
namespace Go.Proofs.YthmbhkgllfngmaaGreatDoor.ks
open Go.ChangeShapes Go.WideShapes Go.ChangeAt Go.RowKit Go.Lib
set_option linter.unusedVariables false
theorem reads_open {P : Program} {w : World} {n : String} {d : DataW Unit} (h : VarReads P w n d) {g t : Nat} (hg : P.globalNamed n = some g) (ht : (P.globals[g]?).map (·.type) = some t) :
    ∃ cs fuel p, w.var? P n = some cs ∧ DataW.trod (fun _ => ()) P w 0 (fun _ => true) false fuel t cs.toList = some (d, p) := by
  obtain ⟨g', t', cs, fuel, p, hg', ht', hv, hd⟩ := h
  obtain rfl := Option.some.inj (hg.symm.trans hg')
  obtain rfl := Option.some.inj (ht.symm.trans ht')
  exact ⟨cs, fuel, p, hv, hd⟩
theorem err_of {W : World} {nm n : String} {g : Nat} {x : DataW Unit} (hg : Tryz.prog.globalNamed n = some g) (ht : (Tryz.prog.globals[g]?).map (·.type) = some 72) (h : VarReads Tryz.prog W n (.iface nm x)) : ∃ tp p, W.var? Tryz.prog n = some #[.iface tp p] := by
  obtain ⟨cs, fuel, p, hv, hd⟩ := reads_open h (g := g) (t := 72) hg ht
  have key : ∃ u v, cs.toList = [.iface u v] := by
    cases fuel with
    | zero => simp [DataW.trod] at hd
    | succ n =>
      unfold DataW.trod at hd
      rw [Tryz.underlying72] at hd
      split at hd <;> simp_all
  obtain ⟨u, v, hk⟩ := key
  exact ⟨u, v, by rw [hv]; congr 1; cases cs; simp_all⟩
theorem u64_of {W : World} (h : VarReads Tryz.prog W "internal/strconv.uint64pow10" Rows.laid_internal_strconv_uint64pow10) : Lib.TabIs Tryz.prog W "internal/strconv.uint64pow10" .u64 Lib.pow10Tab := by
  obtain ⟨cs, fuel, p, hv, hd⟩ := reads_open h (g := 2) (t := 219) (by kernel_rfl) (by kernel_rfl)
  have hdd : (Rows.laid_internal_strconv_uint64pow10 : DataW Unit) = Lib.tabData .u64 Lib.pow10Tab := by rfl
  rw [hdd] at hd
  have := Lib.cells_of_tab Tryz.underlying219 Tryz.underlying45 (by kernel_rfl) (by kernel_rfl) hd
  unfold Lib.TabIs
  rw [hv, ← this]
theorem env_of {W : World} {l : List (String × DataW Unit)} (hsh : W.ShapedOpen Tryz.prog) (h : laidMet Tryz.prog l W)
    (h5 : ("strconv.ErrRange", Rows.laid_strconv_ErrRange) ∈ l) (h4 : ("strconv.ErrSyntax", Rows.laid_strconv_ErrSyntax) ∈ l) (h6 : ("internal/strconv.uint64pow10", Rows.laid_internal_strconv_uint64pow10) ∈ l) : Env W :=
  ⟨cell_of_shapedOpen_int (g := 4) (t := 3) (zero := #[.int .i64 0]) hsh (of_decide_eq_true (by kernel_rfl)) (by kernel_rfl) rfl (by kernel_rfl) (by kernel_rfl) Tryz.underlying3, u64_of (Lib.laidMet.reads h h6),
    err_of (g := 0) (by kernel_rfl) (by kernel_rfl) (Lib.laidMet.reads h h4), err_of (g := 1) (by kernel_rfl) (by kernel_rfl) (Lib.laidMet.reads h h5)⟩
/-- The twenty package variables lie in the heap. -/
theorem size_of {W : World} (hsh : W.ShapedOpen Tryz.prog) {x : Array Value × TypeId} (h0 : ((begin Tryz.prog (fun _ _ => 0) default).world.heap[19]?).bind Obj.row? = some x) (hg : 19 < Tryz.prog.globals.size) : 20 ≤ W.heap.size := by
  obtain ⟨cs, hh, _⟩ := hsh.1 19 x.1 x.2 hg h0
  exact hlt hh
end Go.Proofs.YthmbhkgllfngmaaGreatDoor.ks
