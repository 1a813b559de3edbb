/- ScoreReads, the tied card: every word, as a score and as an end, says what the document's answer says. Condition: the listed tables of Go's library read as their initialisers lay them, which the card ties to the program's text. -/
import Derived.Test.YtgbldjbkapaclaaDoorFlV
import Derived.Test.YtgbldjbkapaclaaDoorFlG
import Derived.Test.YtgbldjbkapaclaaDoorFlT
import Derived.Test.YtgbldjbkapaclaaDoorTie
import Derived.Test.YtgbldjbkapaclaaDoorCards
import Derived.ChangeMaps5
import Derived.ProofKit
import Derived.OpenShut
import Derived.Stop.LaidErr
import Derived.SevenTiedAt
import Derived.Lay
/- ScoreReads, the tied card: every word, as a score and as an end, says what the document's answer says. Condition: the listed tables of Go's library read as their initialisers lay them, which the card ties to the program's text. -/
namespace Go.Proofs.YtgbldjbkapaclaaDoor.fl
open Go.ChangeShapes Go.WideShapes Go.ChangeAt Go.RowKit
set_option linter.unusedVariables false

def afT : List Int := [0, 1, 2, 3, 4, 5, 6, 7, 8, 9, 10, 11, 12, 13, 14, 15, 16, 17, 18, 19, 20, 21, 22, 23, 24, 25, 26, 27, 28, 29, 30, 31, 32, 33, 34, 35, 36, 37, 38, 39, 40, 41, 42, 43, 44, 45, 46, 47, 48, 49, 50, 51, 52, 53, 54, 55, 56, 57, 58, 59, 60, 61, 62, 63, 64, 97, 98, 99, 100, 101, 102, 103, 104, 105, 106, 107, 108, 109, 110, 111, 112, 113, 114, 115, 116, 117, 118, 119, 120, 121, 122, 91, 92, 93, 94, 95, 96, 65, 66, 67, 68, 69, 70, 71, 72, 73, 74, 8490, 76, 77, 78, 79, 80, 81, 82, 383, 84, 85, 86, 87, 88, 89, 90, 123, 124, 125, 126, 127]
theorem af_of {W : World} (h : Go.Lib.VarReads Tryd.prog W "unicode.asciiFold" Rows.laid_unicode_asciiFold) : AF W := by
  obtain ⟨cs, fuel, p, hv, hd⟩ := reads_open h (g := 1) (t := 66) (by kernel_rfl) (by kernel_rfl)
  have hdd : (Rows.laid_unicode_asciiFold : DataW Unit) = Lib.tabData .u16 afT := by rfl
  rw [hdd] at hd
  have hk := Lib.cells_of_tab Tryd.underlying66 Tryd.underlying65 (by kernel_rfl) (by kernel_rfl) hd
  have key : ∀ c : Nat, W.cell? ⟨1, c, none⟩ = (afT.map fun z => Value.int .u16 z)[c]? := by
    intro c
    rw [World.var?_cell (by kernel_rfl) hv c, ← Array.getElem?_toList, hk]
  refine ⟨fun c hc => ?_, fun c hc => ?_⟩
  · rw [key]
    rcases hc with rfl | rfl | rfl | rfl | rfl <;> rfl
  · rw [key]
    rcases hc with rfl | rfl | rfl | rfl | rfl <;> rfl
theorem reads_ownK : ownKnob Tryd.prog.godebug = none := by kernel_rfl
theorem reads_fs {W : World} (h : laidMetH Tryd.prog Rows.scoreReadsRow.laid W) : FS W ∧ FX W ∧ AF W := by
  rw [MakeChecks.laidMetH_plain _ _ _ (by kernel_rfl)] at h
  exact ⟨fs_of h (by simp [Rows.scoreReadsRow]) (by simp [Rows.scoreReadsRow]) (by simp [Rows.scoreReadsRow]) (by simp [Rows.scoreReadsRow]) (by simp [Rows.scoreReadsRow]) (by simp [Rows.scoreReadsRow]), fx_of h (by simp [Rows.scoreReadsRow]) (by simp [Rows.scoreReadsRow]) (by simp [Rows.scoreReadsRow]), af_of (Lib.laidMet.reads h (by simp [Rows.scoreReadsRow]))⟩
/-- A heap that meets the condition. -/
theorem reads_door (os : Os) (args : Array Value) : laidMetH Tryd.prog Rows.scoreReadsRow.laid ((World.laidAll Tryd.prog os Rows.scoreReadsRow.laid).forCall (fun _ _ => 0) ⟨#[], args, []⟩).memory := by
  rw [MakeChecks.laidMetH_plain _ _ _ (by kernel_rfl)]
  exact laidMet_laidAll _ (by kernel_rfl) (by kernel_rfl)
set_option maxRecDepth 100000 in
theorem reads_lifted (os : Os) (started : os.Started) (H : Type) (enc : TypeId × Value → H) :
    ReturnsInHanded {} Tryd.checked os 3 .any (fun w args => (Rows.scoreReadsSpec.pre enc Tryd.prog Tryd.f3 [] false w args ∧ laidMetH Tryd.prog Rows.scoreReadsRow.laid w) ∧ sizedMet enc Tryd.prog Tryd.f3 (OpenSpec.ofChange Rows.scoreReadsSpec) false w args)
      (Rows.scoreReadsSpec.post enc Tryd.prog Tryd.f3 false true false false) := by
  refine returnsInHanded_of_change_and (C := Tryd.checked) (X := fun w _ => laidMetH Tryd.prog Rows.scoreReadsRow.laid w) (fun _ _ _ hh h => h.of_heap hh) reads_ownK started (by kernel_rfl) Tryd.func3
    (ChangeSpec.witness_shaped (enc := enc) (C := Tryd.checked) (os := os) (X := fun w _ => laidMetH Tryd.prog Rows.scoreReadsRow.laid w) false (World.laidAll Tryd.prog os Rows.scoreReadsRow.laid) #[.string ⟨#[]⟩] 8 (World.laidAll_os _ _ _) (World.shaped_of_ZipB (by kernel_rfl) (by kernel_rfl)) (by kernel_rfl) (by kernel_rfl) (by kernel_rfl) (reads_door os _)) ?_
  intro W base args ds gs before hval0 hW hcnd hsz hL _
  have hval : ∀ (j : Nat) t v, Tryd.f3.params[j]? = some t → args[j]? = some v → Value.okWide Tryd.prog W .any base t v := hval0
  have hW' := hW
  obtain ⟨p, q, hA0, hV, rfl, hfz, hnd⟩ := hW
  have hA : DataW.TrodAll enc Tryd.prog W 0 (fun _ => true) true Tryd.f3.params.toList args.toList ds p := hA0
  rw [Tryd.params3] at hA hval hsz
  obtain ⟨v0, vs0, d0, ds0, p0, q0, hargs, rfl, rfl, h0, r0⟩ := trodAll_cons hA
  obtain ⟨rfl, rfl, rfl⟩ := trodAll_nil r0
  obtain rfl : args = #[v0] := by cases args; simp_all
  obtain ⟨rfl, rfl⟩ := trodVars_none hV
  obtain ⟨s, rfl, rfl, rfl, w0⟩ := Go.ChangeMaps.open_string Tryd.underlying9 (hval 0 9 v0 rfl rfl) h0
  clear hA0 hval0
  have hb0 : s.size < 9223372036854775808 := by
    unfold maxLen at w0
    omega
  refine (readsC s W (reads_fs hL).1 (reads_fs hL).2.1 (reads_fs hL).2.2 hb0).mono fun e W' ⟨he, bel⟩ => ?_
  subst he
  exact ⟨_, rfl, _, _, _, [], _, [], hW', trodAll_mk1 (shut_bool Tryd.underlying4 _), (trodAll_cons_mk (Go.ChangeMaps.shut_string Tryd.underlying9 w0) trodAll_mk0), rfl, bel.frame _, fun h => by cases h⟩
theorem reads_over : Rows.ScoreReadsSaid :=
  OpenClaim.holds_of_wide 3 Tryd.f3 rfl rfl rfl rfl rfl rfl rfl ⟨rfl, rfl, rfl, rfl, rfl⟩ rfl rfl rfl rfl rfl (by kernel_rfl) Tryd.func3 (by kernel_rfl)
    (of_decide_eq_true (by kernel_rfl)) (by unfold Func.isWrapper; first | (rw [if_pos (by decide +kernel)]; kernel_rfl) | (rw [if_neg (by decide +kernel)]; exact ⟨rfl, rfl⟩))
    (fun os started H enc _ => reads_lifted os started H enc)
theorem reads_card : Rows.ScoreReadsCardSaid :=
  Claim7.holds_tied_plain_at .later [] [.data, .data, .widerDeep, .widerDeep, .data, .data, .data, .data, .data, .data, .sentinel, .sentinel, .data, .data, .pinned, .pinned, .pinned, .pinned] true (true, "934014f86c512c2ded2b74bfdf2ce03f2614652f7a715490ed288b6075c4702d") true
    reads_over (fun _ h => by cases h) (by kernel_rfl) (fun _ h => by cases h) scoreReads_row_tie rfl ⟨rfl, rfl⟩ (by kernel_rfl) rfl
    (fun f fn hf hfn => by
      obtain rfl : f = 3 := Option.some.inj ((show Tryd.prog.funcNamed "pantry/pantrylaw02.ScoreReads" = some 3 by kernel_rfl).symm.trans hf) |>.symm
      obtain rfl : fn = Tryd.f3 := (Option.some.inj (Tryd.func3.symm.trans hfn)).symm
      exact ⟨by kernel_rfl, fun j t ht => by
        rw [Tryd.params3] at ht
        have h3 : t = 9 := by
          rcases j with _ | j
          · simpa using ht.symm
          · simp at ht
        subst h3
        exact (show Tryd.prog.wantsStandIn 9 = false by kernel_rfl)⟩)
    (by kernel_rfl)
#print axioms reads_card
end Go.Proofs.YtgbldjbkapaclaaDoor.fl
