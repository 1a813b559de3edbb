/- patch: SetBit. -/
import Derived.Test.YthmbhkgllfngmaaGreatDoorKsF
import Derived.Lib.AppendIntMem
import Derived.Lib.ItoaMem
import Derived.Lib.BufferWrite
import Derived.OwnWalk
import Derived.BigQuiet
import Derived.Deep.CutBlock
import Derived.Deep.DeepCutAuto
/- digit.Add: when 64 bits do not hold a sum. -/
namespace Go.Proofs.YthmbhkgllfngmaaGreatDoor.ks
open Go.ChangeShapes Go.WideShapes Go.RowKit
set_option linter.unusedVariables false
set_option linter.unusedSimpArgs false
theorem wrap_toInt (x : BitVec 64) : IntKind.i64.wrap (x.toNat : Int) = x.toInt := by
  rw [IntKind.wrap_i64, BitVec.toInt_eq_toNat_cond]
  have := x.isLt
  split <;> omega
theorem neg_msb (x : BitVec 64) : x.toInt < 0 ↔ x.msb = true := by rw [BitVec.msb_eq_toInt]; simp
theorem int_msb (a : Int) (h1 : -9223372036854775808 ≤ a) (h2 : a ≤ 9223372036854775807) : (BitVec.ofInt 64 a).msb = decide (a < 0) := by
  rw [BitVec.msb_eq_toInt, BitVec.toInt_ofInt, Int.bmod_def]
  congr 1
  have : ((2 ^ 64 : Nat) : Int) = 18446744073709551616 := by decide
  rw [this]
  split <;> simp <;> omega
theorem xor_msb (a b : Int) : (BitVec.ofInt 64 (bits .xor .i64 a b)).msb = ((BitVec.ofInt 64 a).msb ^^ (BitVec.ofInt 64 b).msb) := by
  have : bits .xor .i64 a b = (BitVec.ofInt 64 a ^^^ BitVec.ofInt 64 b).toInt := wrap_toInt _
  rw [this, BitVec.ofInt_toInt, BitVec.msb_xor]
theorem and_neg (a b : Int) : bits .and .i64 a b < 0 ↔ (BitVec.ofInt 64 a).msb = true ∧ (BitVec.ofInt 64 b).msb = true := by
  have : bits .and .i64 a b = (BitVec.ofInt 64 a &&& BitVec.ofInt 64 b).toInt := wrap_toInt _
  rw [this, neg_msb, BitVec.msb_and, Bool.and_eq_true]
/-- (a ^ sum) & (b ^ sum) < 0: a and b have one sign, the sum the other. -/
theorem over_iff (a b s : Int) (ha : -9223372036854775808 ≤ a ∧ a ≤ 9223372036854775807) (hb : -9223372036854775808 ≤ b ∧ b ≤ 9223372036854775807) (hs : -9223372036854775808 ≤ s ∧ s ≤ 9223372036854775807) :
    bits .and .i64 (bits .xor .i64 a s) (bits .xor .i64 b s) < 0 ↔ (a < 0 ∧ b < 0 ∧ 0 ≤ s) ∨ (0 ≤ a ∧ 0 ≤ b ∧ s < 0) := by
  rw [and_neg, xor_msb, xor_msb, int_msb a ha.1 ha.2, int_msb b hb.1 hb.2, int_msb s hs.1 hs.2]
  by_cases h1 : a < 0 <;> by_cases h2 : b < 0 <;> by_cases h3 : s < 0 <;> simp [h1, h2, h3] <;> omega
/-- What Add tells. -/
def addV (a b : Int) : Int × Int := if -9223372036854775808 ≤ a + b ∧ a + b ≤ 9223372036854775807 then (a + b, 0) else (0, 11)
set_option maxHeartbeats 400000 in
theorem addC (a b : Int) (w : World) (ha : -9223372036854775808 ≤ a ∧ a ≤ 9223372036854775807) (hb : -9223372036854775808 ≤ b ∧ b ≤ 9223372036854775807) :
    Calls Tryz.prog 12 #[.int .i64 a, .int .i64 b] w fun r w' => r = .returned (.tuple #[.int .i64 (addV a b).1, .int .i64 (addV a b).2]) ∧ w = w' := by
  obtain ⟨s, hs⟩ : ∃ s, s = wrap64 (a + b) := ⟨_, rfl⟩
  have hsb : -9223372036854775808 ≤ s ∧ s ≤ 9223372036854775807 := by rw [hs]; unfold wrap64; omega
  have ho := over_iff a b s ha hb hsb
  have hw : IntKind.i64.wrap (a + b) = s := by rw [hs, IntKind.wrap_i64]; unfold wrap64; rfl
  by_cases hin : -9223372036854775808 ≤ a + b ∧ a + b ≤ 9223372036854775807
  · have hse : s = a + b := by rw [hs]; unfold wrap64; omega
    have HV := khid (show addV a b = (s, 0) by unfold addV; rw [if_pos hin, hse])
    have hno : decide (bits .and .i64 (bits .xor .i64 a s) (bits .xor .i64 b s) < 0) = false := by
      rw [decide_eq_false_iff_not, ho]; omega
    clear ho hsb hin ha hb hse hs
    go_enter Tryz.func12, Tryz.ntmps12
    go_wp2_with fail
    go_ret2
    exact ⟨by rw [HV.out]; rfl, rfl⟩
  · have HV := khid (show addV a b = (0, 11) by unfold addV; rw [if_neg hin])
    have hno : decide (bits .and .i64 (bits .xor .i64 a s) (bits .xor .i64 b s) < 0) = true := by
      rw [decide_eq_true_eq, ho]
      have : s = wrap64 (a + b) := hs
      unfold wrap64 at this
      omega
    clear ho hsb hin ha hb hs
    go_enter Tryz.func12, Tryz.ntmps12
    go_wp2_with fail
    go_ret2
    exact ⟨by rw [HV.out]; rfl, rfl⟩
end Go.Proofs.YthmbhkgllfngmaaGreatDoor.ks
/- digit.Text; what is asked of the library's own variables. -/
namespace Go.Proofs.YthmbhkgllfngmaaGreatDoor.ks
open Go.ChangeShapes Go.WideShapes Go.RowKit
set_option linter.unusedVariables false
set_option linter.unusedSimpArgs false
/-- What the walks ask of the library's variables: a table, an integer, two sentinels. -/
structure Env (w : World) : Prop where
  m : ∃ m, w.cell? ⟨4, 0, none⟩ = some (.int .i64 m)
  t : Lib.TabIs Tryz.prog w "internal/strconv.uint64pow10" .u64 Lib.pow10Tab
  s : ∃ tp p, w.var? Tryz.prog "strconv.ErrSyntax" = some #[.iface tp p]
  r : ∃ tp p, w.var? Tryz.prog "strconv.ErrRange" = some #[.iface tp p]
theorem var_keep {w w' : World} {P : Program} {n : String} {g : Nat} (hg : P.globalNamed n = some g) (h : w'.heap[g]? = w.heap[g]?) : w'.var? P n = w.var? P n := by
  unfold World.var?
  rw [hg]
  rw [Option.bind_some, Option.bind_some, h]
theorem Env.keep {w w' : World} (h : Env w) (hk : ∀ b, b < 20 → w'.heap[b]? = w.heap[b]?) : Env w' := by
  obtain ⟨m, hm⟩ := h.m
  obtain ⟨tp, p, hs⟩ := h.s
  obtain ⟨tq, q, hr⟩ := h.r
  refine ⟨⟨m, ?_⟩, ?_, ⟨tp, p, ?_⟩, ⟨tq, q, ?_⟩⟩
  · unfold World.cell? at hm ⊢
    simp only [hk 4 (by decide)]
    exact hm
  · have := h.t
    unfold Lib.TabIs at this ⊢
    rw [var_keep (g := 2) (by kernel_rfl) (hk _ (by decide))]
    exact this
  · rw [var_keep (g := 0) (by kernel_rfl) (hk _ (by decide))]; exact hs
  · rw [var_keep (g := 1) (by kernel_rfl) (hk _ (by decide))]; exact hr
theorem Env.keeps {w w' : World} {bs : List Nat} (h : Env w) (hk : Keeps bs w w') (hb : ∀ b ∈ bs, 20 ≤ b) (hn : 20 ≤ w.heap.size) : Env w' :=
  h.keep (fun b hlt => hk.block b (by omega) (fun hm => by have := hb b hm; omega))
/-- A whole number as a word. -/
def itoaS (n : Int) : ByteArray := ⟨(Lib.itoa n).toArray⟩
set_option maxHeartbeats 400000 in
theorem textNC (n : Int) (w : World) (hn : -9223372036854775808 ≤ n ∧ n ≤ 9223372036854775807) (h : Env w) :
    Calls Tryz.prog 10 #[.int .i64 n] w fun r w' => r = .returned (.string (itoaS n)) ∧ Keeps [] w w' := by
  have HT := khid h.t
  obtain ⟨h1, h2⟩ := hn
  have HF := khid (Tryz.strconv_FormatInt_10 n h1 h2 w h.t)
  clear h h1 h2
  go_enter Tryz.func10, Tryz.ntmps10
  go_wp2_with fail
  refine HF.out.mono ?_
  rintro r w1 ⟨rfl, k, os, hw1⟩
  have hk : Keeps [] w w1 := by rw [hw1]; exact Keeps.ofBelow (Lib.below_grow _ _ (Nat.le_refl _) _ _)
  have HK := khid hk
  clear hw1 hk
  go_wp2_with fail
  go_ret
  exact ⟨rfl, HK.out⟩
end Go.Proofs.YthmbhkgllfngmaaGreatDoor.ks
/- digit.plain: digits in their one form. -/
namespace Go.Proofs.YthmbhkgllfngmaaGreatDoor.ks
open Go.ChangeShapes Go.WideShapes Go.RowKit
set_option linter.unusedVariables false
set_option linter.unusedSimpArgs false
/-- A byte that is a digit. -/
def digB (c : UInt8) : Bool := decide (48 ≤ c.toNat ∧ c.toNat ≤ 57)
/-- digits in their one form -/
def plainB (l : List UInt8) : Bool := l == [48] || (l != [] && l.head? != some 48 && l.all digB)
theorem str_ne {s : ByteArray} {l : List UInt8} (h : s.data.toList ≠ l) : s ≠ ⟨l.toArray⟩ := by
  rintro rfl
  exact h (by simp)
theorem head_at (s : ByteArray) (h : 0 < s.size) : s.data.toList.head? = some s[0] := by
  rw [List.head?_eq_getElem?, List.getElem?_eq_getElem (by simpa using h)]
  simp [ByteArray.getElem_eq_getElem_data]
theorem all_take_step (s : ByteArray) (k : Nat) (h : k < s.size) (h1 : (s.data.toList.take k).all digB = true) (h2 : digB s[k] = true) : (s.data.toList.take (k + 1)).all digB = true := by
  rw [take_next s k h, List.all_append, h1]
  simp [h2]
theorem all_at (s : ByteArray) (k : Nat) (h : k < s.size) (h2 : digB s[k] = false) : s.data.toList.all digB = false := by
  rw [List.all_eq_false]
  refine ⟨s[k], ?_, by simp [h2]⟩
  have : s.data.toList[k]? = some s[k] := by rw [List.getElem?_eq_getElem (by simpa using h)]; simp [ByteArray.getElem_eq_getElem_data]
  exact List.mem_of_getElem? this
set_option maxHeartbeats 400000 in
theorem plainC (s : ByteArray) (w : World) (hs : s.size ≤ maxLen) :
    Calls Tryz.prog 25 #[.string s] w fun r w' => r = .returned (.bool (plainB s.data.toList)) ∧ w = w' := by
  unfold maxLen at hs
  by_cases hz : s = ⟨#[48]⟩
  · subst hz
    go_enter Tryz.func25, Tryz.ntmps25
    go_wp2_with fail
    go_ret
    exact ⟨rfl, rfl⟩
  · by_cases he : s = ⟨#[]⟩
    · subst he
      go_enter Tryz.func25, Tryz.ntmps25
      go_wp2_with fail
      go_ret
      exact ⟨rfl, rfl⟩
    · have hpos : 0 < s.size := by
        rcases Nat.eq_zero_or_pos s.size with h | h
        · exact absurd (by cases s with | mk d => simp [ByteArray.size] at h; simp [h]) he
        · exact h
      have hl : s.data.toList ≠ [48] := fun h => hz (by cases s with | mk d => simp at h ⊢; exact Array.toList_inj.1 (by simpa using h))
      have hl2 : s.data.toList ≠ [] := fun h => he (by cases s with | mk d => simp at h ⊢; exact h)
      have hP : plainB s.data.toList = (s[0] != 48 && s.data.toList.all digB) := by
        unfold plainB
        rw [head_at s hpos, beq_eq_false_iff_ne.2 hl, bne_iff_ne.2 hl2]
        simp
        rfl
      have HP := khid hP
      have z1 : (s.toList == [48]) = false := by
        rw [beq_eq_false_iff_ne, ByteArray.toList_eq]; exact hl
      have z2 : s.toList.isEmpty = false := by rw [ByteArray.toList_eq, List.isEmpty_eq_false_iff]; exact hl2
      clear hP hl hl2
      by_cases h0 : s[0] = 48
      · have h0n : (s[0].toNat : Int) = 48 := by rw [h0]; rfl
        have hPf := khid (show plainB s.data.toList = false by rw [HP.out, h0]; rfl)
        clear h0
        go_enter Tryz.func25, Tryz.ntmps25
        go_wp2_with fail
        go_ret
        exact ⟨by rw [hPf.out]; rfl, rfl⟩
      · have h0n : ¬ (s[0].toNat : Int) = 48 := by
          intro h
          refine h0 (UInt8.toNat.inj ?_)
          show s[0].toNat = 48
          omega
        have h0b : ((s[0].toNat : Int) == 48) = false := beq_eq_false_iff_ne.2 h0n
        have HP2 := khid (show plainB s.data.toList = s.data.toList.all digB by rw [HP.out, bne_iff_ne.2 h0]; rfl)
        clear h0
        go_enter Tryz.func25, Tryz.ntmps25
        go_wp2_with fail
        go_loop [15] (fun i => ∃ k : Nat, k ≤ s.size ∧ i = .int .i64 k ∧ Hid ((s.data.toList.take k).all digB = true)) (fun i => s.size - (intOf i).toNat)
        case atStart => exact ⟨0, Nat.zero_le _, rfl, khid rfl⟩
        case round =>
          obtain ⟨k, hk, rfl, HA⟩ := hrel
          by_cases hlt2 : k < s.size
          · by_cases hd : digB s[k] = true
            · have hd2 : 48 ≤ s[k].toNat ∧ s[k].toNat ≤ 57 := by simpa [digB] using hd
              have HD := khid hd
              clear hd
              go_wp2_with fail
              refine ⟨⟨k + 1, by omega, by go_num, khid (all_take_step s k hlt2 HA.out HD.out)⟩, by simp [intOf]; omega⟩
            · have hd2 : ¬ (48 ≤ s[k].toNat ∧ s[k].toNat ≤ 57) := by simpa [digB] using hd
              have HD := khid (all_at s k hlt2 (by simpa using hd))
              clear hd
              by_cases hb : s[k].toNat < 48
              · clear hd2
                go_wp2_with fail
                go_ret
                exact ⟨by rw [HP2.out, HD.out]; rfl, rfl⟩
              · have hb2 : 57 < s[k].toNat := by omega
                clear hd2
                go_wp2_with fail
                go_ret
                exact ⟨by rw [HP2.out, HD.out]; rfl, rfl⟩
          · obtain rfl : k = s.size := by omega
            go_wp2_with fail
            go_ret
            have := HA.out
            rw [List.take_of_length_le (by simp)] at this
            exact ⟨by rw [HP2.out, this]; rfl, rfl⟩
end Go.Proofs.YthmbhkgllfngmaaGreatDoor.ks
/- digit.Int: a word as a whole number. -/
namespace Go.Proofs.YthmbhkgllfngmaaGreatDoor.ks
open Go.ChangeShapes Go.WideShapes Go.RowKit
set_option linter.unusedVariables false
set_option linter.unusedSimpArgs false
/-- What strconv.ParseInt tells: a number and nil, or an error. -/
def PI (s : ByteArray) (v : Int) (e : Value) : Prop :=
  (Lib.parseIntB 64 s.data.toList = .ok v ∧ e = .nilIface) ∨ ((∀ n, Lib.parseIntB 64 s.data.toList ≠ .ok n) ∧ ∃ tp p, e = .iface tp p)
theorem parseC (s : ByteArray) (w : World) (h : Env w) (hs : s.size ≤ 281474976710656) :
    Calls Tryz.prog 24 #[.string s, .int .i64 10, .int .i64 64] w fun r w' => ∃ v e, r = .returned (.tuple #[.int .i64 v, e]) ∧ Keeps [] w w' ∧ PI s v e := by
  cases hp : Lib.parseIntB 64 s.data.toList with
  | ok v =>
    refine (Tryz.strconv_ParseInt_10_at64_ok s (by omega) v hp w).mono ?_
    rintro r w' ⟨rfl, hw⟩
    refine ⟨v, .nilIface, rfl, ?_, .inl ⟨hp, rfl⟩⟩
    rcases hw with rfl | ⟨t, rfl⟩
    · exact Keeps.refl _ _
    · exact Keeps.ofBelow (Lib.bytesWorld_below _ _ _)
  | range =>
    obtain ⟨tp, p, hv⟩ := h.r
    refine (Tryz.strconv_ParseInt_10_at64_range_var s hs hp tp p w hv).mono ?_
    rintro r w' ⟨N, rfl, _, _, hb⟩
    exact ⟨_, _, rfl, Keeps.ofBelow hb, .inr ⟨fun n hn => (by rw [hp] at hn; injection hn), _, _, rfl⟩⟩
  | _ =>
    obtain ⟨tp, p, hv⟩ := h.s
    refine (Tryz.strconv_ParseInt_10_at64_syntax_var s hs ⟨fun v hv => by rw [hp] at hv; injection hv, fun hv => by rw [hp] at hv; injection hv⟩ tp p w hv).mono ?_
    rintro r w' ⟨N, rfl, _, _, hb⟩
    exact ⟨0, _, rfl, Keeps.ofBelow hb, .inr ⟨fun n hn => (by rw [hp] at hn; injection hn), _, _, rfl⟩⟩
/-- The word whose digits are looked at. -/
def wordI (s : ByteArray) : ByteArray := if 1 < s.size ∧ s.data.toList.head? = some 45 ∧ s ≠ ⟨#[45, 48]⟩ then s.extract 1 s.size else s
/-- What Int tells of a word. -/
def intV (s : ByteArray) : Int × Int := match Lib.parseIntB 64 s.data.toList with
  | .ok v => if plainB (wordI s).data.toList then (v, 0) else (0, 10)
  | _ => (0, 10)
theorem intV_no {s : ByteArray} (h : ∀ n, Lib.parseIntB 64 s.data.toList ≠ .ok n) : intV s = (0, 10) := by
  unfold intV
  split
  · rename_i v hv; exact absurd hv (h v)
  · rfl
theorem intV_odd {s : ByteArray} (h : plainB (wordI s).data.toList = false) : intV s = (0, 10) := by
  unfold intV
  split
  · rw [h]; rfl
  · rfl
theorem intV_yes {s : ByteArray} {v : Int} (h : plainB (wordI s).data.toList = true) (hp : Lib.parseIntB 64 s.data.toList = .ok v) : intV s = (v, 0) := by
  unfold intV
  rw [hp]
  simp only [h, if_true]
set_option maxHeartbeats 800000 in
theorem intC (s : ByteArray) (w : World) (h : Env w) (hs : s.size ≤ 281474976710656) :
    Calls Tryz.prog 9 #[.string s] w fun r w' => r = .returned (.tuple #[.int .i64 (intV s).1, .int .i64 (intV s).2]) ∧ Keeps [] w w' := by
  have HP := khid (parseC s w h hs)
  have hx : (s.extract 1 s.size).size ≤ maxLen := by simp [maxLen]; omega
  have hy : s.size ≤ maxLen := by unfold maxLen; omega
  clear h
  by_cases h1 : 1 < s.size
  · by_cases h2 : s[0] = 45
    · by_cases h3 : s = ⟨#[45, 48]⟩
      · have HW := khid (show wordI s = s by unfold wordI; rw [if_neg]; rintro ⟨_, _, hn⟩; exact hn h3)
        have h2b : ((s[0].toNat : Int) == 45) = true := by rw [h2]; rfl
        have h3b : (s.toList == [45, 48]) = true := by rw [h3, ByteArray.toList_eq]; rfl
        have HX := khid hy
        clear h3 h2 hx hy
        go_enter Tryz.func9, Tryz.ntmps9
        go_wp2_with fail
        refine HP.out.mono ?_
        rintro r w1 ⟨v, e, rfl, hk, hv⟩
        have HK := khid hk
        clear hk
        by_cases hb : plainB (s).data.toList = true
        · rcases hv with ⟨hv, rfl⟩ | ⟨hv, tp, p, rfl⟩
          · have HV := khid (intV_yes (by rw [HW.out]; exact hb) hv)
            clear hv
            go_wp2_with fail
            refine (plainC (s) _ HX.out).mono ?_
            rintro r w2 ⟨rfl, rfl⟩
            rw [hb]
            go_wp2_with fail
            go_ret2
            exact ⟨by rw [HV.out]; rfl, HK.out⟩
          · have HV := khid (intV_no hv)
            clear hv
            go_wp2_with fail
            refine (plainC (s) _ HX.out).mono ?_
            rintro r w2 ⟨rfl, rfl⟩
            rw [hb]
            go_wp2_with fail
            go_ret2
            exact ⟨by rw [HV.out]; rfl, HK.out⟩
        · have hb2 : plainB (s).data.toList = false := by simpa using hb
          have HV := khid (intV_odd (by rw [HW.out]; exact hb2))
          clear hv hb
          go_wp2_with fail
          refine (plainC (s) _ HX.out).mono ?_
          rintro r w2 ⟨rfl, rfl⟩
          rw [hb2]
          go_wp2_with fail
          go_ret2
          exact ⟨by rw [HV.out]; rfl, HK.out⟩
      · have HW := khid (show wordI s = s.extract 1 s.size by unfold wordI; rw [if_pos ⟨h1, by rw [head_at s (by omega), h2], h3⟩])
        have h2b : ((s[0].toNat : Int) == 45) = true := by rw [h2]; rfl
        have h3b : (s.toList == [45, 48]) = false := by
          have := streq_false (b := ⟨#[45, 48]⟩) h3
          rw [ByteArray.toList_eq ⟨#[45, 48]⟩] at this
          exact this
        have HX := khid hx
        clear h3 h2 hx hy
        go_enter Tryz.func9, Tryz.ntmps9
        go_wp2_with fail
        refine HP.out.mono ?_
        rintro r w1 ⟨v, e, rfl, hk, hv⟩
        have HK := khid hk
        clear hk
        by_cases hb : plainB (s.extract 1 s.size).data.toList = true
        · rcases hv with ⟨hv, rfl⟩ | ⟨hv, tp, p, rfl⟩
          · have HV := khid (intV_yes (by rw [HW.out]; exact hb) hv)
            clear hv
            go_wp2_with fail
            refine (plainC (s.extract 1 s.size) _ HX.out).mono ?_
            rintro r w2 ⟨rfl, rfl⟩
            rw [hb]
            go_wp2_with fail
            go_ret2
            exact ⟨by rw [HV.out]; rfl, HK.out⟩
          · have HV := khid (intV_no hv)
            clear hv
            go_wp2_with fail
            refine (plainC (s.extract 1 s.size) _ HX.out).mono ?_
            rintro r w2 ⟨rfl, rfl⟩
            rw [hb]
            go_wp2_with fail
            go_ret2
            exact ⟨by rw [HV.out]; rfl, HK.out⟩
        · have hb2 : plainB (s.extract 1 s.size).data.toList = false := by simpa using hb
          have HV := khid (intV_odd (by rw [HW.out]; exact hb2))
          clear hv hb
          go_wp2_with fail
          refine (plainC (s.extract 1 s.size) _ HX.out).mono ?_
          rintro r w2 ⟨rfl, rfl⟩
          rw [hb2]
          go_wp2_with fail
          go_ret2
          exact ⟨by rw [HV.out]; rfl, HK.out⟩
    · have HW := khid (show wordI s = s by unfold wordI; rw [if_neg]; rintro ⟨_, hn, _⟩; rw [head_at s (by omega)] at hn; exact h2 (Option.some.inj hn))
      have h2b : ((s[0].toNat : Int) == 45) = false := by
        rw [beq_eq_false_iff_ne]
        intro hn
        refine h2 (UInt8.toNat.inj ?_)
        show s[0].toNat = 45
        omega
      have HX := khid hy
      clear h2 hx hy
      go_enter Tryz.func9, Tryz.ntmps9
      go_wp2_with fail
      refine HP.out.mono ?_
      rintro r w1 ⟨v, e, rfl, hk, hv⟩
      have HK := khid hk
      clear hk
      by_cases hb : plainB (s).data.toList = true
      · rcases hv with ⟨hv, rfl⟩ | ⟨hv, tp, p, rfl⟩
        · have HV := khid (intV_yes (by rw [HW.out]; exact hb) hv)
          clear hv
          go_wp2_with fail
          refine (plainC (s) _ HX.out).mono ?_
          rintro r w2 ⟨rfl, rfl⟩
          rw [hb]
          go_wp2_with fail
          go_ret2
          exact ⟨by rw [HV.out]; rfl, HK.out⟩
        · have HV := khid (intV_no hv)
          clear hv
          go_wp2_with fail
          refine (plainC (s) _ HX.out).mono ?_
          rintro r w2 ⟨rfl, rfl⟩
          rw [hb]
          go_wp2_with fail
          go_ret2
          exact ⟨by rw [HV.out]; rfl, HK.out⟩
      · have hb2 : plainB (s).data.toList = false := by simpa using hb
        have HV := khid (intV_odd (by rw [HW.out]; exact hb2))
        clear hv hb
        go_wp2_with fail
        refine (plainC (s) _ HX.out).mono ?_
        rintro r w2 ⟨rfl, rfl⟩
        rw [hb2]
        go_wp2_with fail
        go_ret2
        exact ⟨by rw [HV.out]; rfl, HK.out⟩
  · have HW := khid (show wordI s = s by unfold wordI; rw [if_neg]; rintro ⟨hn, _⟩; exact h1 hn)
    have HX := khid hy
    clear hx hy
    go_enter Tryz.func9, Tryz.ntmps9
    go_wp2_with fail
    refine HP.out.mono ?_
    rintro r w1 ⟨v, e, rfl, hk, hv⟩
    have HK := khid hk
    clear hk
    by_cases hb : plainB (s).data.toList = true
    · rcases hv with ⟨hv, rfl⟩ | ⟨hv, tp, p, rfl⟩
      · have HV := khid (intV_yes (by rw [HW.out]; exact hb) hv)
        clear hv
        go_wp2_with fail
        refine (plainC (s) _ HX.out).mono ?_
        rintro r w2 ⟨rfl, rfl⟩
        rw [hb]
        go_wp2_with fail
        go_ret2
        exact ⟨by rw [HV.out]; rfl, HK.out⟩
      · have HV := khid (intV_no hv)
        clear hv
        go_wp2_with fail
        refine (plainC (s) _ HX.out).mono ?_
        rintro r w2 ⟨rfl, rfl⟩
        rw [hb]
        go_wp2_with fail
        go_ret2
        exact ⟨by rw [HV.out]; rfl, HK.out⟩
    · have hb2 : plainB (s).data.toList = false := by simpa using hb
      have HV := khid (intV_odd (by rw [HW.out]; exact hb2))
      clear hv hb
      go_wp2_with fail
      refine (plainC (s) _ HX.out).mono ?_
      rintro r w2 ⟨rfl, rfl⟩
      rw [hb2]
      go_wp2_with fail
      go_ret2
      exact ⟨by rw [HV.out]; rfl, HK.out⟩
end Go.Proofs.YthmbhkgllfngmaaGreatDoor.ks
/- reply.Error at texts without line ends; patch.Join. -/
namespace Go.Proofs.YthmbhkgllfngmaaGreatDoor.ks
open Go.ChangeShapes Go.WideShapes Go.RowKit
set_option linter.unusedVariables false
set_option linter.unusedSimpArgs false
/-- A short text in which nothing is replaced. -/
structure Flat (s : ByteArray) : Prop where
  z : s.size ≤ 4096
  c : Lib.countB s ⟨#[13]⟩ ≤ 4096 ∧ Lib.countB s ⟨#[10]⟩ ≤ 4096
  r : Lib.replaceAll s.data.toList [13] [32] = s.data.toList
  n : Lib.replaceAll s.data.toList [10] [32] = s.data.toList
theorem replC (s : ByteArray) (b : UInt8) (w : World) (h : Env w) (hs : s.size ≤ 4096) (hc : Lib.countB s ⟨#[b]⟩ ≤ 4096) (hr : Lib.replaceAll s.data.toList [b] [32] = s.data.toList) :
    Calls Tryz.prog 129 #[.string s, .string ⟨#[b]⟩, .string ⟨#[32]⟩] w fun r w' => r = .returned (.string s) ∧ Keeps [] w w' := by
  obtain ⟨m, hm⟩ := h.m
  refine (Tryz.strings_ReplaceAll s ⟨#[b]⟩ ⟨#[32]⟩ m w (by omega) hm (Nat.le_refl 1) ?_).mono ?_
  · have : (⟨#[32]⟩ : ByteArray).size = 1 := rfl
    rw [this]
    omega
  · rintro r w' ⟨rfl, hb⟩
    refine ⟨?_, Keeps.ofBelow hb⟩
    show Ending.returned (.string ⟨(Lib.replaceAll s.data.toList [b] [32]).toArray⟩) = _
    rw [hr]
set_option maxHeartbeats 400000 in
theorem repErrC (s : ByteArray) (w : World) (h : Env w) (hn : 20 ≤ w.heap.size) (hf : Flat s) :
    Calls Tryz.prog 93 #[.string s] w fun r w' => r = .returned (repV 2 s 0) ∧ Keeps [] w w' := by
  have HF := khid hf
  have HE := khid h
  clear hf h
  go_enter Tryz.func93, Tryz.ntmps93
  go_wp2_with fail
  generalize hw0 : w.alloc _ = w0
  have h0 : w0.heap[w.heap.size]? = some (.cells #[.int .i64 0, .string ByteArray.empty, .int .i64 0, .slice none 0 0] 28 (0, 0)) := by rw [← hw0]; exact alloc_new _ _
  have k0 : Keeps [] w w0 := by rw [← hw0]; exact (Keeps.refl _ _).alloc _
  have z0 : w.heap.size < w0.heap.size := by rw [← hw0]; simp
  clear hw0
  have E0 := HE.out.keeps k0 (by simp) hn
  refine (replC s 13 _ E0 HF.out.z HF.out.c.1 HF.out.r).mono ?_
  rintro r w1 ⟨rfl, k1⟩
  have E1 := E0.keeps k1 (by simp) (by omega)
  have HE1 := khid E1
  have HK1 := khid (k0.trans k1)
  have h1 := k1.get h0 (by simp)
  have z1 : w.heap.size < w1.heap.size := hlt h1
  have H1 := khid h1
  clear h0 E0 k0 k1 E1 h1
  go_wp2_with fail
  refine (replC s 10 _ HE1.out HF.out.z HF.out.c.2 HF.out.n).mono ?_
  rintro r w2 ⟨rfl, k2⟩
  have hx := k2.get H1.out (by simp)
  have HK2 := khid (HK1.out.trans k2)
  have c0 : w2.cell? ⟨w.heap.size, 0, none⟩ = some (.int .i64 0) := by rw [cell_at hx]; rfl
  have c1 : w2.cell? ⟨w.heap.size, 1, none⟩ = some (.string ByteArray.empty) := by rw [cell_at hx]; rfl
  have c2 : w2.cell? ⟨w.heap.size, 2, none⟩ = some (.int .i64 0) := by rw [cell_at hx]; rfl
  have c3 : w2.cell? ⟨w.heap.size, 3, none⟩ = some (.slice none 0 0) := by rw [cell_at hx]; rfl
  have f0 : w2.frozen? ⟨w.heap.size, 0, none⟩ = false := free_at hx 0
  have f1 : w2.frozen? ⟨w.heap.size, 1, none⟩ = false := free_at hx 1
  have f2 : w2.frozen? ⟨w.heap.size, 2, none⟩ = false := free_at hx 2
  have f3 : w2.frozen? ⟨w.heap.size, 3, none⟩ = false := free_at hx 3
  clear k2 hx
  go_wp2_with fail
  refine bodyPost_ret (v := repV 2 s 0) (by simp [results, Tryz.results93, go_sem]; go_simp; try rfl) rfl ?_
  exact ⟨rfl, ((((HK2.out).setCell (p := ⟨w.heap.size, 0, none⟩) (.inr (Nat.le_refl _)) _).setCell (p := ⟨w.heap.size, 1, none⟩) (.inr (Nat.le_refl _)) _).setCell (p := ⟨w.heap.size, 2, none⟩) (.inr (Nat.le_refl _)) _).setCell (p := ⟨w.heap.size, 3, none⟩) (.inr (Nat.le_refl _)) _⟩
end Go.Proofs.YthmbhkgllfngmaaGreatDoor.ks
/- A whole number's word is read as that number; no program in sight. -/
namespace Go.Proofs.YthmbhkgllfngmaaGreatDoor.ks
set_option linter.unusedVariables false
set_option linter.unusedSimpArgs false
theorem dig_byte {d : Nat} (h : d < 10) : (UInt8.ofNat (48 + d)).toNat = 48 + d := by
  rw [UInt8.toNat_ofNat']; omega
/-- The digits of a number, read on. -/
theorem read_digits (M : Nat) (hM : M ≤ 18446744073709551615) : ∀ (u : Nat), u ≤ M → ∀ rest, Lib.parseUintM M 0 (Lib.decDigits u ++ rest) = Lib.parseUintM M u rest := by
  intro u
  induction u using Nat.strongRecOn with
  | _ u ih =>
    intro hu rest
    rw [Lib.decDigits]
    by_cases h : u < 10
    · rw [dif_pos h, List.singleton_append, Lib.parseUintM, dig_byte h, if_pos (by omega), if_neg (by omega), if_neg (by omega)]
      congr 1
      omega
    · rw [dif_neg h, List.append_assoc, ih (u / 10) (by omega) (by omega), List.singleton_append, Lib.parseUintM, dig_byte (by omega), if_pos (by omega), if_neg (by omega), if_neg (by omega)]
      congr 1
      omega
theorem dd_ne (u : Nat) : Lib.decDigits u ≠ [] := by
  rw [Lib.decDigits]
  split <;> simp
theorem dd_digits : ∀ (u : Nat), (Lib.decDigits u).all digB = true := by
  intro u
  induction u using Nat.strongRecOn with
  | _ u ih =>
    rw [Lib.decDigits]
    by_cases h : u < 10
    · rw [dif_pos h]
      simp only [List.all_cons, List.all_nil, Bool.and_true]
      unfold digB
      rw [dig_byte h]
      simp; omega
    · rw [dif_neg h, List.all_append, ih (u / 10) (by omega)]
      simp only [List.all_cons, List.all_nil, Bool.and_true, Bool.true_and]
      unfold digB
      rw [dig_byte (by omega)]
      simp; omega
theorem dd_head : ∀ (u : Nat), 0 < u → (Lib.decDigits u).head? ≠ some 48 := by
  intro u
  induction u using Nat.strongRecOn with
  | _ u ih =>
    intro hu
    rw [Lib.decDigits]
    by_cases h : u < 10
    · rw [dif_pos h]
      simp only [List.head?_cons, ne_eq, Option.some.injEq]
      intro e
      have := congrArg UInt8.toNat e
      rw [dig_byte h] at this
      have h48 : (48 : UInt8).toNat = 48 := rfl
      omega
    · rw [dif_neg h]
      have h1 := ih (u / 10) (by omega) (by omega)
      cases hd : Lib.decDigits (u / 10) with
      | nil => exact absurd hd (dd_ne _)
      | cons c r => rw [hd] at h1; exact h1
theorem dd_plain (u : Nat) : plainB (Lib.decDigits u) = true := by
  unfold plainB
  by_cases h : u = 0
  · subst h
    rw [Lib.decDigits, dif_pos (by decide)]
    rfl
  · have h1 := dd_ne u
    have h2 := dd_head u (by omega)
    rw [dd_digits u]
    simp [h1, h2]
theorem dd_first (u : Nat) : ∃ c r, Lib.decDigits u = c :: r ∧ 48 ≤ c.toNat ∧ c.toNat ≤ 57 := by
  cases h : Lib.decDigits u with
  | nil => exact absurd h (dd_ne u)
  | cons c r =>
    have := dd_digits u
    rw [h, List.all_cons, Bool.and_eq_true] at this
    unfold digB at this
    exact ⟨c, r, rfl, by have := this.1; simp at this; omega⟩
theorem parse_itoa (n : Int) (h : -9223372036854775808 ≤ n ∧ n ≤ 9223372036854775807) : Lib.parseIntB 64 (Lib.itoa n) = .ok n := by
  by_cases hn : n < 0
  · obtain ⟨u, rfl⟩ : ∃ u : Nat, n = -(u : Int) := ⟨n.natAbs, by omega⟩
    have hr := read_digits 18446744073709551615 (Nat.le_refl _) u (by omega) []
    rw [List.append_nil, Lib.parseUintM] at hr
    rw [Lib.itoa_neg u (by omega), Lib.parseIntB_minus]
    have : Lib.parseUintB 64 (Lib.decDigits u) = .ok u := by
      unfold Lib.parseUintB
      rw [if_neg (dd_ne u)]
      exact hr
    rw [this]
    show (if 2 ^ (64 - 1) < u then Lib.NumEnd.range else .ok (-(u : Int))) = _
    rw [if_neg (by omega)]
  · obtain ⟨u, rfl⟩ : ∃ u : Nat, n = (u : Int) := ⟨n.toNat, by omega⟩
    have hr := read_digits 18446744073709551615 (Nat.le_refl _) u (by omega) []
    rw [List.append_nil, Lib.parseUintM] at hr
    have hp : Lib.parseUintB 64 (Lib.decDigits u) = .ok u := by
      unfold Lib.parseUintB
      rw [if_neg (dd_ne u)]
      exact hr
    rw [Lib.itoa_nonneg]
    obtain ⟨c, r, hc, h1, h2⟩ := dd_first u
    rw [hc] at hp ⊢
    rw [Lib.parseIntB_plain _ _ _ (by omega) (by omega), hp]
    show (if 2 ^ (64 - 1) ≤ u then Lib.NumEnd.range else .ok (u : Int)) = _
    rw [if_neg (by omega)]
theorem intV_itoa (n : Int) (h : -9223372036854775808 ≤ n ∧ n ≤ 9223372036854775807) : intV (itoaS n) = (n, 0) := by
  refine intV_yes ?_ (parse_itoa n h)
  by_cases hn : n < 0
  · obtain ⟨u, rfl⟩ : ∃ u : Nat, n = -(u : Int) := ⟨n.natAbs, by omega⟩
    have hl : (itoaS (-(u : Int))).data.toList = 45 :: Lib.decDigits u := Lib.itoa_neg u (by omega)
    have hw : (wordI (itoaS (-(u : Int)))).data.toList = Lib.decDigits u := by
      have hsz : (itoaS (-(u : Int))).size = (Lib.decDigits u).length + 1 := by
        show (itoaS (-(u : Int))).data.size = _
        rw [← Array.length_toList, hl]; rfl
      have hlen : 0 < (Lib.decDigits u).length := List.length_pos_iff.2 (dd_ne u)
      have hne : itoaS (-(u : Int)) ≠ ⟨#[45, 48]⟩ := by
        intro e
        have h3 : (itoaS (-(u : Int))).data.toList = [45, 48] := by rw [e]
        rw [hl] at h3
        have h2 := dd_head u (by omega)
        simp at h3
        rw [h3] at h2
        exact h2 rfl
      unfold wordI
      rw [if_pos ⟨by omega, by rw [hl]; rfl, hne⟩, Lib.extract_data, hl, hsz]
      simp
    rw [hw]
    exact dd_plain u
  · obtain ⟨u, rfl⟩ : ∃ u : Nat, n = (u : Int) := ⟨n.toNat, by omega⟩
    have hl : (itoaS (u : Int)).data.toList = Lib.decDigits u := Lib.itoa_nonneg u
    obtain ⟨c, r, hc, h1, h2⟩ := dd_first u
    have hw : wordI (itoaS (u : Int)) = itoaS (u : Int) := by
      unfold wordI
      rw [if_neg]
      rintro ⟨_, h3, _⟩
      rw [hl, hc] at h3
      simp at h3
      subst h3
      have h48 : (45 : UInt8).toNat = 45 := rfl
      omega
    rw [hw, hl]
    exact dd_plain u
end Go.Proofs.YthmbhkgllfngmaaGreatDoor.ks
/- patch.Join; patch.filled. -/
namespace Go.Proofs.YthmbhkgllfngmaaGreatDoor.ks
open Go.ChangeShapes Go.WideShapes Go.RowKit
set_option linter.unusedVariables false
set_option linter.unusedSimpArgs false
/-- What Join tells. -/
def joinV (s v : ByteArray) : ByteArray × Int := if s.size + v.size ≤ 1048576 then (s ++ v, 0) else (⟨#[]⟩, 2)
set_option maxHeartbeats 400000 in
theorem joinC (s v : ByteArray) (w : World) (hs : s.size ≤ 281474976710656) (hv : v.size ≤ 281474976710656) :
    Calls Tryz.prog 56 #[.string s, .string v] w fun r w' => r = .returned (.tuple #[.string (joinV s v).1, .int .i64 (joinV s v).2]) ∧ w = w' := by
  by_cases h : s.size + v.size ≤ 1048576
  · have HV := khid (show joinV s v = (s ++ v, 0) by unfold joinV; rw [if_pos h])
    go_enter Tryz.func56, Tryz.ntmps56
    go_wp2_with fail
    go_ret2
    exact ⟨by rw [HV.out]; rfl, rfl⟩
  · have HV := khid (show joinV s v = (⟨#[]⟩, 2) by unfold joinV; rw [if_neg h])
    go_enter Tryz.func56, Tryz.ntmps56
    go_wp2_with fail
    go_ret2
    exact ⟨by rw [HV.out]; rfl, rfl⟩
end Go.Proofs.YthmbhkgllfngmaaGreatDoor.ks
/- patch.filled: a text as bytes, at least so many. -/
namespace Go.Proofs.YthmbhkgllfngmaaGreatDoor.ks
open Go.ChangeShapes Go.WideShapes Go.RowKit
set_option linter.unusedVariables false
set_option linter.unusedSimpArgs false
theorem info_u8 : (Tryz.prog.info? 5).map (fun i => (i.zero, i.size, i.bytes)) = some (some (.int .u8 0), 1, 1) := by kernel_rfl
theorem made_u8 (c : Nat) : madeCells (Value.cells (.int .u8 0)) c = (List.replicate c (.int .u8 0)).toArray := by
  apply Array.toList_inj.1
  exact toList_madeCells_one _ _
theorem makeU8 (n : Nat) (hn : n ≤ 281474976710656) (w : World) : (Instr.makeSlice 126 (.int .i64 (n : Int)) (.int .i64 (n : Int))).run Tryz.prog w = .ok (.slice (some ⟨w.heap.size, 0, none⟩) n n) (w.alloc (.cells (List.replicate n (.int .u8 0)).toArray 5)) := by
  obtain ⟨i, hi, hz, hs, hb⟩ := info_parts info_u8
  have h := run_make (P := Tryz.prog) w 126 5 i _ Tryz.underlying126 hi hz .i64 .i64 (n : Int) (n : Int) (by omega) (Int.le_refl _) (by rw [hb]; omega) (by omega)
  rw [hs, made_u8] at h
  simpa using h
/-- A text as bytes, at least so many. -/
def filledL (s : ByteArray) (n : Nat) : List UInt8 := s.data.toList ++ List.replicate (n - s.size) 0
theorem filledL_len (s : ByteArray) (n : Nat) : (filledL s n).length = max s.size n := by
  simp [filledL]
  omega
theorem copyU8 (w : World) (s : ByteArray) (m : Nat) (hm : s.size ≤ m) :
    (Builtin.copy_ #[126, 9] 3 #[.slice (some ⟨w.heap.size, 0, none⟩) m m, .string s]).run Tryz.prog (w.alloc (.cells (List.replicate m (.int .u8 0)).toArray 5)) =
      .ok (goInt s.size) ((w.alloc (.cells (List.replicate m (.int .u8 0)).toArray 5)).setRow w.heap.size (Lib.byteCells (filledL s m)).toArray) := by
  obtain ⟨i, hi, hz, hs, hb⟩ := info_parts info_u8
  have h := Lib.run_copy_row_string (P := Tryz.prog) (w.alloc (.cells (List.replicate m (.int .u8 0)).toArray 5)) 126 9 3 5 w.heap.size 0 m m s _ 5 Tryz.underlying126 (by rw [hi]; simp [hs]) (alloc_new w _) hm (by simpa using hm)
  have he : (List.replicate m (Value.int .u8 0)).toArray.toList.take 0 ++ Lib.byteCells s.data.toList ++ (List.replicate m (Value.int .u8 0)).toArray.toList.drop (0 + s.size) = Lib.byteCells (filledL s m) := by
    simp [filledL, Lib.byteCells]
  rw [he] at h
  exact h
theorem max_filled (s : ByteArray) (n : Nat) : filledL s (max s.size n) = filledL s n := by
  unfold filledL
  congr 2
  omega
set_option maxHeartbeats 400000 in
theorem filledC (s : ByteArray) (n : Nat) (w : World) (hs : s.size ≤ 1048576) (hn : n ≤ 2097152) :
    Calls Tryz.prog 131 #[.string s, .int .i64 (n : Int)] w fun r w' => ∃ g, r = .returned (.slice (some ⟨g, 0, none⟩) (max s.size n) (max s.size n)) ∧ w.heap.size ≤ g ∧ w'.heap[g]? = some (.cells (Lib.byteCells (filledL s n)).toArray 5 (0, 0)) ∧ Keeps [] w w' := by
  obtain ⟨m, hm⟩ : ∃ m, m = max s.size n := ⟨_, rfl⟩
  have hmk := makeU8 m (by omega)
  have hcp := copyU8 w s m (by omega)
  have hmax : max (s.size : Int) (n : Int) = (m : Int) := by omega
  have HF := khid (max_filled s n)
  rw [← hm] at HF ⊢
  have HM := khid hm
  obtain ⟨M, hM⟩ : ∃ M, M = (List.replicate m (Value.int .u8 0)).toArray := ⟨_, rfl⟩
  obtain ⟨Y, hY⟩ : ∃ Y, Y = (Lib.byteCells (filledL s m)).toArray := ⟨_, rfl⟩
  rw [← hM, ← hY] at hcp
  rw [← hM] at hmk
  have HY := khid hY
  clear hm hs hn hM hY
  go_enter Tryz.func131, Tryz.ntmps131
  go_wp2_with fail
  go_ret
  refine ⟨w.heap.size, rfl, Nat.le_refl _, ?_, ?_⟩
  · rw [← HF.out, ← HY.out]
    exact setRow_heap _ _ _ _ _ (0, 0) (alloc_new w _)
  · refine Keeps.ofBelow ?_
    exact ((Below.refl _ w).alloc (Nat.le_refl _) _).trans ⟨rfl, rfl, rfl, by simp, fun k hk => setRow_other _ _ _ _ (by omega)⟩
end Go.Proofs.YthmbhkgllfngmaaGreatDoor.ks
/- Rows of bytes: a text laid over one, a row as a text. -/
namespace Go.Proofs.YthmbhkgllfngmaaGreatDoor.ks
open Go.ChangeShapes Go.WideShapes Go.RowKit
set_option linter.unusedVariables false
set_option linter.unusedSimpArgs false
/-- The row g is these bytes. -/
def BytesAt (w : World) (g : Nat) (l : List UInt8) : Prop := w.heap[g]? = some (.cells (Lib.byteCells l).toArray 5 (0, 0))
theorem backU8 (w : World) (g : Nat) (l : List UInt8) (hg : BytesAt w g l) : Sem.run Tryz.prog (convert 126 9 (.slice (some ⟨g, 0, none⟩) l.length l.length)) w = .ok (.string ⟨l.toArray⟩) w :=
  run_convert_bytes_back (P := Tryz.prog) w 126 9 5 ⟨g, 0, none⟩ l.length l Tryz.underlying126 Tryz.underlying5 Tryz.underlying9 (fun j hj => by
    have ha : (⟨g, 0, none⟩ : Addr).add j = ⟨g, j, none⟩ := by simp [Addr.add]; exact Eq.symm
    rw [ha, cell_at hg]
    simp [Lib.byteCells, hj])
/-- A text laid over bytes from a place on. -/
def overL (l : List UInt8) (at_ : Nat) (v : ByteArray) : List UInt8 := l.take at_ ++ v.data.toList ++ l.drop (at_ + v.size)
theorem overL_len {l : List UInt8} {at_ : Nat} {v : ByteArray} (h : at_ + v.size ≤ l.length) : (overL l at_ v).length = l.length := by
  simp [overL]
  omega
theorem copyAt (w : World) (g : Nat) (l : List UInt8) (at_ : Nat) (v : ByteArray) (hg : BytesAt w g l) (h : at_ + v.size ≤ l.length) :
    (Builtin.copy_ #[126, 9] 3 #[.slice (some ⟨g, at_, none⟩) (l.length - at_) (l.length - at_), .string v]).run Tryz.prog w =
      .ok (goInt v.size) (w.setRow g (Lib.byteCells (overL l at_ v)).toArray) := by
  obtain ⟨i, hi, hz, hs, hb⟩ := info_parts info_u8
  have h := Lib.run_copy_row_string (P := Tryz.prog) w 126 9 3 5 g at_ (l.length - at_) (l.length - at_) v _ 5 Tryz.underlying126 (by rw [hi]; simp [hs]) hg (by omega) (by simpa [Lib.byteCells] using h)
  have he : (Lib.byteCells l).toArray.toList.take at_ ++ Lib.byteCells v.data.toList ++ (Lib.byteCells l).toArray.toList.drop (at_ + v.size) = Lib.byteCells (overL l at_ v) := by
    simp [overL, Lib.byteCells]
  rw [he] at h
  exact h
theorem BytesAt.over {w : World} {g : Nat} {l m : List UInt8} (h : BytesAt w g l) : BytesAt (w.setRow g (Lib.byteCells m).toArray) g m := setRow_heap _ _ _ _ _ (0, 0) h
/-- What Overlay tells. -/
def overlayV (s : ByteArray) (at_ : Int) (v : ByteArray) : ByteArray × Int :=
  if at_ < 0 then (⟨#[]⟩, 3) else if v.size = 0 then (s, 0) else if s.size > 1048576 ∨ at_ + v.size > 1048576 then (⟨#[]⟩, 2)
  else (⟨(overL (filledL s (at_.toNat + v.size)) at_.toNat v).toArray⟩, 0)
end Go.Proofs.YthmbhkgllfngmaaGreatDoor.ks
/- patch.Overlay. -/
namespace Go.Proofs.YthmbhkgllfngmaaGreatDoor.ks
open Go.ChangeShapes Go.WideShapes Go.RowKit
set_option linter.unusedVariables false
set_option linter.unusedSimpArgs false
set_option maxRecDepth 8000 in
set_option maxHeartbeats 800000 in
theorem overlayC (s : ByteArray) (at_ : Int) (v : ByteArray) (w : World) (ha : -9223372036854775808 ≤ at_ ∧ at_ ≤ 9223372036854775807) (hs : s.size ≤ 281474976710656) (hv : v.size ≤ 281474976710656) :
    Calls Tryz.prog 96 #[.string s, .int .i64 at_, .string v] w fun r w' => r = .returned (.tuple #[.string (overlayV s at_ v).1, .int .i64 (overlayV s at_ v).2]) ∧ Keeps [] w w' := by
  by_cases h0 : at_ < 0
  · have HV := khid (show overlayV s at_ v = (⟨#[]⟩, 3) by unfold overlayV; rw [if_pos h0])
    go_enter Tryz.func96, Tryz.ntmps96
    go_wp2_with fail
    go_ret2
    exact ⟨by rw [HV.out]; rfl, Keeps.refl _ _⟩
  · by_cases h1 : v.size = 0
    · have HV := khid (show overlayV s at_ v = (s, 0) by unfold overlayV; rw [if_neg h0, if_pos h1])
      have z1 : v.toList.isEmpty = true := by
        rw [ByteArray.toList_eq, List.isEmpty_iff]
        exact List.eq_nil_of_length_eq_zero (show v.data.toList.length = 0 from h1)
      go_enter Tryz.func96, Tryz.ntmps96
      go_wp2_with fail
      go_ret2
      exact ⟨by rw [HV.out]; rfl, Keeps.refl _ _⟩
    · have z1 : v.toList.isEmpty = false := by
        rw [ByteArray.toList_eq, List.isEmpty_eq_false_iff]
        intro hn
        exact h1 (by simpa using congrArg List.length hn)
      by_cases h2 : s.size > 1048576 ∨ at_ + v.size > 1048576
      · have HV := khid (show overlayV s at_ v = (⟨#[]⟩, 2) by unfold overlayV; rw [if_neg h0, if_neg h1, if_pos h2])
        by_cases h3 : 1048576 < s.size
        · clear h2
          go_enter Tryz.func96, Tryz.ntmps96
          go_wp2_with fail
          go_ret2
          exact ⟨by rw [HV.out]; rfl, Keeps.refl _ _⟩
        · have h4 : at_ + v.size > 1048576 := by omega
          by_cases h5 : 1048576 < at_
          · clear h2 h4
            go_enter Tryz.func96, Tryz.ntmps96
            go_wp2_with fail
            go_ret2
            exact ⟨by rw [HV.out]; rfl, Keeps.refl _ _⟩
          · clear h2
            have hw : IntKind.i64.wrap (at_ + (v.size : Int)) = at_ + v.size := by rw [IntKind.wrap_i64]; omega
            go_enter Tryz.func96, Tryz.ntmps96
            go_wp2_with fail
            go_ret2
            exact ⟨by rw [HV.out]; rfl, Keeps.refl _ _⟩
      · obtain ⟨k, rfl⟩ : ∃ k : Nat, at_ = (k : Int) := ⟨at_.toNat, by omega⟩
        have HV := khid (show overlayV s k v = (⟨(overL (filledL s (k + v.size)) k v).toArray⟩, 0) by unfold overlayV; rw [if_neg h0, if_neg h1, if_neg h2]; rfl)
        have h3 : s.size ≤ 1048576 ∧ k + v.size ≤ 1048576 := by omega
        obtain ⟨h3, h4⟩ := h3
        have hw : IntKind.i64.wrap ((k : Int) + (v.size : Int)) = ((k + v.size : Nat) : Int) := by rw [IntKind.wrap_i64]; omega
        have HC := khid (filledC s (k + v.size) w h3 (by omega))
        clear h2 h0 ha hs hv
        go_enter Tryz.func96, Tryz.ntmps96
        go_wp2_with fail
        refine HC.out.mono ?_
        rintro r w1 ⟨g, rfl, hgw, hg, hk⟩
        obtain ⟨l, hl⟩ : ∃ l, l = filledL s (k + v.size) := ⟨_, rfl⟩
        have hlen : l.length = max s.size (k + v.size) := by rw [hl]; exact filledL_len _ _
        rw [← hl] at hg
        rw [← hlen]
        have hcp := copyAt w1 g l k v hg (by omega)
        have hb : BytesAt (w1.setRow g (Lib.byteCells (overL l k v)).toArray) g (overL l k v) := BytesAt.over hg
        have hcv := backU8 _ g (overL l k v) hb
        rw [overL_len (by omega)] at hcv
        obtain ⟨Y, hY⟩ : ∃ Y, Y = (Lib.byteCells (overL l k v)).toArray := ⟨_, rfl⟩
        rw [← hY] at hcp hcv
        have hkl : k < l.length := by omega
        have hkl2 : k ≤ l.length := by omega
        have hkl3 : l.length ≠ k := by omega
        have hkl4 : ¬ l.length - k = 0 := by omega
        have HV2 := khid (show overlayV s k v = (⟨(overL l k v).toArray⟩, 0) by rw [HV.out, hl])
        have HK := khid (show Keeps [] w (w1.setRow g Y) from ⟨hk.os, hk.tape, hk.output, by simpa using hk.size, fun b hb hn => (setRow_other _ _ _ _ (by omega)).trans (hk.block b hb hn)⟩)
        obtain ⟨T, hT⟩ : ∃ T, T = (overL l k v).toArray := ⟨_, rfl⟩
        rw [← hT] at hcv HV2
        obtain ⟨n, hn⟩ : ∃ n, n = l.length := ⟨_, rfl⟩
        rw [← hn] at hcp hcv hkl hkl2 hkl3 hkl4
        rw [← hn]
        clear hn hl hg hY hb hk hlen hT HV hw h3 h4 HC hgw h1 z1
        go_wp2_with fail
        go_ret2
        exact ⟨by rw [HV2.out]; rfl, HK.out⟩
end Go.Proofs.YthmbhkgllfngmaaGreatDoor.ks
/- patch: place, Bit. -/
namespace Go.Proofs.YthmbhkgllfngmaaGreatDoor.ks
open Go.ChangeShapes Go.WideShapes Go.RowKit
set_option linter.unusedVariables false
set_option linter.unusedSimpArgs false
/-- The bit of a place within its byte. -/
def bitMask (n : Nat) : Nat := 128 / 2 ^ (n % 8)
set_option maxHeartbeats 400000 in
theorem placeC (n i m : Nat) (w : World) (hn : n < 1073741824) (hi : i = n / 8) (hm : m = bitMask n) :
    Calls Tryz.prog 125 #[.int .i64 (n : Int)] w fun r w' => r = .returned (.tuple #[.int .i64 (i : Int), .int .u8 (m : Int)]) ∧ Keeps [] w w' := by
  have h8 : IntKind.i64.wrap ((n : Int) / 8) = ((n / 8 : Nat) : Int) := by rw [IntKind.wrap_i64]; omega
  have HI := khid hi
  have HM := khid hm
  clear hi hm
  go_enter Tryz.func125, Tryz.ntmps125
  go_wp2_with fail
  go_quiet (fail)
  go_wp2_with fail
  go_ret2
  refine ⟨?_, (Keeps.refl _ _).drewN _⟩
  show Ending.returned (.tuple #[.int .i64 ((n : Int) / 8), .int .u8 (128 / 2 ^ (n % 8))]) = _
  rw [HI.out, HM.out, show (128 / 2 ^ (n % 8) : Int) = ((bitMask n : Nat) : Int) by unfold bitMask; rw [Int.natCast_ediv, Int.natCast_pow]; rfl]
  rfl
/-- The byte of a bit, and whether the bit is 1. -/
def byteOf (s : ByteArray) (n : Nat) : UInt8 := s.data.toList.getD (n / 8) 0
def bitAt (s : ByteArray) (n : Nat) : Int := if n / 8 < s.size ∧ bits .and .u8 ((byteOf s n).toNat : Int) (bitMask n : Int) ≠ 0 then 1 else 0
/-- What Bit tells. -/
def bitV (s : ByteArray) (n : Int) : Int × Int := if n < 0 ∨ 1073741824 ≤ n then (0, 3) else (bitAt s n.toNat, 0)
set_option maxHeartbeats 800000 in
theorem bitC (s : ByteArray) (n : Int) (w : World) (hs : s.size ≤ 281474976710656) :
    Calls Tryz.prog 80 #[.string s, .int .i64 n] w fun r w' => r = .returned (.tuple #[.int .i64 (bitV s n).1, .int .i64 (bitV s n).2]) ∧ Keeps [] w w' := by
  by_cases h0 : n < 0
  · have HV := khid (show bitV s n = (0, 3) by unfold bitV; rw [if_pos (.inl h0)])
    go_enter Tryz.func80, Tryz.ntmps80
    go_wp2_with fail
    go_ret2
    exact ⟨by rw [HV.out]; rfl, Keeps.refl _ _⟩
  · by_cases h1 : 1073741824 ≤ n
    · have HV := khid (show bitV s n = (0, 3) by unfold bitV; rw [if_pos (.inr h1)])
      go_enter Tryz.func80, Tryz.ntmps80
      go_wp2_with fail
      go_ret2
      exact ⟨by rw [HV.out]; rfl, Keeps.refl _ _⟩
    · obtain ⟨k, rfl⟩ : ∃ k : Nat, n = (k : Int) := ⟨n.toNat, by omega⟩
      have HV := khid (show bitV s k = (bitAt s k, 0) by unfold bitV; rw [if_neg (by omega)]; rfl)
      obtain ⟨i, hi⟩ : ∃ i, i = k / 8 := ⟨_, rfl⟩
      obtain ⟨m, hm⟩ : ∃ m, m = bitMask k := ⟨_, rfl⟩
      have hib : i < 134217728 := by omega
      have HP := khid (fun w : World => placeC k i m w (by omega) hi hm)
      by_cases h2 : i < s.size
      · obtain ⟨x, hx⟩ : ∃ x, x = bits .and .u8 (s[i].toNat : Int) (m : Int) := ⟨_, rfl⟩
        have hby : byteOf s k = s[i] := by
          unfold byteOf
          rw [← hi, List.getD_eq_getElem?_getD, List.getElem?_eq_getElem (by simpa using h2)]
          simp [ByteArray.getElem_eq_getElem_data]
        by_cases h3 : x = 0
        · have HA := khid (show bitAt s k = 0 by unfold bitAt; rw [if_neg]; rintro ⟨_, h⟩; rw [hby, ← hm, ← hx] at h; exact h h3)
          have hno : (x != 0) = false := by simpa using h3
          rw [hx] at hno
          clear h3 hx hby hi hm
          go_enter Tryz.func80, Tryz.ntmps80
          go_wp2_with fail
          refine (HP.out _).mono ?_
          rintro r w1 ⟨rfl, k1⟩
          have K1 := khid k1
          clear k1
          go_wp2_with fail
          go_ret2
          exact ⟨by rw [HV.out, HA.out]; rfl, K1.out⟩
        · have HA := khid (show bitAt s k = 1 by unfold bitAt; rw [if_pos]; exact ⟨by omega, by rw [hby, ← hm, ← hx]; exact h3⟩)
          have hno : (x != 0) = true := by simpa using h3
          rw [hx] at hno
          clear h3 hx hby hi hm
          go_enter Tryz.func80, Tryz.ntmps80
          go_wp2_with fail
          refine (HP.out _).mono ?_
          rintro r w1 ⟨rfl, k1⟩
          have K1 := khid k1
          clear k1
          go_wp2_with fail
          go_ret2
          exact ⟨by rw [HV.out, HA.out]; rfl, K1.out⟩
      · have HA := khid (show bitAt s k = 0 by unfold bitAt; rw [if_neg]; rintro ⟨h, _⟩; omega)
        clear hi hm
        go_enter Tryz.func80, Tryz.ntmps80
        go_wp2_with fail
        refine (HP.out _).mono ?_
        rintro r w1 ⟨rfl, k1⟩
        have K1 := khid k1
        clear k1
        go_wp2_with fail
        go_ret2
        exact ⟨by rw [HV.out, HA.out]; rfl, K1.out⟩
end Go.Proofs.YthmbhkgllfngmaaGreatDoor.ks
/- patch: SetBit. -/
namespace Go.Proofs.YthmbhkgllfngmaaGreatDoor.ks
open Go.ChangeShapes Go.WideShapes Go.RowKit
set_option linter.unusedVariables false
set_option linter.unusedSimpArgs false
/-- A byte with a bit off, or on. -/
def clrB (c : UInt8) (m : Nat) : UInt8 := UInt8.ofNat (bits .andNot .u8 (c.toNat : Int) (m : Int)).toNat
def setB (c : UInt8) (m : Nat) : UInt8 := UInt8.ofNat (bits .or .u8 (c.toNat : Int) (m : Int)).toNat
theorem u8_back (x : Int) (h : ∃ y, x = IntKind.u8.wrap y) : ((UInt8.ofNat x.toNat).toNat : Int) = x := by
  obtain ⟨y, rfl⟩ := h
  have hw : IntKind.u8.wrap y = y % 256 := by simp [IntKind.wrap, IntKind.signed, IntKind.bits]
  rw [hw]
  have h1 : 0 ≤ y % 256 := Int.emod_nonneg _ (by decide)
  have h2 : y % 256 < 256 := Int.emod_lt_of_pos _ (by decide)
  rw [UInt8.toNat_ofNat']
  omega
theorem clrB_val (c : UInt8) (m : Nat) : bits .andNot .u8 (c.toNat : Int) (m : Int) = ((clrB c m).toNat : Int) := (u8_back _ ⟨_, rfl⟩).symm
theorem setB_val (c : UInt8) (m : Nat) : bits .or .u8 (c.toNat : Int) (m : Int) = ((setB c m).toNat : Int) := (u8_back _ ⟨_, rfl⟩).symm
/-- The bytes behind SetBit. -/
def setL (s : ByteArray) (n : Nat) (one : Bool) : List UInt8 := (filledL s (n / 8 + 1)).set (n / 8) (if one then setB (clrB ((filledL s (n / 8 + 1)).getD (n / 8) 0) (bitMask n)) (bitMask n) else clrB ((filledL s (n / 8 + 1)).getD (n / 8) 0) (bitMask n))
/-- What SetBit tells. -/
def setBitV (s : ByteArray) (n : Int) (bit : Int) : ByteArray × Int × Int :=
  if (n < 0 ∨ 1073741824 ≤ n) ∨ (bit ≠ 0 ∧ bit ≠ 1) then (⟨#[]⟩, 0, 3) else if s.size > 1048576 ∨ n / 8 ≥ 1048576 then (⟨#[]⟩, 0, 2)
  else (⟨(setL s n.toNat (decide (bit = 1))).toArray⟩, bitAt s n.toNat, 0)
theorem BytesAt.cell {w : World} {g : Nat} {l : List UInt8} (h : BytesAt w g l) {i : Nat} {c : UInt8} (hi : l[i]? = some c) : w.cell? ⟨g, i, none⟩ = some (.int .u8 (c.toNat : Int)) := by
  rw [cell_at h]
  simp [Lib.byteCells, hi]
theorem BytesAt.set {w : World} {g : Nat} {l : List UInt8} (h : BytesAt w g l) (i : Nat) (c : UInt8) : BytesAt (w.setCell ⟨g, i, none⟩ (.int .u8 (c.toNat : Int))) g (l.set i c) := by
  unfold BytesAt at h ⊢
  rw [set_same h]
  congr 2
  apply Array.toList_inj.1
  simp [Lib.byteCells, List.map_set]
set_option maxRecDepth 8000 in
set_option maxHeartbeats 800000 in
theorem setBitC (s : ByteArray) (n bit : Int) (w : World) (hs : s.size ≤ 281474976710656) :
    Calls Tryz.prog 98 #[.string s, .int .i64 n, .int .i64 bit] w fun r w' => r = .returned (.tuple #[.string (setBitV s n bit).1, .int .i64 (setBitV s n bit).2.1, .int .i64 (setBitV s n bit).2.2]) ∧ Keeps [] w w' := by
  have HB := khid (bitC s n w hs)
  by_cases h0 : n < 0 ∨ 1073741824 ≤ n
  · have HV := khid (show setBitV s n bit = (⟨#[]⟩, 0, 3) by unfold setBitV; rw [if_pos (.inl h0)])
    have HV2 := khid (show bitV s n = (0, 3) by unfold bitV; rw [if_pos h0])
    clear h0
    go_enter Tryz.func98, Tryz.ntmps98
    go_wp2_with fail
    refine HB.out.mono ?_
    rintro r w1 ⟨rfl, k1⟩
    have K1 := khid k1
    clear k1
    rw [HV2.out]
    go_wp2_with fail
    go_ret3
    exact ⟨by rw [HV.out]; rfl, K1.out⟩
  · obtain ⟨k, rfl⟩ : ∃ k : Nat, n = (k : Int) := ⟨n.toNat, by omega⟩
    have hk : k < 1073741824 := by omega
    have HV2 := khid (show bitV s k = (bitAt s k, 0) by unfold bitV; rw [if_neg h0]; rfl)
    by_cases h1 : bit ≠ 0 ∧ bit ≠ 1
    · have HV := khid (show setBitV s k bit = (⟨#[]⟩, 0, 3) by unfold setBitV; rw [if_pos (.inr h1)])
      obtain ⟨h2, h3⟩ := h1
      have e2 : (bit == 0) = false := by simpa using h2
      have e3 : (bit == 1) = false := by simpa using h3
      have e4 : (bit != 0) = true := by simpa using h2
      have e5 : (bit != 1) = true := by simpa using h3
      clear h0 h2 h3
      go_enter Tryz.func98, Tryz.ntmps98
      go_wp2_with fail
      refine HB.out.mono ?_
      rintro r w1 ⟨rfl, k1⟩
      have K1 := khid k1
      clear k1
      rw [HV2.out]
      go_wp2_with fail
      go_ret3
      exact ⟨by rw [HV.out]; rfl, K1.out⟩
    · obtain ⟨i, hi⟩ : ∃ i, i = k / 8 := ⟨_, rfl⟩
      obtain ⟨m, hm⟩ : ∃ m, m = bitMask k := ⟨_, rfl⟩
      have hib : i < 134217728 := by omega
      have HP := khid (fun w : World => placeC k i m w hk hi hm)
      have hbit : bit = 0 ∨ bit = 1 := by omega
      by_cases h2 : s.size > 1048576 ∨ i ≥ 1048576
      · have HV := khid (show setBitV s k bit = (⟨#[]⟩, 0, 2) by unfold setBitV; rw [if_neg (by rintro (h | h); exact h0 h; exact h1 h), if_pos (by omega)])
        clear h0 h1 hi hm hk
        by_cases h3 : 1048576 < s.size
        · clear h2
          rcases hbit with rfl | rfl
          all_goals
            go_enter Tryz.func98, Tryz.ntmps98
            go_wp2_with fail
            refine HB.out.mono ?_
            rintro r w1 ⟨rfl, k1⟩
            have K1 := khid k1
            clear k1
            rw [HV2.out]
            go_wp2_with fail
            refine (HP.out _).mono ?_
            rintro r w2 ⟨rfl, k2⟩
            have K2 := khid (K1.out.trans k2)
            clear k2
            go_wp2_with fail
            go_ret3
            exact ⟨by rw [HV.out]; rfl, K2.out⟩
        · have h4 : 1048576 ≤ i := by omega
          clear h2
          rcases hbit with rfl | rfl
          all_goals
            go_enter Tryz.func98, Tryz.ntmps98
            go_wp2_with fail
            refine HB.out.mono ?_
            rintro r w1 ⟨rfl, k1⟩
            have K1 := khid k1
            clear k1
            rw [HV2.out]
            go_wp2_with fail
            refine (HP.out _).mono ?_
            rintro r w2 ⟨rfl, k2⟩
            have K2 := khid (K1.out.trans k2)
            clear k2
            go_wp2_with fail
            go_ret3
            exact ⟨by rw [HV.out]; rfl, K2.out⟩
      · have h3 : s.size ≤ 1048576 ∧ i < 1048576 := by omega
        obtain ⟨h3, h4⟩ := h3
        obtain ⟨l, hl⟩ : ∃ l, l = filledL s (i + 1) := ⟨_, rfl⟩
        have hlen : l.length = max s.size (i + 1) := by rw [hl]; exact filledL_len _ _
        have hil : i < l.length := by omega
        obtain ⟨c, hc⟩ : ∃ c, l[i]? = some c := ⟨_, List.getElem?_eq_getElem hil⟩
        have hcd : l.getD i 0 = c := by rw [List.getD_eq_getElem?_getD, hc]; rfl
        have HV := khid (show setBitV s k bit = (⟨(l.set i (if bit = 1 then setB (clrB c m) m else clrB c m)).toArray⟩, bitAt s k, 0) by
          unfold setBitV
          rw [if_neg (by rintro (h | h); exact h0 h; exact h1 h), if_neg (by omega)]
          unfold setL
          rw [show (k : Int).toNat = k from rfl, ← hi, ← hm, ← hl, hcd]
          by_cases hb1 : bit = 1 <;> simp [hb1])
        obtain ⟨J, hJ⟩ : ∃ J, J = i + 1 := ⟨_, rfl⟩
        have hiN : ((i : Int) + 1) = (J : Int) := by omega
        have HF := khid (fun w : World => filledC s J w h3 (by omega))
        rw [← hJ] at hl hlen
        have HL := khid hl
        have HLE := khid hlen
        have HC := khid hc
        clear h0 h1 h2 hi hm hk hl hcd hc hJ
        have HE1 := khid (clrB_val c m)
        have HE2 := khid (setB_val (clrB c m) m)
        rcases hbit with rfl | rfl
        all_goals
          go_enter Tryz.func98, Tryz.ntmps98
          go_wp2_with fail
          refine HB.out.mono ?_
          rintro r w1 ⟨rfl, k1⟩
          have K1 := khid k1
          clear k1
          rw [HV2.out]
          go_wp2_with fail
          refine (HP.out _).mono ?_
          rintro r w2 ⟨rfl, k2⟩
          have K2 := khid (K1.out.trans k2)
          clear k2
          go_wp2_with fail
          refine (HF.out _).mono ?_
          rintro r w3 ⟨g, rfl, hgw, hg, hk⟩
          have K3 := khid (K2.out.trans hk)
          have hbt : BytesAt w3 g l := by rw [HL.out]; exact hg
          rw [← HLE.out]
          have hc1 := BytesAt.cell hbt HC.out
          have hf1 : w3.frozen? ⟨g, i, none⟩ = false := free_at hbt i
          have e1 := HE1.out
          have e2 := HE2.out
          have hcv0 := backU8 _ g _ (hbt.set i (clrB c m))
          have hcv1 := backU8 _ g _ ((hbt.set i (clrB c m)).set i (setB (clrB c m) m))
          rw [List.length_set] at hcv0
          rw [List.length_set, List.length_set, List.set_set] at hcv1
          obtain ⟨T0, hT0⟩ : ∃ T0, T0 = (l.set i (clrB c m)).toArray := ⟨_, rfl⟩
          obtain ⟨T1, hT1⟩ : ∃ T1, T1 = (l.set i (setB (clrB c m) m)).toArray := ⟨_, rfl⟩
          rw [← hT0] at hcv0
          rw [← hT1] at hcv1
          have HT0 := khid hT0
          have HT1 := khid hT1
          have hfin : ∀ (a b : Addr) (u v : Value), a.block = g → b.block = g → Keeps [] w ((w3.setCell a u).setCell b v) ∧ Keeps [] w (w3.setCell a u) := fun a b u v ha hb =>
            ⟨(K3.out.setCell (.inr (by have := K2.out.size; rw [ha]; omega)) _).setCell (.inr (by have := K2.out.size; rw [hb]; omega)) _, K3.out.setCell (.inr (by have := K2.out.size; rw [ha]; omega)) _⟩
          have HFI := khid hfin
          obtain ⟨n, hn⟩ : ∃ n, n = l.length := ⟨_, rfl⟩
          rw [← hn] at hcv0 hcv1 hil ⊢
          clear hg hgw hbt hk hlen hT0 hT1 hn hfin
          go_wp2_with fail
          go_ret3
          first
            | exact ⟨by rw [show setBitV s k 0 = (⟨T0⟩, bitAt s k, 0) from HV.out.trans (by rw [HT0.out]; rfl)]; rfl, (HFI.out _ ⟨g, 0, none⟩ _ (.int .u8 0) rfl rfl).2⟩
            | exact ⟨by rw [show setBitV s k 1 = (⟨T1⟩, bitAt s k, 0) from HV.out.trans (by rw [HT1.out]; rfl)]; rfl, (HFI.out _ _ _ _ rfl rfl).1⟩
end Go.Proofs.YthmbhkgllfngmaaGreatDoor.ks
