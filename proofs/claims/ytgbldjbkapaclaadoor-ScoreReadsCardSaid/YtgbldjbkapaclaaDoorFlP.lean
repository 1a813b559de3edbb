/- The walk of the law ScoreBack. -/
import Derived.Test.YtgbldjbkapaclaaDoorFlF
import Derived.Test.YtgbldjbkapaclaaDoorFlG
/- Words of scores: what is a decimal, its mantissa and its power. Plain. -/
namespace Go.Proofs.YtgbldjbkapaclaaDoor.fl
set_option linter.unusedVariables false
set_option linter.unusedSimpArgs false
/-- How many digits a text begins with. -/
def ndig : List Nat → Nat
  | [] => 0
  | c :: t => if 48 ≤ c ∧ c ≤ 57 then ndig t + 1 else 0
theorem ndig_le : ∀ l : List Nat, ndig l ≤ l.length
  | [] => Nat.le_refl _
  | c :: t => by
    unfold ndig
    split
    · have := ndig_le t; simp; omega
    · simp
theorem ndig_take : ∀ l : List Nat, ∀ c ∈ l.take (ndig l), isDig c
  | [], c, h => by simp [ndig] at h
  | d :: t, c, h => by
    unfold ndig at h
    split at h
    · rename_i hd
      rw [List.take_succ_cons] at h
      rcases List.mem_cons.1 h with e | e
      · subst e; exact hd
      · exact ndig_take t c e
    · simp at h
theorem ndig_app : ∀ (a b : List Nat), (∀ c ∈ a, isDig c) → (∀ c, b.head? = some c → ¬ (48 ≤ c ∧ c ≤ 57)) → ndig (a ++ b) = a.length
  | [], b, _, hb => by
    cases b with
    | nil => rfl
    | cons c t =>
      rw [List.nil_append]
      unfold ndig
      rw [if_neg (hb c rfl)]; rfl
  | c :: t, b, ha, hb => by
    have h1 := ndig_app t b (fun x hx => ha x (by simp [hx])) hb
    have hc := ha c (by simp)
    rw [List.cons_append]
    unfold ndig
    rw [if_pos (show 48 ≤ c ∧ c ≤ 57 from hc), h1]; rfl
/-- Without the sign ahead. -/
def unsign : List Nat → List Nat
  | c :: t => if c = 43 ∨ c = 45 then t else c :: t
  | [] => []
def isNeg (l : List Nat) : Bool := l.head? == some 45
/-- Behind the first digits: is there a point? -/
def hasDot (l : List Nat) : Bool := (l.drop (ndig l)).head? == some 46
def fracL (l : List Nat) : List Nat := if hasDot l then (l.drop (ndig l)).drop 1 else []
def mantN (l : List Nat) : Nat := ndig l + ndig (fracL l)
def expL (l : List Nat) : List Nat := if hasDot l then (fracL l).drop (ndig (fracL l)) else l.drop (ndig l)
/-- A power of ten of at most five digits. -/
def expB (x : List Nat) : Bool :=
  (x.head? == some 101 || x.head? == some 69) && decide (1 ≤ ndig (unsign (x.drop 1)) ∧ ndig (unsign (x.drop 1)) ≤ 5 ∧ ndig (unsign (x.drop 1)) = (unsign (x.drop 1)).length)
/-- Is it a decimal? -/
def decB (l : List Nat) : Bool := decide (0 < mantN l) && ((expL l).isEmpty || expB (expL l))
/-- Its mantissa. -/
def manL (l : List Nat) : List Nat := l.take (ndig l) ++ (if hasDot l then 46 :: (fracL l).take (ndig (fracL l)) else [])
def expV (x : List Nat) : Int := if x.isEmpty then 0 else (if isNeg (x.drop 1) then -(dnum (unsign (x.drop 1)) : Int) else dnum (unsign (x.drop 1)))
theorem man_exp (l : List Nat) : l = manL l ++ expL l := by
  unfold manL expL
  by_cases h : hasDot l = true
  · rw [if_pos h, if_pos h, List.append_assoc, List.cons_append, List.take_append_drop]
    have h1 : (l.drop (ndig l)).head? = some 46 := by simpa [hasDot] using h
    have h2 : l.drop (ndig l) = 46 :: fracL l := by
      unfold fracL
      rw [if_pos h]
      cases hc : l.drop (ndig l) with
      | nil => rw [hc] at h1; cases h1
      | cons c t => rw [hc] at h1; simp at h1; rw [h1]; rfl
    rw [← h2, List.take_append_drop]
  · rw [if_neg h, if_neg h, List.append_nil, List.take_append_drop]
theorem man_mant (l : List Nat) : Mant (manL l) (hasDot l) := by
  unfold manL
  by_cases h : hasDot l = true
  · rw [if_pos h, h]
    have key : ∀ (b : List Nat), (∀ c ∈ b, isDig c) → ∀ m, Mant m true → Mant (m ++ b) true := by
      intro b
      induction b with
      | nil => intro _ m hm; simpa using hm
      | cons c t ih =>
        intro hb m hm
        have := ih (fun x hx => hb x (by simp [hx])) (m ++ [c]) (.dig hm (hb c (by simp)))
        simpa using this
    have := key _ (ndig_take (fracL l)) (l.take (ndig l) ++ [46]) (.dot (mant_digs _ (ndig_take l)))
    simpa using this
  · have hf : hasDot l = false := by simpa using h
    rw [if_neg h, hf, List.append_nil]
    exact mant_digs _ (ndig_take l)
theorem head_some {x : List Nat} {c : Nat} (h : x.head? = some c) : x = c :: x.drop 1 := by
  cases x with
  | nil => cases h
  | cons d t => simp at h; subst h; rfl
theorem unsign_cases (l : List Nat) : ∃ sg, l = sg ++ unsign l ∧ (sg = [] ∧ isNeg l = false ∨ sg = [43] ∧ isNeg l = false ∨ sg = [45] ∧ isNeg l = true) := by
  cases l with
  | nil => exact ⟨[], rfl, .inl ⟨rfl, rfl⟩⟩
  | cons c t =>
    by_cases h1 : c = 43
    · subst h1; exact ⟨[43], rfl, .inr (.inl ⟨rfl, rfl⟩)⟩
    · by_cases h2 : c = 45
      · subst h2; exact ⟨[45], rfl, .inr (.inr ⟨rfl, rfl⟩)⟩
      · refine ⟨[], ?_, .inl ⟨rfl, ?_⟩⟩
        · show c :: t = [] ++ (if c = 43 ∨ c = 45 then t else c :: t)
          rw [if_neg (by omega)]; rfl
        · unfold isNeg; simp; exact h2
theorem exp_ex {x : List Nat} (h : expB x = true) : Ex x (expV x) := by
  unfold expB at h
  simp only [Bool.and_eq_true, Bool.or_eq_true, beq_iff_eq, decide_eq_true_eq] at h
  obtain ⟨h1, h2, h3, h4⟩ := h
  obtain ⟨sg, hs, hsg⟩ := unsign_cases (x.drop 1)
  have hd : ∀ c ∈ unsign (x.drop 1), isDig c := by
    have := ndig_take (unsign (x.drop 1))
    rwa [h4, List.take_length] at this
  have hx : ∃ c, x = c :: x.drop 1 ∧ (c = 101 ∨ c = 69) := by
    rcases h1 with h1 | h1
    · exact ⟨101, head_some h1, .inl rfl⟩
    · exact ⟨69, head_some h1, .inr rfl⟩
  obtain ⟨c, hx, hc⟩ := hx
  have hne : x.isEmpty = false := by rw [hx]; rfl
  have hv : expV x = (if isNeg (x.drop 1) then -(dnum (unsign (x.drop 1)) : Int) else dnum (unsign (x.drop 1))) := by
    unfold expV
    rw [hne]; rfl
  have key := Ex.some (c := c) (sg := sg) (ds := unsign (x.drop 1)) (neg := isNeg (x.drop 1)) hc hsg (by omega) (by omega) hd
  rw [← hs, ← hx, ← hv] at key
  exact key
/-- A decimal is a decimal word. -/
theorem dec_word {s : ByteArray} {sg body : List Nat} {neg : Bool} (hb : bl s = sg ++ body) (hsg : sg = [] ∧ neg = false ∨ sg = [43] ∧ neg = false ∨ sg = [45] ∧ neg = true) (hs : s.size ≤ 100) (hd : decB body = true) :
    DecW s neg (manL body) (hasDot body) (expV (expL body)) := by
  unfold decB at hd
  simp only [Bool.and_eq_true, Bool.or_eq_true, decide_eq_true_eq] at hd
  obtain ⟨h1, h2⟩ := hd
  have hm := man_mant body
  refine ⟨⟨sg, expL body, by rw [hb, List.append_assoc, ← man_exp], hsg, ?_⟩, hm, ?_, hs⟩
  · rcases h2 with h2 | h2
    · have e : expL body = [] := by simpa using h2
      rw [e]; exact .none
    · exact exp_ex h2
  · by_cases hh : (rf (manL body)).dig = true
    · exact hh
    · exfalso
      have h3 := (rf_ok hm).dig (by simpa using hh)
      unfold mantN at h1
      by_cases hn : 0 < ndig body
      · have hmem : body[0]'(by have := ndig_le body; omega) ∈ body.take (ndig body) := by
          rw [List.mem_take_iff_getElem]
          exact ⟨0, by have := ndig_le body; omega, rfl⟩
        have h4 := ndig_take body _ hmem
        have h5 := h3 (body[0]'(by have := ndig_le body; omega)) (by unfold manL; exact List.mem_append_left _ hmem)
        unfold isDig at h4
        omega
      · have hnf : 0 < ndig (fracL body) := by omega
        have hdot : hasDot body = true := by
          by_cases hh : hasDot body = true
          · exact hh
          · exfalso
            unfold fracL at hnf
            rw [if_neg hh] at hnf
            simp [ndig] at hnf
        have hl := ndig_le (fracL body)
        have hmem : (fracL body)[0]'(by omega) ∈ (fracL body).take (ndig (fracL body)) := by
          rw [List.mem_take_iff_getElem]
          exact ⟨0, by omega, rfl⟩
        have h4 := ndig_take (fracL body) _ hmem
        have h5 := h3 ((fracL body)[0]'(by omega)) (by
          unfold manL
          rw [if_pos hdot]
          exact List.mem_append_right _ (List.mem_cons_of_mem _ hmem))
        unfold isDig at h4
        omega
end Go.Proofs.YtgbldjbkapaclaaDoor.fl
/- The walks of score's digits, sign, decimal. -/
namespace Go.Proofs.YtgbldjbkapaclaaDoor.fl
open Go.ChangeShapes Go.WideShapes Go.ChangeAt Go.RowKit
set_option linter.unusedVariables false
set_option linter.unusedSimpArgs false
theorem ndig_split {l : List Nat} {k : Nat} (hk : k ≤ l.length) (h : ∀ c ∈ l.take k, isDig c) (hn : ∀ c, (l.drop k).head? = some c → ¬ (48 ≤ c ∧ c ≤ 57)) : ndig l = k := by
  have := ndig_app (l.take k) (l.drop k) h hn
  rw [List.take_append_drop, List.length_take] at this
  omega
set_option maxRecDepth 100000 in
set_option maxHeartbeats 1000000 in
theorem digitsC (s : ByteArray) (w : World) (hs : s.size ≤ 1000) :
    Calls Tryd.prog 23 #[.string s] w fun e w' => e = .returned (.int .i64 (ndig (bl s))) ∧ w = w' := by
  have HB := fhid (bl_length s)
  obtain ⟨n, hn⟩ : ∃ n, s.size = n := ⟨_, rfl⟩
  have HN := fhid hn
  have HAT : Hid (∀ k (h : k < n), ∃ h2 : k < s.size, s[k].toNat = (bl s).getD k 0) := fhid fun k h => ⟨by rw [HN.out]; exact h, bl_at s k _⟩
  rw [hn] at hs
  clear hn
  go_enter Tryd.func23, Tryd.ntmps23
  go_wp2_with fail
  go_loop [3] (fun v => ∃ k : Nat, v = .int .i64 k ∧ k ≤ n ∧ Hid (∀ c ∈ (bl s).take k, isDig c)) (fun v => n - (intOf v).toNat)
  case atStart => exact ⟨0, rfl, by omega, fhid (fun c h => by simp at h)⟩
  case round =>
    obtain ⟨k, rfl, hk, hD⟩ := hrel
    by_cases hlt : k < n
    · obtain ⟨h2, hat⟩ := HAT.out k hlt
      obtain ⟨c, hc⟩ : ∃ c, (bl s).getD k 0 = c := ⟨_, rfl⟩
      rw [hc] at hat
      have HC := fhid hc
      have hkn : (k : Int) < (s.size : Int) := by omega
      clear hc
      by_cases hd : 48 ≤ c ∧ c ≤ 57
      · obtain ⟨d1, d2⟩ := hd
        have HNX : Hid (∀ x ∈ (bl s).take (k + 1), isDig x) := fhid (by
          rw [take_succ_getD (by rw [HB.out]; exact h2), HC.out]
          intro x hx
          rcases List.mem_append.1 hx with h | h
          · exact hD.out x h
          · simp only [List.mem_singleton] at h; subst h; exact ⟨d1, d2⟩)
        go_wp2_with fail
        go_round
        case rel => exact ⟨k + 1, by go_num, by omega, HNX⟩
        case measure => simp [intOf]; omega
      · have HR : Hid (ndig (bl s) = k) := fhid (ndig_split (by rw [HB.out]; omega) hD.out (fun x hx => by
          rw [drop_getD (by rw [HB.out]; exact h2), HC.out] at hx
          simp at hx
          subst hx
          exact hd))
        by_cases d1 : 48 ≤ c
        · have d2 : ¬ c ≤ 57 := fun h => hd ⟨d1, h⟩
          clear hd
          go_wp2_with fail
          go_ret
          exact ⟨by rw [HR.out]; rfl, rfl⟩
        · clear hd
          go_wp2_with fail
          go_ret
          exact ⟨by rw [HR.out]; rfl, rfl⟩
    · obtain rfl : k = n := by omega
      have HR : Hid (ndig (bl s) = k) := fhid (ndig_split (by rw [HB.out, HN.out]; exact Nat.le_refl _) hD.out (fun x hx => by
        rw [List.drop_of_length_le (by rw [HB.out, HN.out]; exact Nat.le_refl _)] at hx
        cases hx))
      have hkn : ¬ (k : Int) < (s.size : Int) := by have := HN.out; omega
      go_wp2_with fail
      go_ret
      exact ⟨by rw [HR.out]; rfl, rfl⟩
theorem empty_of {s : ByteArray} (h : s.size = 0) : s.toList = [] := by
  rw [ByteArray.toList_eq]
  have : s.data.size = 0 := h
  exact Array.toList_eq_nil_iff.2 (Array.eq_empty_of_size_eq_zero this)
theorem nonempty_of {s : ByteArray} (h : 0 < s.size) : ¬ s.toList = [] := by
  rw [ByteArray.toList_eq]
  intro hh
  have : s.data.toList.length = s.size := by simp
  rw [hh] at this
  simp at this
  omega
theorem isE_of {s : ByteArray} (h : ¬ s.toList = []) : s.toList.isEmpty = false := by
  cases hh : s.toList with
  | nil => exact absurd hh h
  | cons c t => rfl
theorem bl_zero0 {s : ByteArray} (h : s.size = 0) : bl s = [] := List.length_eq_zero_iff.1 (by rw [bl_length, h])
theorem bl_cons {s : ByteArray} (h : 0 < s.size) : bl s = (bl s).getD 0 0 :: (bl s).drop 1 := by
  have := drop_getD (l := bl s) (k := 0) (by rw [bl_length]; exact h)
  simpa using this
theorem bl_tail (s : ByteArray) : bl (s.extract 1 s.size) = (bl s).drop 1 := by
  rw [bl_extract, List.take_of_length_le]
  rw [List.length_drop, bl_length]; exact Nat.le_refl _
/-- What sign answers. -/
def SiPost (s : ByteArray) (w : World) (e : Ending) (w' : World) : Prop := ∃ t : ByteArray, e = .returned (.tuple #[.string t, .bool (isNeg (bl s))]) ∧ bl t = unsign (bl s) ∧ t.size ≤ s.size ∧ ∃ n, w' = w.drewN n
set_option maxRecDepth 100000 in
set_option maxHeartbeats 1000000 in
theorem signC (s : ByteArray) (w : World) (hs : s.size ≤ 1000) :
    Calls Tryd.prog 11 #[.string s] w (SiPost s w) := by
  by_cases h0 : s.size = 0
  · have he := empty_of h0
    have he2 : s.toList.isEmpty = true := by rw [he]; rfl
    have HB := fhid (bl_zero0 h0)
    clear h0
    go_enter Tryd.func11, Tryd.ntmps11
    go_wp2_with fail
    go_ret2
    exact ⟨s, by rw [HB.out]; rfl, by rw [HB.out]; rfl, Nat.le_refl _, 0, rfl⟩
  · have hlt : 0 < s.size := by omega
    have hlt2 : (0 : Int) < (s.size : Int) := by omega
    have he := nonempty_of hlt
    have he2 := isE_of he
    have hat := bl_at s 0 hlt
    have HB := fhid (bl_cons hlt)
    obtain ⟨c, hc⟩ : ∃ c, (bl s).getD 0 0 = c := ⟨_, rfl⟩
    rw [hc] at hat HB
    clear hc h0
    by_cases h1 : c = 43
    · subst h1
      go_enter Tryd.func11, Tryd.ntmps11
      go_wp2_with fail
      go_quiet (fail)
      go_wp2_with fail
      go_ret2
      exact ⟨_, by rw [HB.out]; rfl, by rw [bl_tail]; conv => rhs; rw [HB.out]
                                        rfl, by simp, _, rfl⟩
    · by_cases h2 : c = 45
      · subst h2
        go_enter Tryd.func11, Tryd.ntmps11
        go_wp2_with fail
        go_quiet (fail)
        go_wp2_with fail
        go_ret2
        exact ⟨_, by rw [HB.out]; rfl, by rw [bl_tail]; conv => rhs; rw [HB.out]
                                          rfl, by simp, _, rfl⟩
      · have g1 : ((c : Int) == 43) = false := by simp; omega
        have g2 : ((c : Int) == 45) = false := by simp; omega
        have HU : Hid (unsign (bl s) = bl s ∧ isNeg (bl s) = false) := fhid (by
          rw [HB.out]
          refine ⟨?_, ?_⟩
          · show (if c = 43 ∨ c = 45 then _ else _) = _
            rw [if_neg (by omega)]
          · unfold isNeg; simp; exact h2)
        clear h1 h2
        go_enter Tryd.func11, Tryd.ntmps11
        go_wp2_with fail
        go_ret2
        exact ⟨s, by rw [HU.out.2]; rfl, HU.out.1.symm, Nat.le_refl _, 0, rfl⟩
end Go.Proofs.YtgbldjbkapaclaaDoor.fl
/- The walk of score's decimal. -/
namespace Go.Proofs.YtgbldjbkapaclaaDoor.fl
open Go.ChangeShapes Go.WideShapes Go.ChangeAt Go.RowKit
set_option linter.unusedVariables false
set_option linter.unusedSimpArgs false
theorem ret_b {a b : Bool} (h : a = b) : Ending.returned (.bool a) = .returned (.bool b) := by rw [h]
theorem hasPre (l : List UInt8) (b : UInt8) : Lib.hasPrefix l [b] = ((l.map UInt8.toNat).head? == some b.toNat) := by
  cases l with
  | nil => rfl
  | cons c t =>
    show (b == c && List.isPrefixOf [] t) = _
    simp only [List.map_cons, List.head?_cons]
    by_cases h : b = c
    · subst h; simp
    · have h2 : ¬ c.toNat = b.toNat := fun e => h (UInt8.toNat_inj.mp e.symm)
      have e1 : (b == c) = false := by simp [h]
      have e2 : (some c.toNat == some b.toNat) = false := by simp [h2]
      rw [e1, e2]; rfl
/-- CutPrefix at one byte. -/
theorem cutOne (s : ByteArray) (b : UInt8) (w : World) :
    Calls Tryd.prog 17 #[.string s, .string ⟨#[b]⟩] w fun e w' => ∃ t : ByteArray, e = .returned (.tuple #[.string t, .bool ((bl s).head? == some b.toNat)]) ∧ bl t = (if (bl s).head? == some b.toNat then (bl s).drop 1 else bl s) ∧ t.size ≤ s.size ∧ w' = w := by
  refine (Tryd.strings_CutPrefix s ⟨#[b]⟩ w).mono ?_
  rintro e w' ⟨rfl, rfl⟩
  have hp := hasPre s.data.toList b
  have ht : bl ⟨(Lib.trimPrefix s.data.toList [b]).toArray⟩ = (if (bl s).head? == some b.toNat then (bl s).drop 1 else bl s) := by
    rw [bl_mk]
    unfold Lib.trimPrefix
    rw [hp]
    show List.map UInt8.toNat (if ((bl s).head? == some b.toNat) = true then _ else _) = _
    by_cases hh : ((bl s).head? == some b.toNat) = true
    · rw [if_pos hh, if_pos hh, List.map_drop]; rfl
    · rw [if_neg hh, if_neg hh]; rfl
  refine ⟨_, ?_, ht, ?_, rfl⟩
  · show Ending.returned (.tuple #[_, .bool (Lib.hasPrefix s.data.toList [b])]) = _
    rw [hp]; rfl
  · rw [← bl_length, ht, ← bl_length s]
    split
    · rw [List.length_drop]; omega
    · exact Nat.le_refl _
/-- What decimal answers. -/
def DePost (s : ByteArray) (w : World) (e : Ending) (w' : World) : Prop := e = .returned (.bool (decB (bl s))) ∧ ∃ n, w' = w.drewN n
theorem decB_nil {L : List Nat} {N : Nat} (hN : mantN L = N) (hE : expL L = []) : decB L = decide (0 < N) := by
  unfold decB
  rw [hN, hE]; simp
theorem decB_exp {L x : List Nat} {N k c : Nat} (hN : mantN L = N) (hE : expL L = c :: x) (hc : c = 101 ∨ c = 69) (hk : ndig (unsign x) = k) : decB L = (decide (0 < N) && decide (1 ≤ k ∧ k ≤ 5 ∧ k = (unsign x).length)) := by
  unfold decB expB
  rw [hN, hE]
  simp only [List.isEmpty_cons, Bool.false_or, List.head?_cons, List.drop_succ_cons, List.drop_zero, hk]
  have : ((some c == some 101) || (some c == some 69)) = true := by rcases hc with rfl | rfl <;> rfl
  rw [this, Bool.true_and]
theorem decB_oth {L x : List Nat} {c : Nat} (hE : expL L = c :: x) (hc : ¬ (c = 101 ∨ c = 69)) : decB L = false := by
  unfold decB expB
  rw [hE]
  simp only [List.isEmpty_cons, Bool.false_or, List.head?_cons]
  have : ((some c == some 101) || (some c == some 69)) = false := by simp; omega
  rw [this]; simp
set_option maxRecDepth 100000 in
set_option maxHeartbeats 2000000 in
theorem decimalC (s : ByteArray) (w : World) (hs : s.size ≤ 1000) :
    Calls Tryd.prog 14 #[.string s] w (DePost s w) := by
  have hnl := ndig_le (bl s)
  rw [bl_length] at hnl
  have c1 := digitsC s w hs
  obtain ⟨n, hn⟩ : ∃ n, ndig (bl s) = n := ⟨_, rfl⟩
  rw [hn] at hnl c1
  have HN := fhid hn
  have hni : (n : Int) ≤ (s.size : Int) := by omega
  have H1 : Hid (bl (s.extract n s.size) = (bl s).drop n) := fhid (by
    rw [bl_extract, List.take_of_length_le]
    rw [List.length_drop, bl_length]; exact Nat.le_refl _)
  have hs1 : (s.extract n s.size).size ≤ 1000 := by simp; omega
  clear hn
  go_enter Tryd.func14, Tryd.ntmps14
  go_wp2_with fail
  with_reducible refine c1.mono ?_
  clear c1
  rintro e w1 ⟨rfl, rfl⟩
  go_wp2_with fail
  obtain ⟨s1, hss⟩ : ∃ s1, s.extract n s.size = s1 := ⟨_, rfl⟩
  rw [hss] at H1 hs1 ⊢
  clear hss
  with_reducible refine (cutOne s1 46 _).mono ?_
  rintro e w2 ⟨r, rfl, hr, hrs, rfl⟩
  have hdot : ((bl s1).head? == some (46 : UInt8).toNat) = hasDot (bl s) := by
    unfold hasDot
    rw [H1.out, HN.out]; rfl
  rw [hdot] at hr ⊢
  have HR := fhid hr
  clear hr hdot
  by_cases hd : hasDot (bl s) = true
  · have HF : Hid (bl r = fracL (bl s)) := fhid (by
      rw [HR.out, if_pos hd, H1.out]
      unfold fracL
      rw [if_pos hd, HN.out])
    have hrl : r.size ≤ 1000 := by omega
    have c2 := digitsC r w2 hrl
    have hkl := ndig_le (bl r)
    rw [bl_length] at hkl
    obtain ⟨k, hk⟩ : ∃ k, ndig (bl r) = k := ⟨_, rfl⟩
    rw [hk] at hkl c2
    have HK := fhid hk
    have hki : (k : Int) ≤ (r.size : Int) := by omega
    have HE2 : Hid (bl (r.extract k r.size) = expL (bl s) ∧ mantN (bl s) = n + k) := fhid (by
      refine ⟨?_, ?_⟩
      · rw [bl_extract, List.take_of_length_le (by rw [List.length_drop, bl_length]; exact Nat.le_refl _)]
        unfold expL
        rw [if_pos hd, ← HF.out, hk]
      · unfold mantN
        rw [HN.out, ← HF.out, hk])
    have hs2 : (r.extract k r.size).size ≤ 1000 := by simp; omega
    rw [hd]
    clear hk hd
    go_wp2_with fail
    with_reducible refine c2.mono ?_
    clear c2
    rintro e w3 ⟨rfl, rfl⟩
    go_upto_region 8 with (fail)
    obtain ⟨s2, hss⟩ : ∃ s2, r.extract k r.size = s2 := ⟨_, rfl⟩
    obtain ⟨N, hNN⟩ : ∃ N, n + k = N := ⟨_, rfl⟩
    have hNi : (n : Int) + (k : Int) = (N : Int) := by omega
    rw [hss] at HE2 hs2 ⊢
    rw [hNN] at HE2
    try rw [hNi]
    clear hss hNN hNi
    by_cases hz : s2.size = 0
    · have he := empty_of hz
      have he2 : s2.toList.isEmpty = true := by rw [he]; rfl
      have HD : Hid (decB (bl s) = decide (0 < N)) := fhid (decB_nil HE2.out.2 (by rw [← HE2.out.1]; exact bl_zero0 hz))
      clear hz
      go_wp2_with fail
      all_goals
        go_ret
        exact ⟨ret_b (by rw [HD.out]; try (first | (simp; done) | (simp; omega))), 0, rfl⟩
    · have hlt : 0 < s2.size := by omega
      have he := nonempty_of hlt
      have he2 := isE_of he
      have hat := bl_at s2 0 hlt
      have hlt2 : (0 : Int) < (s2.size : Int) := by omega
      have HB := fhid (bl_cons hlt)
      obtain ⟨c, hc⟩ : ∃ c, (bl s2).getD 0 0 = c := ⟨_, rfl⟩
      rw [hc] at hat HB
      have HX : Hid (expL (bl s) = c :: (bl s2).drop 1) := fhid (by rw [← HE2.out.1]; exact HB.out)
      clear hc hz
      by_cases hce : c = 101 ∨ c = 69
      · have hs3 : (s2.extract 1 s2.size).size ≤ 1000 := by simp; omega
        have cs := fun W => signC (s2.extract 1 s2.size) W hs3
        have HT : Hid (bl (s2.extract 1 s2.size) = (bl s2).drop 1) := fhid (bl_tail _)
        rcases hce with rfl | rfl
        all_goals
          go_wp2_with fail
          with_reducible refine (cs _).mono ?_
          clear cs
          rintro e w4 ⟨t, rfl, ht, hts, j, rfl⟩
          rw [HT.out] at ht
          have hts2 : t.size ≤ 1000 := by omega
          have c3 := digitsC t (w2.drewN j) hts2
          have hml := ndig_le (bl t)
          rw [bl_length] at hml
          obtain ⟨m, hm⟩ : ∃ m, ndig (bl t) = m := ⟨_, rfl⟩
          rw [hm] at hml c3
          have HD : Hid (decB (bl s) = (decide (0 < N) && decide (1 ≤ m ∧ m ≤ 5 ∧ m = t.size))) := fhid (by
            have := decB_exp (k := m) HE2.out.2 HX.out (by first | exact .inl rfl | exact .inr rfl) (by rw [← ht, hm])
            rwa [← ht, bl_length] at this)
          clear hm ht
          go_wp2_with fail
          with_reducible refine c3.mono ?_
          clear c3
          rintro e w5 ⟨rfl, rfl⟩
          go_wp2_with fail
          all_goals
            go_ret
            exact ⟨ret_b (by rw [HD.out]; try (first | (simp; done) | (simp; omega) | (rw [Bool.eq_iff_iff]; simp; omega))), _, rfl⟩
      · have g1 : ((c : Int) == 101) = false := by simp; omega
        have g2 : ((c : Int) == 69) = false := by simp; omega
        have HD : Hid (decB (bl s) = false) := fhid (decB_oth HX.out hce)
        clear hce
        go_wp2_with fail
        all_goals
          go_ret
          exact ⟨ret_b (by rw [HD.out]; try (first | (simp; done) | (simp; omega))), 0, rfl⟩
  · have hd2 : hasDot (bl s) = false := by simpa using hd
    have HE2 : Hid (bl s1 = expL (bl s) ∧ mantN (bl s) = n) := fhid (by
      refine ⟨?_, ?_⟩
      · unfold expL
        rw [if_neg hd, H1.out, HN.out]
      · unfold mantN fracL
        rw [HN.out, if_neg hd]; rfl)
    rw [hd2]
    clear hd hd2
    go_upto_region 8 with (fail)
    by_cases hz : s1.size = 0
    · have he := empty_of hz
      have he2 : s1.toList.isEmpty = true := by rw [he]; rfl
      have HD : Hid (decB (bl s) = decide (0 < n)) := fhid (decB_nil HE2.out.2 (by rw [← HE2.out.1]; exact bl_zero0 hz))
      clear hz
      go_wp2_with fail
      all_goals
        go_ret
        exact ⟨ret_b (by rw [HD.out]; try (first | (simp; done) | (simp; omega))), 0, rfl⟩
    · have hlt : 0 < s1.size := by omega
      have he := nonempty_of hlt
      have he2 := isE_of he
      have hat := bl_at s1 0 hlt
      have hlt2 : (0 : Int) < (s1.size : Int) := by omega
      have HB := fhid (bl_cons hlt)
      obtain ⟨c, hc⟩ : ∃ c, (bl s1).getD 0 0 = c := ⟨_, rfl⟩
      rw [hc] at hat HB
      have HX : Hid (expL (bl s) = c :: (bl s1).drop 1) := fhid (by rw [← HE2.out.1]; exact HB.out)
      clear hc hz
      by_cases hce : c = 101 ∨ c = 69
      · have hs3 : (s1.extract 1 s1.size).size ≤ 1000 := by simp; omega
        have cs := fun W => signC (s1.extract 1 s1.size) W hs3
        have HT : Hid (bl (s1.extract 1 s1.size) = (bl s1).drop 1) := fhid (bl_tail _)
        rcases hce with rfl | rfl
        all_goals
          go_wp2_with fail
          with_reducible refine (cs _).mono ?_
          clear cs
          rintro e w4 ⟨t, rfl, ht, hts, j, rfl⟩
          rw [HT.out] at ht
          have hts2 : t.size ≤ 1000 := by omega
          have c3 := digitsC t (w2.drewN j) hts2
          have hml := ndig_le (bl t)
          rw [bl_length] at hml
          obtain ⟨m, hm⟩ : ∃ m, ndig (bl t) = m := ⟨_, rfl⟩
          rw [hm] at hml c3
          have HD : Hid (decB (bl s) = (decide (0 < n) && decide (1 ≤ m ∧ m ≤ 5 ∧ m = t.size))) := fhid (by
            have := decB_exp (k := m) HE2.out.2 HX.out (by first | exact .inl rfl | exact .inr rfl) (by rw [← ht, hm])
            rwa [← ht, bl_length] at this)
          clear hm ht
          go_wp2_with fail
          with_reducible refine c3.mono ?_
          clear c3
          rintro e w5 ⟨rfl, rfl⟩
          go_wp2_with fail
          all_goals
            go_ret
            exact ⟨ret_b (by rw [HD.out]; try (first | (simp; done) | (simp; omega) | (rw [Bool.eq_iff_iff]; simp; omega))), _, rfl⟩
      · have g1 : ((c : Int) == 101) = false := by simp; omega
        have g2 : ((c : Int) == 69) = false := by simp; omega
        have HD : Hid (decB (bl s) = false) := fhid (decB_oth HX.out hce)
        clear hce
        go_wp2_with fail
        all_goals
          go_ret
          exact ⟨ret_b (by rw [HD.out]; try (first | (simp; done) | (simp; omega))), 0, rfl⟩
end Go.Proofs.YtgbldjbkapaclaaDoor.fl
/- The walk of score's Parse at words of ASCII. -/
namespace Go.Proofs.YtgbldjbkapaclaaDoor.fl
open Go.ChangeShapes Go.WideShapes Go.ChangeAt Go.RowKit
set_option linter.unusedVariables false
set_option linter.unusedSimpArgs false
/-- All bytes are ASCII. -/
def Asc (l : List Nat) : Prop := ∀ c ∈ l, c < 128
/-- A letter made small. -/
def low1 (c : Nat) : Nat := if 65 ≤ c ∧ c ≤ 90 then c + 32 else c
/-- Is it this word, in whichever letters? -/
def foldIs (l p : List Nat) : Bool := l.map low1 == p
/-- Is it an infinity's name? -/
def infB (l : List Nat) : Bool := foldIs l [105, 110, 102] || foldIs l [105, 110, 102, 105, 110, 105, 116, 121]
/-- What Parse answers at a word that is no decimal, and at an infinity's. -/
def ErPost (w : World) (e : Ending) (w' : World) : Prop := e = .returned (.tuple #[.float .f64 0, .int .i64 20]) ∧ Below w.heap.size w w'
def IfPost (neg : Bool) (w : World) (e : Ending) (w' : World) : Prop := e = .returned (.tuple #[.float .f64 (sgw neg + infR), .int .i64 0]) ∧ Below w.heap.size w w'
/-- .. and at a decimal. -/
def DcPost (neg : Bool) (m : List Nat) (E : Int) (w : World) (e : Ending) (w' : World) : Prop :=
  ∃ u, Near (valN (dnum m) (wq m E)) (valD (wq m E)) u ∧ (u < infR ∧ e = .returned (.tuple #[.float .f64 (sgw neg + u), .int .i64 0]) ∨ infR ≤ u ∧ e = .returned (.tuple #[.float .f64 0, .int .i64 20])) ∧ Below w.heap.size w w'
theorem asc_tail {l : List Nat} (h : Asc l) : Asc (unsign l) := by
  obtain ⟨sg, hs, _⟩ := unsign_cases l
  intro c hc
  exact h c (by rw [hs]; exact List.mem_append_right _ hc)
theorem fold_is : ∀ (l p : List UInt8), (∀ c ∈ p, 97 ≤ c.toNat ∧ c.toNat ≤ 122) → Lib.equalFold l p = foldIs (l.map UInt8.toNat) (p.map UInt8.toNat)
  | [], [], _ => rfl
  | [], _ :: _, _ => rfl
  | _ :: _, [], _ => rfl
  | x :: s, y :: t, h => by
    have hy := h y (by simp)
    have ih := fold_is s t (fun c hc => h c (by simp [hc]))
    have e : Lib.foldEq x y = (low1 x.toNat == y.toNat) := by
      unfold Lib.foldEq low1
      by_cases h1 : 65 ≤ x.toNat ∧ x.toNat ≤ 90
      · rw [if_pos h1, Bool.eq_iff_iff]; simp; omega
      · rw [if_neg h1, Bool.eq_iff_iff]; simp; omega
    unfold foldIs at ih ⊢
    unfold Lib.equalFold
    rw [e, ih]
    simp
theorem foldC (t p : ByteArray) (w : World) (ht : t.size ≤ 1000) (ha : Asc (bl t)) (hp : ∀ c ∈ p.data.toList, 97 ≤ c.toNat ∧ c.toNat ≤ 122) :
    Calls Tryd.prog 12 #[.string t, .string p] w fun e w' => e = .returned (.bool (foldIs (bl t) (bl p))) ∧ w' = w := by
  refine (Tryd.strings_EqualFold t p w (by omega) (fun j b hb => ?_) (fun j b hb => ?_)).mono ?_
  · exact ha b.toNat (by unfold bl; exact List.mem_map_of_mem (List.mem_of_getElem? hb))
  · have := hp b (List.mem_of_getElem? hb); omega
  · rintro e w' ⟨rfl, rfl⟩
    exact ⟨by rw [fold_is _ _ hp]; rfl, rfl⟩
theorem infP (w : World) : Calls Tryd.prog 13 #[.int .i64 1] w fun e w' => e = .returned (.float .f64 (sgw false + infR)) ∧ w = w' := by
  have hf := f64from
  go_enter Tryd.func13, Tryd.ntmps13
  go_wp2_with fail
  go_ret
  exact ⟨rfl, rfl⟩
theorem infM (w : World) : Calls Tryd.prog 13 #[.int .i64 (-1)] w fun e w' => e = .returned (.float .f64 (sgw true + infR)) ∧ w = w' := by
  have hf := f64from
  go_enter Tryd.func13, Tryd.ntmps13
  go_wp2_with fail
  go_ret
  exact ⟨rfl, rfl⟩
def inf3 : ByteArray := ⟨#[105, 110, 102]⟩
def inf8 : ByteArray := ⟨#[105, 110, 102, 105, 110, 105, 116, 121]⟩
theorem inf3_ok : ∀ c ∈ inf3.data.toList, 97 ≤ c.toNat ∧ c.toNat ≤ 122 := by decide
theorem inf8_ok : ∀ c ∈ inf8.data.toList, 97 ≤ c.toNat ∧ c.toNat ≤ 122 := by decide
set_option maxRecDepth 100000 in
set_option maxHeartbeats 1000000 in
theorem parseLong (s : ByteArray) (w : World) (h : 64 < s.size) (hs : s.size ≤ 100000) : Calls Tryd.prog 5 #[.string s] w (ErPost w) := by
  go_enter Tryd.func5, Tryd.ntmps5
  go_wp2_with fail
  go_ret2
  exact ⟨rfl, Below.refl _ _⟩
set_option maxRecDepth 100000 in
set_option maxHeartbeats 2000000 in
theorem parseInf (s : ByteArray) (w : World) (hs : s.size ≤ 64) (ha : Asc (bl s)) (hi : infB (unsign (bl s)) = true) :
    Calls Tryd.prog 5 #[.string s] w (IfPost (isNeg (bl s)) w) := by
  have HA := fhid (asc_tail ha)
  unfold infB at hi
  rw [Bool.or_eq_true] at hi
  have HI := fhid hi
  have cs := signC s w (by omega)
  have cf3 : Hid (∀ t : ByteArray, t.size ≤ 1000 → Asc (bl t) → ∀ W, Calls Tryd.prog 12 #[.string t, .string ⟨#[105, 110, 102]⟩] W fun e w' => e = .returned (.bool (foldIs (bl t) [105, 110, 102])) ∧ w' = W) := fhid (fun t h1 h2 W => foldC t inf3 W h1 h2 inf3_ok)
  have cf8 : Hid (∀ t : ByteArray, t.size ≤ 1000 → Asc (bl t) → ∀ W, Calls Tryd.prog 12 #[.string t, .string ⟨#[105, 110, 102, 105, 110, 105, 116, 121]⟩] W fun e w' => e = .returned (.bool (foldIs (bl t) [105, 110, 102, 105, 110, 105, 116, 121])) ∧ w' = W) := fhid (fun t h1 h2 W => foldC t inf8 W h1 h2 inf8_ok)
  clear ha hi
  obtain ⟨b, hb⟩ : ∃ b, isNeg (bl s) = b := ⟨_, rfl⟩
  unfold SiPost at cs
  rw [hb] at cs ⊢
  clear hb
  go_enter Tryd.func5, Tryd.ntmps5
  go_wp2_with fail
  with_reducible refine cs.mono ?_
  clear cs
  rintro e w1 ⟨t, rfl, ht, hts, n, rfl⟩
  have ht2 : t.size ≤ 1000 := by omega
  have HT := fhid ht
  clear ht
  go_wp2_with fail
  with_reducible refine (cf3.out t ht2 (by rw [HT.out]; exact HA.out) _).mono ?_
  rintro e w2 ⟨rfl, rfl⟩
  rw [HT.out]
  by_cases h3 : foldIs (unsign (bl s)) [105, 110, 102] = true
  · rw [h3]
    cases b
    · go_wp2_with fail
      refine (infP _).mono ?_
      rintro e w3 ⟨rfl, rfl⟩
      go_wp2_with fail
      go_ret2
      exact ⟨rfl, below_drewN w n⟩
    · go_wp2_with fail
      refine (infM _).mono ?_
      rintro e w3 ⟨rfl, rfl⟩
      go_wp2_with fail
      go_ret2
      exact ⟨rfl, below_drewN w n⟩
  · have h8 : foldIs (unsign (bl s)) [105, 110, 102, 105, 110, 105, 116, 121] = true := by
      rcases HI.out with h | h
      · exact absurd h h3
      · exact h
    have h3f : foldIs (unsign (bl s)) [105, 110, 102] = false := by simpa using h3
    rw [h3f]
    have H8 := fhid h8
    clear h8 h3 h3f
    go_wp2_with fail
    with_reducible refine (cf8.out t ht2 (by rw [HT.out]; exact HA.out) _).mono ?_
    rintro e w4 ⟨rfl, rfl⟩
    rw [HT.out, H8.out]
    cases b
    · go_wp2_with fail
      refine (infP _).mono ?_
      rintro e w3 ⟨rfl, rfl⟩
      go_wp2_with fail
      go_ret2
      exact ⟨rfl, below_drewN w n⟩
    · go_wp2_with fail
      refine (infM _).mono ?_
      rintro e w3 ⟨rfl, rfl⟩
      go_wp2_with fail
      go_ret2
      exact ⟨rfl, below_drewN w n⟩
set_option maxRecDepth 100000 in
set_option maxHeartbeats 2000000 in
theorem parseNo (s : ByteArray) (w : World) (hs : s.size ≤ 64) (ha : Asc (bl s)) (hi : infB (unsign (bl s)) = false) (hd : decB (unsign (bl s)) = false) :
    Calls Tryd.prog 5 #[.string s] w (ErPost w) := by
  have HA := fhid (asc_tail ha)
  unfold infB at hi
  rw [Bool.or_eq_false_iff] at hi
  have HI := fhid hi
  have HD := fhid hd
  have cs := signC s w (by omega)
  have cf3 : Hid (∀ t : ByteArray, t.size ≤ 1000 → Asc (bl t) → ∀ W, Calls Tryd.prog 12 #[.string t, .string ⟨#[105, 110, 102]⟩] W fun e w' => e = .returned (.bool (foldIs (bl t) [105, 110, 102])) ∧ w' = W) := fhid (fun t h1 h2 W => foldC t inf3 W h1 h2 inf3_ok)
  have cf8 : Hid (∀ t : ByteArray, t.size ≤ 1000 → Asc (bl t) → ∀ W, Calls Tryd.prog 12 #[.string t, .string ⟨#[105, 110, 102, 105, 110, 105, 116, 121]⟩] W fun e w' => e = .returned (.bool (foldIs (bl t) [105, 110, 102, 105, 110, 105, 116, 121])) ∧ w' = W) := fhid (fun t h1 h2 W => foldC t inf8 W h1 h2 inf8_ok)
  have cd : Hid (∀ (t : ByteArray) W, t.size ≤ 1000 → Calls Tryd.prog 14 #[.string t] W (DePost t W)) := fhid (fun t W h => decimalC t W h)
  clear ha hi hd
  go_enter Tryd.func5, Tryd.ntmps5
  go_wp2_with fail
  with_reducible refine cs.mono ?_
  clear cs
  rintro e w1 ⟨t, rfl, ht, hts, n, rfl⟩
  have ht2 : t.size ≤ 1000 := by omega
  have HT := fhid ht
  obtain ⟨b, hb⟩ : ∃ b, isNeg (bl s) = b := ⟨_, rfl⟩
  rw [hb]
  clear ht hb
  go_wp2_with fail
  with_reducible refine (cf3.out t ht2 (by rw [HT.out]; exact HA.out) _).mono ?_
  rintro e w2 ⟨rfl, rfl⟩
  rw [HT.out, HI.out.1]
  go_wp2_with fail
  with_reducible refine (cf8.out t ht2 (by rw [HT.out]; exact HA.out) _).mono ?_
  rintro e w4 ⟨rfl, rfl⟩
  rw [HT.out, HI.out.2]
  go_wp2_with fail
  with_reducible refine (cd.out t _ ht2).mono ?_
  rintro e w5 ⟨rfl, j, rfl⟩
  rw [HT.out, HD.out]
  go_wp2_with fail
  go_ret2
  exact ⟨rfl, below_drewN w (n + j)⟩
set_option maxRecDepth 100000 in
set_option maxHeartbeats 2000000 in
theorem parseDecAt (s : ByteArray) (w : World) (hf : FO w) (hs : s.size ≤ 64) (ha : Asc (bl s)) (hi : infB (unsign (bl s)) = false) (hd : decB (unsign (bl s)) = true)
    (hA : ∀ n, Calls Tryd.prog 45 #[.string s] (w.drewN n) (AtofPost (isNeg (bl s)) (manL (unsign (bl s))) (expV (expL (unsign (bl s)))) s.size (w.drewN n))) :
    Calls Tryd.prog 5 #[.string s] w (DcPost (isNeg (bl s)) (manL (unsign (bl s))) (expV (expL (unsign (bl s)))) w) := by
  have HA := fhid (asc_tail ha)
  unfold infB at hi
  rw [Bool.or_eq_false_iff] at hi
  have HI := fhid hi
  have HD := fhid hd
  have HF := fhid hf
  have cs := signC s w (by omega)
  have cf3 : Hid (∀ t : ByteArray, t.size ≤ 1000 → Asc (bl t) → ∀ W, Calls Tryd.prog 12 #[.string t, .string ⟨#[105, 110, 102]⟩] W fun e w' => e = .returned (.bool (foldIs (bl t) [105, 110, 102])) ∧ w' = W) := fhid (fun t h1 h2 W => foldC t inf3 W h1 h2 inf3_ok)
  have cf8 : Hid (∀ t : ByteArray, t.size ≤ 1000 → Asc (bl t) → ∀ W, Calls Tryd.prog 12 #[.string t, .string ⟨#[105, 110, 102, 105, 110, 105, 116, 121]⟩] W fun e w' => e = .returned (.bool (foldIs (bl t) [105, 110, 102, 105, 110, 105, 116, 121])) ∧ w' = W) := fhid (fun t h1 h2 W => foldC t inf8 W h1 h2 inf8_ok)
  have cd : Hid (∀ (t : ByteArray) W, t.size ≤ 1000 → Calls Tryd.prog 14 #[.string t] W (DePost t W)) := fhid (fun t W h => decimalC t W h)
  have cp : Hid (∀ n, Calls Tryd.prog 15 #[.string s, .int .i64 64] (w.drewN n) (PfPost (isNeg (bl s)) (manL (unsign (bl s))) (expV (expL (unsign (bl s)))) (w.drewN n))) := fhid (fun n => parseFloatAt s _ _ _ _ (hf.drewN n) (by omega) (hA n))
  obtain ⟨m, hm⟩ : ∃ m, manL (unsign (bl s)) = m := ⟨_, rfl⟩
  obtain ⟨E, hE⟩ : ∃ m, expV (expL (unsign (bl s))) = m := ⟨_, rfl⟩
  rw [hm, hE] at cp ⊢
  clear ha hi hd hf hA hm hE
  obtain ⟨b, hb⟩ : ∃ b, isNeg (bl s) = b := ⟨_, rfl⟩
  unfold SiPost at cs
  rw [hb] at cp cs ⊢
  clear hb
  go_enter Tryd.func5, Tryd.ntmps5
  go_wp2_with fail
  with_reducible refine cs.mono ?_
  clear cs
  rintro e w1 ⟨t, rfl, ht, hts, n, rfl⟩
  have ht2 : t.size ≤ 1000 := by omega
  have HT := fhid ht
  clear ht
  go_wp2_with fail
  with_reducible refine (cf3.out t ht2 (by rw [HT.out]; exact HA.out) _).mono ?_
  rintro e w2 ⟨rfl, rfl⟩
  rw [HT.out, HI.out.1]
  go_wp2_with fail
  with_reducible refine (cf8.out t ht2 (by rw [HT.out]; exact HA.out) _).mono ?_
  rintro e w4 ⟨rfl, rfl⟩
  rw [HT.out, HI.out.2]
  go_wp2_with fail
  with_reducible refine (cd.out t _ ht2).mono ?_
  rintro e w5 ⟨rfl, j, rfl⟩
  rw [HT.out, HD.out]
  have HB : Hid (Below w.heap.size w (w.drewN (n + j))) := fhid (below_drewN w (n + j))
  go_wp2_with fail
  with_reducible refine (cp.out (n + j)).mono ?_
  rintro e w6 ⟨u, hu, hr, hb6⟩
  have HU := fhid hu
  have B6 := fhid (HB.out.trans (hb6.mono HB.out.size))
  clear hu hb6
  rcases hr with ⟨hi, rfl⟩ | ⟨hi, q, rfl⟩
  · have HI2 := fhid hi
    clear hi
    go_wp2_with fail
    go_ret2
    exact ⟨u, HU.out, .inl ⟨HI2.out, rfl⟩, B6.out⟩
  · have HI2 := fhid hi
    clear hi
    go_wp2_with fail
    go_ret2
    exact ⟨u, HU.out, .inr ⟨HI2.out, rfl⟩, B6.out⟩
end Go.Proofs.YtgbldjbkapaclaaDoor.fl
/- The words that Print writes are decimals, and what they mean. Plain. -/
namespace Go.Proofs.YtgbldjbkapaclaaDoor.fl
set_option linter.unusedVariables false
set_option linter.unusedSimpArgs false
/-- What stands behind the digits begins with no digit. -/
def NoDig (x : List Nat) : Prop := ∀ c, x.head? = some c → ¬ (48 ≤ c ∧ c ≤ 57)
theorem nodig_nil : NoDig [] := fun c h => by cases h
theorem nodig_cons {c : Nat} {t : List Nat} (h : ¬ (48 ≤ c ∧ c ≤ 57)) : NoDig (c :: t) := fun d hd => by simp at hd; subst hd; exact h
/-- Digits, no point. -/
theorem form_a {a x : List Nat} (ha : ∀ c ∈ a, isDig c) (hx : NoDig x) (hd : x.head? ≠ some 46) : hasDot (a ++ x) = false ∧ fracL (a ++ x) = [] ∧ expL (a ++ x) = x ∧ mantN (a ++ x) = a.length ∧ manL (a ++ x) = a := by
  have hn := ndig_app a x ha hx
  have hdot : hasDot (a ++ x) = false := by
    unfold hasDot
    rw [hn, List.drop_left]
    simpa using hd
  have hf : fracL (a ++ x) = [] := by
    unfold fracL; rw [hdot]; rfl
  refine ⟨hdot, hf, ?_, ?_, ?_⟩
  · unfold expL; rw [hdot, hn]; simp
  · unfold mantN; rw [hf, hn]; rfl
  · unfold manL; rw [hdot, hn]; simp
/-- Digits, a point, digits. -/
theorem form_b {a c x : List Nat} (ha : ∀ z ∈ a, isDig z) (hc : ∀ z ∈ c, isDig z) (hx : NoDig x) : hasDot (a ++ 46 :: (c ++ x)) = true ∧ ndig (fracL (a ++ 46 :: (c ++ x))) = c.length ∧ expL (a ++ 46 :: (c ++ x)) = x ∧ mantN (a ++ 46 :: (c ++ x)) = a.length + c.length ∧ manL (a ++ 46 :: (c ++ x)) = a ++ 46 :: c := by
  have hn := ndig_app a (46 :: (c ++ x)) ha (nodig_cons (by omega))
  have hdot : hasDot (a ++ 46 :: (c ++ x)) = true := by
    unfold hasDot
    rw [hn, List.drop_left]; rfl
  have hf : fracL (a ++ 46 :: (c ++ x)) = c ++ x := by
    unfold fracL
    rw [if_pos hdot, hn, List.drop_left]; rfl
  have hnf := ndig_app c x hc hx
  refine ⟨hdot, by rw [hf, hnf], ?_, ?_, ?_⟩
  · unfold expL; rw [if_pos hdot, hf, hnf, List.drop_left]
  · unfold mantN; rw [hf, hn, hnf]
  · unfold manL; rw [if_pos hdot, hf, hn, hnf, List.take_left, List.take_left]
end Go.Proofs.YtgbldjbkapaclaaDoor.fl
/- What the words of Print mean: each its float, and no other. Plain. -/
namespace Go.Proofs.YtgbldjbkapaclaaDoor.fl
set_option linter.unusedVariables false
set_option linter.unusedSimpArgs false
end Go.Proofs.YtgbldjbkapaclaaDoor.fl
/- The walks of the laws' alike and wakes; Parse of a word of Print. -/
namespace Go.Proofs.YtgbldjbkapaclaaDoor.fl
open Go.ChangeShapes Go.WideShapes Go.ChangeAt Go.RowKit
set_option linter.unusedVariables false
set_option linter.unusedSimpArgs false
/-- No number. -/
def nanB (x : Nat) : Bool := decide (infR < x % 9223372036854775808)
def alikeB (a b : Nat) : Bool := if nanB a || nanB b then nanB a && nanB b else a == b
theorem split_word {x : Nat} (hx : x < 18446744073709551616) : ∃ s u, u < 9223372036854775808 ∧ x = sgw s + u := by
  by_cases h : 9223372036854775808 ≤ x
  · exact ⟨true, x - 9223372036854775808, by omega, by show x = 9223372036854775808 + _; omega⟩
  · exact ⟨false, x, by omega, by show x = 0 + _; omega⟩
theorem ord_nanB {x : Nat} (hx : x < 18446744073709551616) : FloatKind.f64.format.order x x = if nanB x then none else some .eq := by
  obtain ⟨s, u, hu, rfl⟩ := split_word hx
  unfold nanB
  rw [sgw_mod s u hu]
  by_cases h : infR < u
  · rw [decide_eq_true h]
    exact ord_nan s u _ h hu
  · rw [decide_eq_false h]
    exact ord_self s u (by omega)
set_option maxHeartbeats 1000000 in
theorem alikeC (a b : Nat) (w : World) (ha : a < 18446744073709551616) (hb : b < 18446744073709551616) :
    Calls Tryd.prog 6 #[.float .f64 a, .float .f64 b] w fun e w' => e = .returned (.bool (alikeB a b)) ∧ w = w' := by
  have h1 := ord_nanB ha
  have h2 := ord_nanB hb
  have hfb := f64bits
  unfold alikeB
  obtain ⟨p, hp⟩ : ∃ p, nanB a = p := ⟨_, rfl⟩
  obtain ⟨q, hq⟩ : ∃ p, nanB b = p := ⟨_, rfl⟩
  rw [hp] at h1 ⊢
  rw [hq] at h2 ⊢
  clear hp hq ha hb
  cases p
  · cases q
    · rw [if_neg (by decide)] at h1
      rw [if_neg (by decide)] at h2
      go_enter Tryd.func6, Tryd.ntmps6
      go_wp2_with fail
      go_ret
      exact ⟨ret_b (by rw [Bool.eq_iff_iff]; simp; omega), rfl⟩
    · rw [if_neg (by decide)] at h1
      rw [if_pos rfl] at h2
      go_enter Tryd.func6, Tryd.ntmps6
      go_wp2_with fail
      go_ret
      exact ⟨ret_b (by simp), rfl⟩
  · cases q
    · rw [if_pos rfl] at h1
      rw [if_neg (by decide)] at h2
      go_enter Tryd.func6, Tryd.ntmps6
      go_wp2_with fail
      go_ret
      exact ⟨ret_b (by simp), rfl⟩
    · rw [if_pos rfl] at h1
      rw [if_pos rfl] at h2
      go_enter Tryd.func6, Tryd.ntmps6
      go_wp2_with fail
      go_ret
      exact ⟨ret_b (by simp), rfl⟩
end Go.Proofs.YtgbldjbkapaclaaDoor.fl
/- The walk of the law ScoreBack. -/
namespace Go.Proofs.YtgbldjbkapaclaaDoor.fl
open Go.ChangeShapes Go.WideShapes Go.ChangeAt Go.RowKit
set_option linter.unusedVariables false
set_option linter.unusedSimpArgs false
theorem alike_self (x : Nat) (h : nanB x = false) : alikeB x x = true := by
  unfold alikeB
  rw [h]; simp
end Go.Proofs.YtgbldjbkapaclaaDoor.fl
