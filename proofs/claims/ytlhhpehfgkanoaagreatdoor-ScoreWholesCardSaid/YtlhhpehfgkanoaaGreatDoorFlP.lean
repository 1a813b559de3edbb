/- The walk of the law ScoreBack. -/
import Derived.Test.YtlhhpehfgkanoaaGreatDoorFlF
import Derived.Test.YtlhhpehfgkanoaaGreatDoorFlG
/- Words of scores: what is a decimal, its mantissa and its power. Plain. -/
namespace Go.Proofs.YtlhhpehfgkanoaaGreatDoor.fl
set_option linter.unusedVariables false
set_option linter.unusedSimpArgs false
/-- How many digits a text begins with. -/
def ndig : List Nat → Nat
  | [] => 0
  | c :: t => if 48 ≤ c ∧ c ≤ 57 then ndig t + 1 else 0
theorem ndig_le : ∀ l : List Nat, ndig l ≤ l.length
  | [] => Nat.le_refl _
  | c :: t => by
    unfold ndig
    split
    · have := ndig_le t; simp; omega
    · simp
theorem ndig_take : ∀ l : List Nat, ∀ c ∈ l.take (ndig l), isDig c
  | [], c, h => by simp [ndig] at h
  | d :: t, c, h => by
    unfold ndig at h
    split at h
    · rename_i hd
      rw [List.take_succ_cons] at h
      rcases List.mem_cons.1 h with e | e
      · subst e; exact hd
      · exact ndig_take t c e
    · simp at h
theorem ndig_app : ∀ (a b : List Nat), (∀ c ∈ a, isDig c) → (∀ c, b.head? = some c → ¬ (48 ≤ c ∧ c ≤ 57)) → ndig (a ++ b) = a.length
  | [], b, _, hb => by
    cases b with
    | nil => rfl
    | cons c t =>
      rw [List.nil_append]
      unfold ndig
      rw [if_neg (hb c rfl)]; rfl
  | c :: t, b, ha, hb => by
    have h1 := ndig_app t b (fun x hx => ha x (by simp [hx])) hb
    have hc := ha c (by simp)
    rw [List.cons_append]
    unfold ndig
    rw [if_pos (show 48 ≤ c ∧ c ≤ 57 from hc), h1]; rfl
theorem ndig_next {l : List Nat} {c : Nat} (h : (l.drop (ndig l)).head? = some c) : ¬ (48 ≤ c ∧ c ≤ 57) := by
  induction l with
  | nil => simp at h
  | cons d t ih =>
    unfold ndig at h
    split at h
    · exact ih (by simpa using h)
    · rename_i hd
      simp at h
      subst h
      exact hd
/-- Without the sign ahead. -/
def unsign : List Nat → List Nat
  | c :: t => if c = 43 ∨ c = 45 then t else c :: t
  | [] => []
def isNeg (l : List Nat) : Bool := l.head? == some 45
/-- Behind the first digits: is there a point? -/
def hasDot (l : List Nat) : Bool := (l.drop (ndig l)).head? == some 46
def fracL (l : List Nat) : List Nat := if hasDot l then (l.drop (ndig l)).drop 1 else []
def mantN (l : List Nat) : Nat := ndig l + ndig (fracL l)
def expL (l : List Nat) : List Nat := if hasDot l then (fracL l).drop (ndig (fracL l)) else l.drop (ndig l)
/-- A power of ten of at most five digits. -/
def expB (x : List Nat) : Bool :=
  (x.head? == some 101 || x.head? == some 69) && decide (1 ≤ ndig (unsign (x.drop 1)) ∧ ndig (unsign (x.drop 1)) ≤ 5 ∧ ndig (unsign (x.drop 1)) = (unsign (x.drop 1)).length)
/-- Is it a decimal? -/
def decB (l : List Nat) : Bool := decide (0 < mantN l) && ((expL l).isEmpty || expB (expL l))
/-- Its mantissa. -/
def manL (l : List Nat) : List Nat := l.take (ndig l) ++ (if hasDot l then 46 :: (fracL l).take (ndig (fracL l)) else [])
def expV (x : List Nat) : Int := if x.isEmpty then 0 else (if isNeg (x.drop 1) then -(dnum (unsign (x.drop 1)) : Int) else dnum (unsign (x.drop 1)))
theorem man_exp (l : List Nat) : l = manL l ++ expL l := by
  unfold manL expL
  by_cases h : hasDot l = true
  · rw [if_pos h, if_pos h, List.append_assoc, List.cons_append, List.take_append_drop]
    have h1 : (l.drop (ndig l)).head? = some 46 := by simpa [hasDot] using h
    have h2 : l.drop (ndig l) = 46 :: fracL l := by
      unfold fracL
      rw [if_pos h]
      cases hc : l.drop (ndig l) with
      | nil => rw [hc] at h1; cases h1
      | cons c t => rw [hc] at h1; simp at h1; rw [h1]; rfl
    rw [← h2, List.take_append_drop]
  · rw [if_neg h, if_neg h, List.append_nil, List.take_append_drop]
theorem man_mant (l : List Nat) : Mant (manL l) (hasDot l) := by
  unfold manL
  by_cases h : hasDot l = true
  · rw [if_pos h, h]
    have key : ∀ (b : List Nat), (∀ c ∈ b, isDig c) → ∀ m, Mant m true → Mant (m ++ b) true := by
      intro b
      induction b with
      | nil => intro _ m hm; simpa using hm
      | cons c t ih =>
        intro hb m hm
        have := ih (fun x hx => hb x (by simp [hx])) (m ++ [c]) (.dig hm (hb c (by simp)))
        simpa using this
    have := key _ (ndig_take (fracL l)) (l.take (ndig l) ++ [46]) (.dot (mant_digs _ (ndig_take l)))
    simpa using this
  · have hf : hasDot l = false := by simpa using h
    rw [if_neg h, hf, List.append_nil]
    exact mant_digs _ (ndig_take l)
theorem man_dnum (l : List Nat) : dnum (manL l) = dnum (l.take (ndig l) ++ (fracL l).take (ndig (fracL l))) := by
  unfold manL
  by_cases h : hasDot l = true
  · rw [if_pos h]
    have e : ∀ a b : List Nat, dnum (a ++ 46 :: b) = dnum (a ++ b) := fun a b => by
      unfold dnum
      rw [List.foldl_append, List.foldl_append, List.foldl_cons, if_pos rfl]
    exact e _ _
  · rw [if_neg h]
    unfold fracL
    rw [if_neg h]; simp
theorem dfrac_app (a b : List Nat) (hb : ∀ c ∈ b, isDig c) : dfrac (a ++ 46 :: b) = (b.length, true) := by
  have key : ∀ (b : List Nat) (n : Nat), (∀ c ∈ b, isDig c) → b.foldl (fun (a : Nat × Bool) c => if c = 46 then (0, true) else if a.2 then (a.1 + 1, true) else a) (n, true) = (n + b.length, true) := by
    intro b
    induction b with
    | nil => intro n _; rfl
    | cons c t ih =>
      intro n h
      have hc := h c (by simp)
      unfold isDig at hc
      rw [List.foldl_cons, if_neg (by omega)]
      simp only [if_true]
      rw [ih (n + 1) (fun x hx => h x (by simp [hx]))]
      simp; omega
  unfold dfrac
  rw [List.foldl_append, List.foldl_cons, if_pos rfl, key b 0 hb]
  simp
theorem man_frac (l : List Nat) : (dfrac (manL l)).1 = ndig (fracL l) := by
  unfold manL
  by_cases h : hasDot l = true
  · rw [if_pos h, dfrac_app _ _ (ndig_take _)]
    simp only [List.length_take]
    have := ndig_le (fracL l); omega
  · rw [if_neg h, List.append_nil]
    have h1 := (rf_ok (mant_digs _ (ndig_take l))).frac0 rfl
    rw [h1]
    unfold fracL
    rw [if_neg h]; rfl
theorem head_some {x : List Nat} {c : Nat} (h : x.head? = some c) : x = c :: x.drop 1 := by
  cases x with
  | nil => cases h
  | cons d t => simp at h; subst h; rfl
theorem unsign_cases (l : List Nat) : ∃ sg, l = sg ++ unsign l ∧ (sg = [] ∧ isNeg l = false ∨ sg = [43] ∧ isNeg l = false ∨ sg = [45] ∧ isNeg l = true) := by
  cases l with
  | nil => exact ⟨[], rfl, .inl ⟨rfl, rfl⟩⟩
  | cons c t =>
    by_cases h1 : c = 43
    · subst h1; exact ⟨[43], rfl, .inr (.inl ⟨rfl, rfl⟩)⟩
    · by_cases h2 : c = 45
      · subst h2; exact ⟨[45], rfl, .inr (.inr ⟨rfl, rfl⟩)⟩
      · refine ⟨[], ?_, .inl ⟨rfl, ?_⟩⟩
        · show c :: t = [] ++ (if c = 43 ∨ c = 45 then t else c :: t)
          rw [if_neg (by omega)]; rfl
        · unfold isNeg; simp; exact h2
theorem exp_ex {x : List Nat} (h : expB x = true) : Ex x (expV x) := by
  unfold expB at h
  simp only [Bool.and_eq_true, Bool.or_eq_true, beq_iff_eq, decide_eq_true_eq] at h
  obtain ⟨h1, h2, h3, h4⟩ := h
  obtain ⟨sg, hs, hsg⟩ := unsign_cases (x.drop 1)
  have hd : ∀ c ∈ unsign (x.drop 1), isDig c := by
    have := ndig_take (unsign (x.drop 1))
    rwa [h4, List.take_length] at this
  have hx : ∃ c, x = c :: x.drop 1 ∧ (c = 101 ∨ c = 69) := by
    rcases h1 with h1 | h1
    · exact ⟨101, head_some h1, .inl rfl⟩
    · exact ⟨69, head_some h1, .inr rfl⟩
  obtain ⟨c, hx, hc⟩ := hx
  have hne : x.isEmpty = false := by rw [hx]; rfl
  have hv : expV x = (if isNeg (x.drop 1) then -(dnum (unsign (x.drop 1)) : Int) else dnum (unsign (x.drop 1))) := by
    unfold expV
    rw [hne]; rfl
  have key := Ex.some (c := c) (sg := sg) (ds := unsign (x.drop 1)) (neg := isNeg (x.drop 1)) hc hsg (by omega) (by omega) hd
  rw [← hs, ← hx, ← hv] at key
  exact key
/-- A decimal is a decimal word. -/
theorem dec_word {s : ByteArray} {sg body : List Nat} {neg : Bool} (hb : bl s = sg ++ body) (hsg : sg = [] ∧ neg = false ∨ sg = [43] ∧ neg = false ∨ sg = [45] ∧ neg = true) (hs : s.size ≤ 100) (hd : decB body = true) :
    DecW s neg (manL body) (hasDot body) (expV (expL body)) := by
  unfold decB at hd
  simp only [Bool.and_eq_true, Bool.or_eq_true, decide_eq_true_eq] at hd
  obtain ⟨h1, h2⟩ := hd
  have hm := man_mant body
  refine ⟨⟨sg, expL body, by rw [hb, List.append_assoc, ← man_exp], hsg, ?_⟩, hm, ?_, hs⟩
  · rcases h2 with h2 | h2
    · have e : expL body = [] := by simpa using h2
      rw [e]; exact .none
    · exact exp_ex h2
  · by_cases hh : (rf (manL body)).dig = true
    · exact hh
    · exfalso
      have h3 := (rf_ok hm).dig (by simpa using hh)
      unfold mantN at h1
      by_cases hn : 0 < ndig body
      · have hmem : body[0]'(by have := ndig_le body; omega) ∈ body.take (ndig body) := by
          rw [List.mem_take_iff_getElem]
          exact ⟨0, by have := ndig_le body; omega, rfl⟩
        have h4 := ndig_take body _ hmem
        have h5 := h3 (body[0]'(by have := ndig_le body; omega)) (by unfold manL; exact List.mem_append_left _ hmem)
        unfold isDig at h4
        omega
      · have hnf : 0 < ndig (fracL body) := by omega
        have hdot : hasDot body = true := by
          by_cases hh : hasDot body = true
          · exact hh
          · exfalso
            unfold fracL at hnf
            rw [if_neg hh] at hnf
            simp [ndig] at hnf
        have hl := ndig_le (fracL body)
        have hmem : (fracL body)[0]'(by omega) ∈ (fracL body).take (ndig (fracL body)) := by
          rw [List.mem_take_iff_getElem]
          exact ⟨0, by omega, rfl⟩
        have h4 := ndig_take (fracL body) _ hmem
        have h5 := h3 ((fracL body)[0]'(by omega)) (by
          unfold manL
          rw [if_pos hdot]
          exact List.mem_append_right _ (List.mem_cons_of_mem _ hmem))
        unfold isDig at h4
        omega
theorem dec_wq (body : List Nat) : wq (manL body) (expV (expL body)) = expV (expL body) - (ndig (fracL body) : Int) := by
  unfold wq
  rw [man_frac]
end Go.Proofs.YtlhhpehfgkanoaaGreatDoor.fl
/- The walks of score's digits, sign, decimal. -/
namespace Go.Proofs.YtlhhpehfgkanoaaGreatDoor.fl
open Go.ChangeShapes Go.WideShapes Go.ChangeAt Go.RowKit
set_option linter.unusedVariables false
set_option linter.unusedSimpArgs false
theorem ndig_split {l : List Nat} {k : Nat} (hk : k ≤ l.length) (h : ∀ c ∈ l.take k, isDig c) (hn : ∀ c, (l.drop k).head? = some c → ¬ (48 ≤ c ∧ c ≤ 57)) : ndig l = k := by
  have := ndig_app (l.take k) (l.drop k) h hn
  rw [List.take_append_drop, List.length_take] at this
  omega
set_option maxRecDepth 100000 in
set_option maxHeartbeats 1000000 in
theorem digitsC (s : ByteArray) (w : World) (hs : s.size ≤ 1000) :
    Calls Tryz.prog 63 #[.string s] w fun e w' => e = .returned (.int .i64 (ndig (bl s))) ∧ w = w' := by
  have HB := fhid (bl_length s)
  obtain ⟨n, hn⟩ : ∃ n, s.size = n := ⟨_, rfl⟩
  have HN := fhid hn
  have HAT : Hid (∀ k (h : k < n), ∃ h2 : k < s.size, s[k].toNat = (bl s).getD k 0) := fhid fun k h => ⟨by rw [HN.out]; exact h, bl_at s k _⟩
  rw [hn] at hs
  clear hn
  go_enter Tryz.func63, Tryz.ntmps63
  go_wp2_with fail
  go_loop [3] (fun v => ∃ k : Nat, v = .int .i64 k ∧ k ≤ n ∧ Hid (∀ c ∈ (bl s).take k, isDig c)) (fun v => n - (intOf v).toNat)
  case atStart => exact ⟨0, rfl, by omega, fhid (fun c h => by simp at h)⟩
  case round =>
    obtain ⟨k, rfl, hk, hD⟩ := hrel
    by_cases hlt : k < n
    · obtain ⟨h2, hat⟩ := HAT.out k hlt
      obtain ⟨c, hc⟩ : ∃ c, (bl s).getD k 0 = c := ⟨_, rfl⟩
      rw [hc] at hat
      have HC := fhid hc
      have hkn : (k : Int) < (s.size : Int) := by omega
      clear hc
      by_cases hd : 48 ≤ c ∧ c ≤ 57
      · obtain ⟨d1, d2⟩ := hd
        have HNX : Hid (∀ x ∈ (bl s).take (k + 1), isDig x) := fhid (by
          rw [take_succ_getD (by rw [HB.out]; exact h2), HC.out]
          intro x hx
          rcases List.mem_append.1 hx with h | h
          · exact hD.out x h
          · simp only [List.mem_singleton] at h; subst h; exact ⟨d1, d2⟩)
        go_wp2_with fail
        go_round
        case rel => exact ⟨k + 1, by go_num, by omega, HNX⟩
        case measure => simp [intOf]; omega
      · have HR : Hid (ndig (bl s) = k) := fhid (ndig_split (by rw [HB.out]; omega) hD.out (fun x hx => by
          rw [drop_getD (by rw [HB.out]; exact h2), HC.out] at hx
          simp at hx
          subst hx
          exact hd))
        by_cases d1 : 48 ≤ c
        · have d2 : ¬ c ≤ 57 := fun h => hd ⟨d1, h⟩
          clear hd
          go_wp2_with fail
          go_ret
          exact ⟨by rw [HR.out]; rfl, rfl⟩
        · clear hd
          go_wp2_with fail
          go_ret
          exact ⟨by rw [HR.out]; rfl, rfl⟩
    · obtain rfl : k = n := by omega
      have HR : Hid (ndig (bl s) = k) := fhid (ndig_split (by rw [HB.out, HN.out]; exact Nat.le_refl _) hD.out (fun x hx => by
        rw [List.drop_of_length_le (by rw [HB.out, HN.out]; exact Nat.le_refl _)] at hx
        cases hx))
      have hkn : ¬ (k : Int) < (s.size : Int) := by have := HN.out; omega
      go_wp2_with fail
      go_ret
      exact ⟨by rw [HR.out]; rfl, rfl⟩
theorem empty_of {s : ByteArray} (h : s.size = 0) : s.toList = [] := by
  rw [ByteArray.toList_eq]
  have : s.data.size = 0 := h
  exact Array.toList_eq_nil_iff.2 (Array.eq_empty_of_size_eq_zero this)
theorem nonempty_of {s : ByteArray} (h : 0 < s.size) : ¬ s.toList = [] := by
  rw [ByteArray.toList_eq]
  intro hh
  have : s.data.toList.length = s.size := by simp
  rw [hh] at this
  simp at this
  omega
theorem isE_of {s : ByteArray} (h : ¬ s.toList = []) : s.toList.isEmpty = false := by
  cases hh : s.toList with
  | nil => exact absurd hh h
  | cons c t => rfl
theorem bl_zero0 {s : ByteArray} (h : s.size = 0) : bl s = [] := List.length_eq_zero_iff.1 (by rw [bl_length, h])
theorem bl_cons {s : ByteArray} (h : 0 < s.size) : bl s = (bl s).getD 0 0 :: (bl s).drop 1 := by
  have := drop_getD (l := bl s) (k := 0) (by rw [bl_length]; exact h)
  simpa using this
theorem bl_tail (s : ByteArray) : bl (s.extract 1 s.size) = (bl s).drop 1 := by
  rw [bl_extract, List.take_of_length_le]
  rw [List.length_drop, bl_length]; exact Nat.le_refl _
/-- What sign answers. -/
def SiPost (s : ByteArray) (w : World) (e : Ending) (w' : World) : Prop := ∃ t : ByteArray, e = .returned (.tuple #[.string t, .bool (isNeg (bl s))]) ∧ bl t = unsign (bl s) ∧ t.size ≤ s.size ∧ ∃ n, w' = w.drewN n
set_option maxRecDepth 100000 in
set_option maxHeartbeats 1000000 in
theorem signC (s : ByteArray) (w : World) (hs : s.size ≤ 1000) :
    Calls Tryz.prog 35 #[.string s] w (SiPost s w) := by
  by_cases h0 : s.size = 0
  · have he := empty_of h0
    have he2 : s.toList.isEmpty = true := by rw [he]; rfl
    have HB := fhid (bl_zero0 h0)
    clear h0
    go_enter Tryz.func35, Tryz.ntmps35
    go_wp2_with fail
    go_ret2
    exact ⟨s, by rw [HB.out]; rfl, by rw [HB.out]; rfl, Nat.le_refl _, 0, rfl⟩
  · have hlt : 0 < s.size := by omega
    have hlt2 : (0 : Int) < (s.size : Int) := by omega
    have he := nonempty_of hlt
    have he2 := isE_of he
    have hat := bl_at s 0 hlt
    have HB := fhid (bl_cons hlt)
    obtain ⟨c, hc⟩ : ∃ c, (bl s).getD 0 0 = c := ⟨_, rfl⟩
    rw [hc] at hat HB
    clear hc h0
    by_cases h1 : c = 43
    · subst h1
      go_enter Tryz.func35, Tryz.ntmps35
      go_wp2_with fail
      go_quiet (fail)
      go_wp2_with fail
      go_ret2
      exact ⟨_, by rw [HB.out]; rfl, by rw [bl_tail]; conv => rhs; rw [HB.out]
                                        rfl, by simp, _, rfl⟩
    · by_cases h2 : c = 45
      · subst h2
        go_enter Tryz.func35, Tryz.ntmps35
        go_wp2_with fail
        go_quiet (fail)
        go_wp2_with fail
        go_ret2
        exact ⟨_, by rw [HB.out]; rfl, by rw [bl_tail]; conv => rhs; rw [HB.out]
                                          rfl, by simp, _, rfl⟩
      · have g1 : ((c : Int) == 43) = false := by simp; omega
        have g2 : ((c : Int) == 45) = false := by simp; omega
        have HU : Hid (unsign (bl s) = bl s ∧ isNeg (bl s) = false) := fhid (by
          rw [HB.out]
          refine ⟨?_, ?_⟩
          · show (if c = 43 ∨ c = 45 then _ else _) = _
            rw [if_neg (by omega)]
          · unfold isNeg; simp; exact h2)
        clear h1 h2
        go_enter Tryz.func35, Tryz.ntmps35
        go_wp2_with fail
        go_ret2
        exact ⟨s, by rw [HU.out.2]; rfl, HU.out.1.symm, Nat.le_refl _, 0, rfl⟩
end Go.Proofs.YtlhhpehfgkanoaaGreatDoor.fl
/- The walk of score's decimal. -/
namespace Go.Proofs.YtlhhpehfgkanoaaGreatDoor.fl
open Go.ChangeShapes Go.WideShapes Go.ChangeAt Go.RowKit
set_option linter.unusedVariables false
set_option linter.unusedSimpArgs false
theorem ret_b {a b : Bool} (h : a = b) : Ending.returned (.bool a) = .returned (.bool b) := by rw [h]
theorem hasPre (l : List UInt8) (b : UInt8) : Lib.hasPrefix l [b] = ((l.map UInt8.toNat).head? == some b.toNat) := by
  cases l with
  | nil => rfl
  | cons c t =>
    show (b == c && List.isPrefixOf [] t) = _
    simp only [List.map_cons, List.head?_cons]
    by_cases h : b = c
    · subst h; simp
    · have h2 : ¬ c.toNat = b.toNat := fun e => h (UInt8.toNat_inj.mp e.symm)
      have e1 : (b == c) = false := by simp [h]
      have e2 : (some c.toNat == some b.toNat) = false := by simp [h2]
      rw [e1, e2]; rfl
/-- CutPrefix at one byte. -/
theorem cutOne (s : ByteArray) (b : UInt8) (w : World) :
    Calls Tryz.prog 41 #[.string s, .string ⟨#[b]⟩] w fun e w' => ∃ t : ByteArray, e = .returned (.tuple #[.string t, .bool ((bl s).head? == some b.toNat)]) ∧ bl t = (if (bl s).head? == some b.toNat then (bl s).drop 1 else bl s) ∧ t.size ≤ s.size ∧ w' = w := by
  refine (Tryz.strings_CutPrefix s ⟨#[b]⟩ w).mono ?_
  rintro e w' ⟨rfl, rfl⟩
  have hp := hasPre s.data.toList b
  have ht : bl ⟨(Lib.trimPrefix s.data.toList [b]).toArray⟩ = (if (bl s).head? == some b.toNat then (bl s).drop 1 else bl s) := by
    rw [bl_mk]
    unfold Lib.trimPrefix
    rw [hp]
    show List.map UInt8.toNat (if ((bl s).head? == some b.toNat) = true then _ else _) = _
    by_cases hh : ((bl s).head? == some b.toNat) = true
    · rw [if_pos hh, if_pos hh, List.map_drop]; rfl
    · rw [if_neg hh, if_neg hh]; rfl
  refine ⟨_, ?_, ht, ?_, rfl⟩
  · show Ending.returned (.tuple #[_, .bool (Lib.hasPrefix s.data.toList [b])]) = _
    rw [hp]; rfl
  · rw [← bl_length, ht, ← bl_length s]
    split
    · rw [List.length_drop]; omega
    · exact Nat.le_refl _
/-- What decimal answers. -/
def DePost (s : ByteArray) (w : World) (e : Ending) (w' : World) : Prop := e = .returned (.bool (decB (bl s))) ∧ ∃ n, w' = w.drewN n
theorem decB_nil {L : List Nat} {N : Nat} (hN : mantN L = N) (hE : expL L = []) : decB L = decide (0 < N) := by
  unfold decB
  rw [hN, hE]; simp
theorem decB_exp {L x : List Nat} {N k c : Nat} (hN : mantN L = N) (hE : expL L = c :: x) (hc : c = 101 ∨ c = 69) (hk : ndig (unsign x) = k) : decB L = (decide (0 < N) && decide (1 ≤ k ∧ k ≤ 5 ∧ k = (unsign x).length)) := by
  unfold decB expB
  rw [hN, hE]
  simp only [List.isEmpty_cons, Bool.false_or, List.head?_cons, List.drop_succ_cons, List.drop_zero, hk]
  have : ((some c == some 101) || (some c == some 69)) = true := by rcases hc with rfl | rfl <;> rfl
  rw [this, Bool.true_and]
theorem decB_oth {L x : List Nat} {c : Nat} (hE : expL L = c :: x) (hc : ¬ (c = 101 ∨ c = 69)) : decB L = false := by
  unfold decB expB
  rw [hE]
  simp only [List.isEmpty_cons, Bool.false_or, List.head?_cons]
  have : ((some c == some 101) || (some c == some 69)) = false := by simp; omega
  rw [this]; simp
set_option maxRecDepth 100000 in
set_option maxHeartbeats 2000000 in
theorem decimalC (s : ByteArray) (w : World) (hs : s.size ≤ 1000) :
    Calls Tryz.prog 37 #[.string s] w (DePost s w) := by
  have hnl := ndig_le (bl s)
  rw [bl_length] at hnl
  have c1 := digitsC s w hs
  obtain ⟨n, hn⟩ : ∃ n, ndig (bl s) = n := ⟨_, rfl⟩
  rw [hn] at hnl c1
  have HN := fhid hn
  have hni : (n : Int) ≤ (s.size : Int) := by omega
  have H1 : Hid (bl (s.extract n s.size) = (bl s).drop n) := fhid (by
    rw [bl_extract, List.take_of_length_le]
    rw [List.length_drop, bl_length]; exact Nat.le_refl _)
  have hs1 : (s.extract n s.size).size ≤ 1000 := by simp; omega
  clear hn
  go_enter Tryz.func37, Tryz.ntmps37
  go_wp2_with fail
  with_reducible refine c1.mono ?_
  clear c1
  rintro e w1 ⟨rfl, rfl⟩
  go_wp2_with fail
  obtain ⟨s1, hss⟩ : ∃ s1, s.extract n s.size = s1 := ⟨_, rfl⟩
  rw [hss] at H1 hs1 ⊢
  clear hss
  with_reducible refine (cutOne s1 46 _).mono ?_
  rintro e w2 ⟨r, rfl, hr, hrs, rfl⟩
  have hdot : ((bl s1).head? == some (46 : UInt8).toNat) = hasDot (bl s) := by
    unfold hasDot
    rw [H1.out, HN.out]; rfl
  rw [hdot] at hr ⊢
  have HR := fhid hr
  clear hr hdot
  by_cases hd : hasDot (bl s) = true
  · have HF : Hid (bl r = fracL (bl s)) := fhid (by
      rw [HR.out, if_pos hd, H1.out]
      unfold fracL
      rw [if_pos hd, HN.out])
    have hrl : r.size ≤ 1000 := by omega
    have c2 := digitsC r w2 hrl
    have hkl := ndig_le (bl r)
    rw [bl_length] at hkl
    obtain ⟨k, hk⟩ : ∃ k, ndig (bl r) = k := ⟨_, rfl⟩
    rw [hk] at hkl c2
    have HK := fhid hk
    have hki : (k : Int) ≤ (r.size : Int) := by omega
    have HE2 : Hid (bl (r.extract k r.size) = expL (bl s) ∧ mantN (bl s) = n + k) := fhid (by
      refine ⟨?_, ?_⟩
      · rw [bl_extract, List.take_of_length_le (by rw [List.length_drop, bl_length]; exact Nat.le_refl _)]
        unfold expL
        rw [if_pos hd, ← HF.out, hk]
      · unfold mantN
        rw [HN.out, ← HF.out, hk])
    have hs2 : (r.extract k r.size).size ≤ 1000 := by simp; omega
    rw [hd]
    clear hk hd
    go_wp2_with fail
    with_reducible refine c2.mono ?_
    clear c2
    rintro e w3 ⟨rfl, rfl⟩
    go_upto_region 8 with (fail)
    obtain ⟨s2, hss⟩ : ∃ s2, r.extract k r.size = s2 := ⟨_, rfl⟩
    obtain ⟨N, hNN⟩ : ∃ N, n + k = N := ⟨_, rfl⟩
    have hNi : (n : Int) + (k : Int) = (N : Int) := by omega
    rw [hss] at HE2 hs2 ⊢
    rw [hNN] at HE2
    try rw [hNi]
    clear hss hNN hNi
    by_cases hz : s2.size = 0
    · have he := empty_of hz
      have he2 : s2.toList.isEmpty = true := by rw [he]; rfl
      have HD : Hid (decB (bl s) = decide (0 < N)) := fhid (decB_nil HE2.out.2 (by rw [← HE2.out.1]; exact bl_zero0 hz))
      clear hz
      go_wp2_with fail
      all_goals
        go_ret
        exact ⟨ret_b (by rw [HD.out]; try (first | (simp; done) | (simp; omega))), 0, rfl⟩
    · have hlt : 0 < s2.size := by omega
      have he := nonempty_of hlt
      have he2 := isE_of he
      have hat := bl_at s2 0 hlt
      have hlt2 : (0 : Int) < (s2.size : Int) := by omega
      have HB := fhid (bl_cons hlt)
      obtain ⟨c, hc⟩ : ∃ c, (bl s2).getD 0 0 = c := ⟨_, rfl⟩
      rw [hc] at hat HB
      have HX : Hid (expL (bl s) = c :: (bl s2).drop 1) := fhid (by rw [← HE2.out.1]; exact HB.out)
      clear hc hz
      by_cases hce : c = 101 ∨ c = 69
      · have hs3 : (s2.extract 1 s2.size).size ≤ 1000 := by simp; omega
        have cs := fun W => signC (s2.extract 1 s2.size) W hs3
        have HT : Hid (bl (s2.extract 1 s2.size) = (bl s2).drop 1) := fhid (bl_tail _)
        rcases hce with rfl | rfl
        all_goals
          go_wp2_with fail
          with_reducible refine (cs _).mono ?_
          clear cs
          rintro e w4 ⟨t, rfl, ht, hts, j, rfl⟩
          rw [HT.out] at ht
          have hts2 : t.size ≤ 1000 := by omega
          have c3 := digitsC t (w2.drewN j) hts2
          have hml := ndig_le (bl t)
          rw [bl_length] at hml
          obtain ⟨m, hm⟩ : ∃ m, ndig (bl t) = m := ⟨_, rfl⟩
          rw [hm] at hml c3
          have HD : Hid (decB (bl s) = (decide (0 < N) && decide (1 ≤ m ∧ m ≤ 5 ∧ m = t.size))) := fhid (by
            have := decB_exp (k := m) HE2.out.2 HX.out (by first | exact .inl rfl | exact .inr rfl) (by rw [← ht, hm])
            rwa [← ht, bl_length] at this)
          clear hm ht
          go_wp2_with fail
          with_reducible refine c3.mono ?_
          clear c3
          rintro e w5 ⟨rfl, rfl⟩
          go_wp2_with fail
          all_goals
            go_ret
            exact ⟨ret_b (by rw [HD.out]; try (first | (simp; done) | (simp; omega) | (rw [Bool.eq_iff_iff]; simp; omega))), _, rfl⟩
      · have g1 : ((c : Int) == 101) = false := by simp; omega
        have g2 : ((c : Int) == 69) = false := by simp; omega
        have HD : Hid (decB (bl s) = false) := fhid (decB_oth HX.out hce)
        clear hce
        go_wp2_with fail
        all_goals
          go_ret
          exact ⟨ret_b (by rw [HD.out]; try (first | (simp; done) | (simp; omega))), 0, rfl⟩
  · have hd2 : hasDot (bl s) = false := by simpa using hd
    have HE2 : Hid (bl s1 = expL (bl s) ∧ mantN (bl s) = n) := fhid (by
      refine ⟨?_, ?_⟩
      · unfold expL
        rw [if_neg hd, H1.out, HN.out]
      · unfold mantN fracL
        rw [HN.out, if_neg hd]; rfl)
    rw [hd2]
    clear hd hd2
    go_upto_region 8 with (fail)
    by_cases hz : s1.size = 0
    · have he := empty_of hz
      have he2 : s1.toList.isEmpty = true := by rw [he]; rfl
      have HD : Hid (decB (bl s) = decide (0 < n)) := fhid (decB_nil HE2.out.2 (by rw [← HE2.out.1]; exact bl_zero0 hz))
      clear hz
      go_wp2_with fail
      all_goals
        go_ret
        exact ⟨ret_b (by rw [HD.out]; try (first | (simp; done) | (simp; omega))), 0, rfl⟩
    · have hlt : 0 < s1.size := by omega
      have he := nonempty_of hlt
      have he2 := isE_of he
      have hat := bl_at s1 0 hlt
      have hlt2 : (0 : Int) < (s1.size : Int) := by omega
      have HB := fhid (bl_cons hlt)
      obtain ⟨c, hc⟩ : ∃ c, (bl s1).getD 0 0 = c := ⟨_, rfl⟩
      rw [hc] at hat HB
      have HX : Hid (expL (bl s) = c :: (bl s1).drop 1) := fhid (by rw [← HE2.out.1]; exact HB.out)
      clear hc hz
      by_cases hce : c = 101 ∨ c = 69
      · have hs3 : (s1.extract 1 s1.size).size ≤ 1000 := by simp; omega
        have cs := fun W => signC (s1.extract 1 s1.size) W hs3
        have HT : Hid (bl (s1.extract 1 s1.size) = (bl s1).drop 1) := fhid (bl_tail _)
        rcases hce with rfl | rfl
        all_goals
          go_wp2_with fail
          with_reducible refine (cs _).mono ?_
          clear cs
          rintro e w4 ⟨t, rfl, ht, hts, j, rfl⟩
          rw [HT.out] at ht
          have hts2 : t.size ≤ 1000 := by omega
          have c3 := digitsC t (w2.drewN j) hts2
          have hml := ndig_le (bl t)
          rw [bl_length] at hml
          obtain ⟨m, hm⟩ : ∃ m, ndig (bl t) = m := ⟨_, rfl⟩
          rw [hm] at hml c3
          have HD : Hid (decB (bl s) = (decide (0 < n) && decide (1 ≤ m ∧ m ≤ 5 ∧ m = t.size))) := fhid (by
            have := decB_exp (k := m) HE2.out.2 HX.out (by first | exact .inl rfl | exact .inr rfl) (by rw [← ht, hm])
            rwa [← ht, bl_length] at this)
          clear hm ht
          go_wp2_with fail
          with_reducible refine c3.mono ?_
          clear c3
          rintro e w5 ⟨rfl, rfl⟩
          go_wp2_with fail
          all_goals
            go_ret
            exact ⟨ret_b (by rw [HD.out]; try (first | (simp; done) | (simp; omega) | (rw [Bool.eq_iff_iff]; simp; omega))), _, rfl⟩
      · have g1 : ((c : Int) == 101) = false := by simp; omega
        have g2 : ((c : Int) == 69) = false := by simp; omega
        have HD : Hid (decB (bl s) = false) := fhid (decB_oth HX.out hce)
        clear hce
        go_wp2_with fail
        all_goals
          go_ret
          exact ⟨ret_b (by rw [HD.out]; try (first | (simp; done) | (simp; omega))), 0, rfl⟩
end Go.Proofs.YtlhhpehfgkanoaaGreatDoor.fl
/- The walk of score's Parse at words of ASCII. -/
namespace Go.Proofs.YtlhhpehfgkanoaaGreatDoor.fl
open Go.ChangeShapes Go.WideShapes Go.ChangeAt Go.RowKit
set_option linter.unusedVariables false
set_option linter.unusedSimpArgs false
/-- All bytes are ASCII. -/
def Asc (l : List Nat) : Prop := ∀ c ∈ l, c < 128
/-- A letter made small. -/
def low1 (c : Nat) : Nat := if 65 ≤ c ∧ c ≤ 90 then c + 32 else c
/-- Is it this word, in whichever letters? -/
def foldIs (l p : List Nat) : Bool := l.map low1 == p
/-- Is it an infinity's name? -/
def infB (l : List Nat) : Bool := foldIs l [105, 110, 102] || foldIs l [105, 110, 102, 105, 110, 105, 116, 121]
/-- What Parse answers at a word that is no decimal, and at an infinity's. -/
def ErPost (w : World) (e : Ending) (w' : World) : Prop := e = .returned (.tuple #[.float .f64 0, .int .i64 20]) ∧ Below w.heap.size w w'
def IfPost (neg : Bool) (w : World) (e : Ending) (w' : World) : Prop := e = .returned (.tuple #[.float .f64 (sgw neg + infR), .int .i64 0]) ∧ Below w.heap.size w w'
/-- .. and at a decimal. -/
def DcPost (neg : Bool) (m : List Nat) (E : Int) (w : World) (e : Ending) (w' : World) : Prop :=
  ∃ u, Near (valN (dnum m) (wq m E)) (valD (wq m E)) u ∧ (u < infR ∧ e = .returned (.tuple #[.float .f64 (sgw neg + u), .int .i64 0]) ∨ infR ≤ u ∧ e = .returned (.tuple #[.float .f64 0, .int .i64 20])) ∧ Below w.heap.size w w'
theorem asc_tail {l : List Nat} (h : Asc l) : Asc (unsign l) := by
  obtain ⟨sg, hs, _⟩ := unsign_cases l
  intro c hc
  exact h c (by rw [hs]; exact List.mem_append_right _ hc)
theorem fold_is : ∀ (l p : List UInt8), (∀ c ∈ p, 97 ≤ c.toNat ∧ c.toNat ≤ 122) → Lib.equalFold l p = foldIs (l.map UInt8.toNat) (p.map UInt8.toNat)
  | [], [], _ => rfl
  | [], _ :: _, _ => rfl
  | _ :: _, [], _ => rfl
  | x :: s, y :: t, h => by
    have hy := h y (by simp)
    have ih := fold_is s t (fun c hc => h c (by simp [hc]))
    have e : Lib.foldEq x y = (low1 x.toNat == y.toNat) := by
      unfold Lib.foldEq low1
      by_cases h1 : 65 ≤ x.toNat ∧ x.toNat ≤ 90
      · rw [if_pos h1, Bool.eq_iff_iff]; simp; omega
      · rw [if_neg h1, Bool.eq_iff_iff]; simp; omega
    unfold foldIs at ih ⊢
    unfold Lib.equalFold
    rw [e, ih]
    simp
theorem foldC (t p : ByteArray) (w : World) (ht : t.size ≤ 1000) (ha : Asc (bl t)) (hp : ∀ c ∈ p.data.toList, 97 ≤ c.toNat ∧ c.toNat ≤ 122) :
    Calls Tryz.prog 36 #[.string t, .string p] w fun e w' => e = .returned (.bool (foldIs (bl t) (bl p))) ∧ w' = w := by
  refine (Tryz.strings_EqualFold t p w (by omega) (fun j b hb => ?_) (fun j b hb => ?_)).mono ?_
  · exact ha b.toNat (by unfold bl; exact List.mem_map_of_mem (List.mem_of_getElem? hb))
  · have := hp b (List.mem_of_getElem? hb); omega
  · rintro e w' ⟨rfl, rfl⟩
    exact ⟨by rw [fold_is _ _ hp]; rfl, rfl⟩
theorem infP (w : World) : Calls Tryz.prog 18 #[.int .i64 1] w fun e w' => e = .returned (.float .f64 (sgw false + infR)) ∧ w = w' := by
  have hf := f64from
  go_enter Tryz.func18, Tryz.ntmps18
  go_wp2_with fail
  go_ret
  exact ⟨rfl, rfl⟩
theorem infM (w : World) : Calls Tryz.prog 18 #[.int .i64 (-1)] w fun e w' => e = .returned (.float .f64 (sgw true + infR)) ∧ w = w' := by
  have hf := f64from
  go_enter Tryz.func18, Tryz.ntmps18
  go_wp2_with fail
  go_ret
  exact ⟨rfl, rfl⟩
def inf3 : ByteArray := ⟨#[105, 110, 102]⟩
def inf8 : ByteArray := ⟨#[105, 110, 102, 105, 110, 105, 116, 121]⟩
theorem inf3_ok : ∀ c ∈ inf3.data.toList, 97 ≤ c.toNat ∧ c.toNat ≤ 122 := by decide
theorem inf8_ok : ∀ c ∈ inf8.data.toList, 97 ≤ c.toNat ∧ c.toNat ≤ 122 := by decide
theorem bl_inf3 : bl inf3 = [105, 110, 102] := rfl
theorem bl_inf8 : bl inf8 = [105, 110, 102, 105, 110, 105, 116, 121] := rfl
set_option maxRecDepth 100000 in
set_option maxHeartbeats 1000000 in
theorem parseLong (s : ByteArray) (w : World) (h : 64 < s.size) (hs : s.size ≤ 100000) : Calls Tryz.prog 14 #[.string s] w (ErPost w) := by
  go_enter Tryz.func14, Tryz.ntmps14
  go_wp2_with fail
  go_ret2
  exact ⟨rfl, Below.refl _ _⟩
set_option maxRecDepth 100000 in
set_option maxHeartbeats 2000000 in
theorem parseInf (s : ByteArray) (w : World) (hs : s.size ≤ 64) (ha : Asc (bl s)) (hi : infB (unsign (bl s)) = true) :
    Calls Tryz.prog 14 #[.string s] w (IfPost (isNeg (bl s)) w) := by
  have HA := fhid (asc_tail ha)
  unfold infB at hi
  rw [Bool.or_eq_true] at hi
  have HI := fhid hi
  have cs := signC s w (by omega)
  have cf3 : Hid (∀ t : ByteArray, t.size ≤ 1000 → Asc (bl t) → ∀ W, Calls Tryz.prog 36 #[.string t, .string ⟨#[105, 110, 102]⟩] W fun e w' => e = .returned (.bool (foldIs (bl t) [105, 110, 102])) ∧ w' = W) := fhid (fun t h1 h2 W => foldC t inf3 W h1 h2 inf3_ok)
  have cf8 : Hid (∀ t : ByteArray, t.size ≤ 1000 → Asc (bl t) → ∀ W, Calls Tryz.prog 36 #[.string t, .string ⟨#[105, 110, 102, 105, 110, 105, 116, 121]⟩] W fun e w' => e = .returned (.bool (foldIs (bl t) [105, 110, 102, 105, 110, 105, 116, 121])) ∧ w' = W) := fhid (fun t h1 h2 W => foldC t inf8 W h1 h2 inf8_ok)
  clear ha hi
  obtain ⟨b, hb⟩ : ∃ b, isNeg (bl s) = b := ⟨_, rfl⟩
  unfold SiPost at cs
  rw [hb] at cs ⊢
  clear hb
  go_enter Tryz.func14, Tryz.ntmps14
  go_wp2_with fail
  with_reducible refine cs.mono ?_
  clear cs
  rintro e w1 ⟨t, rfl, ht, hts, n, rfl⟩
  have ht2 : t.size ≤ 1000 := by omega
  have HT := fhid ht
  clear ht
  go_wp2_with fail
  with_reducible refine (cf3.out t ht2 (by rw [HT.out]; exact HA.out) _).mono ?_
  rintro e w2 ⟨rfl, rfl⟩
  rw [HT.out]
  by_cases h3 : foldIs (unsign (bl s)) [105, 110, 102] = true
  · rw [h3]
    cases b
    · go_wp2_with fail
      refine (infP _).mono ?_
      rintro e w3 ⟨rfl, rfl⟩
      go_wp2_with fail
      go_ret2
      exact ⟨rfl, below_drewN w n⟩
    · go_wp2_with fail
      refine (infM _).mono ?_
      rintro e w3 ⟨rfl, rfl⟩
      go_wp2_with fail
      go_ret2
      exact ⟨rfl, below_drewN w n⟩
  · have h8 : foldIs (unsign (bl s)) [105, 110, 102, 105, 110, 105, 116, 121] = true := by
      rcases HI.out with h | h
      · exact absurd h h3
      · exact h
    have h3f : foldIs (unsign (bl s)) [105, 110, 102] = false := by simpa using h3
    rw [h3f]
    have H8 := fhid h8
    clear h8 h3 h3f
    go_wp2_with fail
    with_reducible refine (cf8.out t ht2 (by rw [HT.out]; exact HA.out) _).mono ?_
    rintro e w4 ⟨rfl, rfl⟩
    rw [HT.out, H8.out]
    cases b
    · go_wp2_with fail
      refine (infP _).mono ?_
      rintro e w3 ⟨rfl, rfl⟩
      go_wp2_with fail
      go_ret2
      exact ⟨rfl, below_drewN w n⟩
    · go_wp2_with fail
      refine (infM _).mono ?_
      rintro e w3 ⟨rfl, rfl⟩
      go_wp2_with fail
      go_ret2
      exact ⟨rfl, below_drewN w n⟩
set_option maxRecDepth 100000 in
set_option maxHeartbeats 2000000 in
theorem parseNo (s : ByteArray) (w : World) (hs : s.size ≤ 64) (ha : Asc (bl s)) (hi : infB (unsign (bl s)) = false) (hd : decB (unsign (bl s)) = false) :
    Calls Tryz.prog 14 #[.string s] w (ErPost w) := by
  have HA := fhid (asc_tail ha)
  unfold infB at hi
  rw [Bool.or_eq_false_iff] at hi
  have HI := fhid hi
  have HD := fhid hd
  have cs := signC s w (by omega)
  have cf3 : Hid (∀ t : ByteArray, t.size ≤ 1000 → Asc (bl t) → ∀ W, Calls Tryz.prog 36 #[.string t, .string ⟨#[105, 110, 102]⟩] W fun e w' => e = .returned (.bool (foldIs (bl t) [105, 110, 102])) ∧ w' = W) := fhid (fun t h1 h2 W => foldC t inf3 W h1 h2 inf3_ok)
  have cf8 : Hid (∀ t : ByteArray, t.size ≤ 1000 → Asc (bl t) → ∀ W, Calls Tryz.prog 36 #[.string t, .string ⟨#[105, 110, 102, 105, 110, 105, 116, 121]⟩] W fun e w' => e = .returned (.bool (foldIs (bl t) [105, 110, 102, 105, 110, 105, 116, 121])) ∧ w' = W) := fhid (fun t h1 h2 W => foldC t inf8 W h1 h2 inf8_ok)
  have cd : Hid (∀ (t : ByteArray) W, t.size ≤ 1000 → Calls Tryz.prog 37 #[.string t] W (DePost t W)) := fhid (fun t W h => decimalC t W h)
  clear ha hi hd
  go_enter Tryz.func14, Tryz.ntmps14
  go_wp2_with fail
  with_reducible refine cs.mono ?_
  clear cs
  rintro e w1 ⟨t, rfl, ht, hts, n, rfl⟩
  have ht2 : t.size ≤ 1000 := by omega
  have HT := fhid ht
  obtain ⟨b, hb⟩ : ∃ b, isNeg (bl s) = b := ⟨_, rfl⟩
  rw [hb]
  clear ht hb
  go_wp2_with fail
  with_reducible refine (cf3.out t ht2 (by rw [HT.out]; exact HA.out) _).mono ?_
  rintro e w2 ⟨rfl, rfl⟩
  rw [HT.out, HI.out.1]
  go_wp2_with fail
  with_reducible refine (cf8.out t ht2 (by rw [HT.out]; exact HA.out) _).mono ?_
  rintro e w4 ⟨rfl, rfl⟩
  rw [HT.out, HI.out.2]
  go_wp2_with fail
  with_reducible refine (cd.out t _ ht2).mono ?_
  rintro e w5 ⟨rfl, j, rfl⟩
  rw [HT.out, HD.out]
  go_wp2_with fail
  go_ret2
  exact ⟨rfl, below_drewN w (n + j)⟩
set_option maxRecDepth 100000 in
set_option maxHeartbeats 2000000 in
theorem parseDecAt (s : ByteArray) (w : World) (hf : FO w) (hs : s.size ≤ 64) (ha : Asc (bl s)) (hi : infB (unsign (bl s)) = false) (hd : decB (unsign (bl s)) = true)
    (hA : ∀ n, Calls Tryz.prog 119 #[.string s] (w.drewN n) (AtofPost (isNeg (bl s)) (manL (unsign (bl s))) (expV (expL (unsign (bl s)))) s.size (w.drewN n))) :
    Calls Tryz.prog 14 #[.string s] w (DcPost (isNeg (bl s)) (manL (unsign (bl s))) (expV (expL (unsign (bl s)))) w) := by
  have HA := fhid (asc_tail ha)
  unfold infB at hi
  rw [Bool.or_eq_false_iff] at hi
  have HI := fhid hi
  have HD := fhid hd
  have HF := fhid hf
  have cs := signC s w (by omega)
  have cf3 : Hid (∀ t : ByteArray, t.size ≤ 1000 → Asc (bl t) → ∀ W, Calls Tryz.prog 36 #[.string t, .string ⟨#[105, 110, 102]⟩] W fun e w' => e = .returned (.bool (foldIs (bl t) [105, 110, 102])) ∧ w' = W) := fhid (fun t h1 h2 W => foldC t inf3 W h1 h2 inf3_ok)
  have cf8 : Hid (∀ t : ByteArray, t.size ≤ 1000 → Asc (bl t) → ∀ W, Calls Tryz.prog 36 #[.string t, .string ⟨#[105, 110, 102, 105, 110, 105, 116, 121]⟩] W fun e w' => e = .returned (.bool (foldIs (bl t) [105, 110, 102, 105, 110, 105, 116, 121])) ∧ w' = W) := fhid (fun t h1 h2 W => foldC t inf8 W h1 h2 inf8_ok)
  have cd : Hid (∀ (t : ByteArray) W, t.size ≤ 1000 → Calls Tryz.prog 37 #[.string t] W (DePost t W)) := fhid (fun t W h => decimalC t W h)
  have cp : Hid (∀ n, Calls Tryz.prog 38 #[.string s, .int .i64 64] (w.drewN n) (PfPost (isNeg (bl s)) (manL (unsign (bl s))) (expV (expL (unsign (bl s)))) (w.drewN n))) := fhid (fun n => parseFloatAt s _ _ _ _ (hf.drewN n) (by omega) (hA n))
  obtain ⟨m, hm⟩ : ∃ m, manL (unsign (bl s)) = m := ⟨_, rfl⟩
  obtain ⟨E, hE⟩ : ∃ m, expV (expL (unsign (bl s))) = m := ⟨_, rfl⟩
  rw [hm, hE] at cp ⊢
  clear ha hi hd hf hA hm hE
  obtain ⟨b, hb⟩ : ∃ b, isNeg (bl s) = b := ⟨_, rfl⟩
  unfold SiPost at cs
  rw [hb] at cp cs ⊢
  clear hb
  go_enter Tryz.func14, Tryz.ntmps14
  go_wp2_with fail
  with_reducible refine cs.mono ?_
  clear cs
  rintro e w1 ⟨t, rfl, ht, hts, n, rfl⟩
  have ht2 : t.size ≤ 1000 := by omega
  have HT := fhid ht
  clear ht
  go_wp2_with fail
  with_reducible refine (cf3.out t ht2 (by rw [HT.out]; exact HA.out) _).mono ?_
  rintro e w2 ⟨rfl, rfl⟩
  rw [HT.out, HI.out.1]
  go_wp2_with fail
  with_reducible refine (cf8.out t ht2 (by rw [HT.out]; exact HA.out) _).mono ?_
  rintro e w4 ⟨rfl, rfl⟩
  rw [HT.out, HI.out.2]
  go_wp2_with fail
  with_reducible refine (cd.out t _ ht2).mono ?_
  rintro e w5 ⟨rfl, j, rfl⟩
  rw [HT.out, HD.out]
  have HB : Hid (Below w.heap.size w (w.drewN (n + j))) := fhid (below_drewN w (n + j))
  go_wp2_with fail
  with_reducible refine (cp.out (n + j)).mono ?_
  rintro e w6 ⟨u, hu, hr, hb6⟩
  have HU := fhid hu
  have B6 := fhid (HB.out.trans (hb6.mono HB.out.size))
  clear hu hb6
  rcases hr with ⟨hi, rfl⟩ | ⟨hi, q, rfl⟩
  · have HI2 := fhid hi
    clear hi
    go_wp2_with fail
    go_ret2
    exact ⟨u, HU.out, .inl ⟨HI2.out, rfl⟩, B6.out⟩
  · have HI2 := fhid hi
    clear hi
    go_wp2_with fail
    go_ret2
    exact ⟨u, HU.out, .inr ⟨HI2.out, rfl⟩, B6.out⟩
theorem parseDec (s : ByteArray) (w : World) (hf : FO w) (hs : s.size ≤ 64) (ha : Asc (bl s)) (hi : infB (unsign (bl s)) = false) (hd : decB (unsign (bl s)) = true)
    (hA : ∀ w, FO w → Calls Tryz.prog 119 #[.string s] w (AtofPost (isNeg (bl s)) (manL (unsign (bl s))) (expV (expL (unsign (bl s)))) s.size w)) :
    Calls Tryz.prog 14 #[.string s] w (DcPost (isNeg (bl s)) (manL (unsign (bl s))) (expV (expL (unsign (bl s)))) w) :=
  parseDecAt s w hf hs ha hi hd (fun n => hA _ (hf.drewN n))
end Go.Proofs.YtlhhpehfgkanoaaGreatDoor.fl
/- The words that Print writes are decimals, and what they mean. Plain. -/
namespace Go.Proofs.YtlhhpehfgkanoaaGreatDoor.fl
set_option linter.unusedVariables false
set_option linter.unusedSimpArgs false
/-- What stands behind the digits begins with no digit. -/
def NoDig (x : List Nat) : Prop := ∀ c, x.head? = some c → ¬ (48 ≤ c ∧ c ≤ 57)
theorem nodig_nil : NoDig [] := fun c h => by cases h
theorem nodig_cons {c : Nat} {t : List Nat} (h : ¬ (48 ≤ c ∧ c ≤ 57)) : NoDig (c :: t) := fun d hd => by simp at hd; subst hd; exact h
/-- Digits, no point. -/
theorem form_a {a x : List Nat} (ha : ∀ c ∈ a, isDig c) (hx : NoDig x) (hd : x.head? ≠ some 46) : hasDot (a ++ x) = false ∧ fracL (a ++ x) = [] ∧ expL (a ++ x) = x ∧ mantN (a ++ x) = a.length ∧ manL (a ++ x) = a := by
  have hn := ndig_app a x ha hx
  have hdot : hasDot (a ++ x) = false := by
    unfold hasDot
    rw [hn, List.drop_left]
    simpa using hd
  have hf : fracL (a ++ x) = [] := by
    unfold fracL; rw [hdot]; rfl
  refine ⟨hdot, hf, ?_, ?_, ?_⟩
  · unfold expL; rw [hdot, hn]; simp
  · unfold mantN; rw [hf, hn]; rfl
  · unfold manL; rw [hdot, hn]; simp
/-- Digits, a point, digits. -/
theorem form_b {a c x : List Nat} (ha : ∀ z ∈ a, isDig z) (hc : ∀ z ∈ c, isDig z) (hx : NoDig x) : hasDot (a ++ 46 :: (c ++ x)) = true ∧ ndig (fracL (a ++ 46 :: (c ++ x))) = c.length ∧ expL (a ++ 46 :: (c ++ x)) = x ∧ mantN (a ++ 46 :: (c ++ x)) = a.length + c.length ∧ manL (a ++ 46 :: (c ++ x)) = a ++ 46 :: c := by
  have hn := ndig_app a (46 :: (c ++ x)) ha (nodig_cons (by omega))
  have hdot : hasDot (a ++ 46 :: (c ++ x)) = true := by
    unfold hasDot
    rw [hn, List.drop_left]; rfl
  have hf : fracL (a ++ 46 :: (c ++ x)) = c ++ x := by
    unfold fracL
    rw [if_pos hdot, hn, List.drop_left]; rfl
  have hnf := ndig_app c x hc hx
  refine ⟨hdot, by rw [hf, hnf], ?_, ?_, ?_⟩
  · unfold expL; rw [if_pos hdot, hf, hnf, List.drop_left]
  · unfold mantN; rw [hf, hn, hnf]
  · unfold manL; rw [if_pos hdot, hf, hn, hnf, List.take_left, List.take_left]
/-- A power of ten behind an e and a sign. -/
theorem exp_form {g : Nat} {e : List Nat} (hg : g = 43 ∨ g = 45) (he : ∀ c ∈ e, isDig c) (h1 : 1 ≤ e.length) (h5 : e.length ≤ 5) : expB (101 :: g :: e) = true ∧ expV (101 :: g :: e) = (if g = 45 then -(dnum e : Int) else dnum e) := by
  have hu : unsign (g :: e) = e := by
    show (if g = 43 ∨ g = 45 then e else g :: e) = e
    rw [if_pos hg]
  have hn := ndig_app e [] he nodig_nil
  rw [List.append_nil] at hn
  refine ⟨?_, ?_⟩
  · unfold expB
    simp only [List.drop_succ_cons, List.drop_zero, hu, hn, List.head?_cons]
    simp; omega
  · unfold expV isNeg
    simp only [List.isEmpty_cons, List.drop_succ_cons, List.drop_zero, hu, List.head?_cons]
    rcases hg with rfl | rfl <;> rfl
theorem rf_nd_app (a b : List Nat) : (rf (a ++ b)).nd ≤ (rf a).nd + b.length := by
  have key : ∀ (b : List Nat) (s : RF), (b.foldl rfStep s).nd ≤ s.nd + b.length := by
    intro b
    induction b with
    | nil => intro s; exact Nat.le_refl _
    | cons c t ih =>
      intro s
      have h1 := ih (rfStep s c)
      have h2 : (rfStep s c).nd ≤ s.nd + 1 := by
        unfold rfStep
        split
        · exact Nat.le_succ _
        · split
          · exact Nat.le_succ _
          · split <;> exact Nat.le_refl _
      rw [List.foldl_cons, List.length_cons]; omega
  unfold rf
  rw [List.foldl_append]
  exact key b _
theorem rf_zeros (n : Nat) : (rf ([48, 46] ++ List.replicate n 48)).nd = 0 := by
  induction n with
  | zero => rfl
  | succ n ih =>
    rw [List.replicate_succ', ← List.append_assoc, rf_snoc]
    unfold rfStep
    rw [if_neg (by decide), if_pos ⟨rfl, ih⟩]
    exact ih
theorem tr_of_nd {m : List Nat} {p : Bool} (h : Mant m p) (hn : (rf m).nd ≤ 19) : (rf m).tr = false := by
  have ok := rf_ok h
  obtain ⟨r, r1, r2, r3⟩ := ok.num
  have h3 := ok.ndm
  have h5 : (rf m).nd - (rf m).ndm = 0 := by omega
  rw [h5, Nat.pow_zero] at r1
  by_cases hh : (rf m).tr = true
  · have := r3.1 hh; omega
  · simpa using hh
/-- What a decimal's word says: the digits' number and the power. -/
def Says (l : List Nat) (D : Nat) (q : Int) : Prop := decB l = true ∧ (rf (manL l)).tr = false ∧ valN (dnum (manL l)) (wq (manL l) (expV (expL l))) * valD q = valN D q * valD (wq (manL l) (expV (expL l)))
theorem dnum_dot (a b : List Nat) : dnum (a ++ 46 :: b) = dnum (a ++ b) := by
  unfold dnum
  rw [List.foldl_append, List.foldl_append, List.foldl_cons, if_pos rfl]
theorem dig48 : isDig 48 := ⟨by decide, by decide⟩
theorem says_a {a x : List Nat} (ha : ∀ c ∈ a, isDig c) (hx : NoDig x) (hd : x.head? ≠ some 46) (h0 : 0 < a.length) (hl : a.length ≤ 19) (he : x = [] ∨ expB x = true) : Says (a ++ x) (dnum a) (expV x) := by
  obtain ⟨h1, h2, h3, h4, h5⟩ := form_a ha hx hd
  refine ⟨?_, ?_, ?_⟩
  · unfold decB
    rw [h3, h4]
    simp only [Bool.and_eq_true, decide_eq_true_eq, Bool.or_eq_true]
    exact ⟨h0, he.elim (fun e => .inl (by rw [e]; rfl)) .inr⟩
  · rw [h5]
    have hm := mant_digs a ha
    exact tr_of_nd hm (Nat.le_trans (rf_ok hm).nd hl)
  · rw [h5, h3]
    have hm := (rf_ok (mant_digs a ha)).frac0 rfl
    have : wq a (expV x) = expV x := by unfold wq; rw [hm]; simp
    rw [this]
theorem says_b {a c x : List Nat} (ha : ∀ z ∈ a, isDig z) (hc : ∀ z ∈ c, isDig z) (hx : NoDig x) (h0 : 0 < a.length) (hn : (rf (a ++ 46 :: c)).nd ≤ 19) (he : x = [] ∨ expB x = true) : Says (a ++ 46 :: (c ++ x)) (dnum (a ++ c)) (expV x - c.length) := by
  obtain ⟨h1, h2, h3, h4, h5⟩ := form_b ha hc hx
  have hM : Mant (a ++ 46 :: c) true := by
    have := man_mant (a ++ 46 :: (c ++ x))
    rwa [h5, h1] at this
  refine ⟨?_, ?_, ?_⟩
  · unfold decB
    rw [h3, h4]
    simp only [Bool.and_eq_true, decide_eq_true_eq, Bool.or_eq_true]
    exact ⟨by omega, he.elim (fun e => .inl (by rw [e]; rfl)) .inr⟩
  · rw [h5]
    exact tr_of_nd hM hn
  · have hw := dec_wq (a ++ 46 :: (c ++ x))
    rw [h2, h3] at hw
    rw [h3, hw, h5, dnum_dot]
theorem nd_len {m : List Nat} {p : Bool} (h : Mant m p) (hl : m.length ≤ 19) : (rf m).nd ≤ 19 := Nat.le_trans (rf_ok h).nd hl
theorem mant_dot {a c : List Nat} (ha : ∀ z ∈ a, isDig z) (hc : ∀ z ∈ c, isDig z) : Mant (a ++ 46 :: c) true := by
  have h := form_b (x := []) ha hc nodig_nil
  have := man_mant (a ++ 46 :: (c ++ []))
  rw [h.2.2.2.2, h.1] at this
  exact this
theorem far_exp (p : Int) (M : Nat) (hM : max (p - 1) (1 - p) = M) (hb : M ≤ 1001) (hp : p < -4 ∨ 17 < p) : ∃ e, (∀ c ∈ e, isDig c) ∧ 1 ≤ e.length ∧ e.length ≤ 5 ∧ dnum e = M ∧ (if M < 10 then [48] else []) ++ ddg M = e := by
  have hok := ddg_ok M
  have hl := ddg_le (n := M) (k := 3) (Nat.lt_of_le_of_lt hb (by decide))
  have hpz := ddg_pos M
  refine ⟨_, ?_, ?_, ?_, ?_, rfl⟩
  · intro c hc
    rcases List.mem_append.1 hc with h | h
    · split at h
      · simp only [List.mem_singleton] at h; subst h; exact dig48
      · cases h
    · exact hok.1 c h
  · rw [List.length_append]; omega
  · rw [List.length_append]; split <;> simp <;> omega
  · rw [dnum_append _ _ hok.1, hok.2]
    split
    · rw [show dnum [48] = 0 from rfl]; omega
    · rw [show dnum ([] : List Nat) = 0 from rfl]; omega
/-- Every word that is laid. -/
theorem lay_says {d : List Nat} {p : Int} (hd : ∀ c ∈ d, isDig c) (h0 : 0 < d.length) (hl : d.length ≤ 17) (h1 : -400 ≤ p) (h2 : p ≤ 401) : Says (layS d p) (dnum d) (p - d.length) := by
  by_cases hp : p < -4 ∨ 17 < p
  · obtain ⟨M, hM⟩ : ∃ M : Nat, max (p - 1) (1 - p) = M := ⟨(max (p - 1) (1 - p)).toNat, by omega⟩
    obtain ⟨e, e1, e2, e3, e4, e5⟩ := far_exp p M hM (by omega) hp
    rw [lay_far hp hM, List.append_assoc _ _ (ddg M), e5]
    have hE := exp_form (g := if p < 1 then 45 else 43) (by split; exact .inr rfl; exact .inl rfl) e1 e2 e3
    have hV : expV (101 :: (if p < 1 then 45 else 43) :: e) = p - 1 := by
      rw [hE.2, e4]
      by_cases hp1 : p < 1
      · rw [if_pos hp1, if_pos rfl]; omega
      · rw [if_neg hp1, if_neg (by decide)]; omega
    have hND : NoDig (101 :: (if p < 1 then 45 else 43) :: e) := nodig_cons (by omega)
    by_cases hl1 : 1 < d.length
    · rw [if_pos hl1]
      have hs := says_b (a := d.take 1) (c := d.drop 1) (x := 101 :: (if p < 1 then 45 else 43) :: e) (fun z hz => hd z (List.mem_of_mem_take hz)) (fun z hz => hd z (List.mem_of_mem_drop hz)) hND (by rw [List.length_take]; omega)
        (nd_len (mant_dot (fun z hz => hd z (List.mem_of_mem_take hz)) (fun z hz => hd z (List.mem_of_mem_drop hz))) (by simp only [List.length_append, List.length_take, List.length_cons, List.length_drop]; omega)) (.inr hE.1)
      rw [List.take_append_drop, hV, List.length_drop] at hs
      have hq : p - 1 - ((d.length - 1 : Nat) : Int) = p - (d.length : Int) := by omega
      rw [hq] at hs
      have hw : d.take 1 ++ [46] ++ d.drop 1 ++ [101, if p < 1 then 45 else 43] ++ e = d.take 1 ++ 46 :: (d.drop 1 ++ (101 :: (if p < 1 then 45 else 43) :: e)) := by simp
      rw [hw]
      exact hs
    · rw [if_neg hl1]
      have hs := says_a (a := d) (x := 101 :: (if p < 1 then 45 else 43) :: e) hd hND (by simp) h0 (by omega) (.inr hE.1)
      rw [hV] at hs
      have hq : p - 1 = p - (d.length : Int) := by omega
      rw [hq] at hs
      have hw : d ++ [101, if p < 1 then 45 else 43] ++ e = d ++ (101 :: (if p < 1 then 45 else 43) :: e) := by simp
      rw [hw]
      exact hs
  · have q1 : -4 ≤ p := by omega
    have q2 : p ≤ 17 := by omega
    by_cases hz : p ≤ 0
    · rw [lay_b q1 hz]
      have hc : ∀ z ∈ List.replicate (-p).toNat 48 ++ d, isDig z := fun z hz => by
        rcases List.mem_append.1 hz with h | h
        · rw [List.eq_of_mem_replicate h]; exact dig48
        · exact hd z h
      have hs := says_b (a := [48]) (c := List.replicate (-p).toNat 48 ++ d) (x := []) (fun z hz => by simp only [List.mem_singleton] at hz; subst hz; exact dig48) hc nodig_nil (by simp) (by
        have e : [48] ++ 46 :: (List.replicate (-p).toNat 48 ++ d) = ([48, 46] ++ List.replicate (-p).toNat 48) ++ d := by simp
        rw [e]
        have := rf_nd_app ([48, 46] ++ List.replicate (-p).toNat 48) d
        rw [rf_zeros] at this
        omega) (.inl rfl)
      have hv : dnum ([48] ++ (List.replicate (-p).toNat 48 ++ d)) = dnum d := by
        rw [← List.append_assoc, dnum_append _ _ hd]
        have : dnum ([48] ++ List.replicate (-p).toNat 48) = 0 := by
          rw [show [48] ++ List.replicate (-p).toNat 48 = List.replicate ((-p).toNat + 1) 48 by rw [List.replicate_succ]; rfl]
          exact dnum_zeros _
        rw [this]; omega
      rw [hv, List.length_append, List.length_replicate, show expV [] = 0 from rfl] at hs
      have hq : (0 : Int) - (((-p).toNat + d.length : Nat) : Int) = p - (d.length : Int) := by omega
      rw [hq, List.append_nil] at hs
      have hw : [48, 46] ++ List.replicate (-p).toNat 48 ++ d = [48] ++ 46 :: (List.replicate (-p).toNat 48 ++ d) := by simp
      rw [hw]
      exact hs
    · by_cases hc : (d.length : Int) ≤ p
      · rw [lay_c (by omega) q2 hc]
        have ha : ∀ z ∈ d ++ List.replicate (p - d.length).toNat 48, isDig z := fun z hz => by
          rcases List.mem_append.1 hz with h | h
          · exact hd z h
          · rw [List.eq_of_mem_replicate h]; exact dig48
        have hs := says_a (x := []) ha nodig_nil (by simp) (by rw [List.length_append]; omega) (by rw [List.length_append, List.length_replicate]; omega) (.inl rfl)
        rw [List.append_nil, show expV [] = 0 from rfl, dnum_append _ _ (digs_rep _ _ dig48), List.length_replicate, dnum_zeros, Nat.add_zero] at hs
        obtain ⟨s1, s2, s3⟩ := hs
        refine ⟨s1, s2, ?_⟩
        have hsh := val_shift (dnum d) (p - d.length).toNat 0
        rw [show (0 : Int) + ((p - d.length).toNat : Int) = p - (d.length : Int) by omega] at hsh
        -- s3: X * valD 0 = valN (D * 10 ^ j) 0 * Y ; hsh : valN (D * 10 ^ j) 0 * valD q = valN D q * valD 0
        have hp0 := valD_pos 0
        refine Nat.eq_of_mul_eq_mul_right hp0 ?_
        rw [Nat.mul_right_comm, s3, Nat.mul_right_comm, hsh, Nat.mul_right_comm]
      · rw [lay_d (by omega) q2 hc]
        obtain ⟨n, rfl⟩ : ∃ n : Nat, p = n := ⟨p.toNat, by omega⟩
        rw [Int.toNat_natCast]
        have hs := says_b (a := d.take n) (c := d.drop n) (x := []) (fun z hz => hd z (List.mem_of_mem_take hz)) (fun z hz => hd z (List.mem_of_mem_drop hz)) nodig_nil (by rw [List.length_take]; omega)
          (nd_len (mant_dot (fun z hz => hd z (List.mem_of_mem_take hz)) (fun z hz => hd z (List.mem_of_mem_drop hz))) (by simp only [List.length_append, List.length_take, List.length_cons, List.length_drop]; omega)) (.inl rfl)
        rw [List.take_append_drop, show expV [] = 0 from rfl, List.length_drop, List.append_nil] at hs
        have hq : (0 : Int) - ((d.length - n : Nat) : Int) = (n : Int) - (d.length : Int) := by omega
        rw [hq] at hs
        have hw : d.take n ++ [46] ++ d.drop n = d.take n ++ 46 :: d.drop n := by simp
        rw [hw]
        exact hs
end Go.Proofs.YtlhhpehfgkanoaaGreatDoor.fl
/- What the words of Print mean: each its float, and no other. Plain. -/
namespace Go.Proofs.YtlhhpehfgkanoaaGreatDoor.fl
set_option linter.unusedVariables false
set_option linter.unusedSimpArgs false
/-- A word means a float. -/
def Means (t : List Nat) (x : Nat) : Prop :=
  (infB (unsign t) = true ∧ x = sgw (isNeg t) + infR) ∨
  (infB (unsign t) = false ∧ decB (unsign t) = true ∧ (rf (manL (unsign t))).tr = false ∧ ∃ u, Near (valN (dnum (manL (unsign t))) (wq (manL (unsign t)) (expV (expL (unsign t))))) (valD (wq (manL (unsign t)) (expV (expL (unsign t))))) u ∧ u < infR ∧ x = sgw (isNeg t) + u)
theorem Means.unique {t : List Nat} {x y : Nat} (h : Means t x) (g : Means t y) : x = y := by
  rcases h with ⟨a, rfl⟩ | ⟨a, b, tr, u, hu, hi, rfl⟩ <;> rcases g with ⟨a', rfl⟩ | ⟨a', b', tr', u', hu', hi', rfl⟩
  · rfl
  · rw [a] at a'; cases a'
  · rw [a] at a'; cases a'
  · rw [near_unique (valD_pos _) hu hu']
/-- A word that begins with a digit has no sign, and is no infinity's name. -/
theorem digit_head {l : List Nat} (h : ∃ c t, l = c :: t ∧ isDig c) : unsign l = l ∧ isNeg l = false ∧ infB l = false ∧ unsign (45 :: l) = l ∧ isNeg (45 :: l) = true := by
  obtain ⟨c, t, rfl, h1, h2⟩ := h
  refine ⟨?_, ?_, ?_, rfl, rfl⟩
  · show (if c = 43 ∨ c = 45 then t else c :: t) = _
    rw [if_neg (by omega)]
  · unfold isNeg; simp; omega
  · unfold infB foldIs low1
    have : ¬ (65 ≤ c ∧ c ≤ 90) := by omega
    simp [this]
    constructor <;> intro h <;> omega
theorem sg_head {l : List Nat} (h : ∃ c t, l = c :: t ∧ isDig c) (s : Bool) : unsign (sgB s ++ l) = l ∧ isNeg (sgB s ++ l) = s := by
  obtain ⟨h1, h2, h3, h4, h5⟩ := digit_head h
  cases s
  · exact ⟨h1, h2⟩
  · exact ⟨h4, h5⟩
theorem means_of {l : List Nat} {s : Bool} {D : Nat} {q : Int} {u : Nat} (h : ∃ c t, l = c :: t ∧ isDig c) (hs : Says l D q) (hu : Near (valN D q) (valD q) u) (hi : u < infR) : Means (sgB s ++ l) (sgw s + u) := by
  obtain ⟨e1, e2⟩ := sg_head h s
  have h3 := (digit_head h).2.2.1
  right
  rw [e1, e2]
  obtain ⟨s1, s2, s3⟩ := hs
  exact ⟨h3, s1, s2, u, near_cross (valD_pos _) (valD_pos _) s3.symm hu, hi, rfl⟩
theorem head_digs {d : List Nat} (hd : ∀ c ∈ d, isDig c) (h0 : 0 < d.length) : ∃ c t, d = c :: t ∧ isDig c := by
  cases d with
  | nil => simp at h0
  | cons c t => exact ⟨c, t, rfl, hd c (by simp)⟩
theorem lay_head {d : List Nat} {p : Int} (hd : ∀ c ∈ d, isDig c) (h0 : 0 < d.length) : ∃ c t, layS d p = c :: t ∧ isDig c := by
  obtain ⟨c, t, rfl, hc⟩ := head_digs hd h0
  unfold layS
  split
  · split
    · exact ⟨c, _, rfl, hc⟩
    · exact ⟨c, _, rfl, hc⟩
  · split
    · exact ⟨48, _, rfl, dig48⟩
    · split
      · exact ⟨c, _, rfl, hc⟩
      · rename_i h1 h2 h3
        obtain ⟨n, hn⟩ : ∃ n, p.toNat = n + 1 := ⟨p.toNat - 1, by omega⟩
        rw [hn]
        exact ⟨c, _, rfl, hc⟩
/-- Without the noughts behind, and what they were worth. -/
theorem strip_val (l : List Nat) (h : ∀ c ∈ l, isDig c) : (∀ c ∈ strip l, isDig c) ∧ dnum (strip l) * 10 ^ (l.length - (strip l).length) = dnum l ∧ (strip l).length ≤ l.length := by
  have key : ∀ n, ∀ l : List Nat, l.length = n → (∀ c ∈ l, isDig c) → (∀ c ∈ strip l, isDig c) ∧ dnum (strip l) * 10 ^ (l.length - (strip l).length) = dnum l ∧ (strip l).length ≤ l.length := by
    intro n
    induction n with
    | zero =>
      intro l hl _
      rw [List.length_eq_zero_iff.1 hl]
      exact ⟨fun c h => by simp [strip] at h, rfl, Nat.le_refl _⟩
    | succ n ih =>
      intro l hl h
      rcases List.eq_nil_or_concat l with e | ⟨t, c, e⟩
      · rw [e] at hl; simp at hl
      · rw [List.concat_eq_append] at e
        subst e
        have ht : t.length = n := by simpa using hl
        obtain ⟨i1, i2, i3⟩ := ih t ht (fun x hx => h x (by simp [hx]))
        rw [strip_snoc]
        by_cases hc : c = 48
        · rw [if_pos hc]
          subst hc
          refine ⟨i1, ?_, by rw [List.length_append]; omega⟩
          rw [List.length_append, List.length_singleton, show t.length + 1 - (strip t).length = (t.length - (strip t).length) + 1 by omega, Nat.pow_succ, ← Nat.mul_assoc, i2, dnum_snoc, if_neg (by decide)]
          omega
        · rw [if_neg hc]
          refine ⟨h, by simp, Nat.le_refl _⟩
  exact key _ l rfl h
/-- The digits that are told, and their value. -/
theorem sh_says {u : Nat} {d : List Nat} {p : Int} (h0 : 0 < u) (hu : u < infR) (h : Sh u d p) : (∀ c ∈ d, isDig c) ∧ 0 < d.length ∧ d.length ≤ 17 ∧ -400 ≤ p ∧ p ≤ 401 ∧ Near (valN (dnum d) (p - d.length)) (valD (p - d.length)) u := by
  have hb := sh_bd h0 hu h
  obtain ⟨p0, k, L, D, h1, h2, h3, h4, h5, rfl, rfl⟩ := h
  have hk := quiet_le h0 h2 h3
  obtain ⟨r1, r2⟩ := floor_range h2 h4 h1
  have hD := pk_some h5
  have hnear : Near (valN D (p0 - k)) (valD (p0 - k)) u := by
    rcases h5 with ⟨a, b, c⟩ | ⟨a, b, c⟩ | ⟨a, b, c⟩ | ⟨a, b, ⟨c, d⟩ | ⟨c, d⟩⟩
    · cases c
    · simp at c; rw [c]; exact a
    · simp at c; rw [c]; exact b
    · simp at d; rw [d]; exact b
    · simp at d; rw [d]; exact a
  obtain ⟨i1, i2, i3⟩ := strip_val _ (ddg_ok D).1
  rw [(ddg_ok D).2] at i2
  have hlen : (strip (ddg D)).length ≤ 17 := by
    have hp1 : 0 < 10 ^ (k - 1) := Nat.pow_pos (by decide)
    by_cases hh : D < 10 ^ k
    · obtain ⟨j, rfl⟩ : ∃ j, k = j + 1 := ⟨k - 1, by omega⟩
      have := ddg_le (k := j) hh
      omega
    · have e : D = 10 ^ k := by omega
      have e2 : ddg D = [49] ++ List.replicate k 48 := by
        have hz : ∀ z ∈ [49] ++ List.replicate k 48, isDig z := fun z hz => by
          rcases List.mem_append.1 hz with h | h
          · simp only [List.mem_singleton] at h; subst h; exact ⟨by decide, by decide⟩
          · rw [List.eq_of_mem_replicate h]; exact dig48
        have hv : dnum ([49] ++ List.replicate k 48) = 10 ^ k := by
          rw [dnum_append _ _ (digs_rep _ _ dig48), dnum_zeros, List.length_replicate, show dnum [49] = 1 from rfl]; try omega
        have := ddg_of (l := [49] ++ List.replicate k 48) (k := k) hz (by rw [List.length_append, List.length_replicate, List.length_singleton]; omega) (by rw [hv]; exact Nat.le_refl _)
        rw [hv] at this
        rw [e, ← this]
      have e3 : ∀ j, strip ([49] ++ List.replicate j 48) = [49] := by
        intro j
        induction j with
        | zero => rfl
        | succ j ih => rw [List.replicate_succ', ← List.append_assoc, strip_snoc, if_pos rfl, ih]
      rw [e2, e3]; decide
  refine ⟨i1, hb.1, hlen, hb.2.2.1, hb.2.2.2, ?_⟩
  have hsh := val_shift (dnum (strip (ddg D))) ((ddg D).length - (strip (ddg D)).length) (p0 - k)
  rw [i2] at hsh
  have hq : p0 - (k : Int) + (((ddg D).length - (strip (ddg D)).length : Nat) : Int) = p0 + ((ddg D).length : Int) - (k : Int) - ((strip (ddg D)).length : Int) := by omega
  rw [hq] at hsh
  exact near_cross (valD_pos _) (valD_pos _) hsh hnear
/-- The word of a float means it. -/
theorem print_means {x : Nat} {t : List Nat} (hx : x < 18446744073709551616) (h : PrintIs x t) (hn : ¬ infR < x % 9223372036854775808) : Means t x := by
  unfold PrintIs at h
  rw [if_neg hn] at h
  have hsg : ∃ s, (if 9223372036854775808 ≤ x then [45] else []) = sgB s ∧ x = sgw s + x % 9223372036854775808 := by
    by_cases hh : 9223372036854775808 ≤ x
    · exact ⟨true, by rw [if_pos hh]; rfl, by show x = 9223372036854775808 + _; omega⟩
    · exact ⟨false, by rw [if_neg hh]; rfl, by show x = 0 + _; omega⟩
  obtain ⟨s, hs, hxs⟩ := hsg
  rw [hs] at h
  obtain ⟨u, hu⟩ : ∃ u, x % 9223372036854775808 = u := ⟨_, rfl⟩
  rw [hu] at h hxs hn
  subst hxs
  split at h
  · rename_i h1
    subst h1
    rw [h]
    left
    cases s
    · exact ⟨by decide, rfl⟩
    · exact ⟨by decide, rfl⟩
  · rename_i h1
    split at h
    · rename_i h2
      subst h2
      rw [h]
      have hS : Says [48] 0 0 := by
        have := says_a (a := [48]) (x := []) (fun z hz => by simp only [List.mem_singleton] at hz; subst hz; exact dig48) nodig_nil (by simp) (by decide) (by decide) (.inl rfl)
        exact this
      exact means_of ⟨48, [], rfl, dig48⟩ hS (near_zero 0) (by decide)
    · rename_i h2
      obtain ⟨d, p, hsh, rfl⟩ := h
      have hi : u < infR := by omega
      obtain ⟨g1, g2, g3, g4, g5, g6⟩ := sh_says (by omega) hi hsh
      exact means_of (lay_head g1 g2) (lay_says g1 g2 g3 g4 g5) g6 hi
theorem nan_means {x : Nat} : ¬ Means [110, 97, 110] x := by
  rintro (⟨h, _⟩ | ⟨_, h, _⟩)
  · revert h; decide
  · revert h; decide
/-- The length and the letters of a word. -/
theorem print_short {x : Nat} {t : List Nat} (hx : x < 18446744073709551616) (h : PrintIs x t) : 1 ≤ t.length ∧ t.length ≤ 24 ∧ Asc t := by
  unfold PrintIs at h
  have hsg : ∃ s, (if 9223372036854775808 ≤ x then [45] else []) = sgB s := by
    by_cases hh : 9223372036854775808 ≤ x
    · exact ⟨true, by rw [if_pos hh]; rfl⟩
    · exact ⟨false, by rw [if_neg hh]; rfl⟩
  obtain ⟨s, hs⟩ := hsg
  rw [hs] at h
  have hsl : (sgB s).length ≤ 1 ∧ Asc (sgB s) := by cases s <;> refine ⟨by decide, ?_⟩ <;> intro c hc <;> simp [sgB] at hc <;> omega
  split at h
  · rw [h]; exact ⟨by decide, by decide, fun c hc => by simp at hc; omega⟩
  · split at h
    · rw [h]
      exact ⟨by simp, by simp; omega, fun c hc => by
        rcases List.mem_append.1 hc with h | h
        · exact hsl.2 c h
        · simp at h; omega⟩
    · split at h
      · rw [h]
        exact ⟨by simp, by simp; omega, fun c hc => by
          rcases List.mem_append.1 hc with h | h
          · exact hsl.2 c h
          · simp at h; omega⟩
      · rename_i h1 h2 h3
        obtain ⟨d, p, hsh, rfl⟩ := h
        have hi : x % 9223372036854775808 < infR := by omega
        obtain ⟨g1, g2, g3, g4, g5, g6⟩ := sh_says (by omega) hi hsh
        have hda : Asc d := fun c hc => by have := g1 c hc; unfold isDig at this; omega
        have key : (layS d p).length ≤ 23 ∧ 1 ≤ (layS d p).length ∧ Asc (layS d p) := by
          obtain ⟨c0, t0, e0, _⟩ := lay_head (p := p) g1 g2
          refine ⟨?_, by rw [e0]; simp, ?_⟩
          · by_cases hp : p < -4 ∨ 17 < p
            · obtain ⟨M, hM⟩ : ∃ M : Nat, max (p - 1) (1 - p) = M := ⟨(max (p - 1) (1 - p)).toNat, by omega⟩
              rw [lay_far hp hM]
              have hm3 := ddg_le (n := M) (k := 2) (Nat.lt_of_le_of_lt (show M ≤ 401 by omega) (by decide))
              by_cases h10 : M < 10
              · rw [if_pos h10]
                have := ddg_one h10
                split <;> simp only [List.length_append, List.length_take, List.length_drop, List.length_cons, List.length_nil] <;> omega
              · rw [if_neg h10]
                split <;> simp only [List.length_append, List.length_take, List.length_drop, List.length_cons, List.length_nil] <;> omega
            · unfold layS
              rw [if_neg hp]
              split
              · simp only [List.length_append, List.length_replicate, List.length_cons, List.length_nil]; omega
              · split
                · simp only [List.length_append, List.length_replicate]; omega
                · simp only [List.length_append, List.length_take, List.length_drop, List.length_cons, List.length_nil]; omega
          · have h48 : ∀ n, Asc (List.replicate n 48) := fun n c hc => by rw [List.eq_of_mem_replicate hc]; decide
            have hap : ∀ {a b : List Nat}, Asc a → Asc b → Asc (a ++ b) := fun ha hb c hc => by
              rcases List.mem_append.1 hc with h | h
              · exact ha c h
              · exact hb c h
            have htk : ∀ n, Asc (d.take n) := fun n c hc => hda c (List.mem_of_mem_take hc)
            have hdr : ∀ n, Asc (d.drop n) := fun n c hc => hda c (List.mem_of_mem_drop hc)
            have hdd : ∀ n, Asc (ddg n) := fun n c hc => by have := (ddg_ok n).1 c hc; unfold isDig at this; omega
            have hl : ∀ {a : Nat}, a < 128 → Asc [a] := fun ha c hc => by simp only [List.mem_singleton] at hc; subst hc; exact ha
            have hl2 : ∀ {a b : Nat}, a < 128 → b < 128 → Asc [a, b] := fun ha hb c hc => by simp at hc; omega
            have hnil : Asc [] := fun c hc => by cases hc
            unfold layS
            split
            · refine hap (hap (hap ?_ (hl2 (by decide) (by split <;> decide))) ?_) (hdd _)
              · split
                · exact hap (hap (htk _) (hl (by decide))) (hdr _)
                · exact hda
              · split
                · exact hl (by decide)
                · exact hnil
            · split
              · exact hap (hap (hl2 (by decide) (by decide)) (h48 _)) hda
              · split
                · exact hap hda (h48 _)
                · exact hap (hap (htk _) (hl (by decide))) (hdr _)
        refine ⟨by rw [List.length_append]; omega, by rw [List.length_append]; omega, fun c hc => ?_⟩
        rcases List.mem_append.1 hc with h | h
        · exact hsl.2 c h
        · exact key.2.2 c h
end Go.Proofs.YtlhhpehfgkanoaaGreatDoor.fl
/- The walks of the laws' alike and wakes; Parse of a word of Print. -/
namespace Go.Proofs.YtlhhpehfgkanoaaGreatDoor.fl
open Go.ChangeShapes Go.WideShapes Go.ChangeAt Go.RowKit
set_option linter.unusedVariables false
set_option linter.unusedSimpArgs false
/-- No number. -/
def nanB (x : Nat) : Bool := decide (infR < x % 9223372036854775808)
def alikeB (a b : Nat) : Bool := if nanB a || nanB b then nanB a && nanB b else a == b
theorem split_word {x : Nat} (hx : x < 18446744073709551616) : ∃ s u, u < 9223372036854775808 ∧ x = sgw s + u := by
  by_cases h : 9223372036854775808 ≤ x
  · exact ⟨true, x - 9223372036854775808, by omega, by show x = 9223372036854775808 + _; omega⟩
  · exact ⟨false, x, by omega, by show x = 0 + _; omega⟩
theorem ord_nanB {x : Nat} (hx : x < 18446744073709551616) : FloatKind.f64.format.order x x = if nanB x then none else some .eq := by
  obtain ⟨s, u, hu, rfl⟩ := split_word hx
  unfold nanB
  rw [sgw_mod s u hu]
  by_cases h : infR < u
  · rw [decide_eq_true h]
    exact ord_nan s u _ h hu
  · rw [decide_eq_false h]
    exact ord_self s u (by omega)
set_option maxHeartbeats 1000000 in
theorem alikeC (a b : Nat) (w : World) (ha : a < 18446744073709551616) (hb : b < 18446744073709551616) :
    Calls Tryz.prog 13 #[.float .f64 a, .float .f64 b] w fun e w' => e = .returned (.bool (alikeB a b)) ∧ w = w' := by
  have h1 := ord_nanB ha
  have h2 := ord_nanB hb
  have hfb := f64bits
  unfold alikeB
  obtain ⟨p, hp⟩ : ∃ p, nanB a = p := ⟨_, rfl⟩
  obtain ⟨q, hq⟩ : ∃ p, nanB b = p := ⟨_, rfl⟩
  rw [hp] at h1 ⊢
  rw [hq] at h2 ⊢
  clear hp hq ha hb
  cases p
  · cases q
    · rw [if_neg (by decide)] at h1
      rw [if_neg (by decide)] at h2
      go_enter Tryz.func13, Tryz.ntmps13
      go_wp2_with fail
      go_ret
      exact ⟨ret_b (by rw [Bool.eq_iff_iff]; simp; omega), rfl⟩
    · rw [if_neg (by decide)] at h1
      rw [if_pos rfl] at h2
      go_enter Tryz.func13, Tryz.ntmps13
      go_wp2_with fail
      go_ret
      exact ⟨ret_b (by simp), rfl⟩
  · cases q
    · rw [if_pos rfl] at h1
      rw [if_neg (by decide)] at h2
      go_enter Tryz.func13, Tryz.ntmps13
      go_wp2_with fail
      go_ret
      exact ⟨ret_b (by simp), rfl⟩
    · rw [if_pos rfl] at h1
      rw [if_pos rfl] at h2
      go_enter Tryz.func13, Tryz.ntmps13
      go_wp2_with fail
      go_ret
      exact ⟨ret_b (by simp), rfl⟩
/-- What Parse answers where the word means x. -/
def MnPost (x : Nat) (w : World) (e : Ending) (w' : World) : Prop := e = .returned (.tuple #[.float .f64 x, .int .i64 0]) ∧ Below w.heap.size w w'
theorem parseMeans (t : ByteArray) (x : Nat) (w : World) (hf : FO w) (hs : t.size ≤ 64) (ha : Asc (bl t)) (h : Means (bl t) x) :
    Calls Tryz.prog 14 #[.string t] w (MnPost x w) := by
  rcases h with ⟨hi, rfl⟩ | ⟨hi, hd, htr, u, hu, hui, rfl⟩
  · exact (parseInf t w hs ha hi).mono fun e w' h => h
  · obtain ⟨sg, hsg, hcs⟩ := unsign_cases (bl t)
    have hw := dec_word (s := t) hsg hcs (by omega) hd
    refine (parseDec t w hf hs ha hi hd (fun w hf => atof64N t _ _ _ _ w hw htr hf (fun w => readFloatC t _ _ _ _ w hw))).mono ?_
    rintro e w' ⟨v, hv, hr, hb⟩
    obtain rfl := near_unique (valD_pos _) hu hv
    rcases hr with ⟨_, rfl⟩ | ⟨h1, _⟩
    · exact ⟨rfl, hb⟩
    · omega
/-- "-2.5e1". -/
theorem m25 : Means [45, 50, 46, 53, 101, 49] 13851102128954671104 := by
  right
  refine ⟨by decide, by decide, by decide, 4627730092099895296, ?_, by decide, by decide⟩
  have h1 : dnum (manL (unsign [45, 50, 46, 53, 101, 49])) = 25 := by decide
  have h2 : wq (manL (unsign [45, 50, 46, 53, 101, 49])) (expV (expL (unsign [45, 50, 46, 53, 101, 49]))) = 0 := by decide
  rw [h1, h2]
  exact near_exact (by decide +kernel)
/-- 0.1. -/
theorem p01 : PrintIs 4591870180066957722 [48, 46, 49] := by
  have hsh : Sh 4591870180066957722 [49] 0 := by
    refine ⟨0, 1, 1, 1, by decide, ⟨by decide +kernel, by decide +kernel⟩, fun j h1 h2 => by omega, ⟨by decide +kernel, by decide +kernel⟩, .inr (.inl ⟨⟨by decide +kernel, by decide +kernel⟩, ?_, rfl⟩), by rw [ddg_small (by decide)]; rfl, by rw [ddg_small (by decide)]; rfl⟩
    rintro ⟨h1, h2⟩
    revert h2
    decide +kernel
  have := print_fin (s := false) (u := 4591870180066957722) (by decide) (by decide) hsh
  exact this
set_option maxRecDepth 100000 in
set_option maxHeartbeats 1000000 in
theorem wakesC (w : World) (hf : FS w) :
    Calls Tryz.prog 12 #[] w fun e w' => e = .returned (.bool true) ∧ Below w.heap.size w w' := by
  have c1 := parseMeans ⟨#[45, 50, 46, 53, 101, 49]⟩ 13851102128954671104 w hf.fo (by decide) (fun c hc => by
    have : bl ⟨#[45, 50, 46, 53, 101, 49]⟩ = [45, 50, 46, 53, 101, 49] := rfl
    rw [this] at hc
    simp at hc
    omega) m25
  have HF := fhid hf
  have HP := fhid p01
  have cp : Hid (∀ W, FS W → Calls Tryz.prog 10 #[.float .f64 4591870180066957722] W (PrPost 4591870180066957722 W)) := fhid (fun W h => printC _ W h (by decide))
  have ho : FloatKind.f64.format.order 13851102128954671104 13851102128954671104 = some .eq := by
    have := ord_nanB (x := 13851102128954671104) (by decide)
    rw [this, show nanB 13851102128954671104 = false by decide]; rfl
  clear hf
  go_enter Tryz.func12, Tryz.ntmps12
  go_wp2_with fail
  with_reducible refine c1.mono ?_
  clear c1
  rintro e w1 ⟨rfl, hb1⟩
  have B1 := fhid hb1
  have F1 := fhid (HF.out.on hb1)
  clear hb1
  go_wp2_with fail
  with_reducible refine (cp.out _ F1.out).mono ?_
  rintro e w2 ⟨t, rfl, ht, hts, hb2⟩
  have B2 := fhid (B1.out.trans (hb2.mono B1.out.size))
  have hbl : bl t = bl ⟨#[48, 46, 49]⟩ := ht.unique HP.out
  obtain rfl : t = ⟨#[48, 46, 49]⟩ := bl_inj hbl
  clear ht hbl hb2
  go_wp2_with fail
  go_ret
  exact ⟨rfl, B2.out⟩
end Go.Proofs.YtlhhpehfgkanoaaGreatDoor.fl
/- The walk of the law ScoreBack. -/
namespace Go.Proofs.YtlhhpehfgkanoaaGreatDoor.fl
open Go.ChangeShapes Go.WideShapes Go.ChangeAt Go.RowKit
set_option linter.unusedVariables false
set_option linter.unusedSimpArgs false
theorem nan_word {x : Nat} {t : List Nat} (h : PrintIs x t) (hn : nanB x = true) : t = [110, 97, 110] := by
  unfold nanB at hn
  unfold PrintIs at h
  rw [if_pos (by simpa using hn)] at h
  exact h
theorem num_means {x : Nat} {t : List Nat} (hx : x < 18446744073709551616) (h : PrintIs x t) (hn : nanB x = false) : Means t x := by
  unfold nanB at hn
  exact print_means hx h (by simpa using hn)
/-- One word, one float. -/
theorem word_alike {x y : Nat} {s t : List Nat} (hx : x < 18446744073709551616) (hy : y < 18446744073709551616) (h : PrintIs x s) (g : PrintIs y t) : t = s ↔ alikeB x y = true := by
  unfold alikeB
  cases hx2 : nanB x
  · cases hy2 : nanB y
    · simp only [Bool.or_false, Bool.false_eq_true, if_false, beq_iff_eq]
      constructor
      · intro e
        subst e
        exact (num_means hx h hx2).unique (num_means hy g hy2)
      · intro e
        subst e
        exact g.unique h
    · simp only [Bool.or_true, if_true, Bool.false_and, Bool.false_eq_true, iff_false]
      intro e
      have h1 := num_means hx h hx2
      rw [← e, nan_word g hy2] at h1
      exact nan_means h1
  · cases hy2 : nanB y
    · simp only [Bool.true_or, if_true, Bool.and_false, Bool.false_eq_true, iff_false]
      intro e
      have h1 := num_means hy g hy2
      rw [e, nan_word h hx2] at h1
      exact nan_means h1
    · simp only [Bool.or_self, if_true, Bool.and_self, iff_true]
      rw [nan_word h hx2, nan_word g hy2]
theorem alike_self (x : Nat) (h : nanB x = false) : alikeB x x = true := by
  unfold alikeB
  rw [h]; simp
set_option maxRecDepth 100000 in
set_option maxHeartbeats 4000000 in
theorem backC (x y : Nat) (w : World) (hf : FS w) (hx : x < 18446744073709551616) (hy : y < 18446744073709551616) :
    Calls Tryz.prog 4 #[.int .u64 x, .int .u64 y] w fun e w' => e = .returned (.bool true) ∧ Below w.heap.size w w' := by
  have HF := fhid hf
  have cw := wakesC w hf
  have hfr := f64from
  have cp : Hid (∀ W, FS W → Calls Tryz.prog 10 #[.float .f64 x] W (PrPost x W)) := fhid (fun W h => printC x W h hx)
  have cq : Hid (∀ W, FS W → Calls Tryz.prog 10 #[.float .f64 y] W (PrPost y W)) := fhid (fun W h => printC y W h hy)
  have ca : Hid (∀ W, Calls Tryz.prog 13 #[.float .f64 x, .float .f64 y] W fun e w' => e = .returned (.bool (alikeB x y)) ∧ W = w') := fhid (fun W => alikeC x y W hx hy)
  have cx : Hid (∀ W, Calls Tryz.prog 13 #[.float .f64 x, .float .f64 x] W fun e w' => e = .returned (.bool (alikeB x x)) ∧ W = w') := fhid (fun W => alikeC x x W hx hx)
  have ho := ord_nanB hx
  have HSH : Hid (∀ t, PrintIs x t → 1 ≤ t.length ∧ t.length ≤ 24 ∧ Asc t) := fhid (fun t h => print_short hx h)
  have HAL : Hid (∀ s t, PrintIs x s → PrintIs y t → (t = s ↔ alikeB x y = true)) := fhid (fun s t h g => word_alike hx hy h g)
  have HNM : Hid (nanB x = false → ∀ t, PrintIs x t → Means t x) := fhid (fun h t g => num_means hx g h)
  clear hf hx hy
  go_enter Tryz.func4, Tryz.ntmps4
  go_wp2_with fail
  with_reducible refine cw.mono ?_
  clear cw
  rintro e w1 ⟨rfl, hb1⟩
  have B1 := fhid hb1
  have F1 := fhid (HF.out.on hb1)
  clear hb1
  go_wp2_with fail
  with_reducible refine (cp.out _ F1.out).mono ?_
  rintro e w2 ⟨t, rfl, ht, hts, hb2⟩
  have HT := fhid ht
  have B2 := fhid (B1.out.trans (hb2.mono B1.out.size))
  have F2 := fhid (F1.out.on hb2)
  obtain ⟨l1, l2, l3⟩ := HSH.out _ ht
  rw [bl_length] at l1 l2
  have HASC := fhid l3
  clear ht hb2 l3
  go_wp2_with fail
  with_reducible refine (cq.out _ F2.out).mono ?_
  rintro e w3 ⟨t2, rfl, ht2, hts2, hb3⟩
  have HT2 := fhid ht2
  have B3 := fhid (B2.out.trans (hb3.mono B2.out.size))
  have F3 := fhid (F2.out.on hb3)
  clear ht2 hb3
  go_wp2_with fail
  with_reducible refine (ca.out _).mono ?_
  rintro e w4 ⟨rfl, rfl⟩
  have heq : (t2.toList == t.toList) = alikeB x y := by
    rw [Bool.eq_iff_iff, ← HAL.out _ _ HT.out HT2.out, beq_iff_eq]
    constructor
    · intro h
      rw [ByteArray.toList_eq, ByteArray.toList_eq] at h
      exact congrArg (List.map UInt8.toNat) h
    · intro h
      rw [bl_inj h]
  have HO := fhid ho
  clear ho
  go_wp2_with fail
  have ho := HO.out
  clear HO
  cases hxn : nanB x
  · rw [hxn, if_neg (by decide)] at ho
    have cpa := fhid (fun W (hW : FS W) => parseMeans t x W hW.fo (by omega) HASC.out (HNM.out hxn _ HT.out))
    have hself := alike_self x hxn
    clear HAL HNM HSH
    clear hxn
    with_reducible refine (cpa.out _ F3.out).mono ?_
    rintro e w4 ⟨rfl, hb4⟩
    have B4 := fhid (B3.out.trans (hb4.mono B3.out.size))
    clear hb4
    go_wp2_with fail
    with_reducible refine (cx.out _).mono ?_
    rintro e w5 ⟨rfl, rfl⟩
    rw [hself]
    go_wp2_with fail
    go_ret
    exact ⟨rfl, B4.out⟩
  · rw [hxn, if_pos rfl] at ho
    have hbl : bl t = [110, 97, 110] := nan_word HT.out hxn
    obtain rfl : t = ⟨#[110, 97, 110]⟩ := bl_inj hbl
    have cpa := fhid (fun W => parseNo ⟨#[110, 97, 110]⟩ W (by decide) HASC.out (by decide) (by decide))
    clear HAL HNM HSH
    clear hxn
    with_reducible refine (cpa.out _).mono ?_
    rintro e w4 ⟨rfl, hb4⟩
    have B4 := fhid (B3.out.trans (hb4.mono B3.out.size))
    clear hb4
    go_wp2_with fail
    go_ret
    exact ⟨rfl, B4.out⟩
end Go.Proofs.YtlhhpehfgkanoaaGreatDoor.fl
