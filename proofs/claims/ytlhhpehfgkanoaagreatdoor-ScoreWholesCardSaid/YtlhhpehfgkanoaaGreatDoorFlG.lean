/- From what the rows list of the library's tables to what the walks ask of memory. -/
import Derived.Test.YtlhhpehfgkanoaaGreatDoorFlF
import Derived.Test.YtlhhpehfgkanoaaGreatDoorFlE
import Derived.Deep.RegionWith
import Derived.Test.YtlhhpehfgkanoaaGreatDoorRows
import Derived.Lib.LaidU8
import Derived.ProofKit
/- The walk of score's laid. -/
namespace Go.Proofs.YtlhhpehfgkanoaaGreatDoor.fl
open Go.ChangeShapes Go.WideShapes Go.ChangeAt Go.RowKit
set_option linter.unusedVariables false
set_option linter.unusedSimpArgs false
/-- A string of these bytes is answered. -/
def StrPost (l : List Nat) (w : World) (e : Ending) (w' : World) : Prop := ∃ t : ByteArray, e = .returned (.string t) ∧ bl t = l ∧ t.size ≤ 1000 ∧ Below w.heap.size w w'
theorem idg_nat (n : Nat) : idg (n : Int) = ddg n := by
  unfold idg
  rw [if_neg (by omega), Int.natAbs_natCast]; rfl
theorem repeat_bl (n : Nat) : (Lib.repeatL [48] n).map UInt8.toNat = List.replicate n 48 := by
  induction n with
  | zero => rfl
  | succ n ih => rw [Lib.repeatL, List.map_append, ih, List.replicate_succ]; rfl
theorem repeatC (n : Nat) (w : World) (hn : n ≤ 500) :
    Calls Tryz.prog 52 #[.string ⟨#[48]⟩, .int .i64 n] w (StrPost (List.replicate n 48) w) := by
  refine (Tryz.strings_Repeat ⟨#[48]⟩ n w (by omega) (by show 1 * n ≤ _; omega)).mono ?_
  rintro e w' ⟨rfl, hb⟩
  have h1 : bl ⟨(Lib.repeatL (⟨#[48]⟩ : ByteArray).data.toList n).toArray⟩ = List.replicate n 48 := by
    rw [bl_mk]; exact repeat_bl n
  exact ⟨_, rfl, h1, by rw [← bl_length, h1, List.length_replicate]; omega, hb⟩
theorem ddg_one {n : Nat} (h : n < 10) : (ddg n).length = 1 := by rw [ddg_small h]; rfl
theorem ddg_two {n : Nat} (h : ¬ n < 10) : 2 ≤ (ddg n).length := by
  rw [ddg_big h, List.length_append, List.length_singleton]
  have := ddg_pos (n / 10)
  omega
theorem lay_far {d : List Nat} {p : Int} {M : Nat} (hp : p < -4 ∨ 17 < p) (hM : max (p - 1) (1 - p) = M) :
    layS d p = (if 1 < d.length then d.take 1 ++ [46] ++ d.drop 1 else d) ++ [101, if p < 1 then 45 else 43] ++ (if M < 10 then [48] else []) ++ ddg M := by
  unfold layS
  rw [if_pos hp, hM]
  have h10 : ((M : Int) < 10) = (M < 10) := propext (by omega)
  simp only [h10, Int.toNat_natCast]
/-- The digits with a point behind the first. -/
def headS (s : ByteArray) : ByteArray := if 1 < s.size then s.extract 0 1 ++ ⟨#[46]⟩ ++ s.extract 1 s.size else s
theorem headS_bl (s : ByteArray) : bl (headS s) = if 1 < (bl s).length then (bl s).take 1 ++ [46] ++ (bl s).drop 1 else bl s := by
  unfold headS
  rw [bl_length]
  by_cases h : 1 < s.size
  · rw [if_pos h, if_pos h, bl_append, bl_append, bl_extract, bl_extract]
    have e1 : (bl s).length = s.size := bl_length s
    simp only [List.drop_zero, Nat.sub_zero]
    congr 1
    rw [List.take_of_length_le]
    rw [List.length_drop, e1]; exact Nat.le_refl _
  · rw [if_neg h, if_neg h]
theorem headS_size (s : ByteArray) (h : s.size ≤ 100) : (headS s).size ≤ 101 := by
  rw [← bl_length, headS_bl, bl_length]
  split
  · simp only [List.length_append, List.length_take, List.length_drop, List.length_singleton, bl_length]; omega
  · rw [bl_length]; omega
theorem bl_em : bl ⟨#[101, 45]⟩ = [101, 45] := rfl
theorem bl_ep : bl ⟨#[101, 43]⟩ = [101, 43] := rfl
theorem bl_0 : bl ⟨#[48]⟩ = [48] := rfl
theorem bl_dot : bl ⟨#[46]⟩ = [46] := rfl
theorem bl_0dot : bl ⟨#[48, 46]⟩ = [48, 46] := rfl
theorem bl_minus : bl ⟨#[45]⟩ = [45] := rfl
theorem bl_none : bl ⟨#[]⟩ = [] := rfl
theorem sz_em : (⟨#[101, 45]⟩ : ByteArray).size = 2 := rfl
theorem sz_ep : (⟨#[101, 43]⟩ : ByteArray).size = 2 := rfl
theorem sz_0 : (⟨#[48]⟩ : ByteArray).size = 1 := rfl
theorem sz_dot : (⟨#[46]⟩ : ByteArray).size = 1 := rfl
theorem sz_0dot : (⟨#[48, 46]⟩ : ByteArray).size = 2 := rfl
theorem sz_minus : (⟨#[45]⟩ : ByteArray).size = 1 := rfl
theorem sz_none : (⟨#[]⟩ : ByteArray).size = 0 := rfl
set_option maxRecDepth 100000 in
set_option maxHeartbeats 2000000 in
theorem laidFar (s : ByteArray) (p : Int) (M : Nat) (w : World) (hf : FS w) (h0 : 0 < s.size) (hs : s.size ≤ 100) (hp1 : -1000 ≤ p) (hp2 : p ≤ 1000) (hp : p < -4 ∨ 17 < p) (hM : max (p - 1) (1 - p) = M) :
    Calls Tryz.prog 30 #[.string s, .int .i64 p] w (StrPost (layS (bl s) p) w) := by
  have hlay := lay_far (d := bl s) hp hM
  rw [← headS_bl] at hlay
  have HL := fhid hlay
  have hM2 : M ≤ 1001 := by omega
  have HM := fhid hM
  have ci : Hid (∀ W, FS W → Calls Tryz.prog 51 #[.int .i64 M] W (ItPost M W)) := fhid (fun W h => itoaC M W (by omega) (by omega) h)
  have HF := fhid hf
  have hhs := headS_size s hs
  clear hf hlay hM
  by_cases h1 : 1 < s.size
  · -- more digits
    have HH : Hid (s.extract 0 1 ++ ⟨#[46]⟩ ++ s.extract 1 s.size = headS s) := fhid (by unfold headS; rw [if_pos h1])
    rcases hp with hp | hp
    · by_cases hten : M < 10
      · go_enter Tryz.func30, Tryz.ntmps30
        go_wp2_with fail
        go_quiet (fail)
        go_wp2_with fail
        rw [HM.out, HH.out]
        with_reducible refine (ci.out _ (HF.out.on (below_drewN w _))).mono ?_
        rintro e w1 ⟨e1, rfl, he, hes, hb⟩
        have HB := fhid ((below_drewN w _).trans (hb.mono (below_drewN w _).size))
        rw [idg_nat] at he
        have HE := fhid he
        have hl1 : e1.size = (ddg M).length := by rw [← bl_length, he]
        have hl2 : e1.size < 2 := by rw [hl1, ddg_one hten]; decide
        clear he hb hl1
        go_wp2_with fail
        go_ret
        refine ⟨_, rfl, ?_, ?_, HB.out⟩
        · rw [HL.out, if_pos (by omega), if_pos hten]
          simp only [bl_append, HE.out, bl_em, bl_ep, bl_0, List.append_assoc, List.nil_append]
        · simp only [ByteArray.size_append, sz_em, sz_ep, sz_0]; omega
      · go_enter Tryz.func30, Tryz.ntmps30
        go_wp2_with fail
        go_quiet (fail)
        go_wp2_with fail
        rw [HM.out, HH.out]
        with_reducible refine (ci.out _ (HF.out.on (below_drewN w _))).mono ?_
        rintro e w1 ⟨e1, rfl, he, hes, hb⟩
        have HB := fhid ((below_drewN w _).trans (hb.mono (below_drewN w _).size))
        rw [idg_nat] at he
        have HE := fhid he
        have hl1 : e1.size = (ddg M).length := by rw [← bl_length, he]
        have hl2 : ¬ e1.size < 2 := by rw [hl1]; have := ddg_two hten; omega
        clear he hb hl1
        go_wp2_with fail
        go_ret
        refine ⟨_, rfl, ?_, ?_, HB.out⟩
        · rw [HL.out, if_pos (by omega), if_neg hten]
          simp only [bl_append, HE.out, bl_em, bl_ep, bl_0, List.append_assoc, List.nil_append]
        · simp only [ByteArray.size_append, sz_em, sz_ep, sz_0]; omega
    · have hten : ¬ M < 10 := by have := HM.out; omega
      go_enter Tryz.func30, Tryz.ntmps30
      go_wp2_with fail
      go_quiet (fail)
      go_wp2_with fail
      rw [HM.out, HH.out]
      with_reducible refine (ci.out _ (HF.out.on (below_drewN w _))).mono ?_
      rintro e w1 ⟨e1, rfl, he, hes, hb⟩
      have HB := fhid ((below_drewN w _).trans (hb.mono (below_drewN w _).size))
      rw [idg_nat] at he
      have HE := fhid he
      have hl1 : e1.size = (ddg M).length := by rw [← bl_length, he]
      have hl2 : ¬ e1.size < 2 := by rw [hl1]; have := ddg_two hten; omega
      clear he hb hl1
      go_wp2_with fail
      go_ret
      refine ⟨_, rfl, ?_, ?_, HB.out⟩
      · rw [HL.out, if_neg (by omega), if_neg hten]
        simp only [bl_append, HE.out, bl_em, bl_ep, bl_0, List.append_assoc, List.nil_append]
      · simp only [ByteArray.size_append, sz_em, sz_ep, sz_0]; omega
  · -- one digit
    have HH : Hid (s = headS s) := fhid (by unfold headS; rw [if_neg h1])
    rcases hp with hp | hp
    · by_cases hten : M < 10
      · go_enter Tryz.func30, Tryz.ntmps30
        go_wp2_with fail
        rw [HM.out]
        with_reducible refine (ci.out _ HF.out).mono ?_
        rintro e w1 ⟨e1, rfl, he, hes, hb⟩
        have HB := fhid (hb)
        rw [idg_nat] at he
        have HE := fhid he
        have hl1 : e1.size = (ddg M).length := by rw [← bl_length, he]
        have hl2 : e1.size < 2 := by rw [hl1, ddg_one hten]; decide
        clear he hb hl1
        go_wp2_with fail
        go_ret
        refine ⟨_, rfl, ?_, ?_, HB.out⟩
        · rw [HL.out, ← HH.out, if_pos (by omega), if_pos hten]
          simp only [bl_append, HE.out, bl_em, bl_ep, bl_0, List.append_assoc, List.nil_append]
        · simp only [ByteArray.size_append, sz_em, sz_ep, sz_0]; omega
      · go_enter Tryz.func30, Tryz.ntmps30
        go_wp2_with fail
        rw [HM.out]
        with_reducible refine (ci.out _ HF.out).mono ?_
        rintro e w1 ⟨e1, rfl, he, hes, hb⟩
        have HB := fhid (hb)
        rw [idg_nat] at he
        have HE := fhid he
        have hl1 : e1.size = (ddg M).length := by rw [← bl_length, he]
        have hl2 : ¬ e1.size < 2 := by rw [hl1]; have := ddg_two hten; omega
        clear he hb hl1
        go_wp2_with fail
        go_ret
        refine ⟨_, rfl, ?_, ?_, HB.out⟩
        · rw [HL.out, ← HH.out, if_pos (by omega), if_neg hten]
          simp only [bl_append, HE.out, bl_em, bl_ep, bl_0, List.append_assoc, List.nil_append]
        · simp only [ByteArray.size_append, sz_em, sz_ep, sz_0]; omega
    · have hten : ¬ M < 10 := by have := HM.out; omega
      go_enter Tryz.func30, Tryz.ntmps30
      go_wp2_with fail
      rw [HM.out]
      with_reducible refine (ci.out _ HF.out).mono ?_
      rintro e w1 ⟨e1, rfl, he, hes, hb⟩
      have HB := fhid (hb)
      rw [idg_nat] at he
      have HE := fhid he
      have hl1 : e1.size = (ddg M).length := by rw [← bl_length, he]
      have hl2 : ¬ e1.size < 2 := by rw [hl1]; have := ddg_two hten; omega
      clear he hb hl1
      go_wp2_with fail
      go_ret
      refine ⟨_, rfl, ?_, ?_, HB.out⟩
      · rw [HL.out, ← HH.out, if_neg (by omega), if_neg hten]
        simp only [bl_append, HE.out, bl_em, bl_ep, bl_0, List.append_assoc, List.nil_append]
      · simp only [ByteArray.size_append, sz_em, sz_ep, sz_0]; omega
theorem lay_b {d : List Nat} {p : Int} (h1 : -4 ≤ p) (h2 : p ≤ 0) : layS d p = [48, 46] ++ List.replicate (-p).toNat 48 ++ d := by
  unfold layS
  rw [if_neg (by omega), if_pos h2]
theorem lay_c {d : List Nat} {p : Int} (h1 : 0 < p) (h2 : p ≤ 17) (h3 : d.length ≤ p) : layS d p = d ++ List.replicate (p - d.length).toNat 48 := by
  unfold layS
  rw [if_neg (by omega), if_neg (by omega), if_pos h3]
theorem lay_d {d : List Nat} {p : Int} (h1 : 0 < p) (h2 : p ≤ 17) (h3 : ¬ d.length ≤ p) : layS d p = d.take p.toNat ++ [46] ++ d.drop p.toNat := by
  unfold layS
  rw [if_neg (by omega), if_neg (by omega), if_neg h3]
set_option maxRecDepth 100000 in
set_option maxHeartbeats 2000000 in
theorem laidC (s : ByteArray) (p : Int) (w : World) (hf : FS w) (h0 : 0 < s.size) (hs : s.size ≤ 100) (hp1 : -1000 ≤ p) (hp2 : p ≤ 1000) :
    Calls Tryz.prog 30 #[.string s, .int .i64 p] w (StrPost (layS (bl s) p) w) := by
  by_cases hp : p < -4 ∨ 17 < p
  · exact laidFar s p (max (p - 1) (1 - p)).toNat w hf h0 hs hp1 hp2 hp (by omega)
  · have q1 : -4 ≤ p := by omega
    have q2 : p ≤ 17 := by omega
    have q3 : ¬ p < -4 := by omega
    have q4 : ¬ 17 < p := by omega
    clear hp hp1 hp2
    by_cases hz : p ≤ 0
    · obtain ⟨n, hn⟩ : ∃ n : Nat, -p = n := ⟨(-p).toNat, by omega⟩
      have HL := fhid (lay_b (d := bl s) q1 hz)
      have HN := fhid hn
      have cr : Hid (∀ W, Calls Tryz.prog 52 #[.string ⟨#[48]⟩, .int .i64 n] W (StrPost (List.replicate n 48) W)) := fhid (fun W => repeatC n W (by omega))
      clear hf
      go_enter Tryz.func30, Tryz.ntmps30
      go_wp2_with fail
      with_reducible refine (cr.out _).mono ?_
      rintro e w1 ⟨e1, rfl, he, hes, hb⟩
      have HB := fhid hb
      have HE := fhid he
      clear he hb
      go_wp2_with fail
      go_ret
      refine ⟨_, rfl, ?_, ?_, HB.out⟩
      · rw [HL.out, HN.out, Int.toNat_natCast]
        simp only [bl_append, HE.out, bl_0dot]
      · have := HE.out
        have h1 : e1.size = n := by rw [← bl_length, this, List.length_replicate]
        have := HN.out
        simp only [ByteArray.size_append, sz_0dot]; omega
    · by_cases hc : (s.size : Int) ≤ p
      · obtain ⟨n, hn⟩ : ∃ n : Nat, p - (s.size : Int) = n := ⟨(p - s.size).toNat, by omega⟩
        have HL := fhid (lay_c (d := bl s) (by omega) q2 (by rw [bl_length]; exact hc))
        have HN := fhid hn
        have cr : Hid (∀ W, Calls Tryz.prog 52 #[.string ⟨#[48]⟩, .int .i64 n] W (StrPost (List.replicate n 48) W)) := fhid (fun W => repeatC n W (by omega))
        clear hf
        go_enter Tryz.func30, Tryz.ntmps30
        go_wp2_with fail
        with_reducible refine (cr.out _).mono ?_
        rintro e w1 ⟨e1, rfl, he, hes, hb⟩
        have HB := fhid hb
        have HE := fhid he
        clear he hb
        go_wp2_with fail
        go_ret
        refine ⟨_, rfl, ?_, ?_, HB.out⟩
        · rw [HL.out, bl_length, HN.out, Int.toNat_natCast]
          simp only [bl_append, HE.out]
        · have := HE.out
          have h1 : e1.size = n := by rw [← bl_length, this, List.length_replicate]
          have := HN.out
          simp only [ByteArray.size_append]; omega
      · have HL := fhid (lay_d (d := bl s) (by omega) q2 (by rw [bl_length]; exact hc))
        obtain ⟨n, rfl⟩ : ∃ n : Nat, p = n := ⟨p.toNat, by omega⟩
        have hns : n < s.size := by omega
        clear hf
        go_enter Tryz.func30, Tryz.ntmps30
        go_wp2_with fail
        go_quiet (fail)
        go_wp2_with fail
        go_ret
        refine ⟨_, rfl, ?_, ?_, below_drewN w _⟩
        · rw [HL.out, Int.toNat_natCast]
          simp only [bl_append, bl_extract, bl_dot, List.drop_zero, Nat.sub_zero]
          rw [List.take_of_length_le (l := (bl s).drop n)]
          rw [List.length_drop, bl_length]; exact Nat.le_refl _
        · rw [← bl_length]
          simp only [bl_append, bl_extract, bl_dot, List.length_append, List.length_take, List.length_drop, bl_length, List.length_singleton]
          omega
end Go.Proofs.YtlhhpehfgkanoaaGreatDoor.fl
/- The walk of the reference's Shortest. -/
namespace Go.Proofs.YtlhhpehfgkanoaaGreatDoor.fl
open Go.ChangeShapes Go.WideShapes Go.ChangeAt Go.RowKit
set_option linter.unusedVariables false
theorem ag_two (u d : Nat) (q : Int) : (agL (pM u) (pE u + 1) q < agR d (pE u + 1) q ↔ 2 * (V u * valD q) < valN d q) ∧ (agR d (pE u + 1) q < agL (pM u) (pE u + 1) q ↔ valN d q < 2 * (V u * valD q)) := by
  obtain ⟨s, h1, h2, h3⟩ := parts_V u
  have h := ag_lt (pM u) (pE u + 1) q d (s + 2) (by rw [K75_eq]; rw [K74_eq] at h1; omega)
  rw [Nat.pow_add, ← Nat.mul_assoc, h2] at h
  have e1 : V u * 2 ^ 2 * valD q = 4 * (V u * valD q) := by rw [Nat.mul_comm (V u), Nat.mul_assoc]
  rw [e1] at h
  exact ⟨h.1.trans (by omega), h.2.trans (by omega)⟩
theorem pE_inf {u : Nat} (h : u < infR) : pE u ≤ 1000 := by
  have hi : infR = 9218868437227405312 := rfl
  unfold pE
  split
  · omega
  · omega
def K331 : Nat := 331
theorem K331_eq : K331 = 331 := rfl
theorem two_331 : 2 ^ K74 ≤ 10 ^ K331 := by decide +kernel
theorem start_331 {u : Nat} (h0 : 0 < u) : valN 1 (-330 - 1) ≤ V u * valD (-330 - 1) := by
  rw [valD_eq, valN_eq, show (-330 - 1 : Int).toNat = 0 by omega, Nat.pow_zero, Nat.mul_one, Nat.one_mul, show (-(-330 - 1) : Int).toNat = K331 by rw [K331_eq]; omega]
  have g1 := V_ge u
  have g3 := two_331
  have g4 : 1 * 10 ^ K331 ≤ V u * 10 ^ K331 := Nat.mul_le_mul_right _ (by omega)
  omega
theorem hi_400 {u : Nat} (hu : u < infR) {p : Int} (hp : 400 ≤ p) : V u * valD p < valN 1 p := by
  rw [valD_eq, valN_eq, show (-p).toNat = 0 by omega, Nat.pow_zero, Nat.mul_one, Nat.one_mul]
  have h1 := V_lt hu
  have h2 : 10 ^ K400 * 2 ^ K74 ≤ 10 ^ p.toNat * 2 ^ K74 := Nat.mul_le_mul_right _ (Nat.pow_le_pow_right (by decide) (by rw [K400_eq]; omega))
  have h3 := inf_400
  omega
theorem last_par {l : List Nat} {j : Nat} (hl : l.length = j + 1) (h : ∀ c ∈ l, isDig c) : l.getD j 0 % 2 = dnum l % 2 ∧ l.getD j 0 < 256 := by
  have h1 := dnum_take (m := l) (k := j) (by omega) h
  rw [List.take_of_length_le (by omega)] at h1
  omega
/-- What the last loop keeps. -/
def StripR (l x : List Nat) : Prop := ∃ j, 1 ≤ j ∧ j ≤ l.length ∧ x = l.take j ∧ strip x = strip l
theorem StripR.start {l : List Nat} (h : 0 < l.length) : StripR l l := ⟨l.length, h, Nat.le_refl _, by simp, rfl⟩
theorem StripR.next {l x : List Nat} {m : Nat} (h : StripR l x) (hx : x.length = m + 1) (hm : 0 < m) (h0 : x.getD m 0 = 48) : StripR l (x.take m) := by
  obtain ⟨j, h1, h2, rfl, h4⟩ := h
  rw [List.length_take] at hx
  obtain rfl : j = m + 1 := by omega
  refine ⟨m, hm, by omega, by rw [List.take_take, Nat.min_eq_left (by omega)], ?_⟩
  rw [← h4]
  have e : l.take (m + 1) = l.take m ++ [48] := by
    rw [take_succ_getD (by omega)]
    rw [List.getD_eq_getElem?_getD, List.getElem?_take, if_pos (by omega), ← List.getD_eq_getElem?_getD] at h0
    rw [h0]
  rw [e, strip_snoc, if_pos rfl]
  congr 1
  rw [List.take_append_of_le_length (by rw [List.length_take]; omega), List.take_take, Nat.min_self]
theorem StripR.done {l x : List Nat} {m : Nat} (h : StripR l x) (hx : x.length = m + 1) (h0 : x.getD m 0 ≠ 48) : x = strip l := by
  obtain ⟨j, h1, h2, h3, h4⟩ := h
  rw [← h4]
  have e : x = x.take m ++ [x.getD m 0] := by
    have := take_succ_getD (l := x) (k := m) (by omega)
    rw [List.take_of_length_le (by omega)] at this
    exact this
  rw [e, strip_snoc]
  rw [← e, if_neg h0]
theorem StripR.one {l x : List Nat} (h : StripR l x) (hx : x.length = 1) (hl : l.getD 0 0 ≠ 48) : x = strip l := by
  refine h.done (m := 0) hx ?_
  obtain ⟨j, h1, h2, rfl, h4⟩ := h
  rw [List.getD_eq_getElem?_getD, List.getElem?_take, if_pos (by omega), ← List.getD_eq_getElem?_getD]
  exact hl
/-- The row of digits that is told. -/
theorem row_lo {s : ByteArray} {u k : Nat} {p : Int} (hd : Digs s) (hs : s.size = k) (hk : 1 ≤ k) (ht : Top u p) (hf : FloorIs u (p - k) (dnum (bl s))) : bl s = ddg (dnum (bl s)) := by
  obtain ⟨j, rfl⟩ : ∃ j, k = j + 1 := ⟨k - 1, by omega⟩
  have h1 := floor_range ht hf hk
  exact ddg_of hd (by rw [bl_length, hs]) (by simpa using h1.1)
theorem row_hi {s t : ByteArray} {u k : Nat} {p : Int} (hd : Digs t) (hs : s.size = k) (hk : 1 ≤ k) (ht : Top u p) (hf : FloorIs u (p - k) (dnum (bl s))) (hn : dnum (bl t) = dnum (bl s) + 1)
    (hz : t.size = s.size ∨ t.size = s.size + 1 ∧ dnum (bl s) + 1 = 10 ^ s.size) : bl t = ddg (dnum (bl t)) := by
  obtain ⟨j, rfl⟩ : ∃ j, k = j + 1 := ⟨k - 1, by omega⟩
  have h1 := floor_range ht hf hk
  rw [Nat.add_sub_cancel] at h1
  rcases hz with h | ⟨h, h2⟩
  · exact ddg_of hd (by rw [bl_length, h, hs]) (by omega)
  · exact ddg_of (k := j + 1) hd (by rw [bl_length, h, hs]) (by rw [hn, h2, hs]; exact Nat.le_refl _)
set_option maxRecDepth 100000 in
set_option maxHeartbeats 4000000 in
theorem shortestR (u : Nat) (w : World) (h0 : 0 < u) (hu : u < infR) :
    Calls Tryz.prog 32 #[.int .u64 u] w (ShPost u w) := by
  have hub : u < 9223372036854775808 := Nat.lt_trans hu (by decide)
  obtain ⟨b1, _, b3⟩ := pE_bd u hub
  have b2 := pE_inf hu
  have c1 := partsR u w hub
  have cA : Hid (∀ y d q W, Num .u64 W y d → d < Bs ^ KB → -900 ≤ q → q ≤ 900 → Calls Tryz.prog 54 #[.int .u64 (pM u), .int .i64 (pE u), y, .int .i64 q] W (CmpPost (agL (pM u) (pE u) q) (agR d (pE u) q) W)) := fhid fun y d q W h hd h1 h2 => againstR _ _ y d q W (by omega) (by omega) (by omega) h1 h2 h hd
  have cB : Hid (∀ y d q W, Num .u64 W y d → d < Bs ^ KB → -900 ≤ q → q ≤ 900 → Calls Tryz.prog 54 #[.int .u64 (pM u), .int .i64 (pE u + 1), y, .int .i64 q] W (CmpPost (agL (pM u) (pE u + 1) q) (agR d (pE u + 1) q) W)) := fhid fun y d q W h hd h1 h2 => againstR _ _ y d q W (by omega) (by omega) (by omega) h1 h2 h hd
  have hR : Hid (∀ d q, (agL (pM u) (pE u) q < agR d (pE u) q ↔ V u * valD q < valN d q)) := fhid fun d q => (ag_rung u d q).1
  have hT : Hid (∀ d q, (agL (pM u) (pE u + 1) q < agR d (pE u + 1) q ↔ 2 * (V u * valD q) < valN d q) ∧ (agR d (pE u + 1) q < agL (pM u) (pE u + 1) q ↔ valN d q < 2 * (V u * valD q))) := fhid fun d q => ag_two u d q
  obtain ⟨M, hM⟩ : ∃ M, pM u = M := ⟨_, rfl⟩
  obtain ⟨E, hE⟩ : ∃ M, pE u = M := ⟨_, rfl⟩
  rw [hM, hE] at c1 cA cB hR hT
  rw [hE] at b1 b2
  rw [hM] at b3
  have H0 := fhid h0
  have HU := fhid hu
  clear hM hE h0 hu
  go_enter Tryz.func32, Tryz.ntmps32
  go_wp2_with fail
  refine c1.mono ?_
  clear c1
  rintro e w1 ⟨rfl, rfl⟩
  go_wp2_with fail
  go_loopw [6] (fun v wr => ∃ (p : Int), v = .int .i64 p ∧ -330 ≤ p ∧ p ≤ 400 ∧ Hid (valN 1 (p - 1) ≤ V u * valD (p - 1)) ∧ Hid (Below w1.heap.size w1 wr)) (fun v _ => (401 - intOf v).toNat)
  case atStart => exact ⟨-330, rfl, by omega, by omega, fhid (start_331 H0.out), fhid (Below.refl _ _)⟩
  case round =>
    obtain ⟨p, rfl, hp1, hp2, hlo, hB⟩ := hrel
    go_wp2_with fail
    refine (ofR 1 _ (by decide)).mono ?_
    rintro e w2 ⟨y, rfl, hy, hb2⟩
    have Y2 := fhid hy
    have B2 := fhid (hB.out.trans (hb2.mono hB.out.size))
    clear hy hb2
    go_wp2_with fail
    refine (cA.out y 1 p _ Y2.out (of_kb (by decide)) (by omega) (by omega)).mono ?_
    rintro e w3 ⟨r, rfl, hr1, hr2, hb3⟩
    have R1 := fhid (hr1.trans (hR.out _ _))
    have B3 := fhid (B2.out.trans (hb3.mono B2.out.size))
    clear hr1 hr2 hb3 Y2 B2 hB
    by_cases hge : 0 ≤ r
    · have hnl : Hid (¬ V u * valD p < valN 1 p) := fhid (fun h => by have := R1.out.mpr h; omega)
      have hp3 : p < 400 := by
        by_cases hh : p < 400
        · exact hh
        · exact absurd (hi_400 HU.out (by omega)) hnl.out
      have hlo2 : Hid (valN 1 (p + 1 - 1) ≤ V u * valD (p + 1 - 1)) := fhid (by rw [show p + 1 - 1 = p by omega]; exact Nat.le_of_not_lt hnl.out)
      go_wp2_with fail
      go_roundw
      case rel => exact ⟨p + 1, by go_num, by omega, by omega, hlo2, B3⟩
      case measure => simp [intOf]; omega
    · have TP : Hid (Top u p) := fhid ⟨hlo.out, R1.out.mp (by omega)⟩
      have HT2 := fhid TP.out.2
      clear R1 hlo
      go_wp2_with fail
      go_loopw [7] (fun kv wr => ∃ (j : Nat), kv = .int .i64 ((j : Int) + 1) ∧ j ≤ 16 ∧ Hid (Quiet u p (j + 1)) ∧ Hid (Below w1.heap.size w1 wr)) (fun kv _ => 20 - (intOf kv).toNat)
      case atStart => exact ⟨0, rfl, by decide, fhid (fun j h1 h2 => by omega), B3⟩
      case round =>
        clear B3
        obtain ⟨j, rfl, hj, hQ, hB⟩ := hrel
        have hle : ((j : Int) + 1 ≤ 17) := by omega
        have hle2 : decide ((j : Int) + 1 ≤ 17) = true := decide_eq_true hle
        obtain ⟨J, hJ⟩ : ∃ J : Nat, j + 1 = J := ⟨_, rfl⟩
        have hk1 : (j : Int) + 1 = (J : Int) := by omega
        have HJ := fhid hJ
        have hJ17 : J ≤ 17 := by omega
        have hJ1 : 1 ≤ J := by omega
        rw [hJ] at hQ
        clear hJ
        go_wp2_with fail
        with_reducible refine (floorR u p J _ HU.out (by omega) hp2 hJ17 HT2.out).mono ?_
        rintro e w4 ⟨s, rfl, hs, hd, hf, hb4⟩
        have hs100 : s.size ≤ 100 := by omega
        have HD := fhid hd
        have HS := fhid hs
        have HFL := fhid hf
        have B4 := fhid (hB.out.trans (hb4.mono hB.out.size))
        clear hs hd hf hb4 hB
        go_wp2_with fail
        refine (upR s _ HD.out hs100).mono ?_
        rintro e w5 ⟨t, rfl, htd, htn, htz, hb5⟩
        have ht100 : t.size ≤ 100 := by have := HS.out; omega
        have HTD := fhid htd
        have HTN := fhid htn
        have HTZ := fhid htz
        have B5 := fhid (B4.out.trans (hb5.mono B4.out.size))
        clear htd htn htz hb5 B4
        have hLk : Hid (dnum (bl s) < Bs ^ KB) := fhid (ten_kc (k := (bl s).length) (by rw [bl_length]; omega) (dnum_lt _ HD.out))
        have hHk : Hid (dnum (bl t) < Bs ^ KB) := fhid (ten_kc (k := (bl t).length) (by rw [bl_length]; omega) (dnum_lt _ HTD.out))
        obtain ⟨q, hq⟩ : ∃ q, p - (J : Int) = q := ⟨_, rfl⟩
        have hq1 : -900 ≤ q := by omega
        have hq2 : q ≤ 900 := by omega
        have HQ := fhid hq
        go_wp2_with fail
        refine (wholeR s _ HD.out hs100).mono ?_
        rintro e w6 ⟨y6, rfl, hy6, hb6⟩
        have Y6 := fhid hy6
        have B6 := fhid (B5.out.trans (hb6.mono B5.out.size))
        clear hy6 hb6 B5
        go_wp2_with fail
        refine (withinR _ _ q u _ H0.out HU.out hq1 hq2 Y6.out hLk.out).mono ?_
        rintro e w7 ⟨x1, rfl, hx1, hb7⟩
        have X1 := fhid hx1
        have B7 := fhid (B6.out.trans (hb7.mono B6.out.size))
        clear hx1 hb7 B6 Y6
        go_wp2_with fail
        refine (wholeR t _ HTD.out ht100).mono ?_
        rintro e w8 ⟨y8, rfl, hy8, hb8⟩
        have Y8 := fhid hy8
        have B8 := fhid (B7.out.trans (hb8.mono B7.out.size))
        clear hy8 hb8 B7
        go_wp2_with fail
        refine (withinR _ _ q u _ H0.out HU.out hq1 hq2 Y8.out hHk.out).mono ?_
        rintro e w9 ⟨x2, rfl, hx2, hb9⟩
        rw [HTN.out] at hx2
        have X2 := fhid hx2
        have B9 := fhid (B8.out.trans (hb9.mono B8.out.size))
        clear hx2 hb9 B8 Y8
        have HFQ : Hid (FloorIs u q (dnum (bl s))) := fhid (by rw [← HQ.out]; exact HFL.out)
        have HRL : Hid (bl s = ddg (dnum (bl s))) := fhid (row_lo HD.out HS.out hJ1 TP.out HFL.out)
        have HRH : Hid (bl t = ddg (dnum (bl t))) := fhid (row_hi HTD.out HS.out hJ1 TP.out HFL.out HTN.out HTZ.out)
        -- WAYS
        rcases x1 with _ | _
        · rcases x2 with _ | _
          · have HNX : Hid (Quiet u p (J + 1)) := fhid (hQ.out.next (L := dnum (bl s)) HFL.out (by rw [HQ.out]; exact pk_none X1.out X2.out rfl rfl))
            have hj2 : J ≤ 16 := by have := quiet_le H0.out TP.out HNX.out; omega
            go_wp2_with fail
            go_roundw
            case rel => exact ⟨J, by go_num, hj2, HNX, B9⟩
            case measure => simp [intOf]; omega
          · have HP : Hid (Pk u q (dnum (bl s)) (some (dnum (bl t)))) := fhid (by rw [HTN.out]; exact pk_hi X1.out X2.out rfl rfl)
            obtain ⟨D, hDD⟩ : ∃ D, dnum (bl t) = D := ⟨_, rfl⟩
            have HDD := fhid hDD
            have HBO : Hid (bl t = ddg D) := fhid (by rw [← hDD]; exact HRH.out)
            have HP2 : Hid (Pk u q (dnum (bl s)) (some D)) := fhid (by rw [← hDD]; exact HP.out)
            clear hDD HP
            have hop : 0 < t.size := by rw [← bl_length, HBO.out]; exact ddg_pos D
            have HSZ : Hid (t.size = (ddg D).length) := fhid (by rw [← bl_length, HBO.out])
            have HHD : Hid ((ddg D).getD 0 0 ≠ 48) := fhid (ddg_head (by
              have h1 := (floor_range TP.out HFL.out hJ1).1
              have h2 := pk_some HP2.out
              have h3 : 0 < 10 ^ (J - 1) := Nat.pow_pos (by decide)
              omega))
            obtain ⟨n, hn⟩ : ∃ n, t.size = n := ⟨_, rfl⟩
            have HN := fhid hn
            have hn1 : 1 ≤ n := by omega
            have hn2 : n ≤ 101 := by omega
            clear hn hop
            go_wp2_with fail
            try clear hmi
            try clear hatS hJm
            rw [HN.out]
            go_loopw [14] (fun ov wr => ∃ (x : ByteArray) (m : Nat), ov = .string x ∧ x.size = m + 1 ∧ m ≤ 101 ∧ Hid (StripR (ddg D) (bl x)) ∧ Hid (Below w1.heap.size w1 wr)) (fun ov _ => match ov with | .string x => x.size | _ => 0)
            case atStart => exact ⟨t, n - 1, rfl, by have := HN.out; omega, by omega, fhid (by rw [HBO.out]; exact StripR.start (ddg_pos D)), B9⟩
            case round =>
              obtain ⟨x, m, rfl, hx, hm, hSR, hBB⟩ := hrel
              have HX := fhid hx
              have hlt : m < x.size := by omega
              have hat := bl_at x m hlt
              obtain ⟨c, hc⟩ : ∃ c, (bl x).getD m 0 = c := ⟨_, rfl⟩
              rw [hc] at hat
              have HC := fhid hc
              have HLX : Hid ((bl x).length = m + 1) := fhid (by rw [bl_length]; exact hx)
              have hxs : x.size ≤ 102 := by omega
              clear hc
              by_cases hm0 : 0 < m
              · obtain ⟨m, rfl⟩ : ∃ z, m = z + 1 := ⟨m - 1, by omega⟩
                by_cases hcc : c = 48
                · subst hcc
                  have hex : bl (x.extract 0 (m + 1)) = (bl x).take (m + 1) := by rw [bl_extract]; simp
                  have hes : (x.extract 0 (m + 1)).size = m + 1 := by rw [← bl_length, hex, List.length_take, HLX.out]; omega
                  have HES := fhid hes
                  have HNX : Hid (StripR (ddg D) (bl (x.extract 0 (m + 1)))) := fhid (by rw [hex]; exact hSR.out.next HLX.out hm0 HC.out)
                  clear hex hes
                  -- ROUND
                  go_wp2_with fail
                  go_roundw
                  case rel => exact ⟨_, m, rfl, HES.out, by omega, HNX, hBB⟩
                  case measure => simp only []; have := HES.out; have := HX.out; omega
                · have hcz : ((c : Int) == 48) = false := by simp; omega
                  have HDN : Hid (bl x = strip (ddg D)) := fhid (hSR.out.done HLX.out (by rw [HC.out]; exact hcc))
                  clear hcc
                  go_wp2_with fail
                  go_ret2
                  exact ⟨_, _, rfl, ⟨p, J, dnum (bl s), D, hJ1, TP.out, hQ.out, by rw [HQ.out]; exact HFQ.out, by rw [HQ.out]; exact HP2.out, HDN.out, by have := HSZ.out; have := HN.out; omega⟩, hBB.out⟩
              · obtain rfl : m = 0 := by omega
                have HDN : Hid (bl x = strip (ddg D)) := fhid (hSR.out.one HLX.out HHD.out)
                go_wp2_with fail
                go_ret2
                exact ⟨_, _, rfl, ⟨p, J, dnum (bl s), D, hJ1, TP.out, hQ.out, by rw [HQ.out]; exact HFQ.out, by rw [HQ.out]; exact HP2.out, HDN.out, by have := HSZ.out; have := HN.out; omega⟩, hBB.out⟩
        · rcases x2 with _ | _
          · have HP : Hid (Pk u q (dnum (bl s)) (some (dnum (bl s)))) := fhid (pk_lo X1.out X2.out rfl rfl)
            obtain ⟨D, hDD⟩ : ∃ D, dnum (bl s) = D := ⟨_, rfl⟩
            have HDD := fhid hDD
            have HBO : Hid (bl s = ddg D) := fhid (by rw [← hDD]; exact HRL.out)
            have HP2 : Hid (Pk u q (dnum (bl s)) (some D)) := fhid (by rw [← hDD]; exact HP.out)
            clear hDD HP
            have hop : 0 < s.size := by rw [← bl_length, HBO.out]; exact ddg_pos D
            have HSZ : Hid (s.size = (ddg D).length) := fhid (by rw [← bl_length, HBO.out])
            have HHD : Hid ((ddg D).getD 0 0 ≠ 48) := fhid (ddg_head (by
              have h1 := (floor_range TP.out HFL.out hJ1).1
              have h2 := pk_some HP2.out
              have h3 : 0 < 10 ^ (J - 1) := Nat.pow_pos (by decide)
              omega))
            obtain ⟨n, hn⟩ : ∃ n, s.size = n := ⟨_, rfl⟩
            have HN := fhid hn
            have hn1 : 1 ≤ n := by omega
            have hn2 : n ≤ 101 := by omega
            clear hn hop
            go_wp2_with fail
            try clear hmi
            try clear hatS hJm
            rw [HN.out]
            go_loopw [14] (fun ov wr => ∃ (x : ByteArray) (m : Nat), ov = .string x ∧ x.size = m + 1 ∧ m ≤ 101 ∧ Hid (StripR (ddg D) (bl x)) ∧ Hid (Below w1.heap.size w1 wr)) (fun ov _ => match ov with | .string x => x.size | _ => 0)
            case atStart => exact ⟨s, n - 1, rfl, by have := HN.out; omega, by omega, fhid (by rw [HBO.out]; exact StripR.start (ddg_pos D)), B9⟩
            case round =>
              obtain ⟨x, m, rfl, hx, hm, hSR, hBB⟩ := hrel
              have HX := fhid hx
              have hlt : m < x.size := by omega
              have hat := bl_at x m hlt
              obtain ⟨c, hc⟩ : ∃ c, (bl x).getD m 0 = c := ⟨_, rfl⟩
              rw [hc] at hat
              have HC := fhid hc
              have HLX : Hid ((bl x).length = m + 1) := fhid (by rw [bl_length]; exact hx)
              have hxs : x.size ≤ 102 := by omega
              clear hc
              by_cases hm0 : 0 < m
              · obtain ⟨m, rfl⟩ : ∃ z, m = z + 1 := ⟨m - 1, by omega⟩
                by_cases hcc : c = 48
                · subst hcc
                  have hex : bl (x.extract 0 (m + 1)) = (bl x).take (m + 1) := by rw [bl_extract]; simp
                  have hes : (x.extract 0 (m + 1)).size = m + 1 := by rw [← bl_length, hex, List.length_take, HLX.out]; omega
                  have HES := fhid hes
                  have HNX : Hid (StripR (ddg D) (bl (x.extract 0 (m + 1)))) := fhid (by rw [hex]; exact hSR.out.next HLX.out hm0 HC.out)
                  clear hex hes
                  -- ROUND
                  go_wp2_with fail
                  go_roundw
                  case rel => exact ⟨_, m, rfl, HES.out, by omega, HNX, hBB⟩
                  case measure => simp only []; have := HES.out; have := HX.out; omega
                · have hcz : ((c : Int) == 48) = false := by simp; omega
                  have HDN : Hid (bl x = strip (ddg D)) := fhid (hSR.out.done HLX.out (by rw [HC.out]; exact hcc))
                  clear hcc
                  go_wp2_with fail
                  go_ret2
                  exact ⟨_, _, rfl, ⟨p, J, dnum (bl s), D, hJ1, TP.out, hQ.out, by rw [HQ.out]; exact HFQ.out, by rw [HQ.out]; exact HP2.out, HDN.out, by have := HSZ.out; have := HN.out; omega⟩, hBB.out⟩
              · obtain rfl : m = 0 := by omega
                have HDN : Hid (bl x = strip (ddg D)) := fhid (hSR.out.one HLX.out HHD.out)
                go_wp2_with fail
                go_ret2
                exact ⟨_, _, rfl, ⟨p, J, dnum (bl s), D, hJ1, TP.out, hQ.out, by rw [HQ.out]; exact HFQ.out, by rw [HQ.out]; exact HP2.out, HDN.out, by have := HSZ.out; have := HN.out; omega⟩, hBB.out⟩
          · have NN := fhid (And.intro (X1.out.1 rfl) (X2.out.1 rfl))
            clear X1 X2
            go_wp2_with fail
            with_reducible refine (wholeR s _ HD.out hs100).mono ?_
            rintro e wa ⟨ya, rfl, hya, hba⟩
            have YA := fhid hya
            have BA := fhid (B9.out.trans (hba.mono B9.out.size))
            clear hya hba B9
            go_wp2_with fail
            refine (timesR _ _ 2 1 _ YA.out (by decide) (by decide) (by decide) (Nat.lt_of_lt_of_le hLk.out kbc)).mono ?_
            rintro e wb ⟨yb, rfl, hyb, hbb⟩
            have YB := fhid hyb
            have BB := fhid (BA.out.trans (hbb.mono BA.out.size))
            clear hyb hbb BA YA
            have HMK : Hid (dnum (bl s) * 2 + 1 < Bs ^ KB) := fhid (ten_kc (k := 100) (by omega) (by
              have h1 := dnum_lt _ HD.out
              rw [bl_length, HS.out] at h1
              have h2 : 10 ^ J ≤ 10 ^ 99 := Nat.pow_le_pow_right (by decide) (by omega)
              have h3 : (10 : Nat) ^ 100 = 10 * 10 ^ 99 := by decide
              have h4 : 0 < (10 : Nat) ^ 99 := by decide
              rw [h3]
              generalize (10 : Nat) ^ 99 = T at h2 h4 ⊢
              omega))
            go_wp2_with fail
            with_reducible refine (cB.out yb (dnum (bl s) * 2 + 1) q _ YB.out HMK.out hq1 hq2).mono ?_
            rintro e wc ⟨r2, rfl, hr1, hr2, hbc⟩
            have BC := fhid (BB.out.trans (hbc.mono BB.out.size))
            have RA := fhid (And.intro (hr1.trans (hT.out _ _).1) (hr2.trans (hT.out _ _).2))
            have hcm : dnum (bl s) * 2 + 1 = 2 * dnum (bl s) + 1 := by omega
            rw [hcm] at RA
            clear hr1 hr2 hbc BB YB hcm
            have hidx : j < s.size := by have := HS.out; have := HJ.out; omega
            have hatS := bl_at s j hidx
            have hpar := last_par (l := bl s) (j := j) (by rw [bl_length, HJ.out]; exact HS.out) HD.out
            obtain ⟨cL, hcL⟩ : ∃ c, (bl s).getD j 0 = c := ⟨_, rfl⟩
            rw [hcL] at hatS hpar
            have hcL2 : cL < 256 := hpar.2
            have HPAR := fhid hpar.1
            have hJm : (J : Int) - 1 = (j : Int) := by have := HJ.out; omega
            clear hcL hpar
            rcases Int.lt_trichotomy r2 0 with hr | hr | hr
            · have HP : Hid (Pk u q (dnum (bl s)) (some (dnum (bl s)))) := fhid (pk_both_lo NN.out.1 NN.out.2 (fun h => by have := RA.out.1.mp hr; omega))
              obtain ⟨D, hDD⟩ : ∃ D, dnum (bl s) = D := ⟨_, rfl⟩
              have HDD := fhid hDD
              have HBO : Hid (bl s = ddg D) := fhid (by rw [← hDD]; exact HRL.out)
              have HP2 : Hid (Pk u q (dnum (bl s)) (some D)) := fhid (by rw [← hDD]; exact HP.out)
              clear hDD HP
              have hop : 0 < s.size := by rw [← bl_length, HBO.out]; exact ddg_pos D
              have HSZ : Hid (s.size = (ddg D).length) := fhid (by rw [← bl_length, HBO.out])
              have HHD : Hid ((ddg D).getD 0 0 ≠ 48) := fhid (ddg_head (by
                have h1 := (floor_range TP.out HFL.out hJ1).1
                have h2 := pk_some HP2.out
                have h3 : 0 < 10 ^ (J - 1) := Nat.pow_pos (by decide)
                omega))
              obtain ⟨n, hn⟩ : ∃ n, s.size = n := ⟨_, rfl⟩
              have HN := fhid hn
              have hn1 : 1 ≤ n := by omega
              have hn2 : n ≤ 101 := by omega
              clear hn hop
              go_wp2_with fail
              try clear hmi
              try clear hatS hJm
              rw [HN.out]
              go_loopw [14] (fun ov wr => ∃ (x : ByteArray) (m : Nat), ov = .string x ∧ x.size = m + 1 ∧ m ≤ 101 ∧ Hid (StripR (ddg D) (bl x)) ∧ Hid (Below w1.heap.size w1 wr)) (fun ov _ => match ov with | .string x => x.size | _ => 0)
              case atStart => exact ⟨s, n - 1, rfl, by have := HN.out; omega, by omega, fhid (by rw [HBO.out]; exact StripR.start (ddg_pos D)), BC⟩
              case round =>
                obtain ⟨x, m, rfl, hx, hm, hSR, hBB⟩ := hrel
                have HX := fhid hx
                have hlt : m < x.size := by omega
                have hat := bl_at x m hlt
                obtain ⟨c, hc⟩ : ∃ c, (bl x).getD m 0 = c := ⟨_, rfl⟩
                rw [hc] at hat
                have HC := fhid hc
                have HLX : Hid ((bl x).length = m + 1) := fhid (by rw [bl_length]; exact hx)
                have hxs : x.size ≤ 102 := by omega
                clear hc
                by_cases hm0 : 0 < m
                · obtain ⟨m, rfl⟩ : ∃ z, m = z + 1 := ⟨m - 1, by omega⟩
                  by_cases hcc : c = 48
                  · subst hcc
                    have hex : bl (x.extract 0 (m + 1)) = (bl x).take (m + 1) := by rw [bl_extract]; simp
                    have hes : (x.extract 0 (m + 1)).size = m + 1 := by rw [← bl_length, hex, List.length_take, HLX.out]; omega
                    have HES := fhid hes
                    have HNX : Hid (StripR (ddg D) (bl (x.extract 0 (m + 1)))) := fhid (by rw [hex]; exact hSR.out.next HLX.out hm0 HC.out)
                    clear hex hes
                    -- ROUND
                    go_wp2_with fail
                    go_roundw
                    case rel => exact ⟨_, m, rfl, HES.out, by omega, HNX, hBB⟩
                    case measure => simp only []; have := HES.out; have := HX.out; omega
                  · have hcz : ((c : Int) == 48) = false := by simp; omega
                    have HDN : Hid (bl x = strip (ddg D)) := fhid (hSR.out.done HLX.out (by rw [HC.out]; exact hcc))
                    clear hcc
                    go_wp2_with fail
                    go_ret2
                    exact ⟨_, _, rfl, ⟨p, J, dnum (bl s), D, hJ1, TP.out, hQ.out, by rw [HQ.out]; exact HFQ.out, by rw [HQ.out]; exact HP2.out, HDN.out, by have := HSZ.out; have := HN.out; omega⟩, hBB.out⟩
                · obtain rfl : m = 0 := by omega
                  have HDN : Hid (bl x = strip (ddg D)) := fhid (hSR.out.one HLX.out HHD.out)
                  go_wp2_with fail
                  go_ret2
                  exact ⟨_, _, rfl, ⟨p, J, dnum (bl s), D, hJ1, TP.out, hQ.out, by rw [HQ.out]; exact HFQ.out, by rw [HQ.out]; exact HP2.out, HDN.out, by have := HSZ.out; have := HN.out; omega⟩, hBB.out⟩
            · subst hr
              have HEQ : Hid (valN (2 * dnum (bl s) + 1) q = 2 * (V u * valD q)) := fhid (by
                have h1 : ¬ 2 * (V u * valD q) < valN (2 * dnum (bl s) + 1) q := fun h => by have := RA.out.1.mpr h; omega
                have h2 : ¬ valN (2 * dnum (bl s) + 1) q < 2 * (V u * valD q) := fun h => by have := RA.out.2.mpr h; omega
                omega)
              rcases Nat.mod_two_eq_zero_or_one cL with hm | hm
              · have HP : Hid (Pk u q (dnum (bl s)) (some (dnum (bl s)))) := fhid (pk_both_lo NN.out.1 NN.out.2 (fun h => by have := HEQ.out; have := HPAR.out; omega))
                have hmi : (cL : Int) % 2 = 0 := by omega
                obtain ⟨D, hDD⟩ : ∃ D, dnum (bl s) = D := ⟨_, rfl⟩
                have HDD := fhid hDD
                have HBO : Hid (bl s = ddg D) := fhid (by rw [← hDD]; exact HRL.out)
                have HP2 : Hid (Pk u q (dnum (bl s)) (some D)) := fhid (by rw [← hDD]; exact HP.out)
                clear hDD HP
                have hop : 0 < s.size := by rw [← bl_length, HBO.out]; exact ddg_pos D
                have HSZ : Hid (s.size = (ddg D).length) := fhid (by rw [← bl_length, HBO.out])
                have HHD : Hid ((ddg D).getD 0 0 ≠ 48) := fhid (ddg_head (by
                  have h1 := (floor_range TP.out HFL.out hJ1).1
                  have h2 := pk_some HP2.out
                  have h3 : 0 < 10 ^ (J - 1) := Nat.pow_pos (by decide)
                  omega))
                obtain ⟨n, hn⟩ : ∃ n, s.size = n := ⟨_, rfl⟩
                have HN := fhid hn
                have hn1 : 1 ≤ n := by omega
                have hn2 : n ≤ 101 := by omega
                clear hn hop
                go_wp2_with fail
                try clear hmi
                try clear hatS hJm
                rw [HN.out]
                go_loopw [14] (fun ov wr => ∃ (x : ByteArray) (m : Nat), ov = .string x ∧ x.size = m + 1 ∧ m ≤ 101 ∧ Hid (StripR (ddg D) (bl x)) ∧ Hid (Below w1.heap.size w1 wr)) (fun ov _ => match ov with | .string x => x.size | _ => 0)
                case atStart => exact ⟨s, n - 1, rfl, by have := HN.out; omega, by omega, fhid (by rw [HBO.out]; exact StripR.start (ddg_pos D)), BC⟩
                case round =>
                  obtain ⟨x, m, rfl, hx, hm, hSR, hBB⟩ := hrel
                  have HX := fhid hx
                  have hlt : m < x.size := by omega
                  have hat := bl_at x m hlt
                  obtain ⟨c, hc⟩ : ∃ c, (bl x).getD m 0 = c := ⟨_, rfl⟩
                  rw [hc] at hat
                  have HC := fhid hc
                  have HLX : Hid ((bl x).length = m + 1) := fhid (by rw [bl_length]; exact hx)
                  have hxs : x.size ≤ 102 := by omega
                  clear hc
                  by_cases hm0 : 0 < m
                  · obtain ⟨m, rfl⟩ : ∃ z, m = z + 1 := ⟨m - 1, by omega⟩
                    by_cases hcc : c = 48
                    · subst hcc
                      have hex : bl (x.extract 0 (m + 1)) = (bl x).take (m + 1) := by rw [bl_extract]; simp
                      have hes : (x.extract 0 (m + 1)).size = m + 1 := by rw [← bl_length, hex, List.length_take, HLX.out]; omega
                      have HES := fhid hes
                      have HNX : Hid (StripR (ddg D) (bl (x.extract 0 (m + 1)))) := fhid (by rw [hex]; exact hSR.out.next HLX.out hm0 HC.out)
                      clear hex hes
                      -- ROUND
                      go_wp2_with fail
                      go_roundw
                      case rel => exact ⟨_, m, rfl, HES.out, by omega, HNX, hBB⟩
                      case measure => simp only []; have := HES.out; have := HX.out; omega
                    · have hcz : ((c : Int) == 48) = false := by simp; omega
                      have HDN : Hid (bl x = strip (ddg D)) := fhid (hSR.out.done HLX.out (by rw [HC.out]; exact hcc))
                      clear hcc
                      go_wp2_with fail
                      go_ret2
                      exact ⟨_, _, rfl, ⟨p, J, dnum (bl s), D, hJ1, TP.out, hQ.out, by rw [HQ.out]; exact HFQ.out, by rw [HQ.out]; exact HP2.out, HDN.out, by have := HSZ.out; have := HN.out; omega⟩, hBB.out⟩
                  · obtain rfl : m = 0 := by omega
                    have HDN : Hid (bl x = strip (ddg D)) := fhid (hSR.out.one HLX.out HHD.out)
                    go_wp2_with fail
                    go_ret2
                    exact ⟨_, _, rfl, ⟨p, J, dnum (bl s), D, hJ1, TP.out, hQ.out, by rw [HQ.out]; exact HFQ.out, by rw [HQ.out]; exact HP2.out, HDN.out, by have := HSZ.out; have := HN.out; omega⟩, hBB.out⟩
              · have HP : Hid (Pk u q (dnum (bl s)) (some (dnum (bl t)))) := fhid (by rw [HTN.out]; exact pk_both_hi NN.out.1 NN.out.2 (.inr ⟨HEQ.out, by have := HPAR.out; omega⟩))
                have hmi : (cL : Int) % 2 = 1 := by omega
                obtain ⟨D, hDD⟩ : ∃ D, dnum (bl t) = D := ⟨_, rfl⟩
                have HDD := fhid hDD
                have HBO : Hid (bl t = ddg D) := fhid (by rw [← hDD]; exact HRH.out)
                have HP2 : Hid (Pk u q (dnum (bl s)) (some D)) := fhid (by rw [← hDD]; exact HP.out)
                clear hDD HP
                have hop : 0 < t.size := by rw [← bl_length, HBO.out]; exact ddg_pos D
                have HSZ : Hid (t.size = (ddg D).length) := fhid (by rw [← bl_length, HBO.out])
                have HHD : Hid ((ddg D).getD 0 0 ≠ 48) := fhid (ddg_head (by
                  have h1 := (floor_range TP.out HFL.out hJ1).1
                  have h2 := pk_some HP2.out
                  have h3 : 0 < 10 ^ (J - 1) := Nat.pow_pos (by decide)
                  omega))
                obtain ⟨n, hn⟩ : ∃ n, t.size = n := ⟨_, rfl⟩
                have HN := fhid hn
                have hn1 : 1 ≤ n := by omega
                have hn2 : n ≤ 101 := by omega
                clear hn hop
                go_wp2_with fail
                try clear hmi
                try clear hatS hJm
                rw [HN.out]
                go_loopw [14] (fun ov wr => ∃ (x : ByteArray) (m : Nat), ov = .string x ∧ x.size = m + 1 ∧ m ≤ 101 ∧ Hid (StripR (ddg D) (bl x)) ∧ Hid (Below w1.heap.size w1 wr)) (fun ov _ => match ov with | .string x => x.size | _ => 0)
                case atStart => exact ⟨t, n - 1, rfl, by have := HN.out; omega, by omega, fhid (by rw [HBO.out]; exact StripR.start (ddg_pos D)), BC⟩
                case round =>
                  obtain ⟨x, m, rfl, hx, hm, hSR, hBB⟩ := hrel
                  have HX := fhid hx
                  have hlt : m < x.size := by omega
                  have hat := bl_at x m hlt
                  obtain ⟨c, hc⟩ : ∃ c, (bl x).getD m 0 = c := ⟨_, rfl⟩
                  rw [hc] at hat
                  have HC := fhid hc
                  have HLX : Hid ((bl x).length = m + 1) := fhid (by rw [bl_length]; exact hx)
                  have hxs : x.size ≤ 102 := by omega
                  clear hc
                  by_cases hm0 : 0 < m
                  · obtain ⟨m, rfl⟩ : ∃ z, m = z + 1 := ⟨m - 1, by omega⟩
                    by_cases hcc : c = 48
                    · subst hcc
                      have hex : bl (x.extract 0 (m + 1)) = (bl x).take (m + 1) := by rw [bl_extract]; simp
                      have hes : (x.extract 0 (m + 1)).size = m + 1 := by rw [← bl_length, hex, List.length_take, HLX.out]; omega
                      have HES := fhid hes
                      have HNX : Hid (StripR (ddg D) (bl (x.extract 0 (m + 1)))) := fhid (by rw [hex]; exact hSR.out.next HLX.out hm0 HC.out)
                      clear hex hes
                      -- ROUND
                      go_wp2_with fail
                      go_roundw
                      case rel => exact ⟨_, m, rfl, HES.out, by omega, HNX, hBB⟩
                      case measure => simp only []; have := HES.out; have := HX.out; omega
                    · have hcz : ((c : Int) == 48) = false := by simp; omega
                      have HDN : Hid (bl x = strip (ddg D)) := fhid (hSR.out.done HLX.out (by rw [HC.out]; exact hcc))
                      clear hcc
                      go_wp2_with fail
                      go_ret2
                      exact ⟨_, _, rfl, ⟨p, J, dnum (bl s), D, hJ1, TP.out, hQ.out, by rw [HQ.out]; exact HFQ.out, by rw [HQ.out]; exact HP2.out, HDN.out, by have := HSZ.out; have := HN.out; omega⟩, hBB.out⟩
                  · obtain rfl : m = 0 := by omega
                    have HDN : Hid (bl x = strip (ddg D)) := fhid (hSR.out.one HLX.out HHD.out)
                    go_wp2_with fail
                    go_ret2
                    exact ⟨_, _, rfl, ⟨p, J, dnum (bl s), D, hJ1, TP.out, hQ.out, by rw [HQ.out]; exact HFQ.out, by rw [HQ.out]; exact HP2.out, HDN.out, by have := HSZ.out; have := HN.out; omega⟩, hBB.out⟩
            · have HP : Hid (Pk u q (dnum (bl s)) (some (dnum (bl t)))) := fhid (by rw [HTN.out]; exact pk_both_hi NN.out.1 NN.out.2 (.inl (RA.out.2.mp hr)))
              obtain ⟨D, hDD⟩ : ∃ D, dnum (bl t) = D := ⟨_, rfl⟩
              have HDD := fhid hDD
              have HBO : Hid (bl t = ddg D) := fhid (by rw [← hDD]; exact HRH.out)
              have HP2 : Hid (Pk u q (dnum (bl s)) (some D)) := fhid (by rw [← hDD]; exact HP.out)
              clear hDD HP
              have hop : 0 < t.size := by rw [← bl_length, HBO.out]; exact ddg_pos D
              have HSZ : Hid (t.size = (ddg D).length) := fhid (by rw [← bl_length, HBO.out])
              have HHD : Hid ((ddg D).getD 0 0 ≠ 48) := fhid (ddg_head (by
                have h1 := (floor_range TP.out HFL.out hJ1).1
                have h2 := pk_some HP2.out
                have h3 : 0 < 10 ^ (J - 1) := Nat.pow_pos (by decide)
                omega))
              obtain ⟨n, hn⟩ : ∃ n, t.size = n := ⟨_, rfl⟩
              have HN := fhid hn
              have hn1 : 1 ≤ n := by omega
              have hn2 : n ≤ 101 := by omega
              clear hn hop
              go_wp2_with fail
              try clear hmi
              try clear hatS hJm
              rw [HN.out]
              go_loopw [14] (fun ov wr => ∃ (x : ByteArray) (m : Nat), ov = .string x ∧ x.size = m + 1 ∧ m ≤ 101 ∧ Hid (StripR (ddg D) (bl x)) ∧ Hid (Below w1.heap.size w1 wr)) (fun ov _ => match ov with | .string x => x.size | _ => 0)
              case atStart => exact ⟨t, n - 1, rfl, by have := HN.out; omega, by omega, fhid (by rw [HBO.out]; exact StripR.start (ddg_pos D)), BC⟩
              case round =>
                obtain ⟨x, m, rfl, hx, hm, hSR, hBB⟩ := hrel
                have HX := fhid hx
                have hlt : m < x.size := by omega
                have hat := bl_at x m hlt
                obtain ⟨c, hc⟩ : ∃ c, (bl x).getD m 0 = c := ⟨_, rfl⟩
                rw [hc] at hat
                have HC := fhid hc
                have HLX : Hid ((bl x).length = m + 1) := fhid (by rw [bl_length]; exact hx)
                have hxs : x.size ≤ 102 := by omega
                clear hc
                by_cases hm0 : 0 < m
                · obtain ⟨m, rfl⟩ : ∃ z, m = z + 1 := ⟨m - 1, by omega⟩
                  by_cases hcc : c = 48
                  · subst hcc
                    have hex : bl (x.extract 0 (m + 1)) = (bl x).take (m + 1) := by rw [bl_extract]; simp
                    have hes : (x.extract 0 (m + 1)).size = m + 1 := by rw [← bl_length, hex, List.length_take, HLX.out]; omega
                    have HES := fhid hes
                    have HNX : Hid (StripR (ddg D) (bl (x.extract 0 (m + 1)))) := fhid (by rw [hex]; exact hSR.out.next HLX.out hm0 HC.out)
                    clear hex hes
                    -- ROUND
                    go_wp2_with fail
                    go_roundw
                    case rel => exact ⟨_, m, rfl, HES.out, by omega, HNX, hBB⟩
                    case measure => simp only []; have := HES.out; have := HX.out; omega
                  · have hcz : ((c : Int) == 48) = false := by simp; omega
                    have HDN : Hid (bl x = strip (ddg D)) := fhid (hSR.out.done HLX.out (by rw [HC.out]; exact hcc))
                    clear hcc
                    go_wp2_with fail
                    go_ret2
                    exact ⟨_, _, rfl, ⟨p, J, dnum (bl s), D, hJ1, TP.out, hQ.out, by rw [HQ.out]; exact HFQ.out, by rw [HQ.out]; exact HP2.out, HDN.out, by have := HSZ.out; have := HN.out; omega⟩, hBB.out⟩
                · obtain rfl : m = 0 := by omega
                  have HDN : Hid (bl x = strip (ddg D)) := fhid (hSR.out.one HLX.out HHD.out)
                  go_wp2_with fail
                  go_ret2
                  exact ⟨_, _, rfl, ⟨p, J, dnum (bl s), D, hJ1, TP.out, hQ.out, by rw [HQ.out]; exact HFQ.out, by rw [HQ.out]; exact HP2.out, HDN.out, by have := HSZ.out; have := HN.out; omega⟩, hBB.out⟩
end Go.Proofs.YtlhhpehfgkanoaaGreatDoor.fl
/- The walk of score's Print. -/
namespace Go.Proofs.YtlhhpehfgkanoaaGreatDoor.fl
open Go.ChangeShapes Go.WideShapes Go.ChangeAt Go.RowKit
set_option linter.unusedVariables false
set_option linter.unusedSimpArgs false
/-- What Print answers. -/
def PrPost (x : Nat) (w : World) (e : Ending) (w' : World) : Prop := ∃ t : ByteArray, e = .returned (.string t) ∧ PrintIs x (bl t) ∧ t.size ≤ 2000 ∧ Below w.heap.size w w'
theorem sgw_mod (s : Bool) (u : Nat) (h : u < 9223372036854775808) : (sgw s + u) % 9223372036854775808 = u := by cases s <;> simp [sgw] <;> omega
theorem sgw_le (s : Bool) (u : Nat) (h : u < 9223372036854775808) : (9223372036854775808 ≤ sgw s + u) ↔ s = true := by cases s <;> simp [sgw] <;> omega
/-- The sign's bytes. -/
def sgB (s : Bool) : List Nat := if s then [45] else []
theorem print_nan {s : Bool} {u : Nat} (h1 : infR < u) (h2 : u < 9223372036854775808) : PrintIs (sgw s + u) [110, 97, 110] := by
  unfold PrintIs
  rw [sgw_mod s u h2, if_pos h1]
theorem sgB_if (s : Bool) (u : Nat) (h : u < 9223372036854775808) : (if 9223372036854775808 ≤ sgw s + u then [45] else []) = sgB s := by
  unfold sgB
  have := sgw_le s u h
  by_cases hs : s = true
  · rw [if_pos (this.2 hs), if_pos hs]
  · rw [if_neg (fun h => hs (this.1 h)), if_neg hs]
theorem print_inf (s : Bool) (I : Nat) (h : infR = I) : PrintIs (sgw s + I) (sgB s ++ [105, 110, 102]) := by
  have hI : I < 9223372036854775808 := by rw [← h]; decide
  unfold PrintIs
  rw [sgw_mod s I hI, h, if_neg (Nat.lt_irrefl _), if_pos rfl, sgB_if s I hI]
theorem print_zero (s : Bool) : PrintIs (sgw s + 0) (sgB s ++ [48]) := by
  unfold PrintIs
  rw [sgw_mod s 0 (by decide), if_neg (by decide), if_neg (by decide), if_pos rfl, sgB_if s 0 (by decide)]
theorem print_fin {s : Bool} {u : Nat} {d : List Nat} {p : Int} (h0 : 0 < u) (h : u < infR) (hs : Sh u d p) : PrintIs (sgw s + u) (sgB s ++ layS d p) := by
  have h2 : u < 9223372036854775808 := Nat.lt_trans h (by decide)
  unfold PrintIs
  rw [sgw_mod s u h2, if_neg (by omega), if_neg (by omega), if_neg (by omega), sgB_if s u h2]
  exact ⟨d, p, hs, rfl⟩
set_option maxRecDepth 100000 in
set_option maxHeartbeats 1000000 in
theorem printNan (s : Bool) (u : Nat) (w : World) (h1 : infR < u) (h2 : u < 9223372036854775808) :
    Calls Tryz.prog 10 #[.float .f64 (sgw s + u)] w (PrPost (sgw s + u) w) := by
  have cn := isNaNC (sgw s + u) true w (by
    have : FloatKind.f64.format.order (sgw s + u) (sgw s + u) = none := ord_nan s u _ h1 h2
    rw [this]; rfl)
  have HP := fhid (print_nan (s := s) h1 h2)
  obtain ⟨x, hx⟩ : ∃ x, sgw s + u = x := ⟨_, rfl⟩
  rw [hx] at cn HP ⊢
  clear hx h1 h2
  go_enter Tryz.func10, Tryz.ntmps10
  go_wp2_with fail
  refine cn.mono ?_
  clear cn
  rintro e w' ⟨rfl, rfl⟩
  go_wp2_with fail
  go_ret
  exact ⟨_, rfl, HP.out, by decide, Below.refl _ _⟩
theorem nan_false (s : Bool) (u : Nat) (h : u ≤ infR) (w : World) : Calls Tryz.prog 25 #[.float .f64 (sgw s + u)] w fun e w' => e = .returned (.bool false) ∧ w = w' :=
  isNaNC (sgw s + u) false w (by
    have : FloatKind.f64.format.order (sgw s + u) (sgw s + u) = some .eq := ord_self s u h
    rw [this]; rfl)
set_option maxRecDepth 100000 in
set_option maxHeartbeats 1000000 in
theorem printInf (s : Bool) (w : World) :
    Calls Tryz.prog 10 #[.float .f64 (sgw s + infR)] w (PrPost (sgw s + infR) w) := by
  have cn := nan_false s infR (Nat.le_refl _) w
  have ci := isInfC s infR 1 (!s) w (Nat.le_refl _) (by decide) (by cases s <;> decide)
  have cj := isInfC s infR (-1) s w (Nat.le_refl _) (by decide) (by cases s <;> decide)
  obtain ⟨I, hI⟩ : ∃ I, infR = I := ⟨_, rfl⟩
  have HP : Hid (PrintIs (sgw s + I) (sgB s ++ [105, 110, 102])) := fhid (print_inf s I hI)
  rw [hI] at cn ci cj ⊢
  clear hI
  obtain ⟨x, hx⟩ : ∃ x, sgw s + I = x := ⟨_, rfl⟩
  rw [hx] at cn HP ci cj ⊢
  clear hx
  cases s
  · go_enter Tryz.func10, Tryz.ntmps10
    go_wp2_with fail
    refine cn.mono ?_
    rintro e w' ⟨rfl, rfl⟩
    go_wp2_with fail
    refine ci.mono ?_
    clear cn ci cj
    rintro e w' ⟨rfl, rfl⟩
    go_wp2_with fail
    go_ret
    exact ⟨_, rfl, HP.out, by decide, Below.refl _ _⟩
  · go_enter Tryz.func10, Tryz.ntmps10
    go_wp2_with fail
    refine cn.mono ?_
    rintro e w' ⟨rfl, rfl⟩
    go_wp2_with fail
    refine ci.mono ?_
    rintro e w' ⟨rfl, rfl⟩
    go_wp2_with fail
    refine cj.mono ?_
    clear cn ci cj
    rintro e w' ⟨rfl, rfl⟩
    go_wp2_with fail
    go_ret
    exact ⟨_, rfl, HP.out, by decide, Below.refl _ _⟩
set_option maxRecDepth 100000 in
set_option maxHeartbeats 2000000 in
theorem printFin (s : Bool) (u : Nat) (w : World) (hf : FS w) (h : u < infR) :
    Calls Tryz.prog 10 #[.float .f64 (sgw s + u)] w (PrPost (sgw s + u) w) := by
  have hub : u < 9223372036854775808 := Nat.lt_trans h (by decide)
  have cn := nan_false s u (Nat.le_of_lt h) w
  have ci := isInfC s u 1 false w (Nat.le_of_lt h) (by decide) (by simp; omega)
  have cj := isInfC s u (-1) false w (Nat.le_of_lt h) (by decide) (by simp; omega)
  have cs := signbitC s u w hub
  have ca := absC s u w hub
  obtain ⟨o, ho, hz, -⟩ := ord_zero s u h
  have ho' : FloatKind.f64.format.order (sgw s + u) 0 = some o := ho
  have HF := fhid hf
  have HU := fhid h
  clear ho hf h hub
  by_cases h0 : u = 0
  · subst h0
    obtain rfl := hz.2 rfl
    have HP := fhid (print_zero s)
    obtain ⟨x, hx⟩ : ∃ x, sgw s + 0 = x := ⟨_, rfl⟩
    rw [hx] at cn HP ci cj cs ca ho' ⊢
    clear hx hz ca
    cases s
    all_goals
      go_enter Tryz.func10, Tryz.ntmps10
      go_wp2_with fail
      refine cn.mono ?_
      rintro e w' ⟨rfl, rfl⟩
      go_wp2_with fail
      refine ci.mono ?_
      rintro e w' ⟨rfl, rfl⟩
      go_wp2_with fail
      refine cj.mono ?_
      rintro e w' ⟨rfl, rfl⟩
      go_wp2_with fail
      refine cs.mono ?_
      clear cn ci cj cs
      rintro e w' ⟨rfl, rfl⟩
      go_wp2_with fail
      go_ret
      exact ⟨_, rfl, HP.out, by decide, Below.refl _ _⟩
  · have hne : o ≠ .eq := fun e => h0 (hz.1 e)
    have H0 : Hid (0 < u) := fhid (by omega)
    have cS := shortestC u w HF.out H0.out HU.out
    have HP : Hid (∀ d p, Sh u d p → PrintIs (sgw s + u) (sgB s ++ layS d p)) := fhid (fun d p hs => print_fin H0.out HU.out hs)
    obtain ⟨x, hx⟩ : ∃ x, sgw s + u = x := ⟨_, rfl⟩
    rw [hx] at cn HP ci cj cs ca ho' ⊢
    clear hx hz h0
    rcases o with _ | _ | _
    · clear hne
      cases s
      all_goals
        go_enter Tryz.func10, Tryz.ntmps10
        go_wp2_with fail
        refine cn.mono ?_
        rintro e w' ⟨rfl, rfl⟩
        go_wp2_with fail
        refine ci.mono ?_
        rintro e w' ⟨rfl, rfl⟩
        go_wp2_with fail
        refine cj.mono ?_
        rintro e w' ⟨rfl, rfl⟩
        go_wp2_with fail
        refine cs.mono ?_
        rintro e w' ⟨rfl, rfl⟩
        go_wp2_with fail
        refine ca.mono ?_
        rintro e w' ⟨rfl, rfl⟩
        go_wp2_with fail
        refine cS.mono ?_
        clear cn ci cj cs ca cS ho'
        rintro e w1 ⟨t, p, rfl, hs, hb⟩
        have hbd := sh_bd H0.out HU.out hs
        rw [bl_length] at hbd
        obtain ⟨hb1, hb2, hb3, hb4⟩ := hbd
        have HS := fhid hs
        have B1 := fhid hb
        have HF1 := fhid (HF.out.on hb)
        clear hs hb
        go_wp2_with fail
        refine (laidC t p _ HF1.out hb1 (by omega) (by omega) (by omega)).mono ?_
        rintro e w2 ⟨t2, rfl, ht2, hts, hb2⟩
        have HT := fhid ht2
        have B2 := fhid (B1.out.trans (hb2.mono B1.out.size))
        clear ht2 hb2
        go_wp2_with fail
        go_ret
        refine ⟨_, rfl, ?_, ?_, B2.out⟩
        · rw [bl_append, HT.out]
          exact HP.out _ _ HS.out
        · simp only [ByteArray.size_append, sz_minus, sz_none]; omega
    · exact absurd rfl hne
    · clear hne
      cases s
      all_goals
        go_enter Tryz.func10, Tryz.ntmps10
        go_wp2_with fail
        refine cn.mono ?_
        rintro e w' ⟨rfl, rfl⟩
        go_wp2_with fail
        refine ci.mono ?_
        rintro e w' ⟨rfl, rfl⟩
        go_wp2_with fail
        refine cj.mono ?_
        rintro e w' ⟨rfl, rfl⟩
        go_wp2_with fail
        refine cs.mono ?_
        rintro e w' ⟨rfl, rfl⟩
        go_wp2_with fail
        refine ca.mono ?_
        rintro e w' ⟨rfl, rfl⟩
        go_wp2_with fail
        refine cS.mono ?_
        clear cn ci cj cs ca cS ho'
        rintro e w1 ⟨t, p, rfl, hs, hb⟩
        have hbd := sh_bd H0.out HU.out hs
        rw [bl_length] at hbd
        obtain ⟨hb1, hb2, hb3, hb4⟩ := hbd
        have HS := fhid hs
        have B1 := fhid hb
        have HF1 := fhid (HF.out.on hb)
        clear hs hb
        go_wp2_with fail
        refine (laidC t p _ HF1.out hb1 (by omega) (by omega) (by omega)).mono ?_
        rintro e w2 ⟨t2, rfl, ht2, hts, hb2⟩
        have HT := fhid ht2
        have B2 := fhid (B1.out.trans (hb2.mono B1.out.size))
        clear ht2 hb2
        go_wp2_with fail
        go_ret
        refine ⟨_, rfl, ?_, ?_, B2.out⟩
        · rw [bl_append, HT.out]
          exact HP.out _ _ HS.out
        · simp only [ByteArray.size_append, sz_minus, sz_none]; omega
/-- Every float. -/
theorem printC (x : Nat) (w : World) (hf : FS w) (hx : x < 18446744073709551616) :
    Calls Tryz.prog 10 #[.float .f64 x] w (PrPost x w) := by
  obtain ⟨s, u, hu, rfl⟩ : ∃ s u, u < 9223372036854775808 ∧ x = sgw s + u := by
    by_cases h : 9223372036854775808 ≤ x
    · exact ⟨true, x - 9223372036854775808, by omega, by simp only [sgw, if_true]; omega⟩
    · exact ⟨false, x, by omega, by simp [sgw]⟩
  rcases Nat.lt_trichotomy u infR with h | h | h
  · exact printFin s u w hf h
  · subst h; exact printInf s w
  · exact printNan s u w h hu
end Go.Proofs.YtlhhpehfgkanoaaGreatDoor.fl
/- The walks of the reference's text and Print. -/
namespace Go.Proofs.YtlhhpehfgkanoaaGreatDoor.fl
open Go.ChangeShapes Go.WideShapes Go.ChangeAt Go.RowKit
set_option linter.unusedVariables false
set_option linter.unusedSimpArgs false
theorem convAt (W : World) (g : Nat) (D : Int) (b : UInt8) (hD : D = (b.toNat : Int)) (hc : W.cell? ⟨g, 0, none⟩ = some (.int .u8 D)) :
    Sem.run Tryz.prog (convert 66 9 (.slice (some ⟨g, 0, none⟩) 1 1)) W = .ok (.string ⟨#[b]⟩) W := by
  have h := run_convert_bytes_back (P := Tryz.prog) W 66 9 5 ⟨g, 0, none⟩ 1 [b] Tryz.underlying66 Tryz.underlying5 Tryz.underlying9 (fun j hj => by
    have hj0 : j = 0 := by simpa using hj
    subst hj0
    have hadd : (⟨g, 0, none⟩ : Addr).add 0 = ⟨g, 0, none⟩ := by unfold Addr.add; split <;> simp_all
    rw [hadd, hc]
    simp [hD])
  exact h
theorem bel_text {w W w1 : World} (h0 : Below w.heap.size w W) (hb : Below W.heap.size W w1) : Below w.heap.size w w1 := h0.trans (hb.mono h0.size)
theorem bl_one (b : UInt8) : bl ⟨#[b]⟩ = [b.toNat] := rfl
theorem sz_one (b : UInt8) : (⟨#[b]⟩ : ByteArray).size = 1 := rfl
set_option maxRecDepth 100000 in
set_option maxHeartbeats 1000000 in
theorem textR : ∀ (k n : Nat), n < 10 ^ (k + 1) → k ≤ 5 → ∀ w, Calls Tryz.prog 34 #[.int .i64 n] w (StrPost (ddg n) w) := by
  intro k
  induction k with
  | zero =>
    intro n hn hk w
    rw [Nat.zero_add, Nat.pow_one] at hn
    obtain ⟨b, hb⟩ := byte_of (n + 48) (by omega)
    have hcv := conv1 w (48 + (n : Int)) b (by rw [hb]; omega)
    have HB := fhid hb
    have HL := fhid (ddg_small hn)
    clear hb hk
    go_enter Tryz.func34, Tryz.ntmps34
    go_wp2_with fail
    go_ret
    exact ⟨_, rfl, by rw [bl_one, HB.out, HL.out], by rw [sz_one]; decide, (Below.refl w.heap.size w).alloc (Nat.le_refl _) _⟩
  | succ k ih =>
    intro n hn hk w
    by_cases h10 : n < 10
    · exact ih n (Nat.lt_of_lt_of_le h10 (by rw [Nat.pow_succ]; have := Nat.pow_pos (n := k) (show 0 < 10 by decide); omega)) (by omega) w
    · have hq : n / 10 < 10 ^ (k + 1) := by
        rw [Nat.div_lt_iff_lt_mul (by decide)]
        rw [Nat.pow_succ] at hn
        exact hn
      have hb6 : n < 10000000 := by
        have : 10 ^ (k + 1 + 1) ≤ 10 ^ 7 := Nat.pow_le_pow_right (by decide) (by omega)
        have h7 : (10 : Nat) ^ 7 = 10000000 := by decide
        omega
      obtain ⟨q, hqq⟩ : ∃ q, n / 10 = q := ⟨_, rfl⟩
      obtain ⟨r, hrr⟩ : ∃ r, n % 10 = r := ⟨_, rfl⟩
      have hr : r ≤ 9 := by omega
      obtain ⟨b, hb⟩ := byte_of (r + 48) (by omega)
      have hq8 : q < 10000000 := by omega
      have e1 : IntKind.i64.wrap ((n : Int) / 10) = (q : Int) := by
        rw [show (n : Int) / 10 = ((n / 10 : Nat) : Int) by omega, hqq]
        exact IntWalk.i64_in _ (by omega)
      have e2 : (n : Int).tmod 10 = (r : Int) := by
        rw [Int.tmod_eq_emod_of_nonneg (by omega)]; omega
      have ci : Hid (∀ W, Calls Tryz.prog 34 #[.int .i64 q] W (StrPost (ddg q) W)) := fhid (fun W => ih q (by rw [← hqq]; exact hq) (by omega) W)
      have HL : Hid (ddg n = ddg q ++ [r + 48]) := fhid (by rw [ddg_big h10, hqq, hrr])
      have e3 : IntKind.i64.wrap (48 + (r : Int)) = 48 + (r : Int) := IntWalk.i64_in _ (by omega)
      have e4 : IntKind.u8.wrap (48 + (r : Int)) = 48 + (r : Int) := IntWalk.u8_in _ (by omega)
      have hcv := fun W => conv1 W (48 + (r : Int)) b (by rw [hb]; omega)
      have hcv2 := fun (W : World) => convAt (W.alloc (.cells #[.int .u8 (48 + (r : Int))] 5)).drew W.heap.size (48 + (r : Int)) b (by rw [hb]; omega) (by simp)
      have HB := fhid hb
      have HBD : Hid (48 + (r : Int) = (b.toNat : Int)) := fhid (by rw [hb]; omega)
      clear ih hn hk hq hqq hrr hb
      go_enter Tryz.func34, Tryz.ntmps34
      go_wp2_with fail
      go_region_with (go_at_call 34; refine (ci.out _).mono ?_; rintro e w1 ⟨t, rfl, ht, hts, hb1⟩; have hcw := fun h1 h2 => convAt w1 w.heap.size (48 + (r : Int)) b HBD.out ((hb1.cell (p := ⟨w.heap.size, 0, none⟩) h1).trans h2))
      all_goals
        have HQ := bel_text (w := w) (by go_grown) hb1
        have HT := fhid ht
        have HBB := fhid HQ
        have HQ2 := fhid (HQ.alloc HQ.size (.cells #[.int .u8 (48 + (r : Int))] 5))
        clear hcw hcv hcv2 HQ ht hb1
        go_wp2_with fail
        go_ret
        refine ⟨_, rfl, by rw [bl_append, HT.out, bl_one, HB.out, HL.out], ?_, ?_⟩
        · have h3 : (ddg q).length ≤ 8 := ddg_le (k := 7) (Nat.lt_trans hq8 (by decide))
          have h4 : t.size ≤ 8 := by rw [← bl_length, HT.out]; exact h3
          simp only [ByteArray.size_append, sz_one]; omega
        · first
            | exact HBB.out
            | exact HQ2.out
            | exact HQ2.out.drew
            | exact HBB.out.drew
end Go.Proofs.YtlhhpehfgkanoaaGreatDoor.fl
/- The walk of the reference's Print. Printed by mkN36.py. -/
namespace Go.Proofs.YtlhhpehfgkanoaaGreatDoor.fl
open Go.ChangeShapes Go.WideShapes Go.ChangeAt Go.RowKit
set_option linter.unusedVariables false
set_option linter.unusedSimpArgs false
theorem noughtsS (n : Nat) (w : World) (hn : n ≤ 500) : Calls Tryz.prog 33 #[.int .i64 n] w (StrPost (List.replicate n 48) w) := by
  refine (noughtsR n w (by omega)).mono ?_
  rintro e w' ⟨t, rfl, h1, hb⟩
  exact ⟨t, rfl, h1, by rw [← bl_length, h1, List.length_replicate]; omega, hb⟩
theorem sgT : sgB true = [45] := rfl
theorem sgF : sgB false = [] := rfl
/-- The head of a far word. -/
theorem head1 (s : ByteArray) (h : s.size = 1) : bl (s.extract 0 1) = bl (headS s) := by
  rw [headS_bl, if_neg (by rw [bl_length]; omega), bl_extract, List.drop_zero, List.take_of_length_le (by rw [bl_length]; omega)]
theorem head2 (s : ByteArray) (h : 1 < s.size) : bl (s.extract 0 1) ++ ([46] ++ bl (s.extract 1 s.size)) = bl (headS s) := by
  unfold headS
  rw [if_pos h, bl_append, bl_append, bl_dot, List.append_assoc]
theorem far_bl {d : ByteArray} {p : Int} {M : Nat} (hp : p < -4 ∨ 17 < p) (hM : max (p - 1) (1 - p) = M) :
    layS (bl d) p = bl (headS d) ++ [101, if p < 1 then 45 else 43] ++ (if M < 10 then [48] else []) ++ ddg M := by
  have hlay := lay_far (d := bl d) hp hM
  rwa [← headS_bl] at hlay
set_option maxRecDepth 100000 in
set_option maxHeartbeats 1000000 in
theorem printP_nan (z u : Nat) (w : World) (hx2 : u < 9223372036854775808) (hu : 9218868437227405312 < u) (HP : Hid (PrintIs z [110, 97, 110])) :
    Calls Tryz.prog 11 #[.float .f64 u] w (PrPost z w) := by
  have d1 : decide ((9223372036854775808 : Int) ≤ (u : Int)) = false := decide_eq_false (by omega)
  have d2 : decide ((9218868437227405312 : Int) < (u : Int)) = true := decide_eq_true (by omega)
  clear hx2 hu
  have hb := f64bits u
  go_enter Tryz.func11, Tryz.ntmps11
  go_wp2_with fail
  go_ret
  exact ⟨_, rfl, HP.out, by decide, Below.refl _ _⟩
set_option maxRecDepth 100000 in
set_option maxHeartbeats 1000000 in
theorem printP_inf (z u : Nat) (w : World) (hx2 : u < 9223372036854775808) (hu : u = 9218868437227405312) (HP : Hid (PrintIs z (sgB false ++ [105, 110, 102]))) :
    Calls Tryz.prog 11 #[.float .f64 u] w (PrPost z w) := by
  have d1 : decide ((9223372036854775808 : Int) ≤ (u : Int)) = false := decide_eq_false (by omega)
  have d2 : decide ((9218868437227405312 : Int) < (u : Int)) = false := decide_eq_false (by omega)
  have d3 : ((u : Int) == 9218868437227405312) = true := by simp; omega
  clear hx2 hu
  have hb := f64bits u
  go_enter Tryz.func11, Tryz.ntmps11
  go_wp2_with fail
  go_ret
  exact ⟨_, rfl, HP.out, by decide, Below.refl _ _⟩
set_option maxRecDepth 100000 in
set_option maxHeartbeats 1000000 in
theorem printP_zero (z u : Nat) (w : World) (hx2 : u < 9223372036854775808) (hu : u = 0) (HP : Hid (PrintIs z (sgB false ++ [48]))) :
    Calls Tryz.prog 11 #[.float .f64 u] w (PrPost z w) := by
  have d1 : decide ((9223372036854775808 : Int) ≤ (u : Int)) = false := decide_eq_false (by omega)
  have d2 : decide ((9218868437227405312 : Int) < (u : Int)) = false := decide_eq_false (by omega)
  have d3 : ((u : Int) == 9218868437227405312) = false := by simp; omega
  have d4 : ((u : Int) == 0) = true := by simp; omega
  clear hx2 hu
  have hb := f64bits u
  go_enter Tryz.func11, Tryz.ntmps11
  go_wp2_with fail
  go_ret
  exact ⟨_, rfl, HP.out, by decide, Below.refl _ _⟩
set_option maxRecDepth 100000 in
set_option maxHeartbeats 4000000 in
theorem printP_fin (z u : Nat) (w : World) (hx2 : u < 9223372036854775808) (H0 : Hid (0 < u)) (HU : Hid (u < infR)) (HP : Hid (∀ d p, Sh u d p → PrintIs z (sgB false ++ layS d p))) :
    Calls Tryz.prog 11 #[.float .f64 u] w (PrPost z w) := by
  have hu1 : 0 < u := H0.out
  have hu2 : u < 9218868437227405312 := HU.out
  have cS : Hid (∀ W, Calls Tryz.prog 32 #[.int .u64 u] W (ShPost u W)) := fhid (fun W => shortestR u W H0.out HU.out)
  have d1 : decide ((9223372036854775808 : Int) ≤ (u : Int)) = false := decide_eq_false (by omega)
  have d2 : decide ((9218868437227405312 : Int) < (u : Int)) = false := decide_eq_false (by omega)
  have d3 : ((u : Int) == 9218868437227405312) = false := by simp; omega
  have d4 : ((u : Int) == 0) = false := by simp; omega
  clear hx2
  clear hu1 hu2
  have hb := f64bits u
  go_enter Tryz.func11, Tryz.ntmps11
  go_wp2_with fail
  with_reducible refine (cS.out _).mono ?_
  rintro e w1 ⟨d, p, rfl, hs, hb1⟩
  have hbd := sh_bd H0.out HU.out hs
  rw [bl_length] at hbd
  obtain ⟨q1, q2, q3, q4⟩ := hbd
  have HS := fhid (HP.out _ _ hs)
  have B1 := fhid hb1
  clear hs hb1 hb cS HP
  by_cases hp : p < -4 ∨ 17 < p
  · obtain ⟨M, hM⟩ : ∃ M : Nat, max (p - 1) (1 - p) = M := ⟨(max (p - 1) (1 - p)).toNat, by omega⟩
    have HL := fhid (far_bl (d := d) hp hM)
    have hM2 : M ≤ 1001 := by omega
    have ct : Hid (∀ W, Calls Tryz.prog 34 #[.int .i64 M] W (StrPost (ddg M) W)) := fhid (fun W => textR 4 M (Nat.lt_of_le_of_lt hM2 (by decide)) (by decide) W)
    have HM := fhid hM
    clear hM
    by_cases h1 : 1 < d.size
    · rcases hp with hp | hp
      · by_cases hten : M < 10
        · have hme : 1 - p = (M : Int) := by have := HM.out; omega
          have hpe : -(p - 1) = (M : Int) := by omega
          go_wp2_with fail
          with_reducible refine (ct.out _).mono ?_
          rintro e w2 ⟨t2, rfl, ht2, hts, hb2⟩
          have HT := fhid ht2
          have B2 := fhid (B1.out.trans (hb2.mono B1.out.size))
          clear ht2 hb2
          go_wp2_with fail
          go_ret
          refine ⟨_, rfl, ?_, ?_, B2.out⟩
          · have h := HS.out
            rw [HL.out, if_pos (by omega), if_pos hten, ← head2 d h1] at h
            simp only [sgT, sgF, List.append_assoc, List.nil_append] at h
            simp only [bl_append, HT.out, bl_em, bl_ep, bl_0, bl_dot, bl_none, List.append_assoc, List.nil_append]
            exact h
          · have e1 : (d.extract 0 1).size ≤ 21 := by rw [← bl_length, bl_extract, List.length_take, List.length_drop, bl_length]; omega
            have e2 : (d.extract 1 d.size).size ≤ 21 := by rw [← bl_length, bl_extract, List.length_take, List.length_drop, bl_length]; omega
            simp only [ByteArray.size_append, sz_em, sz_ep, sz_0, sz_dot, sz_none]; omega
        · have hme : 1 - p = (M : Int) := by have := HM.out; omega
          have hpe : -(p - 1) = (M : Int) := by omega
          go_wp2_with fail
          with_reducible refine (ct.out _).mono ?_
          rintro e w2 ⟨t2, rfl, ht2, hts, hb2⟩
          have HT := fhid ht2
          have B2 := fhid (B1.out.trans (hb2.mono B1.out.size))
          clear ht2 hb2
          go_wp2_with fail
          go_ret
          refine ⟨_, rfl, ?_, ?_, B2.out⟩
          · have h := HS.out
            rw [HL.out, if_pos (by omega), if_neg hten, ← head2 d h1] at h
            simp only [sgT, sgF, List.append_assoc, List.nil_append] at h
            simp only [bl_append, HT.out, bl_em, bl_ep, bl_0, bl_dot, bl_none, List.append_assoc, List.nil_append]
            exact h
          · have e1 : (d.extract 0 1).size ≤ 21 := by rw [← bl_length, bl_extract, List.length_take, List.length_drop, bl_length]; omega
            have e2 : (d.extract 1 d.size).size ≤ 21 := by rw [← bl_length, bl_extract, List.length_take, List.length_drop, bl_length]; omega
            simp only [ByteArray.size_append, sz_em, sz_ep, sz_0, sz_dot, sz_none]; omega
      · have hten : ¬ M < 10 := by have := HM.out; omega
        have hpe : p - 1 = (M : Int) := by have := HM.out; omega
        go_wp2_with fail
        with_reducible refine (ct.out _).mono ?_
        rintro e w2 ⟨t2, rfl, ht2, hts, hb2⟩
        have HT := fhid ht2
        have B2 := fhid (B1.out.trans (hb2.mono B1.out.size))
        clear ht2 hb2
        go_wp2_with fail
        go_ret
        refine ⟨_, rfl, ?_, ?_, B2.out⟩
        · have h := HS.out
          rw [HL.out, if_neg (by omega), if_neg hten, ← head2 d h1] at h
          simp only [sgT, sgF, List.append_assoc, List.nil_append] at h
          simp only [bl_append, HT.out, bl_em, bl_ep, bl_0, bl_dot, bl_none, List.append_assoc, List.nil_append]
          exact h
        · have e1 : (d.extract 0 1).size ≤ 21 := by rw [← bl_length, bl_extract, List.length_take, List.length_drop, bl_length]; omega
          have e2 : (d.extract 1 d.size).size ≤ 21 := by rw [← bl_length, bl_extract, List.length_take, List.length_drop, bl_length]; omega
          simp only [ByteArray.size_append, sz_em, sz_ep, sz_0, sz_dot, sz_none]; omega
    · rcases hp with hp | hp
      · by_cases hten : M < 10
        · have hme : 1 - p = (M : Int) := by have := HM.out; omega
          have hpe : -(p - 1) = (M : Int) := by omega
          go_wp2_with fail
          with_reducible refine (ct.out _).mono ?_
          rintro e w2 ⟨t2, rfl, ht2, hts, hb2⟩
          have HT := fhid ht2
          have B2 := fhid (B1.out.trans (hb2.mono B1.out.size))
          clear ht2 hb2
          go_wp2_with fail
          go_ret
          refine ⟨_, rfl, ?_, ?_, B2.out⟩
          · have h := HS.out
            rw [HL.out, if_pos (by omega), if_pos hten, ← head1 d (by omega)] at h
            simp only [sgT, sgF, List.append_assoc, List.nil_append] at h
            simp only [bl_append, HT.out, bl_em, bl_ep, bl_0, bl_dot, bl_none, List.append_assoc, List.nil_append]
            exact h
          · have e1 : (d.extract 0 1).size ≤ 21 := by rw [← bl_length, bl_extract, List.length_take, List.length_drop, bl_length]; omega
            have e2 : (d.extract 1 d.size).size ≤ 21 := by rw [← bl_length, bl_extract, List.length_take, List.length_drop, bl_length]; omega
            simp only [ByteArray.size_append, sz_em, sz_ep, sz_0, sz_dot, sz_none]; omega
        · have hme : 1 - p = (M : Int) := by have := HM.out; omega
          have hpe : -(p - 1) = (M : Int) := by omega
          go_wp2_with fail
          with_reducible refine (ct.out _).mono ?_
          rintro e w2 ⟨t2, rfl, ht2, hts, hb2⟩
          have HT := fhid ht2
          have B2 := fhid (B1.out.trans (hb2.mono B1.out.size))
          clear ht2 hb2
          go_wp2_with fail
          go_ret
          refine ⟨_, rfl, ?_, ?_, B2.out⟩
          · have h := HS.out
            rw [HL.out, if_pos (by omega), if_neg hten, ← head1 d (by omega)] at h
            simp only [sgT, sgF, List.append_assoc, List.nil_append] at h
            simp only [bl_append, HT.out, bl_em, bl_ep, bl_0, bl_dot, bl_none, List.append_assoc, List.nil_append]
            exact h
          · have e1 : (d.extract 0 1).size ≤ 21 := by rw [← bl_length, bl_extract, List.length_take, List.length_drop, bl_length]; omega
            have e2 : (d.extract 1 d.size).size ≤ 21 := by rw [← bl_length, bl_extract, List.length_take, List.length_drop, bl_length]; omega
            simp only [ByteArray.size_append, sz_em, sz_ep, sz_0, sz_dot, sz_none]; omega
      · have hten : ¬ M < 10 := by have := HM.out; omega
        have hpe : p - 1 = (M : Int) := by have := HM.out; omega
        go_wp2_with fail
        with_reducible refine (ct.out _).mono ?_
        rintro e w2 ⟨t2, rfl, ht2, hts, hb2⟩
        have HT := fhid ht2
        have B2 := fhid (B1.out.trans (hb2.mono B1.out.size))
        clear ht2 hb2
        go_wp2_with fail
        go_ret
        refine ⟨_, rfl, ?_, ?_, B2.out⟩
        · have h := HS.out
          rw [HL.out, if_neg (by omega), if_neg hten, ← head1 d (by omega)] at h
          simp only [sgT, sgF, List.append_assoc, List.nil_append] at h
          simp only [bl_append, HT.out, bl_em, bl_ep, bl_0, bl_dot, bl_none, List.append_assoc, List.nil_append]
          exact h
        · have e1 : (d.extract 0 1).size ≤ 21 := by rw [← bl_length, bl_extract, List.length_take, List.length_drop, bl_length]; omega
          have e2 : (d.extract 1 d.size).size ≤ 21 := by rw [← bl_length, bl_extract, List.length_take, List.length_drop, bl_length]; omega
          simp only [ByteArray.size_append, sz_em, sz_ep, sz_0, sz_dot, sz_none]; omega
  · have r1 : -4 ≤ p := by omega
    have r2 : p ≤ 17 := by omega
    clear hp
    by_cases hz : p ≤ 0
    · obtain ⟨n, hn⟩ : ∃ n : Nat, -p = n := ⟨(-p).toNat, by omega⟩
      have HL := fhid (lay_b (d := bl d) r1 hz)
      have HN := fhid hn
      have cr : Hid (∀ W, Calls Tryz.prog 33 #[.int .i64 n] W (StrPost (List.replicate n 48) W)) := fhid (fun W => noughtsS n W (by omega))
      go_wp2_with fail
      with_reducible refine (cr.out _).mono ?_
      rintro e w2 ⟨t2, rfl, ht2, hts, hb2⟩
      have HT := fhid ht2
      have B2 := fhid (B1.out.trans (hb2.mono B1.out.size))
      clear ht2 hb2
      go_wp2_with fail
      go_ret
      refine ⟨_, rfl, ?_, ?_, B2.out⟩
      · have h := HS.out
        rw [HL.out, HN.out, Int.toNat_natCast] at h
        simp only [sgT, sgF, List.append_assoc, List.nil_append] at h
        simp only [bl_append, HT.out, bl_0dot, bl_none, List.append_assoc, List.nil_append]
        exact h
      · simp only [ByteArray.size_append, sz_0dot, sz_none]; omega
    · by_cases hc : (d.size : Int) ≤ p
      · obtain ⟨n, hn⟩ : ∃ n : Nat, p - (d.size : Int) = n := ⟨(p - d.size).toNat, by omega⟩
        have HL := fhid (lay_c (d := bl d) (by omega) r2 (by rw [bl_length]; exact hc))
        have HN := fhid hn
        have cr : Hid (∀ W, Calls Tryz.prog 33 #[.int .i64 n] W (StrPost (List.replicate n 48) W)) := fhid (fun W => noughtsS n W (by omega))
        go_wp2_with fail
        with_reducible refine (cr.out _).mono ?_
        rintro e w2 ⟨t2, rfl, ht2, hts, hb2⟩
        have HT := fhid ht2
        have B2 := fhid (B1.out.trans (hb2.mono B1.out.size))
        clear ht2 hb2
        go_wp2_with fail
        go_ret
        refine ⟨_, rfl, ?_, ?_, B2.out⟩
        · have h := HS.out
          rw [HL.out, bl_length, HN.out, Int.toNat_natCast] at h
          simp only [sgT, sgF, List.append_assoc, List.nil_append] at h
          simp only [bl_append, HT.out, bl_none, List.append_assoc, List.nil_append]
          exact h
        · simp only [ByteArray.size_append, sz_none]; omega
      · have HL := fhid (lay_d (d := bl d) (by omega) r2 (by rw [bl_length]; exact hc))
        obtain ⟨n, rfl⟩ : ∃ n : Nat, p = n := ⟨p.toNat, by omega⟩
        have hns : n < d.size := by omega
        go_wp2_with fail
        go_quiet (fail)
        go_wp2_with fail
        go_ret
        refine ⟨_, rfl, ?_, ?_, B1.out.trans ((below_drewN w1 _).mono B1.out.size)⟩
        · have h := HS.out
          rw [HL.out, Int.toNat_natCast] at h
          simp only [sgT, sgF, List.append_assoc, List.nil_append] at h
          have e1 : List.take (d.size - n) (List.drop n (bl d)) = List.drop n (bl d) := List.take_of_length_le (by rw [List.length_drop, bl_length]; exact Nat.le_refl _)
          simp only [bl_append, bl_extract, bl_dot, bl_none, List.append_assoc, List.nil_append, List.drop_zero, Nat.sub_zero, e1]
          exact h
        · rw [← bl_length]
          simp only [bl_append, bl_extract, bl_dot, bl_none, List.length_append, List.length_take, List.length_drop, bl_length, List.length_singleton, List.length_nil]
          omega
set_option maxRecDepth 100000 in
set_option maxHeartbeats 1000000 in
theorem printM_nan (z u : Nat) (x : Nat) (w : World) (hx1 : 9223372036854775808 ≤ x) (hx2 : x < 18446744073709551616) (hsub : (x : Int) - 9223372036854775808 = u) (hu : 9218868437227405312 < u) (HP : Hid (PrintIs z [110, 97, 110])) :
    Calls Tryz.prog 11 #[.float .f64 x] w (PrPost z w) := by
  have d1 : decide ((9223372036854775808 : Int) ≤ (x : Int)) = true := decide_eq_true (by omega)
  have hw : IntKind.u64.wrap ((x : Int) - 9223372036854775808) = (u : Int) := by rw [hsub]; exact IntWalk.u64_in _ (by omega)
  have hw2 : ((x : Int) - 9223372036854775808) % 18446744073709551616 = (u : Int) := by omega
  have d2 : decide ((9218868437227405312 : Int) < (u : Int)) = true := decide_eq_true (by omega)
  clear hx1 hx2 hu
  have hb := f64bits x
  go_enter Tryz.func11, Tryz.ntmps11
  go_wp2_with fail
  go_ret
  exact ⟨_, rfl, HP.out, by decide, Below.refl _ _⟩
set_option maxRecDepth 100000 in
set_option maxHeartbeats 1000000 in
theorem printM_inf (z u : Nat) (x : Nat) (w : World) (hx1 : 9223372036854775808 ≤ x) (hx2 : x < 18446744073709551616) (hsub : (x : Int) - 9223372036854775808 = u) (hu : u = 9218868437227405312) (HP : Hid (PrintIs z (sgB true ++ [105, 110, 102]))) :
    Calls Tryz.prog 11 #[.float .f64 x] w (PrPost z w) := by
  have d1 : decide ((9223372036854775808 : Int) ≤ (x : Int)) = true := decide_eq_true (by omega)
  have hw : IntKind.u64.wrap ((x : Int) - 9223372036854775808) = (u : Int) := by rw [hsub]; exact IntWalk.u64_in _ (by omega)
  have hw2 : ((x : Int) - 9223372036854775808) % 18446744073709551616 = (u : Int) := by omega
  have d2 : decide ((9218868437227405312 : Int) < (u : Int)) = false := decide_eq_false (by omega)
  have d3 : ((u : Int) == 9218868437227405312) = true := by simp; omega
  clear hx1 hx2 hu
  have hb := f64bits x
  go_enter Tryz.func11, Tryz.ntmps11
  go_wp2_with fail
  go_ret
  exact ⟨_, rfl, HP.out, by decide, Below.refl _ _⟩
set_option maxRecDepth 100000 in
set_option maxHeartbeats 1000000 in
theorem printM_zero (z u : Nat) (x : Nat) (w : World) (hx1 : 9223372036854775808 ≤ x) (hx2 : x < 18446744073709551616) (hsub : (x : Int) - 9223372036854775808 = u) (hu : u = 0) (HP : Hid (PrintIs z (sgB true ++ [48]))) :
    Calls Tryz.prog 11 #[.float .f64 x] w (PrPost z w) := by
  have d1 : decide ((9223372036854775808 : Int) ≤ (x : Int)) = true := decide_eq_true (by omega)
  have hw : IntKind.u64.wrap ((x : Int) - 9223372036854775808) = (u : Int) := by rw [hsub]; exact IntWalk.u64_in _ (by omega)
  have hw2 : ((x : Int) - 9223372036854775808) % 18446744073709551616 = (u : Int) := by omega
  have d2 : decide ((9218868437227405312 : Int) < (u : Int)) = false := decide_eq_false (by omega)
  have d3 : ((u : Int) == 9218868437227405312) = false := by simp; omega
  have d4 : ((u : Int) == 0) = true := by simp; omega
  clear hx1 hx2 hu
  have hb := f64bits x
  go_enter Tryz.func11, Tryz.ntmps11
  go_wp2_with fail
  go_ret
  exact ⟨_, rfl, HP.out, by decide, Below.refl _ _⟩
set_option maxRecDepth 100000 in
set_option maxHeartbeats 4000000 in
theorem printM_fin (z u : Nat) (x : Nat) (w : World) (hx1 : 9223372036854775808 ≤ x) (hx2 : x < 18446744073709551616) (hsub : (x : Int) - 9223372036854775808 = u) (H0 : Hid (0 < u)) (HU : Hid (u < infR)) (HP : Hid (∀ d p, Sh u d p → PrintIs z (sgB true ++ layS d p))) :
    Calls Tryz.prog 11 #[.float .f64 x] w (PrPost z w) := by
  have hu1 : 0 < u := H0.out
  have hu2 : u < 9218868437227405312 := HU.out
  have cS : Hid (∀ W, Calls Tryz.prog 32 #[.int .u64 u] W (ShPost u W)) := fhid (fun W => shortestR u W H0.out HU.out)
  have d1 : decide ((9223372036854775808 : Int) ≤ (x : Int)) = true := decide_eq_true (by omega)
  have hw : IntKind.u64.wrap ((x : Int) - 9223372036854775808) = (u : Int) := by rw [hsub]; exact IntWalk.u64_in _ (by omega)
  have hw2 : ((x : Int) - 9223372036854775808) % 18446744073709551616 = (u : Int) := by omega
  have d2 : decide ((9218868437227405312 : Int) < (u : Int)) = false := decide_eq_false (by omega)
  have d3 : ((u : Int) == 9218868437227405312) = false := by simp; omega
  have d4 : ((u : Int) == 0) = false := by simp; omega
  clear hx1 hx2
  clear hu1 hu2
  have hb := f64bits x
  go_enter Tryz.func11, Tryz.ntmps11
  go_wp2_with fail
  with_reducible refine (cS.out _).mono ?_
  rintro e w1 ⟨d, p, rfl, hs, hb1⟩
  have hbd := sh_bd H0.out HU.out hs
  rw [bl_length] at hbd
  obtain ⟨q1, q2, q3, q4⟩ := hbd
  have HS := fhid (HP.out _ _ hs)
  have B1 := fhid hb1
  clear hs hb1 hb cS HP
  by_cases hp : p < -4 ∨ 17 < p
  · obtain ⟨M, hM⟩ : ∃ M : Nat, max (p - 1) (1 - p) = M := ⟨(max (p - 1) (1 - p)).toNat, by omega⟩
    have HL := fhid (far_bl (d := d) hp hM)
    have hM2 : M ≤ 1001 := by omega
    have ct : Hid (∀ W, Calls Tryz.prog 34 #[.int .i64 M] W (StrPost (ddg M) W)) := fhid (fun W => textR 4 M (Nat.lt_of_le_of_lt hM2 (by decide)) (by decide) W)
    have HM := fhid hM
    clear hM
    by_cases h1 : 1 < d.size
    · rcases hp with hp | hp
      · by_cases hten : M < 10
        · have hme : 1 - p = (M : Int) := by have := HM.out; omega
          have hpe : -(p - 1) = (M : Int) := by omega
          go_wp2_with fail
          with_reducible refine (ct.out _).mono ?_
          rintro e w2 ⟨t2, rfl, ht2, hts, hb2⟩
          have HT := fhid ht2
          have B2 := fhid (B1.out.trans (hb2.mono B1.out.size))
          clear ht2 hb2
          go_wp2_with fail
          go_ret
          refine ⟨_, rfl, ?_, ?_, B2.out⟩
          · have h := HS.out
            rw [HL.out, if_pos (by omega), if_pos hten, ← head2 d h1] at h
            simp only [sgT, sgF, List.append_assoc, List.nil_append] at h
            simp only [bl_append, HT.out, bl_em, bl_ep, bl_0, bl_dot, bl_minus, List.append_assoc, List.nil_append]
            exact h
          · have e1 : (d.extract 0 1).size ≤ 21 := by rw [← bl_length, bl_extract, List.length_take, List.length_drop, bl_length]; omega
            have e2 : (d.extract 1 d.size).size ≤ 21 := by rw [← bl_length, bl_extract, List.length_take, List.length_drop, bl_length]; omega
            simp only [ByteArray.size_append, sz_em, sz_ep, sz_0, sz_dot, sz_minus]; omega
        · have hme : 1 - p = (M : Int) := by have := HM.out; omega
          have hpe : -(p - 1) = (M : Int) := by omega
          go_wp2_with fail
          with_reducible refine (ct.out _).mono ?_
          rintro e w2 ⟨t2, rfl, ht2, hts, hb2⟩
          have HT := fhid ht2
          have B2 := fhid (B1.out.trans (hb2.mono B1.out.size))
          clear ht2 hb2
          go_wp2_with fail
          go_ret
          refine ⟨_, rfl, ?_, ?_, B2.out⟩
          · have h := HS.out
            rw [HL.out, if_pos (by omega), if_neg hten, ← head2 d h1] at h
            simp only [sgT, sgF, List.append_assoc, List.nil_append] at h
            simp only [bl_append, HT.out, bl_em, bl_ep, bl_0, bl_dot, bl_minus, List.append_assoc, List.nil_append]
            exact h
          · have e1 : (d.extract 0 1).size ≤ 21 := by rw [← bl_length, bl_extract, List.length_take, List.length_drop, bl_length]; omega
            have e2 : (d.extract 1 d.size).size ≤ 21 := by rw [← bl_length, bl_extract, List.length_take, List.length_drop, bl_length]; omega
            simp only [ByteArray.size_append, sz_em, sz_ep, sz_0, sz_dot, sz_minus]; omega
      · have hten : ¬ M < 10 := by have := HM.out; omega
        have hpe : p - 1 = (M : Int) := by have := HM.out; omega
        go_wp2_with fail
        with_reducible refine (ct.out _).mono ?_
        rintro e w2 ⟨t2, rfl, ht2, hts, hb2⟩
        have HT := fhid ht2
        have B2 := fhid (B1.out.trans (hb2.mono B1.out.size))
        clear ht2 hb2
        go_wp2_with fail
        go_ret
        refine ⟨_, rfl, ?_, ?_, B2.out⟩
        · have h := HS.out
          rw [HL.out, if_neg (by omega), if_neg hten, ← head2 d h1] at h
          simp only [sgT, sgF, List.append_assoc, List.nil_append] at h
          simp only [bl_append, HT.out, bl_em, bl_ep, bl_0, bl_dot, bl_minus, List.append_assoc, List.nil_append]
          exact h
        · have e1 : (d.extract 0 1).size ≤ 21 := by rw [← bl_length, bl_extract, List.length_take, List.length_drop, bl_length]; omega
          have e2 : (d.extract 1 d.size).size ≤ 21 := by rw [← bl_length, bl_extract, List.length_take, List.length_drop, bl_length]; omega
          simp only [ByteArray.size_append, sz_em, sz_ep, sz_0, sz_dot, sz_minus]; omega
    · rcases hp with hp | hp
      · by_cases hten : M < 10
        · have hme : 1 - p = (M : Int) := by have := HM.out; omega
          have hpe : -(p - 1) = (M : Int) := by omega
          go_wp2_with fail
          with_reducible refine (ct.out _).mono ?_
          rintro e w2 ⟨t2, rfl, ht2, hts, hb2⟩
          have HT := fhid ht2
          have B2 := fhid (B1.out.trans (hb2.mono B1.out.size))
          clear ht2 hb2
          go_wp2_with fail
          go_ret
          refine ⟨_, rfl, ?_, ?_, B2.out⟩
          · have h := HS.out
            rw [HL.out, if_pos (by omega), if_pos hten, ← head1 d (by omega)] at h
            simp only [sgT, sgF, List.append_assoc, List.nil_append] at h
            simp only [bl_append, HT.out, bl_em, bl_ep, bl_0, bl_dot, bl_minus, List.append_assoc, List.nil_append]
            exact h
          · have e1 : (d.extract 0 1).size ≤ 21 := by rw [← bl_length, bl_extract, List.length_take, List.length_drop, bl_length]; omega
            have e2 : (d.extract 1 d.size).size ≤ 21 := by rw [← bl_length, bl_extract, List.length_take, List.length_drop, bl_length]; omega
            simp only [ByteArray.size_append, sz_em, sz_ep, sz_0, sz_dot, sz_minus]; omega
        · have hme : 1 - p = (M : Int) := by have := HM.out; omega
          have hpe : -(p - 1) = (M : Int) := by omega
          go_wp2_with fail
          with_reducible refine (ct.out _).mono ?_
          rintro e w2 ⟨t2, rfl, ht2, hts, hb2⟩
          have HT := fhid ht2
          have B2 := fhid (B1.out.trans (hb2.mono B1.out.size))
          clear ht2 hb2
          go_wp2_with fail
          go_ret
          refine ⟨_, rfl, ?_, ?_, B2.out⟩
          · have h := HS.out
            rw [HL.out, if_pos (by omega), if_neg hten, ← head1 d (by omega)] at h
            simp only [sgT, sgF, List.append_assoc, List.nil_append] at h
            simp only [bl_append, HT.out, bl_em, bl_ep, bl_0, bl_dot, bl_minus, List.append_assoc, List.nil_append]
            exact h
          · have e1 : (d.extract 0 1).size ≤ 21 := by rw [← bl_length, bl_extract, List.length_take, List.length_drop, bl_length]; omega
            have e2 : (d.extract 1 d.size).size ≤ 21 := by rw [← bl_length, bl_extract, List.length_take, List.length_drop, bl_length]; omega
            simp only [ByteArray.size_append, sz_em, sz_ep, sz_0, sz_dot, sz_minus]; omega
      · have hten : ¬ M < 10 := by have := HM.out; omega
        have hpe : p - 1 = (M : Int) := by have := HM.out; omega
        go_wp2_with fail
        with_reducible refine (ct.out _).mono ?_
        rintro e w2 ⟨t2, rfl, ht2, hts, hb2⟩
        have HT := fhid ht2
        have B2 := fhid (B1.out.trans (hb2.mono B1.out.size))
        clear ht2 hb2
        go_wp2_with fail
        go_ret
        refine ⟨_, rfl, ?_, ?_, B2.out⟩
        · have h := HS.out
          rw [HL.out, if_neg (by omega), if_neg hten, ← head1 d (by omega)] at h
          simp only [sgT, sgF, List.append_assoc, List.nil_append] at h
          simp only [bl_append, HT.out, bl_em, bl_ep, bl_0, bl_dot, bl_minus, List.append_assoc, List.nil_append]
          exact h
        · have e1 : (d.extract 0 1).size ≤ 21 := by rw [← bl_length, bl_extract, List.length_take, List.length_drop, bl_length]; omega
          have e2 : (d.extract 1 d.size).size ≤ 21 := by rw [← bl_length, bl_extract, List.length_take, List.length_drop, bl_length]; omega
          simp only [ByteArray.size_append, sz_em, sz_ep, sz_0, sz_dot, sz_minus]; omega
  · have r1 : -4 ≤ p := by omega
    have r2 : p ≤ 17 := by omega
    clear hp
    by_cases hz : p ≤ 0
    · obtain ⟨n, hn⟩ : ∃ n : Nat, -p = n := ⟨(-p).toNat, by omega⟩
      have HL := fhid (lay_b (d := bl d) r1 hz)
      have HN := fhid hn
      have cr : Hid (∀ W, Calls Tryz.prog 33 #[.int .i64 n] W (StrPost (List.replicate n 48) W)) := fhid (fun W => noughtsS n W (by omega))
      go_wp2_with fail
      with_reducible refine (cr.out _).mono ?_
      rintro e w2 ⟨t2, rfl, ht2, hts, hb2⟩
      have HT := fhid ht2
      have B2 := fhid (B1.out.trans (hb2.mono B1.out.size))
      clear ht2 hb2
      go_wp2_with fail
      go_ret
      refine ⟨_, rfl, ?_, ?_, B2.out⟩
      · have h := HS.out
        rw [HL.out, HN.out, Int.toNat_natCast] at h
        simp only [sgT, sgF, List.append_assoc, List.nil_append] at h
        simp only [bl_append, HT.out, bl_0dot, bl_minus, List.append_assoc, List.nil_append]
        exact h
      · simp only [ByteArray.size_append, sz_0dot, sz_minus]; omega
    · by_cases hc : (d.size : Int) ≤ p
      · obtain ⟨n, hn⟩ : ∃ n : Nat, p - (d.size : Int) = n := ⟨(p - d.size).toNat, by omega⟩
        have HL := fhid (lay_c (d := bl d) (by omega) r2 (by rw [bl_length]; exact hc))
        have HN := fhid hn
        have cr : Hid (∀ W, Calls Tryz.prog 33 #[.int .i64 n] W (StrPost (List.replicate n 48) W)) := fhid (fun W => noughtsS n W (by omega))
        go_wp2_with fail
        with_reducible refine (cr.out _).mono ?_
        rintro e w2 ⟨t2, rfl, ht2, hts, hb2⟩
        have HT := fhid ht2
        have B2 := fhid (B1.out.trans (hb2.mono B1.out.size))
        clear ht2 hb2
        go_wp2_with fail
        go_ret
        refine ⟨_, rfl, ?_, ?_, B2.out⟩
        · have h := HS.out
          rw [HL.out, bl_length, HN.out, Int.toNat_natCast] at h
          simp only [sgT, sgF, List.append_assoc, List.nil_append] at h
          simp only [bl_append, HT.out, bl_minus, List.append_assoc, List.nil_append]
          exact h
        · simp only [ByteArray.size_append, sz_minus]; omega
      · have HL := fhid (lay_d (d := bl d) (by omega) r2 (by rw [bl_length]; exact hc))
        obtain ⟨n, rfl⟩ : ∃ n : Nat, p = n := ⟨p.toNat, by omega⟩
        have hns : n < d.size := by omega
        go_wp2_with fail
        go_quiet (fail)
        go_wp2_with fail
        go_ret
        refine ⟨_, rfl, ?_, ?_, B1.out.trans ((below_drewN w1 _).mono B1.out.size)⟩
        · have h := HS.out
          rw [HL.out, Int.toNat_natCast] at h
          simp only [sgT, sgF, List.append_assoc, List.nil_append] at h
          have e1 : List.take (d.size - n) (List.drop n (bl d)) = List.drop n (bl d) := List.take_of_length_le (by rw [List.length_drop, bl_length]; exact Nat.le_refl _)
          simp only [bl_append, bl_extract, bl_dot, bl_minus, List.append_assoc, List.nil_append, List.drop_zero, Nat.sub_zero, e1]
          exact h
        · rw [← bl_length]
          simp only [bl_append, bl_extract, bl_dot, bl_minus, List.length_append, List.length_take, List.length_drop, bl_length, List.length_singleton, List.length_nil]
          omega
/-- Every float. -/
theorem printRC (x : Nat) (w : World) (hx : x < 18446744073709551616) :
    Calls Tryz.prog 11 #[.float .f64 x] w (PrPost x w) := by
  by_cases h : 9223372036854775808 ≤ x
  · obtain ⟨u, hu⟩ : ∃ u, x = 9223372036854775808 + u := ⟨x - 9223372036854775808, by omega⟩
    have hu2 : u < 9223372036854775808 := by omega
    have hs : (x : Int) - 9223372036854775808 = u := by omega
    have e : x = sgw true + u := hu
    clear hu
    rcases Nat.lt_trichotomy u infR with h1 | h1 | h1
    · by_cases h0 : u = 0
      · exact printM_zero x u x w h hx hs h0 (fhid (by rw [e, h0]; exact print_zero true))
      · exact printM_fin x u x w h hx hs (fhid (by omega)) (fhid h1) (fhid (fun d p hd => by rw [e]; exact print_fin (by omega) h1 hd))
    · exact printM_inf x u x w h hx hs h1 (fhid (by rw [e]; exact print_inf true u h1.symm))
    · exact printM_nan x u x w h hx hs h1 (fhid (by rw [e]; exact print_nan (s := true) h1 hu2))
  · have hu2 : x < 9223372036854775808 := by omega
    obtain ⟨z, hz⟩ : ∃ z, x = z := ⟨_, rfl⟩
    have e : z = sgw false + x := by rw [← hz]; exact (Nat.zero_add x).symm
    have key : Calls Tryz.prog 11 #[.float .f64 x] w (PrPost z w) := by
      rcases Nat.lt_trichotomy x infR with h1 | h1 | h1
      · by_cases h0 : x = 0
        · exact printP_zero z x w hu2 h0 (fhid (by rw [e, h0]; exact print_zero false))
        · exact printP_fin z x w hu2 (fhid (by omega)) (fhid h1) (fhid (fun d p hd => by rw [e]; exact print_fin (by omega) h1 hd))
      · exact printP_inf z x w hu2 h1 (fhid (by rw [e]; exact print_inf false x h1.symm))
      · exact printP_nan z x w hu2 h1 (fhid (by rw [e]; exact print_nan (s := false) h1 hu2))
    rw [← hz] at key
    exact key
end Go.Proofs.YtlhhpehfgkanoaaGreatDoor.fl
/- The walk of the law ScoreTells. -/
namespace Go.Proofs.YtlhhpehfgkanoaaGreatDoor.fl
open Go.ChangeShapes Go.WideShapes Go.ChangeAt Go.RowKit
set_option linter.unusedVariables false
theorem bl_inj {s t : ByteArray} (h : bl s = bl t) : s = t := by
  unfold bl at h
  have h1 : s.data.toList = t.data.toList := by
    refine List.map_inj_right (fun a b h => UInt8.toNat_inj.mp h) |>.mp h
  have h2 : s.data = t.data := Array.toList_inj.mp h1
  cases s; cases t
  simp only at h2
  rw [h2]
set_option maxRecDepth 100000 in
set_option maxHeartbeats 1000000 in
theorem tellsC (x : Nat) (w : World) (hf : FS w) (hx : x < 18446744073709551616) :
    Calls Tryz.prog 3 #[.int .u64 x] w fun e w' => e = .returned (.bool true) ∧ Below w.heap.size w w' := by
  have cp := printC x w hf hx
  have cr : Hid (∀ W, Calls Tryz.prog 11 #[.float .f64 x] W (PrPost x W)) := fhid (fun W => printRC x W hx)
  have hfr := f64from
  clear hf hx
  go_enter Tryz.func3, Tryz.ntmps3
  go_wp2_with fail
  refine cp.mono ?_
  clear cp
  rintro e w1 ⟨t1, rfl, h1, hs1, hb1⟩
  have H1 := fhid h1
  have B1 := fhid hb1
  clear h1 hb1
  go_wp2_with fail
  refine (cr.out _).mono ?_
  rintro e w2 ⟨t2, rfl, h2, hs2, hb2⟩
  have B2 := fhid (B1.out.trans (hb2.mono B1.out.size))
  obtain rfl : t1 = t2 := bl_inj (H1.out.unique h2)
  clear h2 hb2
  go_wp2_with fail
  go_ret
  exact ⟨by simp, B2.out⟩
end Go.Proofs.YtlhhpehfgkanoaaGreatDoor.fl
/- From what the rows list of the library's tables to what the walks ask of memory. -/
namespace Go.Proofs.YtlhhpehfgkanoaaGreatDoor.fl
open Go.ChangeShapes Go.WideShapes Go.ChangeAt Go.RowKit Go.Lib
set_option linter.unusedVariables false
set_option linter.unusedSimpArgs false
theorem reads_open {P : Program} {w : World} {n : String} {d : DataW Unit} (h : VarReads P w n d) {g t : Nat} (hg : P.globalNamed n = some g) (ht : (P.globals[g]?).map (·.type) = some t) :
    ∃ cs fuel p, w.var? P n = some cs ∧ DataW.trod (fun _ => ()) P w 0 (fun _ => true) false fuel t cs.toList = some (d, p) := by
  obtain ⟨g', t', cs, fuel, p, hg', ht', hv, hd⟩ := h
  obtain rfl := Option.some.inj (hg.symm.trans hg')
  obtain rfl := Option.some.inj (ht.symm.trans ht')
  exact ⟨cs, fuel, p, hv, hd⟩
section
variable {P : Program} {w : World} {sp : Nat → Bool} {held : Bool}
theorem trod_fl {fuel : Nat} {t : TypeId} {cs : List Value} {x : DataW Unit × List MemPlace} {k : FloatKind} (ht : P.underlying t = some (.float k)) (h : DataW.trod (fun _ => ()) P w 0 sp held fuel t cs = some x) :
    ∃ b, cs = [.float k b] ∧ x = (.lit (.float k b), []) := by
  cases fuel with
  | zero => simp [DataW.trod] at h
  | succ n =>
    unfold DataW.trod at h
    rw [ht] at h
    split at h <;> simp_all
/-- A field that is an integer. -/
theorem fld {fuel : Nat} {t : TypeId} {cs : List Value} {ds : List (DataW Unit)} {p : List MemPlace} {fs : Array Field} (ht : P.underlying t = some (.struct fs)) (h : DataW.trod (fun _ => ()) P w 0 sp held fuel t cs = some (.agg ds, p))
    (i : Nat) (f : Field) (hf : fs[i]? = some f) {k : IntKind} (hk : P.underlying f.type = some (.int k)) (hc : P.cellsOf f.type = 1) {z : Int} (hz : ds[i]? = some (.lit (.int k z))) : cs[f.offset]? = some (.int k z) := by
  obtain ⟨xs, n, rfl, hx, hl, hxl, hfs⟩ := DataW.trod_struct ht h
  have h0 := hfs i f hf
  have e := congrArg Prod.fst hx
  simp only [DataW.agg.injEq] at e
  subst e
  rw [List.getElem?_map] at hz
  cases hb : xs[i]? with
  | none => rw [hb] at hz; cases hz
  | some b =>
    rw [hb] at hz h0
    simp only [Option.map_some, Option.some.injEq] at hz
    obtain ⟨m, hm, rfl, _⟩ := DataW.trod_int hk h0
    simp only [DataW.lit.injEq, Lit.int.injEq, true_and] at hz
    subst hz
    rw [hc] at hm
    have := congrArg (·[0]?) hm
    simpa [List.getElem?_take, List.getElem?_drop] using this
end
theorem info_of {W : World} (h : VarReads Tryz.prog W "internal/strconv.float64info" Rows.laid_internal_strconv_float64info) : W.cell? ⟨11, 0, none⟩ = some (.int .u64 52) := by
  obtain ⟨cs, fuel, p, hv, hd⟩ := reads_open h (g := 11) (t := 185) (by kernel_rfl) (by kernel_rfl)
  have h1 := fld Tryz.underlying185 hd 0 _ rfl (k := .u64) (by kernel_rfl) (by kernel_rfl) (z := 52) rfl
  rw [World.var?_cell (by kernel_rfl) hv 0, ← Array.getElem?_toList]
  exact h1
theorem opt_of {W : World} (h : VarReads Tryz.prog W "internal/strconv.optimize" Rows.laid_internal_strconv_optimize) : W.cell? ⟨10, 0, none⟩ = some (.bool true) := by
  obtain ⟨cs, fuel, p, hv, hd⟩ := reads_open h (g := 10) (t := 4) (by kernel_rfl) (by kernel_rfl)
  obtain ⟨b, hb, hx⟩ := DataW.trod_bool Tryz.underlying4 hd
  have e := congrArg Prod.fst hx
  have e2 : true = b := by
    have : (DataW.lit (.bool true) : DataW Unit) = .lit (.bool b) := e
    simpa using this
  rw [World.var?_cell (by kernel_rfl) hv 0, ← Array.getElem?_toList, hb, ← e2]
  rfl
theorem tab_of {W : World} (h : VarReads Tryz.prog W "internal/strconv.pow10Tab" Rows.laid_internal_strconv_pow10Tab) : P10 W := by
  obtain ⟨cs, fuel, p, hv, hd⟩ := reads_open h (g := 18) (t := 225) (by kernel_rfl) (by kernel_rfl)
  obtain ⟨xs, m, rfl, hx, hl, hxl, hel⟩ := DataW.trod_array Tryz.underlying225 hd
  have e : Go.Pinned.pow10Rows.map (fun x => (DataW.agg [.lit (.int .u64 x.1), .lit (.int .u64 x.2)] : DataW Unit)) = xs.map (·.1) := by
    have := congrArg Prod.fst hx
    have h2 : (DataW.agg (Go.Pinned.pow10Rows.map (fun x => (DataW.agg [.lit (.int .u64 x.1), .lit (.int .u64 x.2)] : DataW Unit))) : DataW Unit) = .agg (xs.map (·.1)) := this
    simpa only [DataW.agg.injEq] using h2
  have hc2 : Tryz.prog.cellsOf 224 = 2 := by kernel_rfl
  intro i hi
  have h1 := hel i hi
  rw [hc2] at h1
  have hb : ∃ b, xs[i]? = some b := ⟨xs[i]'(by omega), List.getElem?_eq_getElem (by omega)⟩
  obtain ⟨⟨bd, bp⟩, hb⟩ := hb
  have hr : Go.Pinned.pow10Rows[i]? = some (tHi i, tLo i) := by
    unfold tHi tLo
    have : i < Go.Pinned.pow10Rows.length := by rw [rows_length]; exact hi
    rw [List.getD_eq_getElem?_getD, List.getElem?_eq_getElem this]
    rfl
  have e2 := congrArg (·[i]?) e
  simp only [List.getElem?_map, hr, hb, Option.map_some, Option.some.injEq] at e2
  rw [hb] at h1
  subst e2
  have f0 := fld Tryz.underlying224 h1 0 _ rfl (k := .u64) (by kernel_rfl) (by kernel_rfl) (z := (tHi i : Nat)) rfl
  have f1 := fld Tryz.underlying224 h1 1 _ rfl (k := .u64) (by kernel_rfl) (by kernel_rfl) (z := (tLo i : Nat)) rfl
  have c0 := World.var?_cell (w := W) (show Tryz.prog.globalNamed "internal/strconv.pow10Tab" = some 18 by kernel_rfl) hv (i * 2)
  have c1 := World.var?_cell (w := W) (show Tryz.prog.globalNamed "internal/strconv.pow10Tab" = some 18 by kernel_rfl) hv (i * 2 + 1)
  rw [← Array.getElem?_toList] at c0 c1
  refine ⟨c0.trans ?_, c1.trans ?_⟩
  · have : (List.take 2 (List.drop (i * 2) cs.toList))[0]? = some (.int .u64 (tHi i : Nat)) := f0
    simpa [List.getElem?_take, List.getElem?_drop] using this
  · have : (List.take 2 (List.drop (i * 2) cs.toList))[1]? = some (.int .u64 (tLo i : Nat)) := f1
    simpa [List.getElem?_take, List.getElem?_drop] using this
theorem p10_of {W : World} (h : VarReads Tryz.prog W "internal/strconv.float64pow10" Rows.laid_internal_strconv_float64pow10) :
    ∃ g o, W.cell? ⟨15, 0, none⟩ = some (.slice (some ⟨g, o, none⟩) 23 23) ∧ ∀ i, i ≤ 22 → W.cell? ⟨g, o + i, none⟩ = some (.float .f64 (p10bits.getD i 0)) := by
  obtain ⟨cs, fuel, p, hv, hd⟩ := reads_open h (g := 15) (t := 41) (by kernel_rfl) (by kernel_rfl)
  have hdd : (Rows.laid_internal_strconv_float64pow10 : DataW Unit) = .slice (p10bits.map fun b => .lit (.float .f64 b)) [] := by rfl
  rw [hdd] at hd
  have hc : Tryz.prog.cellsOf 23 = 1 := by kernel_rfl
  rcases DataW.trod_slice Tryz.underlying41 hd with ⟨_, hx⟩ | ⟨a, len, cap, el, rs, m, rfl, hcs, hx, _, hlc, _, hel, helem, hsp, _⟩
  · cases hx
  have e0 := congrArg Prod.fst hx
  simp only [DataW.slice.injEq] at e0
  obtain ⟨eE, eR⟩ := e0
  have hlen : len = 23 := by
    have := congrArg List.length eE
    simp only [List.length_map] at this
    rw [hel] at this
    exact this.symm
  have hrs : rs.length = 0 := by
    have := congrArg List.length eR
    simp only [List.length_map, List.length_nil] at this
    exact this.symm
  have hcap : cap = 23 := by
    have := (hsp rfl).1
    omega
  have hcell : ∀ i, i < 23 → W.cell? (a.add i) = some (.float .f64 (p10bits.getD i 0)) := by
    intro i hi
    have h1 := helem i (by omega)
    rw [hc] at h1
    obtain ⟨b, hb⟩ : ∃ b, el[i]? = some b := ⟨el[i]'(by omega), List.getElem?_eq_getElem (by omega)⟩
    rw [hb] at h1
    obtain ⟨ce, hce, hte⟩ := Option.bind_eq_some_iff.1 h1
    obtain ⟨z, hz, hbz⟩ := trod_fl Tryz.underlying23 hte
    have hb1 : b.1 = .lit (.float .f64 (p10bits.getD i 0)) := by
      have := congrArg (·[i]?) eE
      have hl2 : p10bits.length = 23 := rfl
      simp only [List.getElem?_map, hb, Option.map_some] at this
      rw [List.getElem?_eq_getElem (by omega)] at this
      simp only [Option.map_some, Option.some.injEq] at this
      rw [List.getD_eq_getElem?_getD, List.getElem?_eq_getElem (by omega)]
      exact this.symm
    rw [hbz] at hb1
    simp only [DataW.lit.injEq, Lit.float.injEq, true_and] at hb1
    obtain ⟨_, _, hcc⟩ := World.cells?_some hce
    have := hcc 0 (by omega)
    rw [hz] at this
    simp only [Nat.mul_one] at this
    have e1 : (a.add i).add 0 = a.add i := by simp [Addr.add]
    rw [e1] at this
    rw [this, ← hb1]
    rfl
  obtain ⟨R, o, sR⟩ := a
  obtain rfl : sR = none := by
    have h00 := hcell 0 (by decide)
    have : (Addr.add ⟨R, o, sR⟩ 0) = ⟨R, o, sR⟩ := by simp [Addr.add]
    rw [this] at h00
    exact Go.Proofs.cell_spot h00
  refine ⟨R, o, ?_, fun j hj => ?_⟩
  · rw [World.var?_cell (by kernel_rfl) hv 0, ← Array.getElem?_toList, hcs, hlen, hcap]
    rfl
  · have := hcell j (by omega)
    rwa [Addr.add_lit] at this
theorem er_of {W : World} {nm : String} {x : DataW Unit} (h : VarReads Tryz.prog W "strconv.ErrRange" (.iface nm x)) : ∃ ev, W.cell? ⟨7, 0, none⟩ = some ev ∧ (ev = .nilIface ∨ ∃ te pe, ev = .iface te pe) := by
  obtain ⟨cs, fuel, p, hv, hd⟩ := reads_open h (g := 7) (t := 63) (by kernel_rfl) (by kernel_rfl)
  have key : ∃ u v, cs.toList = [.iface u v] := by
    cases fuel with
    | zero => simp [DataW.trod] at hd
    | succ n =>
      unfold DataW.trod at hd
      rw [Tryz.underlying63] at hd
      split at hd <;> simp_all
  obtain ⟨u, v, hk⟩ := key
  refine ⟨.iface u v, ?_, .inr ⟨u, v, rfl⟩⟩
  rw [World.var?_cell (by kernel_rfl) hv 0, ← Array.getElem?_toList, hk]
  rfl
theorem u64_of {W : World} (h : VarReads Tryz.prog W "internal/strconv.uint64pow10" Rows.laid_internal_strconv_uint64pow10) : Lib.TabIs Tryz.prog W "internal/strconv.uint64pow10" .u64 Lib.pow10Tab := by
  obtain ⟨cs, fuel, p, hv, hd⟩ := reads_open h (g := 8) (t := 170) (by kernel_rfl) (by kernel_rfl)
  have hdd : (Rows.laid_internal_strconv_uint64pow10 : DataW Unit) = Lib.tabData .u64 Lib.pow10Tab := by rfl
  rw [hdd] at hd
  have := Lib.cells_of_tab Tryz.underlying170 Tryz.underlying22 (by kernel_rfl) (by kernel_rfl) hd
  unfold Lib.TabIs
  rw [hv, ← this]
theorem fs_of {W : World} {l : List (String × DataW Unit)} (h : laidMet Tryz.prog l W)
    (h1 : ("internal/strconv.float64info", Rows.laid_internal_strconv_float64info) ∈ l) (h2 : ("internal/strconv.optimize", Rows.laid_internal_strconv_optimize) ∈ l) (h3 : ("internal/strconv.pow10Tab", Rows.laid_internal_strconv_pow10Tab) ∈ l)
    (h4 : ("internal/strconv.float64pow10", Rows.laid_internal_strconv_float64pow10) ∈ l) (h5 : ("strconv.ErrRange", Rows.laid_strconv_ErrRange) ∈ l) (h6 : ("internal/strconv.uint64pow10", Rows.laid_internal_strconv_uint64pow10) ∈ l) : FS W :=
  ⟨⟨⟨info_of (Lib.laidMet.reads h h1), p10_of (Lib.laidMet.reads h h4)⟩, opt_of (Lib.laidMet.reads h h2), tab_of (Lib.laidMet.reads h h3), er_of (Lib.laidMet.reads h h5)⟩, u64_of (Lib.laidMet.reads h h6)⟩
end Go.Proofs.YtlhhpehfgkanoaaGreatDoor.fl
