/- The walk of the reference's read. -/
import Derived.Test.YtgbldjbkapaclaaDoorFlD
import Derived.Deep.DeepCutAuto
import Derived.Test.YtgbldjbkapaclaaDoorFlP
import Derived.Test.YtgbldjbkapaclaaDoorFlE
import Derived.Laws.IdiomStrings
import Derived.Test.YtgbldjbkapaclaaDoorFlQ
import Derived.Test.YtgbldjbkapaclaaDoorFlT
import Derived.Deep.CutBlock
/- The walk of the reference's nearest: the greatest rung that is not above, by its bits; then the middle. -/
namespace Go.Proofs.YtgbldjbkapaclaaDoor.fl
open Go.ChangeShapes Go.WideShapes Go.ChangeAt Go.RowKit
set_option linter.unusedVariables false
set_option linter.unusedSimpArgs false
/-- What the search holds: the bits from b on are known. -/
structure NSt (d : Nat) (q : Int) (b u : Nat) : Prop where
  low : u % 2 ^ b = 0
  inf : u < infR
  le : V u * valD q ≤ valN d q
  up : u + 2 ^ b < infR → valN d q < V (u + 2 ^ b) * valD q
theorem NSt.start (d : Nat) (q : Int) : NSt d q 63 0 := ⟨rfl, by decide, by rw [V_zero, Nat.zero_mul]; exact Nat.zero_le _, fun h => absurd h (by decide)⟩
theorem NSt.take {d b u : Nat} {q : Int} (h : NSt d q (b + 1) u) (hi : u + 2 ^ b < infR) (hv : V (u + 2 ^ b) * valD q ≤ valN d q) : NSt d q b (u + 2 ^ b) := by
  have e : 2 ^ (b + 1) = 2 ^ b + 2 ^ b := by rw [Nat.pow_succ]; omega
  refine ⟨?_, hi, hv, ?_⟩
  · have := h.low
    rw [Nat.add_mod_right]
    exact Nat.mod_eq_zero_of_dvd (Nat.dvd_trans (Nat.pow_dvd_pow 2 (Nat.le_succ b)) (Nat.dvd_of_mod_eq_zero this))
  · intro h2
    have := h.up
    rw [e, ← Nat.add_assoc] at this
    exact this h2
theorem NSt.leave {d b u : Nat} {q : Int} (h : NSt d q (b + 1) u) (hv : u + 2 ^ b < infR → valN d q < V (u + 2 ^ b) * valD q) : NSt d q b u :=
  ⟨Nat.mod_eq_zero_of_dvd (Nat.dvd_trans (Nat.pow_dvd_pow 2 (Nat.le_succ b)) (Nat.dvd_of_mod_eq_zero h.low)), h.inf, h.le, hv⟩
/-- The rung itself, or the next one. -/
theorem NSt.near {d u : Nat} {q : Int} (h : NSt d q 0 u) (up : Prop) (h1 : up → (V u + V (u + 1)) * valD q < 2 * valN d q ∨ (V u + V (u + 1)) * valD q = 2 * valN d q ∧ u % 2 = 1)
    (h2 : ¬ up → 2 * valN d q < (V u + V (u + 1)) * valD q ∨ 2 * valN d q = (V u + V (u + 1)) * valD q ∧ u % 2 = 0) :
    ∃ v, Near (valN d q) (valD q) v ∧ (up → min v infR = u + 1 ∧ (v < infR ↔ u + 1 < infR)) ∧ (¬ up → v = u) := by
  have hD := valD_pos q
  have hi : infR = 9218868437227405312 := rfl
  have hle := h.le
  have hup := h.up
  rw [Nat.pow_zero] at hup
  have key : ∀ {a c : Nat}, a < c → V a * valD q < V c * valD q := fun {a c} g => Nat.mul_lt_mul_of_pos_right (V_lt g) hD
  have hin := h.inf
  by_cases hu : up
  · have g1 := h1 hu
    rcases Nat.lt_or_ge (u + 1) infR with hlt | hge
    · have g2 := hup hlt
      refine ⟨u + 1, ⟨?_, .inl ?_⟩, fun _ => ⟨Nat.min_eq_left (Nat.le_of_lt hlt), Iff.rfl⟩, fun h => absurd hu h⟩
      · right
        rw [Nat.add_sub_cancel]
        rcases g1 with g | ⟨g, g'⟩
        · exact .inl g
        · exact .inr ⟨g, by omega⟩
      · have := key (show u + 1 < u + 1 + 1 by omega)
        rw [Nat.add_mul]
        omega
    · have hue : u = infR - 1 := by omega
      obtain ⟨v, hv⟩ := near_exists (valN d q) (valD q) hD
      have hvi : infR ≤ v := by
        rcases Nat.lt_or_ge v infR with hh | hh
        · exfalso
          rcases Nat.lt_or_eq_of_le (show v ≤ u by omega) with hv2 | hv2
          · have a1 : 2 * valN d q ≤ (V v + V (v + 1)) * valD q := by rcases hv.hi with h | h <;> omega
            have a2 := key hv2
            have a3 : V (v + 1) * valD q ≤ V u * valD q := Nat.mul_le_mul_right _ (V_le (by omega))
            rw [Nat.add_mul] at a1
            omega
          · subst hv2
            rcases hv.hi with a | ⟨a, a'⟩ <;> rcases g1 with g | ⟨g, g'⟩ <;> omega
        · exact hh
      exact ⟨v, hv, fun _ => ⟨by omega, by omega⟩, fun h => absurd hu h⟩
  · have g1 := h2 hu
    refine ⟨u, ⟨?_, ?_⟩, fun h => absurd h hu, fun _ => rfl⟩
    · rcases Nat.eq_zero_or_pos u with h0 | h0
      · exact .inl h0
      · right; left
        have := key (show u - 1 < u by omega)
        rw [Nat.add_mul]
        omega
    · rcases g1 with g | ⟨g, g'⟩
      · exact .inl g
      · exact .inr ⟨g, g'⟩
theorem or_bit {u b : Nat} (hb : b ≤ 62) (hu : u < 9223372036854775808) (h : u % 2 ^ (b + 1) = 0) : bits BinOp.or IntKind.u64 (u : Int) ((2 ^ b : Nat) : Int) = ((u + 2 ^ b : Nat) : Int) := by
  have hp : 2 ^ b ≤ 2 ^ 62 := Nat.pow_le_pow_right (by decide) hb
  have h1 := u64_or_nat u (2 ^ b) (by omega) (by omega)
  rw [nat_join (b + 1) u (2 ^ b) h (Nat.pow_lt_pow_right (by decide) (Nat.lt_succ_self b))] at h1
  exact h1
theorem pm_bound {u : Nat} (h : u ≤ infR) : pM u < 9007199254740992 ∧ -1074 ≤ pE u ∧ pE u ≤ 972 := by
  have hi : infR = 9218868437227405312 := rfl
  unfold pM pE
  by_cases hz : u / 4503599627370496 = 0
  · rw [if_pos hz, if_pos hz]
    omega
  · rw [if_neg hz, if_neg hz]
    omega
def NrPost (d : Nat) (q : Int) (w : World) (e : Ending) (w' : World) : Prop :=
  ∃ u, Near (valN d q) (valD q) u ∧ e = .returned (.tuple #[.int .u64 ((min u infR : Nat) : Int), .bool (decide (u < infR))]) ∧ Below w.heap.size w w'
set_option maxRecDepth 100000 in
set_option maxHeartbeats 1000000 in
theorem nearestR (y : Value) (d : Nat) (q : Int) (w : World) (hy : Num .u64 w y d) (hd : d < Bs ^ KB) (hq1 : -900 ≤ q) (hq2 : q ≤ 900) :
    Calls Tryd.prog 20 #[y, .int .i64 q] w (NrPost d q w) := by
  have HY := fhid hy
  have cP : Hid (∀ u W, u < 9223372036854775808 → Calls Tryd.prog 29 #[.int .u64 ((u : Nat) : Int)] W fun e w' => e = .returned (.tuple #[.int .u64 (pM u), .int .i64 (pE u)]) ∧ w' = W) := fhid (fun u W h => partsR u W h)
  have cA : Hid (∀ (m : Nat) (e : Int) W, m < 18446744073709551616 → -9000 ≤ e → e ≤ 9000 → Below w.heap.size w W → Calls Tryd.prog 30 #[.int .u64 (m : Int), .int .i64 e, y, .int .i64 q] W (CmpPost (agL m e q) (agR d e q) W)) := fhid (fun m e W h1 h2 h3 h4 => againstR m e y d q W h1 h2 h3 hq1 hq2 (HY.out.on h4) hd)
  clear hy hd
  go_enter Tryd.func20, Tryd.ntmps20
  go_wp2_with fail
  go_loopw [6, 7] (fun x b wr => ∃ (u n : Nat) (k : Int), x = .int .u64 (u : Int) ∧ b = .int .i64 k ∧ k = (n : Int) - 1 ∧ n ≤ 63 ∧ Hid (NSt d q n u) ∧ Hid (Below w.heap.size w wr)) (fun _ b _ => (intOf b + 1).toNat)
  case atStart => exact ⟨0, 63, 62, rfl, rfl, by omega, Nat.le_refl _, fhid (NSt.start d q), fhid (Below.refl _ _)⟩
  case round =>
    obtain ⟨u, n, k, rfl, rfl, hk, hn, hN, hB⟩ := hrel
    have hui := hN.out.inf
    have hi : infR = 9218868437227405312 := rfl
    by_cases hz : 0 < n
    · obtain ⟨b, rfl⟩ : ∃ b, n = b + 1 := ⟨n - 1, by omega⟩
      obtain rfl : k = (b : Int) := by omega
      have g1 : (0 : Int) ≤ (b : Int) := by omega
      have hb62 : (b : Int) ≤ 62 := by omega
      clear hk
      have hor := or_bit (b := b) (by omega) (by omega) hN.out.low
      have hT62 : 2 ^ b ≤ 4611686018427387904 := (Nat.pow_le_pow_right (by decide) (show b ≤ 62 by omega) : 2 ^ b ≤ 2 ^ 62)
      have HTK := fhid (hN.out.take)
      have HLV := fhid (hN.out.leave)
      have hpi : (2 : Int) ^ b = ((2 ^ b : Nat) : Int) := by rw [Int.natCast_pow]; rfl
      obtain ⟨T, hT⟩ : ∃ T, 2 ^ b = T := ⟨_, rfl⟩
      have e4 : IntKind.u64.wrap (2 ^ b) = (T : Int) := by rw [hpi, hT]; exact IntWalk.u64_in _ (by omega)
      rw [hT] at hor hT62 HTK HLV
      clear hT hz hn hi hpi
      have hTu : (u : Int) + (T : Int) < 18446744073709551616 := by have : infR = 9218868437227405312 := rfl; omega
      by_cases hlt : u + T < 9218868437227405312
      · have hlt' : (u : Int) + (T : Int) < 9218868437227405312 := by omega
        have hti : u + T < infR := by have : infR = 9218868437227405312 := rfl; omega
        obtain ⟨pm1, pm2, pm3⟩ := pm_bound (Nat.le_of_lt hti)
        have cT := fhid (cP.out (u + T) wr (by omega))
        rw [Int.natCast_add] at cT
        have hag := (ag_rung (u + T) d q).2
        have hag2 := fhid hag
        clear hag
        have cB := fhid (cA.out (pM (u + T)) (pE (u + T)) wr (by omega) (by omega) (by omega) hB.out)
        obtain ⟨M, hM⟩ : ∃ M, pM (u + T) = M := ⟨_, rfl⟩
        obtain ⟨E, hE⟩ : ∃ E, pE (u + T) = E := ⟨_, rfl⟩
        rw [hM, hE] at cT cB hag2
        have HTI := fhid hti
        clear hM hE pm1 pm2 pm3 cP cA hti hlt hT62 hui hTu
        go_wp2_with fail
        refine cT.out.mono ?_
        clear cT
        rintro e w1 ⟨rfl, rfl⟩
        go_wp2_with fail
        refine cB.out.mono ?_
        clear cB
        rintro e w2 ⟨r, rfl, hr1, hr2, hb2⟩
        have HB2 : Hid (Below w.heap.size w w2) := fhid (hB.out.trans (hb2.mono hB.out.size))
        by_cases hr : 0 < r
        · have hr' : ¬ r ≤ 0 := by omega
          have hN2 := fhid (HLV.out (fun _ => hag2.out.1 (hr2.1 hr)))
          clear HTK HLV hag2 hr1 hr2 hb2 hN hr HTI e4 hor hlt'
          go_wp2_with fail
          exact ⟨⟨u, b, _, rfl, rfl, by omega, by omega, hN2, HB2⟩, by simp [intOf] <;> omega⟩
        · have hN2 := fhid (HTK.out HTI.out (Nat.le_of_not_lt (fun h => hr (hr2.2 (hag2.out.2 h)))))
          have hr' : r ≤ 0 := by omega
          clear HTK HLV hag2 hr1 hr2 hb2 hN hr HTI e4 hor hlt'
          go_wp2_with fail
          exact ⟨⟨u + T, b, _, congrArg (Value.int IntKind.u64) (by omega), rfl, by omega, by omega, hN2, HB2⟩, by simp [intOf] <;> omega⟩
      · have hlt' : ¬ (u : Int) + (T : Int) < 9218868437227405312 := by omega
        have hN2 := fhid (HLV.out (fun h => absurd h (by have : infR = 9218868437227405312 := rfl; omega)))
        clear HTK HLV hlt hT62 hui hTu
        go_wp2_with fail
        exact ⟨⟨u, b, _, rfl, rfl, by omega, by omega, hN2, hB⟩, by simp [intOf] <;> omega⟩
    · obtain rfl : n = 0 := by omega
      obtain ⟨pm1, pm2, pm3⟩ := pm_bound (Nat.le_of_lt hui)
      have cT := fhid (cP.out u wr (by omega))
      have hag := fhid (ag_mid u d q)
      have cB := fhid (cA.out (2 * pM u + 1) (pE u - 1) wr (by omega) (by omega) (by omega) hB.out)
      obtain ⟨M, hM⟩ : ∃ M, pM u = M := ⟨_, rfl⟩
      obtain ⟨E, hE⟩ : ∃ E, pE u = E := ⟨_, rfl⟩
      rw [hM, hE] at cT cB hag
      have hM2 : ((2 * M + 1 : Nat) : Int) = 2 * (M : Int) + 1 := by omega
      rw [hM2] at cB
      rw [hM] at pm1
      rw [hE] at pm2 pm3
      have pm1' : (M : Int) < 9007199254740992 := by omega
      have hneg : ¬ (0 : Int) ≤ k := by omega
      have HUI := fhid hui
      clear hM hE hM2 cP cA hui pm1 hi hk hz hn
      go_wp2_with fail
      refine cT.out.mono ?_
      clear cT
      rintro e w1 ⟨rfl, rfl⟩
      go_wp2_with fail
      refine cB.out.mono ?_
      clear cB
      rintro e w2 ⟨r, rfl, hr1, hr2, hb2⟩
      have HB2 : Hid (Below w.heap.size w w2) := fhid (hB.out.trans (hb2.mono hB.out.size))
      obtain ⟨v, hv, hv1, hv2⟩ := hN.out.near (r < 0 ∨ r = 0 ∧ u % 2 = 1) (by
        rintro (h | ⟨h, h'⟩)
        · exact .inl (hag.out.1.1 (hr1.1 h))
        · refine .inr ⟨?_, h'⟩
          have a1 : ¬ (V u + V (u + 1)) * valD q < 2 * valN d q := fun g => by have := hr1.2 (hag.out.1.2 g); omega
          have a2 : ¬ 2 * valN d q < (V u + V (u + 1)) * valD q := fun g => by have := hr2.2 (hag.out.2.2 g); omega
          omega) (by
        intro h
        rcases Int.lt_or_le 0 r with g | g
        · exact .inl (hag.out.2.1 (hr2.1 g))
        · have hr0 : r = 0 := by
            rcases Int.lt_or_le r 0 with g2 | g2
            · exact absurd (.inl g2) h
            · omega
          have a1 : ¬ (V u + V (u + 1)) * valD q < 2 * valN d q := fun g => by have := hr1.2 (hag.out.1.2 g); omega
          have a2 : ¬ 2 * valN d q < (V u + V (u + 1)) * valD q := fun g => by have := hr2.2 (hag.out.2.2 g); omega
          refine .inr ⟨by omega, ?_⟩
          rcases Nat.mod_two_eq_zero_or_one u with h2 | h2
          · exact h2
          · exact absurd (.inr ⟨hr0, h2⟩) h)
      have HV := fhid hv
      have HV1 := fhid hv1
      have HV2 := fhid hv2
      have hui := HUI.out
      have hi : infR = 9218868437227405312 := rfl
      clear hr1 hr2 hb2 hv hv1 hv2 hag hN pm2 pm3 pm1'
      have hw : IntKind.u64.wrap ((u : Int) + 1) = (u : Int) + 1 := IntWalk.u64_in _ (by omega)
      by_cases hup : r < 0 ∨ r = 0 ∧ u % 2 = 1
      · obtain ⟨q1, q2⟩ := HV1.out hup
        have hq : decide (v < infR) = decide ((u : Int) + 1 < 9218868437227405312) := by
          apply decide_eq_decide.2
          rw [q2]
          omega
        have HR : Hid (((min v infR : Nat) : Int) = (u : Int) + 1) := fhid (by rw [q1]; omega)
        have HQ := fhid hq
        clear q1 q2 hq HV1 HV2 hui hi HUI
        rcases hup with h | ⟨h, h'⟩
        · go_wp2_with fail
          go_ret2
          exact ⟨v, HV.out, by rw [HR.out, HQ.out]; rfl, HB2.out⟩
        · subst h
          have hm : (u : Int) % 2 = 1 := by omega
          clear h'
          go_wp2_with fail
          go_ret2
          exact ⟨v, HV.out, by rw [HR.out, HQ.out]; rfl, HB2.out⟩
      · have hvu := HV2.out hup
        have hq : decide (v < infR) = decide ((u : Int) < 9218868437227405312) := by
          apply decide_eq_decide.2
          omega
        have HR : Hid (((min v infR : Nat) : Int) = (u : Int)) := fhid (by omega)
        have HQ := fhid hq
        clear hvu hq HV1 HV2 hui hi HUI hw
        by_cases hr : 0 < r
        · have hr' : ¬ r < 0 := by omega
          have hr0 : (r == 0) = false := by simp; omega
          clear hup hr
          go_wp2_with fail
          go_ret2
          exact ⟨v, HV.out, by rw [HR.out, HQ.out]; rfl, HB2.out⟩
        · obtain rfl : r = 0 := by omega
          have hm : (u : Int) % 2 = 0 := by omega
          clear hup hr
          go_wp2_with fail
          go_ret2
          exact ⟨v, HV.out, by rw [HR.out, HQ.out]; rfl, HB2.out⟩
end Go.Proofs.YtgbldjbkapaclaaDoor.fl
/- The walk of the reference's lower. -/
namespace Go.Proofs.YtgbldjbkapaclaaDoor.fl
open Go.ChangeShapes Go.WideShapes Go.ChangeAt Go.RowKit
set_option linter.unusedVariables false
set_option linter.unusedSimpArgs false
theorem infoB8 : (Tryd.prog.info? 5).map (fun i => (i.zero, i.size, i.bytes)) = some (some (.int .u8 0), 1, 1) := by kernel_rfl
theorem own_string {B : Nat} {w : World} {v : Value} {xs : List Nat} (h : Own .u8 5 B w v xs) (h256 : ∀ c ∈ xs, c < 256) :
    ∃ t : ByteArray, bl t = xs ∧ Sem.run Tryd.prog (convert 59 9 v) w = .ok (.string t) w := by
  have hback : (xs.map UInt8.ofNat).map UInt8.toNat = xs := by
    rw [List.map_map]
    conv => rhs; rw [← List.map_id xs]
    apply List.map_congr_left
    intro c hc
    simp [Nat.mod_eq_of_lt (h256 c hc)]
  have hb : bl ⟨(xs.map UInt8.ofNat).toArray⟩ = xs := by unfold bl; simpa using hback
  refine ⟨⟨(xs.map UInt8.ofNat).toArray⟩, hb, ?_⟩
  obtain ⟨a, cap, rfl, hcap, hc⟩ := h.lim
  obtain ⟨a2, cap2, he, hs, _⟩ := h.form
  simp only [Value.slice.injEq] at he
  obtain ⟨rfl, _, rfl⟩ := he
  rcases Nat.eq_zero_or_pos xs.length with h0 | h0
  · have : xs = [] := List.length_eq_zero_iff.1 h0
    subst this
    show Sem.run Tryd.prog (convert 59 9 (Value.slice a 0 cap)) w = _
    cases a with
    | none =>
      rw [run_convert_bytes_string w _ _ 5 none 0 cap Tryd.underlying59 Tryd.underlying5 Tryd.underlying9]
      simp [Conv.bytesToString]
      rfl
    | some p => exact run_convert_bytes_back (P := Tryd.prog) w 59 9 5 p cap [] Tryd.underlying59 Tryd.underlying5 Tryd.underlying9 (fun j hj => by simp at hj)
  · obtain ⟨g, rfl⟩ := hs h0
    have h1 := run_convert_bytes_back (P := Tryd.prog) w 59 9 5 ⟨g, 0, none⟩ cap (xs.map UInt8.ofNat) Tryd.underlying59 Tryd.underlying5 Tryd.underlying9 (fun j hj => by
      rw [List.length_map] at hj
      obtain ⟨g', off, e, hcell⟩ := hc h0
      simp only [Option.some.injEq, Addr.mk.injEq] at e
      obtain ⟨rfl, rfl, _⟩ := e
      have h2 := hcell j hj
      have hadd : (⟨g, 0, none⟩ : Addr).add j = ⟨g, 0 + j, none⟩ := by unfold Addr.add; split <;> simp_all
      rw [hadd, h2]
      have : (xs.map UInt8.ofNat)[j]'(by simpa using hj) = UInt8.ofNat xs[j] := by simp
      rw [this, List.getD_eq_getElem?_getD, List.getElem?_eq_getElem hj]
      simp [Nat.mod_eq_of_lt (h256 _ (List.getElem_mem hj))])
    rw [List.length_map] at h1
    exact h1
theorem low1_256 {c : Nat} (h : c < 256) : low1 c < 256 := by
  unfold low1; split <;> omega
theorem take_map {s : List Nat} {j : Nat} (h : j < s.length) : (s.map low1).take (j + 1) = (s.map low1).take j ++ [low1 (s.getD j 0)] := by
  rw [take_snoc (by rw [List.length_map]; exact h)]
  congr 1
  rw [List.getD_eq_getElem?_getD, List.getElem?_map, List.getD_eq_getElem?_getD, List.getElem?_eq_getElem h]
  rfl
theorem bl_256 (s : ByteArray) : ∀ c ∈ bl s, c < 256 := by
  intro c hc
  unfold bl at hc
  obtain ⟨b, _, rfl⟩ := List.mem_map.1 hc
  exact UInt8.toNat_lt b
def LwPost (s : ByteArray) (w : World) (e : Ending) (w' : World) : Prop := ∃ t : ByteArray, e = .returned (.string t) ∧ bl t = (bl s).map low1 ∧ Below w.heap.size w w'
set_option maxRecDepth 100000 in
set_option maxHeartbeats 1000000 in
theorem lowerR (s : ByteArray) (w : World) (hs64 : s.size ≤ 64) :
    Calls Tryd.prog 18 #[.string s] w (LwPost s w) := by
  obtain ⟨i5, hi, hz, hs, hb⟩ := info_parts infoB8
  obtain ⟨n, hnn⟩ : ∃ n, s.size = n := ⟨_, rfl⟩
  have HNN := fhid hnn
  have hn64 : n ≤ 64 := by omega
  go_enter Tryd.func18, Tryd.ntmps18
  go_wp2_with (at_make; refine wpList_make_own _ rfl _ _ 59 rfl w.heap.size 5 i5 _ 1 Tryd.underlying59 hi hz hs _ _ _ n rfl rfl ?_ ?_ ?_ ?_ ?_; go_num; (rw [hb]; omega); (unfold maxLen; omega); exact Nat.le_refl _; intro w1 ho1 hg1; have HO1 := fhid (show Own .u8 5 w.heap.size w1 _ [] from ho1); have HB1 := fhid ((Below.refl w.heap.size w).grown hg1 (Nat.le_refl _) (fun k e => by cases e)); clear ho1 hg1)
  go_loopw [3, 11] (fun v x wr => ∃ (j : Nat), x = .int .i64 (j : Int) ∧ j ≤ n ∧ Hid (Own .u8 5 w.heap.size wr v (((bl s).map low1).take j)) ∧ Hid (Below w.heap.size w wr)) (fun _ x _ => n - (intOf x).toNat)
  case atStart => exact ⟨0, rfl, Nat.zero_le _, HO1, HB1⟩
  case round =>
    obtain ⟨j, rfl, hj, hO, hB⟩ := hrel
    by_cases hlt : j < n
    · have hjn : j < s.size := by rw [HNN.out]; exact hlt
      have hat := bl_at s j hjn
      have hsn := take_map (s := bl s) (j := j) (by rw [bl_length]; exact hjn)
      obtain ⟨c, hc⟩ : ∃ c, (bl s).getD j 0 = c := ⟨_, rfl⟩
      rw [hc] at hat hsn
      have hc256 : c < 256 := by rw [← hat]; exact UInt8.toNat_lt _
      have hO1 := hO.out
      obtain ⟨va, vc, rfl, _⟩ := hO1.form
      have HO := fhid hO1
      have hxl : (((bl s).map low1).take j).length ≤ 10000000 := by rw [List.length_take, List.length_map, bl_length]; omega
      obtain ⟨xs, hxs⟩ : ∃ xs, ((bl s).map low1).take j = xs := ⟨_, rfl⟩
      rw [hxs] at HO hxl hsn ⊢
      have HSN := fhid hsn
      have hsz := hB.out.size
      clear hO hO1 hsn hxs hc
      by_cases hup : 65 ≤ c ∧ c ≤ 90
      · obtain ⟨u1, u2⟩ := hup
        have g1 : (65 : Int) ≤ c := by omega
        have g2 : (c : Int) ≤ 90 := by omega
        have hl : Hid (low1 c = c + 32) := fhid (by unfold low1; rw [if_pos ⟨u1, u2⟩])
        have hD : (c : Int) + 32 = ((c + 32 : Nat) : Int) := by omega
        have HD := fhid hD
        clear hD u1 u2
        go_wp2_with (at_builtin; refine wpList_limb rfl (.tmp 25) (.tmp 27) 59 rfl w.heap.size 5 .u8 i5 1 Tryd.underlying59 hi hz hs hb (by decide) (.slice va xs.length vc) xs wr _ (c + 32) HD.out rfl HO.out rfl hxl hsz ?_; intro v2 w2 ho2 hb2; have HO2 := fhid ho2; have HB2 := fhid (hB.out.trans hb2); clear ho2 hb2)
        exact ⟨⟨j + 1, congrArg (Value.int IntKind.i64) (by omega), by omega, by rw [HSN.out, hl.out]; exact HO2, HB2⟩, by simp [intOf] <;> omega⟩
      · have hl : Hid (low1 c = c) := fhid (by unfold low1; rw [if_neg hup])
        by_cases u1 : 65 ≤ c
        · have g1 : (65 : Int) ≤ c := by omega
          have g2 : ¬ (c : Int) ≤ 90 := by omega
          clear hup u1
          go_wp2_with (at_builtin; refine wpList_limb rfl (.tmp 25) (.tmp 27) 59 rfl w.heap.size 5 .u8 i5 1 Tryd.underlying59 hi hz hs hb (by decide) (.slice va xs.length vc) xs wr _ c rfl rfl HO.out rfl hxl hsz ?_; intro v2 w2 ho2 hb2; have HO2 := fhid ho2; have HB2 := fhid (hB.out.trans hb2); clear ho2 hb2)
          exact ⟨⟨j + 1, congrArg (Value.int IntKind.i64) (by omega), by omega, by rw [HSN.out, hl.out]; exact HO2, HB2⟩, by simp [intOf] <;> omega⟩
        · have g1 : ¬ (65 : Int) ≤ c := by omega
          clear hup u1
          go_wp2_with (at_builtin; refine wpList_limb rfl (.tmp 25) (.tmp 27) 59 rfl w.heap.size 5 .u8 i5 1 Tryd.underlying59 hi hz hs hb (by decide) (.slice va xs.length vc) xs wr _ c rfl rfl HO.out rfl hxl hsz ?_; intro v2 w2 ho2 hb2; have HO2 := fhid ho2; have HB2 := fhid (hB.out.trans hb2); clear ho2 hb2)
          exact ⟨⟨j + 1, congrArg (Value.int IntKind.i64) (by omega), by omega, by rw [HSN.out, hl.out]; exact HO2, HB2⟩, by simp [intOf] <;> omega⟩
    · obtain rfl : j = n := by omega
      have hall : ((bl s).map low1).take j = (bl s).map low1 := List.take_of_length_le (by rw [List.length_map, bl_length, HNN.out]; exact Nat.le_refl _)
      rw [hall] at hO
      obtain ⟨t, ht, hcv⟩ := own_string hO.out (fun c hc => by
        obtain ⟨d, hd, rfl⟩ := List.mem_map.1 hc
        exact low1_256 (bl_256 s d hd))
      obtain ⟨va, vc, rfl, _⟩ := hO.out.form
      have HT := fhid ht
      obtain ⟨ln, hln⟩ : ∃ k, ((bl s).map low1).length = k := ⟨_, rfl⟩
      rw [hln] at hcv ⊢
      clear hall ht hO hln
      go_wp2_with fail
      go_ret
      exact ⟨t, rfl, HT.out, hB.out⟩
end Go.Proofs.YtgbldjbkapaclaaDoor.fl
/- The walk of the reference's read. -/
namespace Go.Proofs.YtgbldjbkapaclaaDoor.fl
open Go.ChangeShapes Go.WideShapes Go.ChangeAt Go.RowKit
set_option linter.unusedVariables false
set_option linter.unusedSimpArgs false
/-- A mantissa: digits; or digits, a point, digits. -/
theorem mant_form {m : List Nat} {p : Bool} (h : Mant m p) : (p = false ∧ ∀ c ∈ m, isDig c) ∨ (p = true ∧ ∃ a c, m = a ++ 46 :: c ∧ (∀ z ∈ a, isDig z) ∧ (∀ z ∈ c, isDig z)) := by
  induction h with
  | nil => exact .inl ⟨rfl, fun c h => by simp at h⟩
  | @dig m p c hm hc ih =>
    rcases ih with ⟨h1, h2⟩ | ⟨h1, a, d, rfl, h3, h4⟩
    · refine .inl ⟨h1, fun z hz => ?_⟩
      rcases List.mem_append.1 hz with h | h
      · exact h2 z h
      · simp at h; subst h; exact hc
    · refine .inr ⟨h1, a, d ++ [c], by simp, h3, fun z hz => ?_⟩
      rcases List.mem_append.1 hz with h | h
      · exact h4 z h
      · simp at h; subst h; exact hc
  | @dot m hm ih =>
    rcases ih with ⟨h1, h2⟩ | ⟨h1, _⟩
    · exact .inr ⟨rfl, m, [], rfl, h2, fun z hz => by simp at hz⟩
    · cases h1
/-- How many digits: the bytes but the point. -/
def digN (m : List Nat) (p : Bool) : Nat := m.length - (if p then 1 else 0)
/-- The longest mantissa ahead is the word's. -/
theorem man_longest {m x : List Nat} {p : Bool} (h : Mant m p) (hx : NoDig x) (hd : x.head? = some 46 → p = true) : manL (m ++ x) = m ∧ expL (m ++ x) = x ∧ mantN (m ++ x) = digN m p := by
  unfold digN
  rcases mant_form h with ⟨rfl, h1⟩ | ⟨rfl, a, c, rfl, h1, h2⟩
  · obtain ⟨_, _, e1, e2, e3⟩ := form_a h1 hx (fun h => by have := hd h; cases this)
    exact ⟨e3, e1, by rw [e2]; simp⟩
  · obtain ⟨_, _, e1, e2, e3⟩ := form_b h1 h2 hx
    rw [List.append_assoc, List.cons_append]
    exact ⟨e3, e1, by rw [e2]; simp <;> omega⟩
/-- The power: all digits, one to five of them. -/
theorem exp_is {c : Nat} {rest : List Nat} (hc : c = 101 ∨ c = 69) : expB (c :: rest) = true ↔ (1 ≤ (unsign rest).length ∧ (unsign rest).length ≤ 5 ∧ ∀ z ∈ unsign rest, isDig z) := by
  have h1 : ((c :: rest).head? == some 101 || (c :: rest).head? == some 69) = true := by rcases hc with rfl | rfl <;> rfl
  unfold expB
  rw [h1, Bool.true_and, List.drop_succ_cons, List.drop_zero, decide_eq_true_iff]
  generalize unsign rest = u
  constructor
  · rintro ⟨a, b, e⟩
    refine ⟨by omega, by omega, fun z hz => ?_⟩
    have := ndig_take u z
    rw [e, List.take_length] at this
    exact this hz
  · rintro ⟨a, b, e⟩
    have := ndig_app u [] e nodig_nil
    rw [List.append_nil] at this
    omega
theorem expV_is {c : Nat} {rest : List Nat} : expV (c :: rest) = if isNeg rest then -(dnum (unsign rest) : Int) else (dnum (unsign rest) : Int) := by
  unfold expV
  rw [List.drop_succ_cons, List.drop_zero]
  rfl
def ReadPost (s : ByteArray) (w : World) (e : Ending) (w' : World) : Prop :=
  ∃ (v : Value) (N : Nat) (Q : Int), e = .returned (.tuple #[.agg #[v, .int .i64 N, .int .i64 Q], .bool (decB (bl s))]) ∧ (decB (bl s) = true → Num .u64 w' v (dnum (manL (bl s))) ∧ N = (rf (manL (bl s))).nd ∧ Q = wq (manL (bl s)) (expV (expL (bl s)))) ∧ Below w.heap.size w w' ∧ ∃ ya ln ycap, v = .slice ya ln ycap
theorem digitR (c : Nat) (w : World) : Calls Tryd.prog 27 #[.int .u8 c] w fun e w' => e = .returned (.bool (isDigB c)) ∧ w = w' := by
  unfold isDigB
  by_cases h1 : 48 ≤ c
  · have g1 : (48 : Int) ≤ c := by omega
    by_cases h2 : c ≤ 57
    · have g2 : (c : Int) ≤ 57 := by omega
      go_enter Tryd.func27, Tryd.ntmps27
      go_wp2_with fail
      go_ret
      exact ⟨by simp [h1, h2], rfl⟩
    · have g2 : ¬ (c : Int) ≤ 57 := by omega
      go_enter Tryd.func27, Tryd.ntmps27
      go_wp2_with fail
      go_ret
      exact ⟨by simp [h1, h2], rfl⟩
  · have g1 : ¬ (48 : Int) ≤ c := by omega
    go_enter Tryd.func27, Tryd.ntmps27
    go_wp2_with fail
    go_ret
    exact ⟨by simp [h1], rfl⟩
theorem Num.set {w : World} {p : Addr} {u u' v : Value} {D : Nat} (h : Num .u64 w v D) (hp : w.cell? p = some u) (hu : ∀ n, u ≠ .int .u64 n) : Num .u64 (w.setCell p u') v D := by
  obtain ⟨l, ⟨a, cap, rfl, hcap, hl⟩, hc, rfl⟩ := h
  refine ⟨l, ⟨a, cap, rfl, hcap, fun hp0 => ?_⟩, hc, rfl⟩
  obtain ⟨g, off, e, hcells⟩ := hl hp0
  refine ⟨g, off, e, fun i hi => ?_⟩
  have h1 := hcells i hi
  have hne : (⟨g, off + i, none⟩ : Addr) ≠ p := by
    intro e
    subst e
    rw [h1] at hp
    simp only [Option.some.injEq] at hp
    exact hu _ hp.symm
  rw [World.cell?_setCell_other (h := Ne.symm hne)]
  exact h1
/-- What the reader holds: the block of its word, the block of its result. -/
structure RdM (b r : Nat) (w0 wr : World) (D N : Nat) (Q : Int) : Prop where
  num : ∃ v, wr.cell? ⟨b, 0, none⟩ = some v ∧ Num .u64 wr v D
  cn : wr.cell? ⟨b, 1, none⟩ = some (.int .i64 (N : Nat))
  cq : wr.cell? ⟨b, 2, none⟩ = some (.int .i64 Q)
  fz : ∀ i, i < 3 → wr.frozen? ⟨b, i, none⟩ = false
  res : ∀ i, i < 3 → ∃ v, wr.cell? ⟨r, i, none⟩ = some v ∧ ∀ n, v ≠ .int .u64 n
  rfz : ∀ i, i < 3 → wr.frozen? ⟨r, i, none⟩ = false
  bel : Below w0.heap.size w0 wr
  new : w0.heap.size ≤ r ∧ r < b
theorem RdM.lt {b r : Nat} {w0 wr : World} {D N : Nat} {Q : Int} (h : RdM b r w0 wr D N Q) : b < wr.heap.size := cell_lt h.cn
theorem RdM.drew {b r : Nat} {w0 wr : World} {D N : Nat} {Q : Int} (h : RdM b r w0 wr D N Q) (n : Nat) : RdM b r w0 (wr.drewN n) D N Q :=
  ⟨h.num, h.cn, h.cq, h.fz, h.res, h.rfz, below_dn h.bel n, h.new⟩
theorem RdM.on {b r : Nat} {w0 wr w' : World} {D N : Nat} {Q : Int} (h : RdM b r w0 wr D N Q) (hb : Below wr.heap.size wr w') : RdM b r w0 w' D N Q := by
  have hlt := h.lt
  have k : ∀ {p : Addr} {v : Value}, wr.cell? p = some v → w'.cell? p = some v := fun hc => (hb.cell (cell_lt hc)).trans hc
  have hf : ∀ {p : Addr}, p.block < wr.heap.size → w'.frozen? p = wr.frozen? p := fun {p} hp => by
    unfold World.frozen?
    rw [hb.block p.block hp]
  obtain ⟨v, h1, h2⟩ := h.num
  exact ⟨⟨v, k h1, h2.on hb⟩, k h.cn, k h.cq, fun i hi => by rw [hf hlt]; exact h.fz i hi, fun i hi => by obtain ⟨v, hv, hv2⟩ := h.res i hi; exact ⟨v, k hv, hv2⟩,
    fun i hi => by rw [hf (by have := h.new.2; show r < _; omega)]; exact h.rfz i hi, h.bel.trans (hb.mono h.bel.size), h.new⟩
theorem cell_off {w : World} {g h : Nat} {i j : Nat} {v : Value} (hne : g ≠ h ∨ i ≠ j) : (w.setCell ⟨h, j, none⟩ v).cell? ⟨g, i, none⟩ = w.cell? ⟨g, i, none⟩ :=
by
  have h0 : (⟨h, j, none⟩ : Addr) ≠ ⟨g, i, none⟩ := fun e => by
    simp only [Addr.mk.injEq] at e
    omega
  rw [World.cell?_setCell_other (h := h0)]
theorem RdM.setD {b r : Nat} {w0 wr : World} {D N D' : Nat} {Q : Int} {v' : Value} (h : RdM b r w0 wr D N Q) (hn : Num .u64 wr v' D') : RdM b r w0 (wr.setCell ⟨b, 0, none⟩ v') D' N Q := by
  obtain ⟨v, h1, l, ⟨a, cap, rfl, _⟩, _⟩ := h.num
  refine ⟨⟨v', cell_here h1, hn.set h1 (fun n e => by cases e)⟩, ?_, ?_, fun i hi => ?_, fun i hi => ?_, fun i hi => ?_, h.bel.setCell (p := ⟨b, 0, none⟩) (by have := h.new; show w0.heap.size ≤ b; omega) _, h.new⟩
  · rw [cell_off (.inr (by omega))]; exact h.cn
  · rw [cell_off (.inr (by omega))]; exact h.cq
  · rw [World.frozen?_setCell]; exact h.fz i hi
  · rw [cell_off (.inl (by have := h.new.2; omega))]; exact h.res i hi
  · rw [World.frozen?_setCell]; exact h.rfz i hi
theorem RdM.setN {b r : Nat} {w0 wr : World} {D N : Nat} {Q : Int} (h : RdM b r w0 wr D N Q) (N' : Nat) {n : Int} (hn : n = N') : RdM b r w0 (wr.setCell ⟨b, 1, none⟩ (.int .i64 n)) D N' Q := by
  subst hn
  obtain ⟨v, h1, h2⟩ := h.num
  refine ⟨⟨v, ?_, h2.set h.cn (fun n e => by cases e)⟩, cell_here h.cn, ?_, fun i hi => ?_, fun i hi => ?_, fun i hi => ?_, ?_, h.new⟩
  · rw [cell_off (.inr (by omega))]; exact h1
  · rw [cell_off (.inr (by omega))]; exact h.cq
  · rw [World.frozen?_setCell]; exact h.fz i hi
  · rw [cell_off (.inl (by have := h.new.2; omega))]; exact h.res i hi
  · rw [World.frozen?_setCell]; exact h.rfz i hi
  · exact h.bel.setCell (p := ⟨b, 1, none⟩) (by have := h.new; show w0.heap.size ≤ b; omega) _
theorem RdM.setQ {b r : Nat} {w0 wr : World} {D N : Nat} {Q : Int} (h : RdM b r w0 wr D N Q) (Q' : Int) : RdM b r w0 (wr.setCell ⟨b, 2, none⟩ (.int .i64 Q')) D N Q' := by
  obtain ⟨v, h1, h2⟩ := h.num
  refine ⟨⟨v, ?_, h2.set h.cq (fun n e => by cases e)⟩, ?_, cell_here h.cq, fun i hi => ?_, fun i hi => ?_, fun i hi => ?_, ?_, h.new⟩
  · rw [cell_off (.inr (by omega))]; exact h1
  · rw [cell_off (.inr (by omega))]; exact h.cn
  · rw [World.frozen?_setCell]; exact h.fz i hi
  · rw [cell_off (.inl (by have := h.new.2; omega))]; exact h.res i hi
  · rw [World.frozen?_setCell]; exact h.rfz i hi
  · exact h.bel.setCell (p := ⟨b, 2, none⟩) (by have := h.new; show w0.heap.size ≤ b; omega) _
theorem RdM.fin {b r : Nat} {w0 wr : World} {D N : Nat} {Q : Int} (h : RdM b r w0 wr D N Q) {v : Value} (hn : Num .u64 wr v D) (a c e : Value) :
    Num .u64 (((wr.setCell ⟨r, 0, none⟩ a).setCell ⟨r, 1, none⟩ c).setCell ⟨r, 2, none⟩ e) v D ∧ Below w0.heap.size w0 (((wr.setCell ⟨r, 0, none⟩ a).setCell ⟨r, 1, none⟩ c).setCell ⟨r, 2, none⟩ e) := by
  obtain ⟨v0, h0, n0⟩ := h.res 0 (by omega)
  obtain ⟨v1, h1, n1⟩ := h.res 1 (by omega)
  obtain ⟨v2, h2, n2⟩ := h.res 2 (by omega)
  have hr := h.new.1
  refine ⟨((hn.set h0 n0).set (by rw [cell_off (.inr (by omega))]; exact h1) n1).set (by rw [cell_off (.inr (by omega)), cell_off (.inr (by omega))]; exact h2) n2, ?_⟩
  exact ((h.bel.setCell (p := ⟨r, 0, none⟩) hr _).setCell (p := ⟨r, 1, none⟩) hr _).setCell (p := ⟨r, 2, none⟩) hr _
theorem RdM.start (w : World) : RdM (w.heap.size + 1) w.heap.size w ((w.alloc (.cells #[.slice none 0 0, .int .i64 0, .int .i64 0] 50)).alloc (.cells #[.slice none 0 0, .int .i64 0, .int .i64 0] 50)) 0 0 0 := by
  have hlt : ∀ i, i < 3 → i = 0 ∨ i = 1 ∨ i = 2 := fun i h => by omega
  refine ⟨⟨.slice none 0 0, by go_simp, [], ⟨none, 0, rfl, Nat.le_refl _, fun h => absurd h (by simp)⟩, ?_, rfl⟩, by go_simp, by go_simp, fun i hi => ?_, fun i hi => ?_, fun i hi => ?_, ((Below.refl _ _).alloc (Nat.le_refl _) _).alloc (by go_simp) _, Nat.le_refl _, Nat.lt_succ_self _⟩
  · exact can_nil
  · rcases hlt i hi with rfl | rfl | rfl <;> go_simp
  · rcases hlt i hi with rfl | rfl | rfl
    · exact ⟨.slice none 0 0, by go_simp, fun n e => by cases e⟩
    · exact ⟨.int .i64 0, by go_simp, fun n e => by cases e⟩
    · exact ⟨.int .i64 0, by go_simp, fun n e => by cases e⟩
  · rcases hlt i hi with rfl | rfl | rfl <;> go_simp
theorem dnum_foldT : ∀ (l : List Nat) (a : Nat), (∀ x ∈ l, x ≤ 57) → l.foldl (fun a c => if c = 46 then a else a * 10 + (c - 48)) a < (a + 1) * 10 ^ l.length
  | [], a, _ => by simp
  | c :: l, a, h => by
    have hc := h c (by simp)
    rw [List.foldl_cons, List.length_cons, Nat.pow_succ, Nat.mul_comm (10 ^ l.length), ← Nat.mul_assoc]
    by_cases h46 : c = 46
    · rw [if_pos h46]
      refine Nat.lt_of_lt_of_le (dnum_foldT l a (fun x hx => h x (by simp [hx]))) ?_
      exact Nat.mul_le_mul_right _ (by omega)
    · rw [if_neg h46]
      refine Nat.lt_of_lt_of_le (dnum_foldT l _ (fun x hx => h x (by simp [hx]))) ?_
      exact Nat.mul_le_mul_right _ (by omega)
theorem mant_57 {m : List Nat} {p : Bool} (h : Mant m p) : ∀ x ∈ m, x ≤ 57 := by
  induction h with
  | nil => intro x hx; simp at hx
  | @dig m p c hm hc ih =>
    intro x hx
    rcases List.mem_append.1 hx with h | h
    · exact ih x h
    · simp at h; subst h; exact hc.2
  | @dot m hm ih =>
    intro x hx
    rcases List.mem_append.1 hx with h | h
    · exact ih x h
    · simp at h; omega
theorem kc_64 : 10 ^ 64 ≤ Bs ^ KC := by
  have h1 : Bs ^ 7 ≤ Bs ^ KC := Nat.pow_le_pow_right bs_pos (by decide)
  have h2 : 10 ^ 64 ≤ Bs ^ 7 := by decide
  exact Nat.le_trans h2 h1
theorem dnum_kc {m : List Nat} {p : Bool} (h : Mant m p) (hl : m.length ≤ 64) : dnum m < Bs ^ KC := by
  have h1 := dnum_foldT m 0 (mant_57 h)
  rw [Nat.zero_add, Nat.one_mul] at h1
  exact Nat.lt_of_lt_of_le h1 (Nat.le_trans (Nat.pow_le_pow_right (by decide) hl) kc_64)
theorem nd_zero {m : List Nat} {p : Bool} (h : Mant m p) : (rf m).nd = 0 ↔ dnum m = 0 := by
  have ok := rf_ok h
  constructor
  · exact ok.zero
  · intro hz
    rcases Nat.eq_zero_or_pos (rf m).nd with h0 | h0
    · exact h0
    · exfalso
      have h1 := ok.low (by omega)
      obtain ⟨r, r1, r2, r3⟩ := ok.num
      have h2 := Nat.pow_pos (n := (rf m).ndm - 1) (show 0 < 10 by decide)
      have h3 := Nat.pow_pos (n := (rf m).nd - (rf m).ndm) (show 0 < 10 by decide)
      have h4 : 1 ≤ (rf m).mant * 10 ^ ((rf m).nd - (rf m).ndm) := Nat.mul_pos (by omega) h3
      omega
/-- One digit more. -/
theorem nd_step {m : List Nat} {p : Bool} {c : Nat} (h : Mant m p) (hc : isDig c) : (rf (m ++ [c])).nd = (rf m).nd + (if dnum (m ++ [c]) = 0 then 0 else 1) := by
  have hz := nd_zero h
  have hz2 := nd_zero (Mant.dig h hc)
  unfold isDig at hc
  by_cases h0 : dnum (m ++ [c]) = 0
  · rw [if_pos h0, hz2.2 h0]
    have : dnum m = 0 := by
      rw [dnum_snoc, if_neg (by omega)] at h0
      omega
    rw [hz.2 this]
  · rw [if_neg h0, rf_snoc]
    unfold rfStep
    rw [if_neg (by omega)]
    by_cases h1 : c = 48 ∧ (rf m).nd = 0
    · exfalso
      apply h0
      rw [dnum_snoc, if_neg (by omega), hz.1 h1.2, h1.1]
    · rw [if_neg h1]
      split <;> rfl
set_option maxRecDepth 100000 in
set_option maxHeartbeats 4000000 in
theorem readR (s : ByteArray) (w : World) (hs : s.size ≤ 64) :
    Calls Tryd.prog 19 #[.string s] w (ReadPost s w) := by
  have cD : Hid (∀ (c : Nat) W, Calls Tryd.prog 27 #[.int .u8 (c : Int)] W fun e w' => e = .returned (.bool (isDigB c)) ∧ W = w') := fhid (fun c W => digitR c W)
  have cT : Hid (∀ (x : Value) (n d : Nat) W, Num .u64 W x n → n < Bs ^ KC → d < 10 → Calls Tryd.prog 28 #[x, .int .u64 10, .int .u64 (d : Int)] W (NumPost .u64 (n * 10 + d) W)) := fhid (fun x n d W h1 h2 h3 => timesR x n 10 d W h1 (by decide) (by decide) (Nat.lt_trans h3 (by decide)) h2)
  obtain ⟨n, hn⟩ : ∃ n, s.size = n := ⟨_, rfl⟩
  have HNN := fhid hn
  have hn64 : n ≤ 64 := by omega
  have HR0 := fhid (RdM.start w)
  have hsz1 : w.heap.size < w.heap.size + 1 := Nat.lt_succ_self _
  go_enter Tryd.func19, Tryd.ntmps19
  go_upto_block 0 with fail
  obtain ⟨w1, hw1⟩ : ∃ w1, ((w.alloc (.cells #[.slice none 0 0, .int .i64 0, .int .i64 0] 50)).alloc (.cells #[.slice none 0 0, .int .i64 0, .int .i64 0] 50)) = w1 := ⟨_, rfl⟩
  rw [hw1] at HR0 ⊢
  obtain ⟨b, hb⟩ : ∃ b, w.heap.size + 1 = b := ⟨_, rfl⟩
  obtain ⟨r, hr⟩ : ∃ r, w.heap.size = r := ⟨_, rfl⟩
  rw [hb] at HR0 ⊢
  rw [hr] at HR0 ⊢
  clear hw1 hb hsz1
  have HRR := fhid hr
  clear hr
  go_cut [5, 6, 7] (fun a sn pt wx => ∃ (j : Nat) (p : Bool), a = .int .i64 (j : Int) ∧ sn = .int .i64 (digN ((bl s).take j) p : Nat) ∧ pt = .bool p ∧ j ≤ n ∧ Hid (Mant ((bl s).take j) p) ∧ Hid (RdM b r w wx (dnum ((bl s).take j)) (rf ((bl s).take j)).nd (-((dfrac ((bl s).take j)).1 : Int))) ∧ Hid (NoDig ((bl s).drop j)) ∧ Hid (((bl s).drop j).head? = some 46 → p = true))
  case first => as_aux_lemma =>
    go_wp2_with fail
    go_loopw [5, 6, 7] (fun a sn pt wr => ∃ (j : Nat) (p : Bool), a = .int .i64 (j : Int) ∧ sn = .int .i64 (digN ((bl s).take j) p : Nat) ∧ pt = .bool p ∧ j ≤ n ∧ Hid (Mant ((bl s).take j) p) ∧ Hid (RdM b r w wr (dnum ((bl s).take j)) (rf ((bl s).take j)).nd (-((dfrac ((bl s).take j)).1 : Int)))) (fun a _ _ _ => n - (intOf a).toNat)
    case atStart => exact ⟨0, false, rfl, rfl, rfl, Nat.zero_le _, fhid .nil, HR0⟩
    case round =>
      obtain ⟨j, p, rfl, rfl, rfl, hj, hM, hR⟩ := hrel
      by_cases hlt : j < n
      · have hjn : j < s.size := by rw [HNN.out]; exact hlt
        have hat := bl_at s j hjn
        have hsn := take_snoc (m := bl s) (j := j) (by rw [bl_length]; exact hjn)
        obtain ⟨c, hc⟩ : ∃ c, (bl s).getD j 0 = c := ⟨_, rfl⟩
        rw [hc] at hat hsn
        have hji : (j : Int) < (n : Int) := by omega
        have cDc := fhid (cD.out c)
        by_cases hdg : isDig c
        · obtain ⟨d1, d2⟩ := hdg
          have hB : isDigB c = true := by unfold isDigB; simp [d1, d2]
          rw [hB] at cDc
          have n46 : ((c : Int) == 46) = false := by simp; omega
          have hkc := dnum_kc hM.out (by rw [List.length_take]; omega)
          have hM2 := fhid (Mant.dig hM.out ⟨d1, d2⟩)
          have hnd2 := fhid (nd_step hM.out ⟨d1, d2⟩)
          have hdm : dnum ((bl s).take j ++ [c]) = dnum ((bl s).take j) * 10 + (c - 48) := by rw [dnum_snoc, if_neg (by omega)]
          have hfr : (dfrac ((bl s).take j ++ [c])).1 = (dfrac ((bl s).take j)).1 + (if p then 1 else 0) := by
            rw [dfrac_snoc, if_neg (by omega), (rf_ok hM.out).frac]
            cases p <;> rfl
          have hdgn : digN ((bl s).take j ++ [c]) p = digN ((bl s).take j) p + 1 := by
            have h3 : p = true → 1 ≤ ((bl s).take j).length := fun hp => by
              rcases Nat.eq_zero_or_pos ((bl s).take j).length with h | h
              · exfalso
                have h4 := hM.out
                rw [List.length_eq_zero_iff.1 h, hp] at h4
                have := (rf_ok h4).dot
                cases this
              · exact h
            unfold digN
            rw [List.length_append, List.length_singleton]
            cases p
            · simp
            · have := h3 rfl
              simp only [if_true]
              omega
          rw [← hsn] at hM2 hnd2 hdm hfr hdgn
          obtain ⟨d, hd⟩ : ∃ d, c - 48 = d := ⟨_, rfl⟩
          have hcd : (c : Int) - 48 = (d : Int) := by omega
          have hd9 : d < 10 := by omega
          obtain ⟨D, hD⟩ : ∃ D, dnum ((bl s).take j) = D := ⟨_, rfl⟩
          obtain ⟨N, hN⟩ : ∃ N, (rf ((bl s).take j)).nd = N := ⟨_, rfl⟩
          obtain ⟨F, hF⟩ : ∃ F, (dfrac ((bl s).take j)).1 = F := ⟨_, rfl⟩
          obtain ⟨G, hG⟩ : ∃ G, digN ((bl s).take j) p = G := ⟨_, rfl⟩
          have hNb : N ≤ 64 := by
            have := (rf_ok hM.out).nd
            rw [hN, List.length_take] at this
            omega
          have hFb : F ≤ 64 := by
            have := (rf_ok hM.out).fracl
            rw [hF, List.length_take] at this
            omega
          have hGb : G ≤ 64 := by
            rw [← hG]
            unfold digN
            rw [List.length_take]
            omega
          rw [hD, hN, hF] at hR
          rw [hD] at hkc hdm
          rw [hN] at hnd2
          rw [hF] at hfr
          rw [hG] at hdgn ⊢
          rw [hd] at hdm
          obtain ⟨v, hv, hnum⟩ := hR.out.num
          have hvf := hR.out.fz 0 (by omega)
          have cTc : Hid (∀ W, Num .u64 W v D → Calls Tryd.prog 28 #[v, .int .u64 10, .int .u64 (IntKind.u64.wrap (IntKind.u8.wrap (d : Int)))] W (NumPost .u64 (D * 10 + d) W)) := fhid (fun W h => by
            rw [IntWalk.u8_in _ (by omega), IntWalk.u64_in _ (by omega)]
            exact cT.out v D d W h hkc hd9)
          have HNM : Hid (Num .u64 wr.drew v D) := fhid (hnum.on (below_dn (Below.refl wr.heap.size wr) 1))
          have HRD : Hid (RdM b r w wr.drew D N (-(F : Int))) := fhid (hR.out.drew 1)
          have HDM := fhid hdm
          have HFR := fhid hfr
          have HDG := fhid hdgn
          clear hkc hD hN hF hG hd hsn hnum hdm hfr hdgn d1 d2 cT cD
          go_wp2_with fail
          refine (cDc.out _).mono ?_
          rintro e w2 ⟨rfl, rfl⟩
          go_upto_region 9 with fail
          go_cut [3] (fun t wx => t = .bool false ∧ Hid (RdM b r w wx (D * 10 + d) N (-(F : Int))))
          case first => as_aux_lemma =>
            go_region_with (go_at_call 28; (with_reducible refine (cTc.out _ HNM.out).mono ?_); rintro e w3 ⟨y, rfl, ⟨ly, ⟨ya, ycap, rfl, hyl⟩, hyc, hyv⟩, hb3⟩; have HR3 := fhid ((HRD.out.on hb3).setD (show Num .u64 w3 (.slice ya ly.length ycap) (D * 10 + d) from ⟨ly, ⟨ya, ycap, rfl, hyl⟩, hyc, hyv⟩)); obtain ⟨y0, hy0, _⟩ := (HRD.out.on hb3).num; have hyf := (HRD.out.on hb3).fz 0 (by omega); clear hyl hyc hyv hb3)
            all_goals
              go_wp2_with fail
              go_meet
              first
              | exact ⟨rfl, HR3⟩
              | (case rel => exact ⟨rfl, HR3⟩)
          case rest => as_aux_lemma =>
            obtain ⟨rfl, HR3⟩ := hcut
            obtain ⟨y, hy, ly, ⟨ya, ycap, rfl, hyl⟩, hyc, hyv⟩ := HR3.out.num
            have k1 := HR3.out.cn
            have k2 := HR3.out.cq
            have kf1 := HR3.out.fz 1 (by omega)
            have kf2 := HR3.out.fz 2 (by omega)
            have hlen : ly.length = 0 ↔ D * 10 + d = 0 := by
              constructor
              · intro h
                rw [← hyv, List.length_eq_zero_iff.1 h]
                rfl
              · intro h
                rcases Nat.eq_zero_or_pos ly.length with h0 | h0
                · exact h0
                · exfalso
                  have h1 := can_pos hyc (List.ne_nil_of_length_pos h0)
                  omega
            obtain ⟨ln, hln⟩ : ∃ ln, ly.length = ln := ⟨_, rfl⟩
            rw [hln] at hy hlen
            have hb1 : (N : Int) ≤ 64 := by omega
            have hb2 : (F : Int) ≤ 64 := by omega
            have hb3 : (G : Int) ≤ 64 := by omega
            clear hyl hyc hyv hln HNM HRD cTc hv hvf
            by_cases hz : D * 10 + d = 0
            · have hl0 : ln = 0 := hlen.2 hz
              subst hl0
              have HZ := fhid hz
              clear hlen hz
              cases p
              · go_wp2_with fail
                exact ⟨⟨j + 1, false, congrArg (Value.int IntKind.i64) (by omega), by rw [HDG.out]; exact congrArg (Value.int IntKind.i64) (by omega), rfl, by omega, hM2, fhid (by
                  have e1 : (rf ((bl s).take (j + 1))).nd = N := by rw [hnd2.out, HDM.out, if_pos HZ.out, Nat.add_zero]
                  have e2 : (-((dfrac ((bl s).take (j + 1))).1 : Int)) = -(F : Int) := by rw [HFR.out]; simp; try omega
                  rw [HDM.out, e1, e2]
                  exact HR3.out)⟩, by simp [intOf] <;> omega⟩
              · have HR4 := fhid (HR3.out.setQ (-(F : Int) - 1))
                go_wp2_with fail
                exact ⟨⟨j + 1, true, congrArg (Value.int IntKind.i64) (by omega), by rw [HDG.out]; exact congrArg (Value.int IntKind.i64) (by omega), rfl, by omega, hM2, fhid (by
                  have e1 : (rf ((bl s).take (j + 1))).nd = N := by rw [hnd2.out, HDM.out, if_pos HZ.out, Nat.add_zero]
                  have e2 : (-((dfrac ((bl s).take (j + 1))).1 : Int)) = -(F : Int) - 1 := by rw [HFR.out]; simp; try omega
                  rw [HDM.out, e1, e2]
                  exact HR4.out)⟩, by simp [intOf] <;> omega⟩
            · have hl0 : (0 : Int) < (ln : Int) := by
                have : ln ≠ 0 := fun h => hz (hlen.1 h)
                omega
              have HZ := fhid hz
              clear hlen hz
              cases p
              · have HR4 := fhid (HR3.out.setN (N + 1) (n := (N : Int) + 1) (by omega))
                go_wp2_with fail
                exact ⟨⟨j + 1, false, congrArg (Value.int IntKind.i64) (by omega), by rw [HDG.out]; exact congrArg (Value.int IntKind.i64) (by omega), rfl, by omega, hM2, fhid (by
                  have e1 : (rf ((bl s).take (j + 1))).nd = N + 1 := by rw [hnd2.out, HDM.out, if_neg HZ.out]
                  have e2 : (-((dfrac ((bl s).take (j + 1))).1 : Int)) = -(F : Int) := by rw [HFR.out]; simp; try omega
                  rw [HDM.out, e1, e2]
                  exact HR4.out)⟩, by simp [intOf] <;> omega⟩
              · have HR4 := fhid ((HR3.out.setN (N + 1) (n := (N : Int) + 1) (by omega)).setQ (-(F : Int) - 1))
                go_wp2_with fail
                exact ⟨⟨j + 1, true, congrArg (Value.int IntKind.i64) (by omega), by rw [HDG.out]; exact congrArg (Value.int IntKind.i64) (by omega), rfl, by omega, hM2, fhid (by
                  have e1 : (rf ((bl s).take (j + 1))).nd = N + 1 := by rw [hnd2.out, HDM.out, if_neg HZ.out]
                  have e2 : (-((dfrac ((bl s).take (j + 1))).1 : Int)) = -(F : Int) - 1 := by rw [HFR.out]; simp; try omega
                  rw [HDM.out, e1, e2]
                  exact HR4.out)⟩, by simp [intOf] <;> omega⟩
        · have hB : isDigB c = false := by
            unfold isDigB
            unfold isDig at hdg
            rw [Bool.and_eq_false_iff, decide_eq_false_iff_not, decide_eq_false_iff_not]
            omega
          rw [hB] at cDc
          have hhead : ((bl s).drop j).head? = some c := by
            rw [List.head?_drop, ← hc, List.getD_eq_getElem?_getD, List.getElem?_eq_getElem (by rw [bl_length]; exact hjn)]
            rfl
          by_cases hdot : c = 46 ∧ p = false
          · obtain ⟨rfl, rfl⟩ := hdot
            have hM2 := fhid (Mant.dot hM.out)
            have e1 : dnum ((bl s).take j ++ [46]) = dnum ((bl s).take j) := by rw [dnum_snoc, if_pos rfl]
            have e2 : (rf ((bl s).take j ++ [46])).nd = (rf ((bl s).take j)).nd := by rw [rf_snoc]; rfl
            have e3 : (dfrac ((bl s).take j ++ [46])).1 = (dfrac ((bl s).take j)).1 := by
              rw [dfrac_snoc, if_pos rfl, (rf_ok hM.out).frac0 rfl]
            have e4 : digN ((bl s).take j ++ [46]) true = digN ((bl s).take j) false := by unfold digN; simp
            rw [← hsn] at hM2 e1 e2 e3 e4
            have HR2 : Hid (RdM b r w wr (dnum ((bl s).take (j + 1))) (rf ((bl s).take (j + 1))).nd (-((dfrac ((bl s).take (j + 1))).1 : Int))) := fhid (by rw [e1, e2, e3]; exact hR.out)
            obtain ⟨G, hG⟩ : ∃ G, digN ((bl s).take j) false = G := ⟨_, rfl⟩
            rw [hG] at e4 ⊢
            have HE4 := fhid e4
            clear e1 e2 e3 e4 hsn hG hhead hc
            go_wp2_with fail
            refine (cDc.out _).mono ?_
            rintro e w2 ⟨rfl, rfl⟩
            go_wp2_with fail
            exact ⟨⟨j + 1, true, congrArg (Value.int IntKind.i64) (by omega), by rw [HE4.out], rfl, by omega, hM2, HR2⟩, by simp [intOf] <;> omega⟩
          · have HND : Hid (NoDig ((bl s).drop j)) := fhid (fun z hz => by
              rw [hhead] at hz
              simp at hz
              subst hz
              exact hdg)
            have HPT : Hid (((bl s).drop j).head? = some 46 → p = true) := fhid (fun hz => by
              rw [hhead] at hz
              simp at hz
              cases p
              · exact absurd ⟨hz, rfl⟩ hdot
              · rfl)
            obtain ⟨G, hG⟩ : ∃ G, digN ((bl s).take j) p = G := ⟨_, rfl⟩
            have HGG := fhid hG
            rw [hG]
            clear hG hhead hc hsn
            by_cases h46 : c = 46
            · have hp : p = true := by
                cases p
                · exact absurd ⟨h46, rfl⟩ hdot
                · rfl
              subst h46 hp
              clear hdot
              go_wp2_with fail
              refine (cDc.out _).mono ?_
              rintro e w2 ⟨rfl, rfl⟩
              go_wp2_with fail
              go_meet
              exact ⟨j, true, rfl, by rw [HGG.out], rfl, by omega, hM, hR, HND, fhid (fun _ => rfl)⟩
            · have n46 : ((c : Int) == 46) = false := by simp; omega
              clear hdot h46
              go_wp2_with fail
              refine (cDc.out _).mono ?_
              rintro e w2 ⟨rfl, rfl⟩
              go_wp2_with fail
              go_meet
              exact ⟨j, p, rfl, by rw [HGG.out], rfl, by omega, hM, hR, HND, HPT⟩
      · have hjn : j = n := by omega
        have hdr : (bl s).drop j = [] := by rw [List.drop_eq_nil_iff, bl_length, HNN.out]; omega
        have HND : Hid (NoDig ((bl s).drop j)) := fhid (by rw [hdr]; exact nodig_nil)
        have HPT : Hid (((bl s).drop j).head? = some 46 → p = true) := fhid (by rw [hdr]; intro h; cases h)
        obtain ⟨G, hG⟩ : ∃ G, digN ((bl s).take j) p = G := ⟨_, rfl⟩
        have HGG := fhid hG
        rw [hG]
        have hjn2 : ¬ (j : Int) < (n : Int) := by omega
        clear hG hdr hjn hlt
        go_wp2_with fail
        go_meet
        exact ⟨j, p, rfl, by rw [HGG.out], rfl, by omega, hM, hR, HND, HPT⟩
  case rest => as_aux_lemma =>
    obtain ⟨j, p, rfl, rfl, rfl, hj, hM, hR, hND, hPT⟩ := hcut
    obtain ⟨m1, m2, m3⟩ := man_longest hM.out hND.out hPT.out
    rw [List.take_append_drop] at m1 m2 m3
    have HDEC : Hid (decB (bl s) = (decide (0 < digN ((bl s).take j) p) && (((bl s).drop j).isEmpty || expB ((bl s).drop j)))) := fhid (by unfold decB; rw [m2, m3])
    have HWQ : Hid (∀ E, wq (manL (bl s)) E = E - ((dfrac ((bl s).take j)).1 : Int)) := fhid (fun E => by rw [m1]; rfl)
    have HM1 := fhid m1
    have HM2 := fhid m2
    obtain ⟨D, hD⟩ : ∃ D, dnum ((bl s).take j) = D := ⟨_, rfl⟩
    obtain ⟨N, hN⟩ : ∃ N, (rf ((bl s).take j)).nd = N := ⟨_, rfl⟩
    obtain ⟨F, hF⟩ : ∃ F, (dfrac ((bl s).take j)).1 = F := ⟨_, rfl⟩
    obtain ⟨G, hG⟩ : ∃ G, digN ((bl s).take j) p = G := ⟨_, rfl⟩
    have hFb : F ≤ 64 := by
      have := (rf_ok hM.out).fracl
      rw [hF, List.length_take] at this
      omega
    rw [hD, hN, hF] at hR
    rw [hF] at HWQ
    rw [hG] at HDEC ⊢
    have HND : Hid (dnum (manL (bl s)) = D ∧ (rf (manL (bl s))).nd = N) := fhid (by rw [m1]; exact ⟨hD, hN⟩)
    have hxs : ∃ xs, (bl s).drop j = xs := ⟨_, rfl⟩
    clear m1 m2 m3 hD hN hF hG
    obtain ⟨y, hy, ly, ⟨ya, ycap, rfl, hyl⟩, hyc, hyv⟩ := hR.out.num
    have HNUM : Hid (Num .u64 wc (.slice ya ly.length ycap) D) := fhid ⟨ly, ⟨ya, ycap, rfl, hyl⟩, hyc, hyv⟩
    obtain ⟨ln, hln⟩ : ∃ ln, ly.length = ln := ⟨_, rfl⟩
    rw [hln] at hy HNUM
    have k1 := hR.out.cn
    have k2 := hR.out.cq
    obtain ⟨v0, r0, -⟩ := hR.out.res 0 (by omega)
    obtain ⟨v1, r1, -⟩ := hR.out.res 1 (by omega)
    obtain ⟨v2, r2, -⟩ := hR.out.res 2 (by omega)
    have f0 := hR.out.rfz 0 (by omega)
    have f1 := hR.out.rfz 1 (by omega)
    have f2 := hR.out.rfz 2 (by omega)
    have hbr := hR.out.new.2
    clear hyl hyc hyv hln
    by_cases hG0 : G = 0
    · subst hG0
      have hdec := fhid (show decB (bl s) = false by rw [HDEC.out]; rfl)
      go_wp2_with fail
      (try simp only [Exit.inBlock, Exit.then])
      refine bodyPost_ret (v := .tuple #[.agg #[.slice ya ln ycap, .int .i64 N, .int .i64 (-(F : Int))], .bool false]) (by rw [results_cell_tmp rfl]; go_simp) rfl ?_
      exact ⟨_, N, _, by rw [hdec.out], fun h => (by rw [hdec.out] at h; cases h), (hR.out.fin HNUM.out _ _ _).2, ya, ln, ycap, rfl⟩
    · have hG1 : 0 < G := by omega
      have gz : ((G : Int) == 0) = false := by simp; omega
      clear hG0
      by_cases hjn : j = n
      · have hdr : (bl s).drop j = [] := by rw [List.drop_eq_nil_iff, bl_length, HNN.out]; omega
        have hdec := fhid (show decB (bl s) = true by rw [HDEC.out, hdr, decide_eq_true hG1]; rfl)
        have hwq := fhid (show wq (manL (bl s)) (expV (expL (bl s))) = -(F : Int) by rw [HWQ.out, HM2.out, hdr]; simp [expV])
        subst hjn
        clear hdr hG1
        go_wp2_with fail
        (try simp only [Exit.inBlock, Exit.then])
        refine bodyPost_ret (v := .tuple #[.agg #[.slice ya ln ycap, .int .i64 N, .int .i64 (-(F : Int))], .bool true]) (by rw [results_cell_tmp rfl]; go_simp) rfl ?_
        refine ⟨_, N, _, by rw [hdec.out], fun _ => ?_, (hR.out.fin HNUM.out _ _ _).2, ya, ln, ycap, rfl⟩
        rw [HND.out.1, HND.out.2, hwq.out]
        exact ⟨(hR.out.fin HNUM.out _ _ _).1, rfl, rfl⟩
      · have hjl : j < n := by omega
        have hjs : j < s.size := by rw [HNN.out]; exact hjl
        have hat := bl_at s j hjs
        have hdr : (bl s).drop j = (bl s).getD j 0 :: (bl s).drop (j + 1) := by
          rw [List.getD_eq_getElem?_getD, List.getElem?_eq_getElem (by rw [bl_length]; exact hjs)]
          exact List.drop_eq_getElem_cons (by rw [bl_length]; exact hjs)
        obtain ⟨c, hc⟩ : ∃ c, (bl s).getD j 0 = c := ⟨_, rfl⟩
        rw [hc] at hat hdr
        have gjn : ((j : Int) == (n : Int)) = false := by simp; omega
        have gjl : (j : Int) < (n : Int) := by omega
        by_cases hce : c = 101 ∨ c = 69
        · obtain ⟨rest, hrest⟩ : ∃ rest, (bl s).drop (j + 1) = rest := ⟨_, rfl⟩
          rw [hrest] at hdr
          have HDC : Hid (decB (bl s) = true ↔ (1 ≤ (unsign rest).length ∧ (unsign rest).length ≤ 5 ∧ ∀ z ∈ unsign rest, isDig z)) := fhid (by
            rw [HDEC.out, hdr, decide_eq_true hG1, ← exp_is hce]
            simp)
          have HEV : Hid (expV (expL (bl s)) = if isNeg rest then -(dnum (unsign rest) : Int) else (dnum (unsign rest) : Int)) := fhid (by rw [HM2.out, hdr, expV_is])
          have hrl : rest.length = n - (j + 1) := by rw [← hrest, List.length_drop, bl_length, HNN.out]
          have HRA : Hid (∀ k (h : k < s.size), j + 1 ≤ k → s[k].toNat = rest.getD (k - (j + 1)) 0) := fhid (fun k h hk => by
            rw [bl_at s k h, ← hrest, List.getD_eq_getElem?_getD, List.getD_eq_getElem?_getD, List.getElem?_drop, show j + 1 + (k - (j + 1)) = k by omega])
          clear HDEC hdr hrest hc
          obtain ⟨ds, hds⟩ : ∃ ds, unsign rest = ds := ⟨_, rfl⟩
          have hdl : ds.length ≤ n - (j + 1) ∧ n - (j + 1) ≤ ds.length + 1 := by
            rw [← hds, ← hrl]
            cases rest with
            | nil => exact ⟨Nat.le_refl _, Nat.le_succ _⟩
            | cons z t =>
              show (if z = 43 ∨ z = 45 then t else z :: t).length ≤ _ ∧ _ ≤ (if z = 43 ∨ z = 45 then t else z :: t).length + 1
              split <;> simp
          obtain ⟨a, ha⟩ : ∃ a, a + ds.length = n := ⟨n - ds.length, by omega⟩
          have HDS : Hid (∀ k (h : k < s.size), a ≤ k → s[k].toNat = ds.getD (k - a) 0) := fhid (fun k h hk => by
            have h1 := HRA.out k h (by omega)
            rw [h1]
            cases hre : rest with
            | nil => rw [hre] at hrl; simp at hrl; omega
            | cons z t =>
              have h2 : ds = if z = 43 ∨ z = 45 then t else z :: t := by rw [← hds, hre]; rfl
              rw [hre] at hrl
              simp only [List.length_cons] at hrl
              by_cases hz : z = 43 ∨ z = 45
              · rw [if_pos hz] at h2
                subst h2
                obtain ⟨q, hq⟩ : ∃ q, k - (j + 1) = q + 1 := ⟨k - (j + 1) - 1, by omega⟩
                rw [hq, show k - a = q by omega]
                rfl
              · rw [if_neg hz] at h2
                subst h2
                simp only [List.length_cons] at ha
                rw [show k - a = k - (j + 1) by omega])
          rw [hds] at HDC HEV
          have HCE := fhid hce
          clear hce
          go_upto_region 20 with fail
          go_cut [80] (fun x wx => x = .bool false ∧ wx = wc)
          case first => as_aux_lemma =>
            rcases HCE.out with h | h
            · have n1 : ((c : Int) != 101) = false := by simp; omega
              clear HCE h
              go_wp2_with fail
              go_meet
              exact ⟨rfl, rfl⟩
            · have n1 : ((c : Int) != 101) = true := by simp; omega
              have n2 : ((c : Int) != 69) = false := by simp; omega
              clear HCE h
              go_wp2_with fail
              go_meet
              exact ⟨rfl, rfl⟩
          case rest => as_aux_lemma =>
            obtain ⟨rfl, rfl⟩ := hcut
            go_upto_region 24 with fail
            go_cut [99] (fun t wx => t = .bool (rest.head? == some 43 || rest.head? == some 45) ∧ wx = wc)
            case first => as_aux_lemma =>
              cases hre : rest with
              | nil =>
                have hin : Hid ((([] : List Nat).head? == some 43 || ([] : List Nat).head? == some 45) = false) := fhid rfl
                have gja : ¬ (j : Int) + 1 < (n : Int) := by
                  rw [hre] at hrl
                  simp at hrl
                  omega
                go_wp2_with fail
                go_meet
                exact ⟨by rw [hre, hin.out], rfl⟩
              | cons z t =>
                have hj1 : j + 1 < s.size := by
                  rw [hre] at hrl
                  simp at hrl
                  rw [HNN.out]
                  omega
                have hz := HRA.out (j + 1) hj1 (Nat.le_refl _)
                rw [hre, Nat.sub_self] at hz
                have hz : s[j + 1].toNat = z := hz
                have gja : (j : Int) + 1 < (n : Int) := by rw [HNN.out] at hj1; omega
                clear hdl
                by_cases h43 : z = 43
                · have hin : Hid (((z :: t).head? == some 43 || (z :: t).head? == some 45) = true) := fhid (by subst h43; rfl)
                  subst h43
                  go_wp2_with fail
                  go_meet
                  exact ⟨by rw [hre, hin.out], rfl⟩
                · have n43 : ((z : Int) == 43) = false := by simp; omega
                  by_cases h45 : z = 45
                  · have hin : Hid (((z :: t).head? == some 43 || (z :: t).head? == some 45) = true) := fhid (by subst h45; rfl)
                    subst h45
                    go_wp2_with fail
                    go_meet
                    exact ⟨by rw [hre, hin.out], rfl⟩
                  · have n45 : ((z : Int) == 45) = false := by simp; omega
                    have hin : Hid (((z :: t).head? == some 43 || (z :: t).head? == some 45) = false) := fhid (by simp [h43, h45])
                    clear h43 h45
                    go_wp2_with fail
                    go_meet
                    exact ⟨by rw [hre, hin.out], rfl⟩
            case rest => as_aux_lemma =>
              obtain ⟨rfl, rfl⟩ := hcut
              obtain ⟨t99, ht99⟩ : ∃ t, (rest.head? == some 43 || rest.head? == some 45) = t := ⟨_, rfl⟩
              rw [ht99]
              go_upto_if 99 with fail
              go_cut [5, 8] (fun x y wx => x = .int .i64 (a : Int) ∧ y = .bool (isNeg rest) ∧ wx = wc)
              case first => as_aux_lemma =>
                cases hre : rest with
                | nil =>
                  have hja : j + 1 = a := by
                    rw [hre] at hrl hds
                    rw [← hds] at ha
                    simp [unsign] at hrl ha
                    omega
                  have hin : Hid (isNeg rest = false) := fhid (by rw [hre]; rfl)
                  have h9 : t99 = false := by rw [← ht99, hre]; rfl
                  subst h9
                  go_wp2_with fail
                  go_meet
                  exact ⟨congrArg (Value.int IntKind.i64) (by omega), by rw [hin.out], rfl⟩
                | cons z t =>
                  have hj1 : j + 1 < s.size := by
                    rw [hre] at hrl
                    simp at hrl
                    rw [HNN.out]
                    omega
                  have hz := HRA.out (j + 1) hj1 (Nat.le_refl _)
                  rw [hre, Nat.sub_self] at hz
                  have hz : s[j + 1].toNat = z := hz
                  have gja : (j : Int) + 1 < (n : Int) := by rw [HNN.out] at hj1; omega
                  have hdz : ds = if z = 43 ∨ z = 45 then t else z :: t := by rw [← hds, hre]; rfl
                  have hrl2 : t.length + 1 = n - (j + 1) := by rw [hre] at hrl; simpa using hrl
                  by_cases h43 : z = 43
                  · have hin : Hid (isNeg rest = false) := fhid (by rw [hre]; subst h43; rfl)
                    have h9 : t99 = true := by rw [← ht99, hre, h43]; rfl
                    have hja : j + 2 = a := by
                      rw [hdz, if_pos (.inl h43)] at ha
                      omega
                    subst h43 h9
                    clear hdz hdl
                    go_wp2_with fail
                    go_meet
                    exact ⟨congrArg (Value.int IntKind.i64) (by omega), by rw [hin.out]; rfl, rfl⟩
                  · by_cases h45 : z = 45
                    · have hin : Hid (isNeg rest = true) := fhid (by rw [hre]; subst h45; rfl)
                      have h9 : t99 = true := by rw [← ht99, hre, h45]; rfl
                      have hja : j + 2 = a := by
                        rw [hdz, if_pos (.inr h45)] at ha
                        omega
                      subst h45 h9
                      clear hdz hdl
                      go_wp2_with fail
                      go_meet
                      exact ⟨congrArg (Value.int IntKind.i64) (by omega), by rw [hin.out]; rfl, rfl⟩
                    · have hin : Hid (isNeg rest = false) := fhid (by rw [hre]; unfold isNeg; simp [h45])
                      have h9 : t99 = false := by rw [← ht99, hre]; simp [h43, h45]
                      have hja : j + 1 = a := by
                        rw [hdz, if_neg (by omega)] at ha
                        simp at ha
                        omega
                      subst h9
                      clear hdz hdl h43 h45
                      go_wp2_with fail
                      go_meet
                      exact ⟨congrArg (Value.int IntKind.i64) (by omega), by rw [hin.out], rfl⟩
              case rest => as_aux_lemma =>
                obtain ⟨rfl, rfl, rfl⟩ := hcut
                obtain ⟨ng, hng⟩ : ∃ ng, isNeg rest = ng := ⟨_, rfl⟩
                rw [hng] at HEV ⊢
                obtain ⟨K, hK⟩ : ∃ K, ds.length = K := ⟨_, rfl⟩
                rw [hK] at ha
                have HKK := fhid hK
                clear hng hK ht99 hdl hrl HRA hds
                obtain ⟨PP, hPP⟩ : ∃ PP, bodyPost Tryd.prog Tryd.f19 (ReadPost s w) = PP := ⟨_, rfl⟩
                have HRET : Hid (∀ (a : Act) (w' : World) (v : Value), (results Tryd.f19 a.tmps).run Tryd.prog w' = .ok v w' → a.defers = [] → ReadPost s w (.returned v) w' → PP .ret a w') := fhid (fun a w' v hr hd hR => by rw [← hPP]; exact bodyPost_ret hr hd hR)
                simp only [hPP] at *
                clear hPP
                have HA := fhid ha
                have haN : a ≤ n := by omega
                clear ha hjn gjn gjl hjl hj hat hjs
                go_wp2_with fail
                go_loopw [9, 10] (fun e k wx => ∃ i k0 : Nat, e = .int .i64 (dnum (ds.take i) : Int) ∧ k = .int .i64 (k0 : Int) ∧ Hid (k0 = a + i) ∧ i ≤ K ∧ i ≤ 5 ∧ Hid (∀ z ∈ ds.take i, isDig z) ∧ wx = wc) (fun _ k _ => n - (intOf k).toNat)
                case atStart => exact ⟨0, a, rfl, rfl, fhid rfl, Nat.zero_le _, Nat.zero_le _, fhid (by simp), rfl⟩
                case round =>
                  obtain ⟨i, k0, rfl, rfl, HK0, hi, hi5, hID, rfl⟩ := hrel
                  by_cases hiK : i < K
                  · have hsz0 : k0 < n := by have := HK0.out; have := HA.out; omega
                    have hsz : k0 < s.size := by rw [HNN.out]; exact hsz0
                    have hat2 := HDS.out k0 hsz (by have := HK0.out; omega)
                    rw [show k0 - a = i by have := HK0.out; omega] at hat2
                    have hKl : i < ds.length := by rw [HKK.out]; exact hiK
                    have hsn2 := take_snoc (m := ds) (j := i) hKl
                    have hmem : ds.getD i 0 ∈ ds := by
                      rw [List.getD_eq_getElem?_getD, List.getElem?_eq_getElem hKl]
                      exact List.getElem_mem hKl
                    obtain ⟨c2, hc2⟩ : ∃ c2, ds.getD i 0 = c2 := ⟨_, rfl⟩
                    rw [hc2] at hat2 hsn2 hmem
                    have HMEM := fhid hmem
                    have HSN2 := fhid hsn2
                    have hlt2 : (k0 : Int) < (n : Int) := by omega
                    have cDc := fhid (cD.out c2)
                    clear hsn2 hmem hc2 hKl
                    by_cases hdg : isDig c2
                    · obtain ⟨d1, d2⟩ := hdg
                      have hB : isDigB c2 = true := by unfold isDigB; simp [d1, d2]
                      rw [hB] at cDc
                      have HID2 : Hid (∀ z ∈ ds.take (i + 1), isDig z) := fhid (by
                        intro z hz
                        rw [HSN2.out] at hz
                        rcases List.mem_append.1 hz with h | h
                        · exact hID.out z h
                        · simp at h; subst h; exact ⟨d1, d2⟩)
                      clear hB
                      by_cases h5 : i < 5
                      · have hdm : dnum (ds.take (i + 1)) = dnum (ds.take i) * 10 + (c2 - 48) := by rw [HSN2.out, dnum_snoc, if_neg (by omega)]
                        have hdb : dnum (ds.take i) < 100000 := by
                          have h1 := dnum_foldT (ds.take i) 0 (fun z hz => (hID.out z hz).2)
                          rw [Nat.zero_add, Nat.one_mul] at h1
                          refine Nat.lt_of_lt_of_le h1 (Nat.pow_le_pow_right (by decide) ?_ : 10 ^ _ ≤ 10 ^ 5)
                          rw [List.length_take]; omega
                        obtain ⟨d, hd⟩ : ∃ d, c2 - 48 = d := ⟨_, rfl⟩
                        have hcd : (c2 : Int) - 48 = (d : Int) := by omega
                        have hd9 : d < 10 := by omega
                        rw [hd] at hdm
                        obtain ⟨V0, hV0⟩ : ∃ V0, dnum (ds.take i) = V0 := ⟨_, rfl⟩
                        rw [hV0] at hdb hdm ⊢
                        have HDM := fhid hdm
                        have g5 : ¬ (5 : Int) ≤ (k0 : Int) - (a : Int) := by have := HK0.out; omega
                        clear hdm hID hV0 hd d1 d2
                        go_wp2_with fail
                        refine (cDc.out _).mono ?_
                        rintro e w2 ⟨rfl, rfl⟩
                        go_wp2_with fail
                        exact ⟨⟨i + 1, k0 + 1, congrArg (Value.int IntKind.i64) (by rw [HDM.out]; omega), congrArg (Value.int IntKind.i64) (by omega), fhid (by have := HK0.out; omega), by omega, by omega, HID2, trivial⟩, by simp [intOf] <;> omega⟩
                      · have g5 : (5 : Int) ≤ (k0 : Int) - (a : Int) := by have := HK0.out; omega
                        have hdec := fhid (show decB (bl s) = false by
                          rcases Bool.eq_false_or_eq_true (decB (bl s)) with h | h
                          · have := (HDC.out.1 h).2.1
                            rw [HKK.out] at this
                            omega
                          · exact h)
                        clear hID d1 d2 hiK h5
                        go_wp2_with fail
                        refine (cDc.out _).mono ?_
                        rintro e w2 ⟨rfl, rfl⟩
                        go_wp2_with fail
                        (try simp only [Exit.inBlock, Exit.then])
                        refine HRET.out _ _ (.tuple #[.agg #[.slice ya ln ycap, .int .i64 N, .int .i64 (-(F : Int))], .bool false]) (by rw [results_cell_tmp rfl]; go_simp) rfl ?_
                        exact ⟨_, N, _, by rw [hdec.out], fun h => (by rw [hdec.out] at h; cases h), (hR.out.fin HNUM.out _ _ _).2, ya, ln, ycap, rfl⟩
                    · have hB : isDigB c2 = false := by
                        unfold isDigB
                        unfold isDig at hdg
                        rw [Bool.and_eq_false_iff, decide_eq_false_iff_not, decide_eq_false_iff_not]
                        omega
                      rw [hB] at cDc
                      have hdec := fhid (show decB (bl s) = false by
                        rcases Bool.eq_false_or_eq_true (decB (bl s)) with h | h
                        · exact absurd ((HDC.out.1 h).2.2 c2 HMEM.out) hdg
                        · exact h)
                      clear hID hdg hB hiK
                      go_wp2_with fail
                      refine (cDc.out _).mono ?_
                      rintro e w2 ⟨rfl, rfl⟩
                      go_wp2_with fail
                      (try simp only [Exit.inBlock, Exit.then])
                      refine HRET.out _ _ (.tuple #[.agg #[.slice ya ln ycap, .int .i64 N, .int .i64 (-(F : Int))], .bool false]) (by rw [results_cell_tmp rfl]; go_simp) rfl ?_
                      exact ⟨_, N, _, by rw [hdec.out], fun h => (by rw [hdec.out] at h; cases h), (hR.out.fin HNUM.out _ _ _).2, ya, ln, ycap, rfl⟩
                  · have hiK2 : i = K := by omega
                    have hlt2 : ¬ (k0 : Int) < (n : Int) := by have := HK0.out; have := HA.out; omega
                    have hall : ds.take i = ds := by rw [hiK2, ← HKK.out]; exact List.take_length
                    rw [hall] at hID ⊢
                    have hdb : dnum ds < 100000 := by
                      have h1 := dnum_foldT ds 0 (fun z hz => (hID.out z hz).2)
                      rw [Nat.zero_add, Nat.one_mul, HKK.out, ← hiK2] at h1
                      exact Nat.lt_of_lt_of_le h1 (Nat.pow_le_pow_right (by decide) hi5 : 10 ^ _ ≤ 10 ^ 5)
                    have hdec := fhid (show decB (bl s) = decide (a < n) by
                      rw [Bool.eq_iff_iff, HDC.out, decide_eq_true_iff, HKK.out]
                      have := HA.out
                      constructor
                      · intro h; omega
                      · intro h; exact ⟨by omega, by omega, hID.out⟩)
                    have HWQE := fhid (HWQ.out (expV (expL (bl s))))
                    obtain ⟨V0, hV0⟩ : ∃ V0, dnum ds = V0 := ⟨_, rfl⟩
                    rw [hV0] at hdb HEV ⊢
                    have kf2 := hR.out.fz 2 (by omega)
                    clear hall hID hiK hiK2 hV0
                    cases ng
                    · have HR4 := fhid (hR.out.setQ (-(F : Int) + (V0 : Int)))
                      have HN4 : Hid (Num .u64 (wr.setCell ⟨b, 2, none⟩ (.int .i64 (-(F : Int) + (V0 : Int)))) (.slice ya ln ycap) D) := fhid (HNUM.out.set k2 (fun n e => by cases e))
                      have HQ4 : Hid (-(F : Int) + (V0 : Int) = wq (manL (bl s)) (expV (expL (bl s)))) := fhid (by rw [HWQE.out, HEV.out]; simp; omega)
                      go_wp2_with fail
                      (try simp only [Exit.inBlock, Exit.then])
                      refine HRET.out _ _ (.tuple #[.agg #[.slice ya ln ycap, .int .i64 N, .int .i64 (-(F : Int) + (V0 : Int))], .bool (decide (a < n))]) (by rw [results_cell_tmp rfl]; go_simp) rfl ?_
                      refine ⟨_, N, _, by rw [hdec.out], fun _ => ?_, (HR4.out.fin HN4.out _ _ _).2, ya, ln, ycap, rfl⟩
                      rw [HND.out.1, HND.out.2]
                      exact ⟨(HR4.out.fin HN4.out _ _ _).1, rfl, HQ4.out⟩
                    · have HR4 := fhid (hR.out.setQ (-(F : Int) + -(V0 : Int)))
                      have HN4 : Hid (Num .u64 (wr.setCell ⟨b, 2, none⟩ (.int .i64 (-(F : Int) + -(V0 : Int)))) (.slice ya ln ycap) D) := fhid (HNUM.out.set k2 (fun n e => by cases e))
                      have HQ4 : Hid (-(F : Int) + -(V0 : Int) = wq (manL (bl s)) (expV (expL (bl s)))) := fhid (by rw [HWQE.out, HEV.out]; simp; omega)
                      go_wp2_with fail
                      (try simp only [Exit.inBlock, Exit.then])
                      refine HRET.out _ _ (.tuple #[.agg #[.slice ya ln ycap, .int .i64 N, .int .i64 (-(F : Int) + -(V0 : Int))], .bool (decide (a < n))]) (by rw [results_cell_tmp rfl]; go_simp) rfl ?_
                      refine ⟨_, N, _, by rw [hdec.out], fun _ => ?_, (HR4.out.fin HN4.out _ _ _).2, ya, ln, ycap, rfl⟩
                      rw [HND.out.1, HND.out.2]
                      exact ⟨(HR4.out.fin HN4.out _ _ _).1, rfl, HQ4.out⟩
        · have hdec := fhid (show decB (bl s) = false by
            rw [HDEC.out, hdr]
            unfold expB
            have h1 : (c == 101) = false := by simp; omega
            have h2 : (c == 69) = false := by simp; omega
            simp [h1, h2])
          have n1 : ((c : Int) != 101) = true := by simp; omega
          have n2 : ((c : Int) != 69) = true := by simp; omega
          clear hce hdr hc
          go_wp2_with fail
          (try simp only [Exit.inBlock, Exit.then])
          refine bodyPost_ret (v := .tuple #[.agg #[.slice ya ln ycap, .int .i64 N, .int .i64 (-(F : Int))], .bool false]) (by rw [results_cell_tmp rfl]; go_simp) rfl ?_
          exact ⟨_, N, _, by rw [hdec.out], fun h => (by rw [hdec.out] at h; cases h), (hR.out.fin HNUM.out _ _ _).2, ya, ln, ycap, rfl⟩
end Go.Proofs.YtgbldjbkapaclaaDoor.fl
