/- The walk of the law ScoreReads. -/
import Derived.Test.YtgbldjbkapaclaaDoorFlP
import Derived.Test.YtgbldjbkapaclaaDoorFlS
import Derived.Laws.RangeAny
import Derived.Deep.DeepCutAuto
import Derived.Deep.CutBlock
import Derived.Test.YtgbldjbkapaclaaDoorFlT
import Derived.Test.YtgbldjbkapaclaaDoorFlU
import Derived.Handy
import Derived.Laws.ResultCell
/- strings.EqualFold of any word and an infinity's name: a byte that is not ASCII is no letter of it. -/
namespace Go.Proofs.YtgbldjbkapaclaaDoor.fl
open Go.ChangeShapes Go.WideShapes Go.ChangeAt Go.RowKit
set_option linter.unusedVariables false
set_option linter.unusedSimpArgs false
/-- A letter of the infinities' names. -/
def InL (c : Nat) : Prop := c = 102 ∨ c = 105 ∨ c = 110 ∨ c = 116 ∨ c = 121
/-- The table of ASCII's folding, at the letters that are asked. -/
structure AF (w : World) : Prop where
  lo : ∀ c, InL c → w.cell? ⟨1, c, none⟩ = some (.int .u16 ((c - 32 : Nat) : Int))
  up : ∀ c, InL c → w.cell? ⟨1, c - 32, none⟩ = some (.int .u16 (c : Int))
theorem AF.on {w w' : World} (h : AF w) (hb : Below w.heap.size w w') : AF w' :=
  ⟨fun c hc => (hb.cell (cell_lt (h.lo c hc))).trans (h.lo c hc), fun c hc => (hb.cell (cell_lt (h.up c hc))).trans (h.up c hc)⟩
theorem sfC (c d : Nat) (w : World) (hcell : w.cell? ⟨1, c, none⟩ = some (.int .u16 (d : Int))) (hc : c < 128) (hd : d < 128) :
    Calls Tryd.prog 22 #[.int .i32 (c : Int)] w fun e w' => e = .returned (.int .i32 (d : Int)) ∧ w' = w := by
  have h1 : ¬ (c : Int) < 0 := by omega
  have h2 : ¬ (1114111 : Int) < (c : Int) := by omega
  have h3 : (c : Int) < 128 := by omega
  have hw1 : IntKind.i64.wrap (c : Int) = (c : Int) := IntWalk.i64_in _ (by omega)
  have hw2 : IntKind.i32.wrap (d : Int) = (d : Int) := IntWalk.i32_in _ (by omega)
  go_enter Tryd.func22, Tryd.ntmps22
  go_wp2_with fail
  go_ret
  exact ⟨rfl, rfl⟩
theorem cell_iter {w : World} {s : ByteArray} {k : Nat} {p : Addr} (h : p.block < w.heap.size) : (w.iter s k).cell? p = w.cell? p := ((Below.refl w.heap.size w).alloc (Nat.le_refl _) _).cell h
/-- At the jump: a byte that is not ASCII. -/
def FuJ (t p : ByteArray) (w0 : World) (a : Act) (wr : World) : Prop :=
  ∃ (v : Nat → Value) (j : Nat), a = { tmps := #[.string t, .string p, v 2, v 3, v 4, .int .i64 (j : Int), v 6, v 7, v 8, v 9, v 10, v 11, v 12, v 13, v 14, v 15, v 16, v 17, v 18, v 19, v 20, v 21, v 22, v 23, v 24, v 25, v 26, v 27, v 28, v 29, v 30, v 31, v 32, v 33, v 34, v 35, v 36, v 37, v 38, v 39, v 40, v 41, v 42, v 43, v 44, v 45, v 46, v 47, v 48, v 49, v 50, v 51, v 52, v 53, v 54, v 55, v 56, v 57, v 58, v 59, v 60, v 61, v 62, v 63, v 64, v 65, v 66, v 67, v 68, v 69, v 70, v 71, v 72, v 73, v 74, v 75, v 76, v 77, v 78, v 79, v 80, v 81, v 82, v 83, v 84, v 85, v 86, v 87, v 88, v 89, v 90, v 91, v 92, v 93, v 94, v 95, v 96, v 97, v 98, v 99, v 100, v 101, v 102, v 103, v 104, v 105, v 106, v 107, v 108, v 109, v 110, v 111, v 112, v 113, v 114, v 115, v 116, v 117, v 118, v 119, v 120, v 121, v 122], defers := [] } ∧ j < t.size ∧ j < p.size ∧ Hid (128 ≤ (bl t).getD j 0 ∧ InL ((bl p).getD j 0)) ∧ wr = w0
set_option maxRecDepth 100000 in
theorem FuJ.mk {t p : ByteArray} {w0 : World} {tm : Array Value} {j : Nat} (hs : tm.size = 123) (h0 : tm.getD 0 undef = .string t) (h1 : tm.getD 1 undef = .string p) (h5 : tm.getD 5 undef = .int .i64 (j : Int)) (k1 : j < t.size) (k2 : j < p.size) (k3 : Hid (128 ≤ (bl t).getD j 0 ∧ InL ((bl p).getD j 0))) : FuJ t p w0 { tmps := tm, defers := [] } w0 := by
  refine ⟨fun i => tm.getD i undef, j, ?_, k1, k2, k3, rfl⟩
  have e := arr_of 123 tm hs
  rw [← h0, ← h1, ← h5]
  exact congrArg (fun t => ({ tmps := t, defers := [] } : Act)) e
theorem bl_from (s : ByteArray) (j : Nat) (h : j < s.size) : (s.extract j s.size).size = s.size - j ∧ (bl (s.extract j s.size)).getD 0 0 = (bl s).getD j 0 := by
  refine ⟨by simp, ?_⟩
  rw [bl_extract, List.getD_eq_getElem?_getD, List.getElem?_take, if_pos (by omega), List.getElem?_drop, List.getD_eq_getElem?_getD, Nat.add_zero]
set_option maxRecDepth 100000 in
set_option maxHeartbeats 2000000 in
theorem foldHigh (t p : ByteArray) (w : World) (hs : t.size ≤ 1000) (hp : p.size ≤ 8) (hL : ∀ c ∈ bl p, InL c)
    (i : Nat) (hit : i < t.size) (hz2 : 128 ≤ (bl t).getD i 0) (haf : AF w) :
    Calls Tryd.prog 12 #[.string t, .string p] w fun e w' => e = .returned (.bool false) ∧ Below w.heap.size w w' := by
  have HZ := fhid hz2
  have HL := fhid hL
  have HAF := fhid haf
  obtain ⟨M, hM⟩ : ∃ M : Nat, min (t.size : Int) (p.size : Int) = (M : Int) := ⟨min t.size p.size, by omega⟩
  have hMs : M ≤ t.size := by omega
  have hMt : M ≤ p.size := by omega
  have hMe : M = t.size ∨ M = p.size := by omega
  clear hL haf hz2
  go_enter Tryd.func12, Tryd.ntmps12
  go_wp2_with fail
  refine wp_scope_fwd (fun l a' w' => l = 0 ∧ FuJ t p w a' w') id ?_ ?_
  · go_wp2_with fail
    go_loopw [5] (fun s5 wx => ∃ j : Nat, s5 = .int .i64 (j : Int) ∧ j ≤ M ∧ j ≤ i ∧ wx = w) (fun s5 _ => M - (intOf s5).toNat)
    case atStart => exact ⟨0, rfl, Nat.zero_le _, Nat.zero_le _, rfl⟩
    case round =>
      obtain ⟨j, rfl, hj, hji, rfl⟩ := hrel
      by_cases hjM : j < M
      · have hisz : (j : Int) < (t.size : Int) := by omega
        have hitz : (j : Int) < (p.size : Int) := by omega
        have hjm : (j : Int) < (M : Int) := by omega
        have hxa := bl_at t j (by omega)
        have hya := bl_at p j (by omega)
        have hyL : InL ((bl p).getD j 0) := by
          refine HL.out _ ?_
          rw [List.getD_eq_getElem?_getD, List.getElem?_eq_getElem (by rw [bl_length]; omega)]
          exact List.getElem_mem _
        obtain ⟨x, hx⟩ : ∃ x : UInt8, t[j]'(by omega) = x := ⟨_, rfl⟩
        obtain ⟨y, hy⟩ : ∃ y : UInt8, p[j]'(by omega) = y := ⟨_, rfl⟩
        rw [hx] at hxa
        rw [hy] at hya
        have hy128 : y.toNat < 128 := by rw [hya]; unfold InL at hyL; omega
        have hx256 := UInt8.toNat_lt x
        have hor : bits .or .u8 (x.toNat : Int) (y.toNat : Int) = ((x.toNat ||| y.toNat : Nat) : Int) := u8_or_nat _ _ (by omega) (by omega)
        by_cases hx128 : x.toNat < 128
        · have hor128 : ¬ ((128 : Int) ≤ ((x.toNat ||| y.toNat : Nat) : Int)) := by have := Nat.or_lt_two_pow (n := 7) hx128 hy128; omega
          have hji2 : j < i := by
            rcases Nat.lt_or_eq_of_le hji with h | h
            · exact h
            · exfalso
              have := HZ.out
              rw [← h, ← hxa] at this
              omega
          clear hxa hya hyL
          go_wp2_with fail
          all_goals first
            | exact ⟨⟨j + 1, congrArg (Value.int IntKind.i64) (by omega), by omega, by omega, trivial⟩, by simp [intOf] <;> omega⟩
            | (rw [xfwd_ret]
               go_ret
               exact ⟨rfl, Below.refl _ _⟩)
        · have hor128 : (128 : Int) ≤ ((x.toNat ||| y.toNat : Nat) : Int) := by
            have : x.toNat ≤ x.toNat ||| y.toNat := Nat.left_le_or
            omega
          have HX : Hid (128 ≤ (bl t).getD j 0 ∧ InL ((bl p).getD j 0)) := fhid ⟨by omega, hyL⟩
          clear hxa hya hyL hx128
          go_wp2_with fail
          go_step3
          exact ⟨rfl, FuJ.mk rfl rfl rfl rfl (by omega) (by omega) HX⟩
      · have hjm : ¬ (j : Int) < (M : Int) := by omega
        have hne : ((t.size : Int) == (p.size : Int)) = false := by simp; omega
        go_wp2_with fail
        rw [xfwd_ret]
        go_ret
        exact ⟨rfl, Below.refl _ _⟩
  · rintro l a' w' ⟨rfl, v, j, rfl, hj1, hj2, HX, rfl⟩
    refine ⟨_, rfl, ?_⟩
    obtain ⟨s1, b1⟩ := bl_from t j hj1
    obtain ⟨s2, b2⟩ := bl_from p j hj2
    obtain ⟨t', ht'⟩ : ∃ t', t.extract j t.size = t' := ⟨_, rfl⟩
    obtain ⟨p', hp'⟩ : ∃ p', p.extract j p.size = p' := ⟨_, rfl⟩
    rw [ht'] at s1 b1
    rw [hp'] at s2 b2
    have z1 : 0 < t'.size := by omega
    have z2 : 0 < p'.size := by omega
    obtain ⟨x1, x2⟩ := HX.out
    rw [← b1, ← bl_at t' 0 z1] at x1
    rw [← b2, ← bl_at p' 0 z2] at x2
    have hp2 := Lib.data_getElem? p' 0 z2
    obtain ⟨y, hy⟩ : ∃ y : UInt8, p'[0]'z2 = y := ⟨_, rfl⟩
    rw [hy] at x2 hp2
    have hR1 := (decode_high t' 0 z1 x1).1
    have hR2 := decode_le t' 0
    have hnx : ∀ ty, (Instr.next (.pointer (some ⟨w'.heap.size, 0, none⟩)) true ty).run Tryd.prog (w'.iter t' 0) = _ := fun ty => run_next_any w' t' 0 ty z1
    obtain ⟨K, hK⟩ : ∃ K, 0 + (Utf8.decode t' 0).2 = K := ⟨_, rfl⟩
    obtain ⟨R, hR⟩ : ∃ R, (Utf8.decode t' 0).1 = R := ⟨_, rfl⟩
    rw [hR] at hR1 hR2 hnx
    rw [hK] at hnx
    have cD : Hid (∀ W, Calls Tryd.prog 21 #[.string p'] W fun e w' => e = .returned (.tuple #[.int .i32 y.toNat, .int .i64 1]) ∧ w' = W) := fhid (fun W => Tryd.utf8_DecodeRuneInString_ascii p' y W hp2 (by unfold InL at x2; omega))
    obtain ⟨d, hd, hd2⟩ : ∃ d, y.toNat = d + 32 ∧ d < 96 := ⟨y.toNat - 32, by unfold InL at x2; omega, by unfold InL at x2; omega⟩
    have hlo := HAF.out.lo _ x2
    have hup := HAF.out.up _ x2
    rw [hd, Nat.add_sub_cancel] at hlo hup
    rw [hd] at cD
    have hdi : ((d + 32 : Nat) : Int) = (d : Int) + 32 := by omega
    have cS1 : Hid (Calls Tryd.prog 22 #[.int .i32 ((d : Int) + 32)] (w'.iter t' K) fun e w2 => e = .returned (.int .i32 (d : Int)) ∧ w2 = w'.iter t' K) := fhid (by
      rw [← hdi]
      exact sfC (d + 32) d _ ((cell_iter (cell_lt hlo)).trans hlo) (by omega) (by omega))
    have cS2 : Hid (Calls Tryd.prog 22 #[.int .i32 (d : Int)] (w'.iter t' K) fun e w2 => e = .returned (.int .i32 ((d : Int) + 32)) ∧ w2 = w'.iter t' K) := fhid (by
      rw [← hdi]
      exact sfC d (d + 32) _ ((cell_iter (cell_lt hup)).trans hup) (by omega) (by omega))
    rw [hdi] at cD
    have HT' := fhid ht'
    have HP' := fhid hp'
    have z2i : (1 : Int) ≤ (p'.size : Int) := by omega
    have zne : ((p'.size : Int) == 0) = false := beq_eq_false_iff_ne.2 (by omega)
    have HBL : Hid (Below w'.heap.size w' (w'.iter t' K)) := fhid ((Below.refl _ _).alloc (Nat.le_refl _) _)
    clear hd hR hK hp2 x1 x2 hy hlo hup ht' hp' hdi s1 s2 b1 b2
    go_wp2_with fail
    rw [HT'.out, HP'.out]
    go_loopw [1] (fun s1 wx => s1 = .string p' ∧ wx = w'.iter t' 0) (fun _ _ => 0)
    case atStart => exact ⟨rfl, rfl⟩
    case round =>
      obtain ⟨rfl, rfl⟩ := hrel
      go_wp2_with fail
      refine (cD.out _).mono ?_
      rintro e w2 ⟨rfl, rfl⟩
      go_wp2_with fail
      refine cS1.out.mono ?_
      rintro e w2 ⟨rfl, rfl⟩
      go_wp2_with fail
      go_loopw [13] (fun r wx => (r = .int .i32 (d : Int) ∨ r = .int .i32 ((d : Int) + 32)) ∧ wx = w'.iter t' K) (fun r _ => 200 - (intOf r).toNat)
      case atStart => exact ⟨.inl rfl, rfl⟩
      case round =>
        obtain ⟨h | h, rfl⟩ := hrel
        · subst h
          go_wp2_with fail
          refine cS2.out.mono ?_
          rintro e w2 ⟨rfl, rfl⟩
          go_wp2_with fail
          exact ⟨⟨.inr rfl, trivial⟩, by simp [intOf] <;> omega⟩
          all_goals
            rw [xfwd_ret]
            go_ret
            exact ⟨rfl, HBL.out⟩
        · subst h
          go_wp2_with fail
          rw [xfwd_ret]
          go_ret
          exact ⟨rfl, HBL.out⟩
end Go.Proofs.YtgbldjbkapaclaaDoor.fl
/- Plain: what is far from 1 is nought, or too great; one word means one float. -/
namespace Go.Proofs.YtgbldjbkapaclaaDoor.fl
open Go.ChangeShapes Go.WideShapes Go.ChangeAt Go.RowKit
set_option linter.unusedVariables false
def K401 : Nat := 401
theorem K401_eq : K401 = 401 := rfl
theorem two_ten : 2 * 2 ^ K74 ≤ 10 ^ K401 := by decide +kernel
theorem V_one : V 1 = 1 := by decide +kernel
theorem near_far {D N : Nat} {Q : Int} (h : D < 10 ^ N) (hq : (N : Int) + Q < -400) : Near (valN D Q) (valD Q) 0 := by
  have hk := K401_eq
  obtain ⟨k, hkQ⟩ : ∃ k, (-Q).toNat = N + K401 + k := ⟨(-Q).toNat - (N + K401), by omega⟩
  have h0 : Q.toNat = 0 := by omega
  refine ⟨.inl rfl, .inl ?_⟩
  rw [valN_pow, valD_pow, h0, hkQ, V_zero, V_one, Nat.zero_add, Nat.one_mul, Nat.pow_zero, Nat.mul_one]
  have h1 : 2 * (D * 2 ^ K74) = D * (2 * 2 ^ K74) := by rw [Nat.mul_left_comm]
  rw [h1, Nat.pow_add, Nat.pow_add]
  have h2 : D * (2 * 2 ^ K74) ≤ D * 10 ^ K401 := Nat.mul_le_mul_left _ two_ten
  have h3 : D * 10 ^ K401 < 10 ^ N * 10 ^ K401 := Nat.mul_lt_mul_of_pos_right h (Nat.pow_pos (by decide))
  have h4 : 10 ^ N * 10 ^ K401 ≤ 10 ^ N * 10 ^ K401 * 10 ^ k := Nat.le_mul_of_pos_right _ (Nat.pow_pos (by decide))
  omega
theorem nd_bounds {m : List Nat} {p : Bool} (h : Mant m p) (hz : dnum m ≠ 0) : 1 ≤ (rf m).nd ∧ 10 ^ ((rf m).nd - 1) ≤ dnum m ∧ dnum m < 10 ^ (rf m).nd := by
  have ok := rf_ok h
  have h0 : (rf m).nd ≠ 0 := fun e => hz (ok.zero e)
  obtain ⟨r, r1, r2, _⟩ := ok.num
  have hlo := ok.low h0
  have hhi := ok.mant
  have hm := ok.ndm
  obtain ⟨k, hk⟩ : ∃ k, (rf m).nd - (rf m).ndm = k := ⟨_, rfl⟩
  rw [hk] at r1 r2
  have e1 : (rf m).nd - 1 = ((rf m).ndm - 1) + k := by omega
  have e2 : (rf m).nd = (rf m).ndm + k := by omega
  have hP : 0 < 10 ^ k := Nat.pow_pos (by decide)
  refine ⟨by omega, ?_, ?_⟩
  · rw [e1, Nat.pow_add, r2]
    exact Nat.le_trans (Nat.mul_le_mul_right _ hlo) (Nat.le_add_right _ _)
  · rw [e2, Nat.pow_add, r2]
    have h1 : ((rf m).mant + 1) * 10 ^ k ≤ 10 ^ (rf m).ndm * 10 ^ k := Nat.mul_le_mul_right _ hhi
    rw [Nat.add_mul, Nat.one_mul] at h1
    omega
/-- What a score's word says: bits and code. -/
def PRes (l : List Nat) (x c : Nat) : Prop :=
  (64 < l.length ∧ x = 0 ∧ c = 20) ∨
  (l.length ≤ 64 ∧ infB (unsign l) = true ∧ x = sgw (isNeg l) + infR ∧ c = 0) ∨
  (l.length ≤ 64 ∧ infB (unsign l) = false ∧ decB (unsign l) = false ∧ x = 0 ∧ c = 20) ∨
  (l.length ≤ 64 ∧ infB (unsign l) = false ∧ decB (unsign l) = true ∧ ∃ u, Near (valN (dnum (manL (unsign l))) (wq (manL (unsign l)) (expV (expL (unsign l))))) (valD (wq (manL (unsign l)) (expV (expL (unsign l))))) u ∧
    (u < infR ∧ x = sgw (isNeg l) + u ∧ c = 0 ∨ infR ≤ u ∧ x = 0 ∧ c = 20))
theorem PRes.uniq {l : List Nat} {x c x' c' : Nat} (h : PRes l x c) (h' : PRes l x' c') : x = x' ∧ c = c' := by
  rcases h with ⟨a, rfl, rfl⟩ | ⟨a, b, rfl, rfl⟩ | ⟨a, b, d, rfl, rfl⟩ | ⟨a, b, d, u, hu, h⟩ <;> rcases h' with ⟨a', rfl, rfl⟩ | ⟨a', b', rfl, rfl⟩ | ⟨a', b', d', rfl, rfl⟩ | ⟨a', b', d', u', hu', h'⟩
  all_goals try omega
  all_goals try (rw [b] at b'; cases b')
  all_goals try (rw [d] at d'; cases d')
  all_goals try exact ⟨rfl, rfl⟩
  · obtain rfl := near_unique (valD_pos _) hu hu'
    rcases h with ⟨k, rfl, rfl⟩ | ⟨k, rfl, rfl⟩ <;> rcases h' with ⟨k', rfl, rfl⟩ | ⟨k', rfl, rfl⟩
    · exact ⟨rfl, rfl⟩
    · omega
    · omega
    · exact ⟨rfl, rfl⟩
theorem PRes.fin {l : List Nat} {x c : Nat} (h : PRes l x c) : ∃ s u, u ≤ infR ∧ x = sgw s + u ∧ (c = 0 ∨ c = 20) := by
  rcases h with ⟨a, rfl, rfl⟩ | ⟨a, b, rfl, rfl⟩ | ⟨a, b, d, rfl, rfl⟩ | ⟨a, b, d, u, hu, h⟩
  · exact ⟨false, 0, Nat.zero_le _, rfl, .inr rfl⟩
  · exact ⟨_, infR, Nat.le_refl _, rfl, .inl rfl⟩
  · exact ⟨false, 0, Nat.zero_le _, rfl, .inr rfl⟩
  · rcases h with ⟨k, rfl, rfl⟩ | ⟨k, rfl, rfl⟩
    · exact ⟨_, u, by omega, rfl, .inl rfl⟩
    · exact ⟨false, 0, Nat.zero_le _, rfl, .inr rfl⟩
/-- What both Parses answer. -/
def PaPost (l : List Nat) (w : World) (e : Ending) (w' : World) : Prop := ∃ x c : Nat, e = .returned (.tuple #[.float .f64 x, .int .i64 (c : Int)]) ∧ PRes l x c ∧ Below w.heap.size w w'
end Go.Proofs.YtgbldjbkapaclaaDoor.fl
/- The walk of the reference's Bits and Parse. -/
namespace Go.Proofs.YtgbldjbkapaclaaDoor.fl
open Go.ChangeShapes Go.WideShapes Go.ChangeAt Go.RowKit
set_option linter.unusedVariables false
set_option linter.unusedSimpArgs false
theorem list_is (t : ByteArray) (p : List UInt8) : (t.toList == p) = (bl t == p.map UInt8.toNat) := by
  rw [Lib.toList_data, Bool.eq_iff_iff, beq_iff_eq, beq_iff_eq]
  unfold bl
  constructor
  · intro h; rw [h]
  · intro h
    exact List.map_inj_right (fun _ _ e => UInt8.toNat_inj.1 e) |>.1 h
theorem kb_64 : 10 ^ 64 ≤ Bs ^ KB := by
  have h1 : Bs ^ 7 ≤ Bs ^ KB := Nat.pow_le_pow_right bs_pos (by decide)
  have h2 : 10 ^ 64 ≤ Bs ^ 7 := by decide
  exact Nat.le_trans h2 h1
theorem expV_bd {l : List Nat} (h : decB l = true) : -100000 < expV (expL l) ∧ expV (expL l) < 100000 := by
  unfold decB at h
  simp only [Bool.and_eq_true, Bool.or_eq_true] at h
  rcases h.2 with h2 | h2
  · have : expL l = [] := by simpa using h2
    rw [this]
    exact ⟨by decide, by decide⟩
  · cases he : expL l with
    | nil => exact ⟨by decide, by decide⟩
    | cons c rest =>
      rw [he] at h2
      have hc : c = 101 ∨ c = 69 := by
        have h3 := h2
        unfold expB at h3
        rw [Bool.and_eq_true] at h3
        simpa using h3.1
      obtain ⟨_, h5, hd⟩ := (exp_is hc).1 h2
      rw [expV_is]
      have h1 := dnum_foldT (unsign rest) 0 (fun z hz => (hd z hz).2)
      rw [Nat.zero_add, Nat.one_mul] at h1
      have h3 : dnum (unsign rest) < 100000 := Nat.lt_of_lt_of_le h1 (Nat.pow_le_pow_right (by decide) h5 : _ ≤ 10 ^ 5)
      split <;> omega
def BiPost (l : List Nat) (w : World) (e : Ending) (w' : World) : Prop :=
  (∃ x : Nat, e = .returned (.tuple #[.int .u64 (x : Int), .bool true]) ∧ PRes l x 0 ∧ Below w.heap.size w w') ∨ (e = .returned (.tuple #[.int .u64 0, .bool false]) ∧ PRes l 0 20 ∧ Below w.heap.size w w')
theorem inf_or (neg : Bool) : bits BinOp.or IntKind.u64 9218868437227405312 (sgw neg : Int) = ((sgw neg + infR : Nat) : Int) := by cases neg <;> decide +kernel
theorem or_sgw {u : Nat} (neg : Bool) (h : u < 9223372036854775808) : bits BinOp.or IntKind.u64 (u : Int) (sgw neg : Int) = ((sgw neg + u : Nat) : Int) := by
  rw [← zor_sg h]
  have hs : sgw neg < 18446744073709551616 := by cases neg <;> simp [sgw]
  have a := u64_or_nat u (sgw neg) (by omega) hs
  have c := u64_or_nat (sgw neg) u hs (by omega)
  rw [Nat.or_comm] at a
  exact a.trans c.symm
/-- Does it begin with a sign? -/
def sgB (l : List Nat) : Bool := l.head? == some 43 || l.head? == some 45
theorem sg_no {l : List Nat} (h : sgB l = false) : unsign l = l ∧ isNeg l = false := by
  cases l with
  | nil => exact ⟨rfl, rfl⟩
  | cons c t =>
    unfold sgB at h
    simp at h
    refine ⟨?_, ?_⟩
    · show (if c = 43 ∨ c = 45 then _ else _) = _
      rw [if_neg (by omega)]
    · unfold isNeg; simp; exact h.2
theorem sg_un {l : List Nat} (h : sgB l = true) : unsign l = l.drop 1 := by
  cases l with
  | nil => cases h
  | cons c t =>
    unfold sgB at h
    simp at h
    show (if c = 43 ∨ c = 45 then _ else _) = _
    rw [if_pos h]; rfl
theorem sg_yes {s : ByteArray} (h : sgB (bl s) = true) : 0 < s.size ∧ ((bl s).getD 0 0 = 43 ∨ (bl s).getD 0 0 = 45) := by
  rw [← bl_length]
  cases he : bl s with
  | nil => rw [he] at h; cases h
  | cons c t =>
    rw [he] at h
    unfold sgB at h
    simp at h
    exact ⟨by simp, h⟩
theorem sg_neg {l : List Nat} (h : sgB l = true) (hc : l.getD 0 0 = 43) : isNeg l = false := by
  cases l with
  | nil => cases h
  | cons c t => simp at hc; subst hc; rfl
theorem sg_neg2 {l : List Nat} (h : sgB l = true) (hc : l.getD 0 0 = 45) : isNeg l = true := by
  cases l with
  | nil => cases h
  | cons c t => simp at hc; subst hc; rfl
set_option maxRecDepth 100000 in
set_option maxHeartbeats 2000000 in
theorem bitsR (s : ByteArray) (w : World) (hsz : s.size < 9223372036854775808) :
    Calls Tryd.prog 9 #[.string s] w (BiPost (bl s) w) := by
  by_cases h64 : 64 < s.size
  · have hP := fhid (show PRes (bl s) 0 20 from .inl ⟨by rw [bl_length]; exact h64, rfl, rfl⟩)
    have g1 : (64 : Int) < (s.size : Int) := by omega
    clear h64
    go_enter Tryd.func9, Tryd.ntmps9
    go_wp2_with fail
    go_ret2
    exact .inr ⟨rfl, hP.out, Below.refl _ _⟩
  · have hl64 := fhid (show (bl s).length ≤ 64 by rw [bl_length]; omega)
    have g1 : ¬ (64 : Int) < (s.size : Int) := by omega
    have hs64 : s.size ≤ 64 := by omega
    clear h64
    go_enter Tryd.func9, Tryd.ntmps9
    go_upto_region 4 with fail
    go_cut [24] (fun x wx => x = .bool (sgB (bl s)) ∧ wx = w)
    case first => as_aux_lemma =>
      by_cases h0 : s.size = 0
      · have HB := fhid (bl_zero0 h0)
        have z0 : ¬ (0 : Int) < (s.size : Int) := by omega
        go_wp2_with fail
        go_meet
        exact ⟨by rw [HB.out]; rfl, rfl⟩
      · have hlt : 0 < s.size := by omega
        have hlt2 : (0 : Int) < (s.size : Int) := by omega
        have hat := bl_at s 0 hlt
        have HB := fhid (bl_cons hlt)
        obtain ⟨c, hc⟩ : ∃ c, (bl s).getD 0 0 = c := ⟨_, rfl⟩
        rw [hc] at hat HB
        clear hc h0
        by_cases h1 : c = 43
        · have HU : Hid (sgB (bl s) = true) := fhid (by rw [HB.out]; subst h1; rfl)
          subst h1
          go_wp2_with fail
          go_meet
          exact ⟨by rw [HU.out], rfl⟩
        · have g43 : ((c : Int) == 43) = false := by simp; omega
          by_cases h2 : c = 45
          · have HU : Hid (sgB (bl s) = true) := fhid (by rw [HB.out]; subst h2; rfl)
            subst h2
            go_wp2_with fail
            go_meet
            exact ⟨by rw [HU.out], rfl⟩
          · have g45 : ((c : Int) == 45) = false := by simp; omega
            have HU : Hid (sgB (bl s) = false) := fhid (by
              rw [HB.out]; unfold sgB; simp [h1, h2])
            clear h1 h2
            go_wp2_with fail
            go_meet
            exact ⟨by rw [HU.out], rfl⟩
    case rest => as_aux_lemma =>
    obtain ⟨rfl, hwc⟩ := hcut
    obtain rfl := hwc.symm
    obtain ⟨sb, hsb⟩ : ∃ sb, sgB (bl s) = sb := ⟨_, rfl⟩
    have HSB := fhid hsb
    rw [hsb]
    clear hsb
    go_upto_if 24 with fail
    go_cut [0, 4] (fun x y wx => ∃ t : ByteArray, x = .string t ∧ y = .int .u64 (sgw (isNeg (bl s)) : Nat) ∧ Hid (bl t = unsign (bl s)) ∧ t.size ≤ 64 ∧ ∃ k, wx = w.drewN k)
    case first => as_aux_lemma =>
      cases sb
      · have HU := fhid (sg_no HSB.out)
        go_wp2_with fail
        go_meet
        exact ⟨s, rfl, by rw [HU.out.2]; rfl, fhid HU.out.1.symm, hs64, 0, rfl⟩
      · obtain ⟨hlt, hc⟩ := sg_yes HSB.out
        have hlt2 : (0 : Int) < (s.size : Int) := by omega
        have hat := bl_at s 0 hlt
        have HU := fhid (sg_un HSB.out)
        rcases hc with hc | hc
        · rw [hc] at hat
          have HN : Hid (isNeg (bl s) = false) := fhid (sg_neg HSB.out hc)
          clear hc
          go_wp2_with fail
          go_meet
          exact ⟨_, rfl, by rw [HN.out]; rfl, fhid (by rw [bl_tail, HU.out]), by simp; omega, 0, rfl⟩
        · rw [hc] at hat
          have HN : Hid (isNeg (bl s) = true) := fhid (sg_neg2 HSB.out hc)
          clear hc
          go_wp2_with fail
          go_meet
          exact ⟨_, rfl, by rw [HN.out]; rfl, fhid (by rw [bl_tail, HU.out]), by simp; omega, 0, rfl⟩
    case rest => as_aux_lemma =>
      obtain ⟨t, rfl, rfl, HT, ht64, k, rfl⟩ := hcut
      obtain ⟨neg, hneg⟩ : ∃ neg, isNeg (bl s) = neg := ⟨_, rfl⟩
      have HNEG := fhid hneg
      rw [hneg]
      obtain ⟨l, hl⟩ : ∃ l, unsign (bl s) = l := ⟨_, rfl⟩
      have HLL := fhid hl
      rw [hl] at HT
      clear hneg hl g1
      have HB0 : Hid (Below w.heap.size w (w.drewN k)) := fhid (below_drewN w k)
      have cL := fhid (lowerR t (w.drewN k) ht64)
      have hor1 := inf_or neg
      have HOR2 := fhid (fun u (h : u < 9223372036854775808) => or_sgw (u := u) neg h)
      have HS2 : Hid (sgw neg < 18446744073709551616) := fhid (by cases neg <;> simp [sgw])
      obtain ⟨S, hS⟩ : ∃ S, sgw neg = S := ⟨_, rfl⟩
      have HSS := fhid hS
      rw [hS] at hor1 HOR2 HS2 ⊢
      clear hS
      go_wp2_with fail
      refine cL.out.mono ?_
      clear cL
      rintro e w1 ⟨t5, rfl, ht5, hb1⟩
      rw [HT.out] at ht5
      have E3 : (t5.toList == [105, 110, 102]) = foldIs l [105, 110, 102] := by rw [list_is, ht5]; rfl
      have E8 : (t5.toList == [105, 110, 102, 105, 110, 105, 116, 121]) = foldIs l [105, 110, 102, 105, 110, 105, 116, 121] := by rw [list_is, ht5]; rfl
      have HB1 : Hid (Below w.heap.size w w1) := fhid (HB0.out.trans (hb1.mono HB0.out.size))
      clear ht5 hb1 HB0
      by_cases hinf : infB l = true
      · have HP : Hid (PRes (bl s) (S + infR) 0) := fhid (.inr (.inl ⟨hl64.out, by rw [HLL.out]; exact hinf, by rw [HNEG.out, HSS.out], rfl⟩))
        unfold infB at hinf
        rw [Bool.or_eq_true] at hinf
        rcases Bool.eq_false_or_eq_true (foldIs l [105, 110, 102]) with h | h
        · rw [h] at E3
          clear hinf E8
          go_wp2_with fail
          go_ret2
          exact .inl ⟨_, rfl, HP.out, HB1.out⟩
        · rw [h] at E3 hinf
          have h8 : foldIs l [105, 110, 102, 105, 110, 105, 116, 121] = true := by simpa using hinf
          rw [h8] at E8
          clear hinf
          go_wp2_with fail
          go_ret2
          exact .inl ⟨_, rfl, HP.out, HB1.out⟩
      · have hinf : infB l = false := by simpa using hinf
        have HINF := fhid hinf
        unfold infB at hinf
        rw [Bool.or_eq_false_iff] at hinf
        rw [hinf.1] at E3
        rw [hinf.2] at E8
        clear hinf hor1
        have cR := fhid (readR t w1 ht64)
        unfold ReadPost at cR
        rw [HT.out] at cR
        by_cases hd : decB l = true
        · have hd64 : l.length ≤ 64 := by rw [← HT.out, bl_length]; exact ht64
          obtain ⟨m, hm⟩ : ∃ m, manL l = m := ⟨_, rfl⟩
          have hmm : Mant m (hasDot l) := by rw [← hm]; exact man_mant l
          have hml : m.length ≤ 64 := by
            have h1 := congrArg List.length (man_exp l)
            rw [hm, List.length_append] at h1
            omega
          have hnd : (rf m).nd ≤ 64 := Nat.le_trans (rf_ok hmm).nd hml
          have hnb := fhid (nd_bounds hmm)
          have hkb : dnum m < Bs ^ KB := by
            have h1 := dnum_foldT m 0 (mant_57 hmm)
            rw [Nat.zero_add, Nat.one_mul] at h1
            exact Nat.lt_of_lt_of_le h1 (Nat.le_trans (Nat.pow_le_pow_right (by decide) hml) kb_64)
          have hEb := expV_bd hd
          have hfr := (rf_ok hmm).fracl
          have hqb : -100100 < wq m (expV (expL l)) ∧ wq m (expV (expL l)) < 100000 := by
            unfold wq
            omega
          obtain ⟨q, hq⟩ : ∃ q, wq m (expV (expL l)) = q := ⟨_, rfl⟩
          have HPN : Hid (∀ u, Near (valN (dnum m) q) (valD q) u → (u < infR → PRes (bl s) (S + u) 0) ∧ (infR ≤ u → PRes (bl s) 0 20)) := fhid (by
            intro u hu
            rw [← hq, ← hm] at hu
            refine ⟨fun h => .inr (.inr (.inr ⟨hl64.out, by rw [HLL.out]; exact HINF.out, by rw [HLL.out]; exact hd, u, by rw [HLL.out]; exact hu, .inl ⟨h, by rw [HNEG.out, HSS.out], rfl⟩⟩)), fun h => .inr (.inr (.inr ⟨hl64.out, by rw [HLL.out]; exact HINF.out, by rw [HLL.out]; exact hd, u, by rw [HLL.out]; exact hu, .inr ⟨h, rfl, rfl⟩⟩))⟩)
          rw [hm, hq] at cR
          obtain ⟨D, hD⟩ : ∃ D, dnum m = D := ⟨_, rfl⟩
          obtain ⟨N, hN⟩ : ∃ N, (rf m).nd = N := ⟨_, rfl⟩
          rw [hD, hN] at cR hnb
          rw [hD] at HPN hkb
          rw [hN] at hnd
          rw [hq] at hqb
          clear hm hmm hml hq hD hN hEb hfr hd64
          go_wp2_with fail
          refine cR.out.mono ?_
          clear cR
          rintro e w2 ⟨v, N2, Q2, rfl, hv, hb2, ya, ln, ycap, rfl⟩
          obtain ⟨hnum, rfl, rfl⟩ := hv hd
          have hln : ln = 0 ↔ D = 0 := by
            obtain ⟨ly, ⟨a2, c2, he, _⟩, hyc, hyv⟩ := hnum
            simp only [Value.slice.injEq] at he
            obtain ⟨_, rfl, _⟩ := he
            constructor
            · intro h
              rw [← hyv, List.length_eq_zero_iff.1 h]
              rfl
            · intro h
              rcases Nat.eq_zero_or_pos ly.length with h0 | h0
              · exact h0
              · exfalso
                have h1 := can_pos hyc (List.ne_nil_of_length_pos h0)
                omega
          have HNUM := fhid hnum
          have HB2 : Hid (Below w.heap.size w w2) := fhid (HB1.out.trans (hb2.mono HB1.out.size))
          obtain ⟨w3, hw3⟩ : ∃ w3, w2.alloc (.cells #[.slice ya ln ycap, .int .i64 (N2 : Int), .int .i64 Q2] 50) = w3 := ⟨_, rfl⟩
          have k0 : w3.cell? ⟨w2.heap.size, 0, none⟩ = some (.slice ya ln ycap) := by rw [← hw3, World.cell?_alloc_at _ _ _ _ rfl]; rfl
          have k1 : w3.cell? ⟨w2.heap.size, 1, none⟩ = some (.int .i64 (N2 : Int)) := by rw [← hw3, World.cell?_alloc_at _ _ _ _ rfl]; rfl
          have k2 : w3.cell? ⟨w2.heap.size, 2, none⟩ = some (.int .i64 Q2) := by rw [← hw3, World.cell?_alloc_at _ _ _ _ rfl]; rfl
          have hb23 : Below w2.heap.size w2 w3 := by rw [← hw3]; exact Below.alloc (Below.refl _ _) (Nat.le_refl _) _
          have HB3 : Hid (Below w.heap.size w w3) := fhid (HB2.out.trans (hb23.mono HB2.out.size))
          have HN3 : Hid (Num .u64 w3 (.slice ya ln ycap) D) := fhid (HNUM.out.on hb23)
          have HKB := fhid hkb
          have hnd' : (N2 : Int) ≤ 64 := by omega
          obtain ⟨hq1, hq2⟩ := hqb
          rw [hd]
          clear hv hnum hb2 HB1 hb23 hkb
          by_cases hD0 : D = 0
          · have h0 := hln.2 hD0
            have HP : Hid (PRes (bl s) S 0) := fhid (by
              have h1 : Near (valN D Q2) (valD Q2) 0 := by rw [hD0]; exact near_zero Q2
              exact (HPN.out 0 h1).1 (by decide))
            subst h0
            clear hln hD0
            go_wp2_with fail
            go_ret2
            exact .inl ⟨S, rfl, HP.out, HB3.out⟩
          · have gln : ((ln : Int) == 0) = false := beq_eq_false_iff_ne.2 (by
              intro h
              exact hD0 (hln.1 (by omega)))
            obtain ⟨n1, n2, n3⟩ := hnb.out hD0
            by_cases h4 : (N2 : Int) + Q2 < -400
            · have HP : Hid (PRes (bl s) S 0) := fhid ((HPN.out 0 (near_far n3 h4)).1 (by decide))
              clear hln hD0 n1 n2 n3
              go_wp2_with fail
              go_ret2
              exact .inl ⟨S, rfl, HP.out, HB3.out⟩
            · by_cases h5 : 400 < (N2 : Int) + Q2
              · have HP : Hid (PRes (bl s) 0 20) := fhid (by
                  obtain ⟨u, hu⟩ := near_exists (valN D Q2) (valD Q2) (valD_pos Q2)
                  refine (HPN.out u hu).2 (dp_up (dp := (N2 : Int) + Q2) n2 n1 (by omega) ?_)
                  rw [show (N2 : Int) + Q2 - N2 = Q2 by omega]
                  exact hu)
                clear hln hD0 n1 n2 n3
                go_wp2_with fail
                go_ret2
                exact .inr ⟨rfl, HP.out, HB3.out⟩
              · have cN : Hid (∀ W, Num .u64 W (.slice ya ln ycap) D → Calls Tryd.prog 20 #[.slice ya ln ycap, .int .i64 Q2] W (NrPost D Q2 W)) := fhid (fun W h => nearestR _ D Q2 W h HKB.out (by omega) (by omega))
                clear hln hD0 n1 n2 n3 HKB
                go_wp2_with fail
                refine (cN.out _ HN3.out).mono ?_
                clear cN
                rintro e w4 ⟨u, hu, rfl, hb4⟩
                have HB4 : Hid (Below w.heap.size w w4) := fhid (HB3.out.trans (hb4.mono HB3.out.size))
                have HPU := fhid (HPN.out u hu)
                by_cases hi : u < infR
                · have hmin : min u infR = u := Nat.min_eq_left (Nat.le_of_lt hi)
                  have hii : infR = 9218868437227405312 := rfl
                  have hor := HOR2.out u (by omega)
                  have HP : Hid (PRes (bl s) (S + u) 0) := fhid (HPU.out.1 hi)
                  rw [hmin, decide_eq_true hi]
                  clear hmin hi hii hu hb4 HPU HPN
                  go_wp2_with fail
                  go_ret2
                  exact .inl ⟨S + u, rfl, HP.out, HB4.out⟩
                · have HP : Hid (PRes (bl s) 0 20) := fhid (HPU.out.2 (Nat.le_of_not_lt hi))
                  rw [decide_eq_false hi]
                  clear hi hu hb4 HPU HPN
                  go_wp2_with fail
                  go_ret2
                  exact .inr ⟨rfl, HP.out, HB4.out⟩
        · have hd : decB l = false := by simpa using hd
          have HP : Hid (PRes (bl s) 0 20) := fhid (.inr (.inr (.inl ⟨hl64.out, by rw [HLL.out]; exact HINF.out, by rw [HLL.out]; exact hd, rfl, rfl⟩)))
          rw [hd] at cR
          go_wp2_with fail
          refine cR.out.mono ?_
          clear cR
          rintro e w2 ⟨v, N2, Q2, rfl, hv, hb2, ya, ln, ycap, rfl⟩
          have HB2 : Hid (Below w.heap.size w w2) := fhid (HB1.out.trans (hb2.mono HB1.out.size))
          obtain ⟨w3, hw3⟩ : ∃ w3, w2.alloc (.cells #[.slice ya ln ycap, .int .i64 (N2 : Int), .int .i64 Q2] 50) = w3 := ⟨_, rfl⟩
          have hb23 : Below w2.heap.size w2 w3 := by rw [← hw3]; exact Below.alloc (Below.refl _ _) (Nat.le_refl _) _
          have HB3 : Hid (Below w.heap.size w w3) := fhid (HB2.out.trans (hb23.mono HB2.out.size))
          clear hv hb2 hb23
          go_wp2_with fail
          go_ret2
          exact .inr ⟨rfl, HP.out, HB3.out⟩
end Go.Proofs.YtgbldjbkapaclaaDoor.fl
/- score's Parse at every word. -/
namespace Go.Proofs.YtgbldjbkapaclaaDoor.fl
open Go.ChangeShapes Go.WideShapes Go.ChangeAt Go.RowKit
set_option linter.unusedVariables false
set_option linter.unusedSimpArgs false
theorem fold_high {l p : List Nat} (hp : ∀ c ∈ p, c < 128) {i : Nat} (hi : i < l.length) (h : 128 ≤ l.getD i 0) : foldIs l p = false := by
  rcases Bool.eq_false_or_eq_true (foldIs l p) with e | e
  · exfalso
    unfold foldIs at e
    rw [beq_iff_eq] at e
    have h1 : low1 (l.getD i 0) ∈ p := by
      rw [← e]
      refine List.mem_map_of_mem ?_
      rw [List.getD_eq_getElem?_getD, List.getElem?_eq_getElem hi]
      exact List.getElem_mem hi
    have h2 := hp _ h1
    unfold low1 at h2
    split at h2 <;> omega
  · exact e
theorem asc_or (l : List Nat) : Asc l ∨ ∃ i, i < l.length ∧ 128 ≤ l.getD i 0 := by
  by_cases h : Asc l
  · exact .inl h
  · right
    unfold Asc at h
    simp only [Classical.not_forall] at h
    obtain ⟨c, hc, h2⟩ := h
    obtain ⟨i, hi, rfl⟩ := List.getElem_of_mem hc
    exact ⟨i, hi, by rw [List.getD_eq_getElem?_getD, List.getElem?_eq_getElem hi]; simp only [Option.getD_some]; omega⟩
theorem foldAny (t p : ByteArray) (w : World) (ht : t.size ≤ 1000) (hps : p.size ≤ 8) (haf : AF w) (hp : ∀ c ∈ p.data.toList, 97 ≤ c.toNat ∧ c.toNat ≤ 122) (hL : ∀ c ∈ bl p, InL c) :
    Calls Tryd.prog 12 #[.string t, .string p] w fun e w' => e = .returned (.bool (foldIs (bl t) (bl p))) ∧ Below w.heap.size w w' := by
  rcases asc_or (bl t) with h | ⟨i, h1, h2⟩
  · refine (foldC t p w ht h hp).mono ?_
    rintro e w' ⟨rfl, rfl⟩
    exact ⟨rfl, Below.refl _ _⟩
  · rw [fold_high (fun c hc => by have := hL c hc; unfold InL at this; omega) h1 h2]
    exact foldHigh t p w ht hps hL i (by rw [← bl_length]; exact h1) h2 haf
theorem inL3 : ∀ c ∈ bl inf3, InL c := by
  intro c hc
  have h : c ∈ [105, 110, 102] := hc
  simp at h
  unfold InL
  omega
theorem inL8 : ∀ c ∈ bl inf8, InL c := by
  intro c hc
  have h : c ∈ [105, 110, 102, 105, 110, 105, 116, 121] := hc
  simp at h
  unfold InL
  omega
set_option maxRecDepth 100000 in
set_option maxHeartbeats 2000000 in
theorem parseNoAny (s : ByteArray) (w : World) (haf : AF w) (hs : s.size ≤ 64) (hi : infB (unsign (bl s)) = false) (hd : decB (unsign (bl s)) = false) :
    Calls Tryd.prog 5 #[.string s] w (ErPost w) := by
  have HAF := fhid haf
  unfold infB at hi
  rw [Bool.or_eq_false_iff] at hi
  have HI := fhid hi
  have HD := fhid hd
  have cs := signC s w (by omega)
  have cf3 : Hid (∀ t : ByteArray, t.size ≤ 1000 → ∀ W, AF W → Calls Tryd.prog 12 #[.string t, .string ⟨#[105, 110, 102]⟩] W fun e w' => e = .returned (.bool (foldIs (bl t) [105, 110, 102])) ∧ Below W.heap.size W w') := fhid (fun t h1 W h2 => foldAny t inf3 W h1 (by decide) h2 inf3_ok inL3)
  have cf8 : Hid (∀ t : ByteArray, t.size ≤ 1000 → ∀ W, AF W → Calls Tryd.prog 12 #[.string t, .string ⟨#[105, 110, 102, 105, 110, 105, 116, 121]⟩] W fun e w' => e = .returned (.bool (foldIs (bl t) [105, 110, 102, 105, 110, 105, 116, 121])) ∧ Below W.heap.size W w') := fhid (fun t h1 W h2 => foldAny t inf8 W h1 (by decide) h2 inf8_ok inL8)
  have cd : Hid (∀ (t : ByteArray) W, t.size ≤ 1000 → Calls Tryd.prog 14 #[.string t] W (DePost t W)) := fhid (fun t W h => decimalC t W h)
  clear hi hd haf
  go_enter Tryd.func5, Tryd.ntmps5
  go_wp2_with fail
  with_reducible refine cs.mono ?_
  clear cs
  rintro e w1 ⟨t, rfl, ht, hts, n, rfl⟩
  have ht2 : t.size ≤ 1000 := by omega
  have HT := fhid ht
  obtain ⟨b, hb⟩ : ∃ b, isNeg (bl s) = b := ⟨_, rfl⟩
  rw [hb]
  have B1 : Hid (Below w.heap.size w (w.drewN n)) := fhid (below_drewN w n)
  clear ht hb
  go_wp2_with fail
  with_reducible refine (cf3.out t ht2 _ (HAF.out.on B1.out)).mono ?_
  rintro e w2 ⟨rfl, hb2⟩
  have B2 : Hid (Below w.heap.size w w2) := fhid (B1.out.trans (hb2.mono B1.out.size))
  clear hb2
  rw [HT.out, HI.out.1]
  go_wp2_with fail
  with_reducible refine (cf8.out t ht2 _ (HAF.out.on B2.out)).mono ?_
  rintro e w4 ⟨rfl, hb4⟩
  have B4 : Hid (Below w.heap.size w w4) := fhid (B2.out.trans (hb4.mono B2.out.size))
  clear hb4
  rw [HT.out, HI.out.2]
  go_wp2_with fail
  with_reducible refine (cd.out t _ ht2).mono ?_
  rintro e w5 ⟨rfl, j, rfl⟩
  rw [HT.out, HD.out]
  go_wp2_with fail
  go_ret2
  exact ⟨rfl, below_dn B4.out j⟩
theorem mant_asc {m : List Nat} {p : Bool} (h : Mant m p) : Asc m := by
  induction h with
  | nil => intro x hx; simp at hx
  | @dig m p c hm hc ih =>
    intro x hx
    rcases List.mem_append.1 hx with h | h
    · exact ih x h
    · simp at h; subst h; unfold isDig at hc; omega
  | @dot m hm ih =>
    intro x hx
    rcases List.mem_append.1 hx with h | h
    · exact ih x h
    · simp at h; omega
theorem dw_asc {s : ByteArray} {neg : Bool} {m : List Nat} {p : Bool} {E : Int} (h : DecW s neg m p E) : Asc (bl s) := by
  obtain ⟨⟨sg, xs, hb, hsg, hx⟩, hm, _, _⟩ := h
  have a1 : Asc sg := by
    rcases hsg with ⟨rfl, _⟩ | ⟨rfl, _⟩ | ⟨rfl, _⟩ <;> intro c hc <;> simp at hc <;> omega
  have a3 : Asc xs := by
    cases hx with
    | none => intro c hc; simp at hc
    | @some c sg2 ds ng hc hsg2 h1 h2 hd =>
      intro x hx
      rcases List.mem_cons.1 hx with h | h
      · omega
      · rcases List.mem_append.1 h with h | h
        · rcases hsg2 with ⟨rfl, _⟩ | ⟨rfl, _⟩ | ⟨rfl, _⟩ <;> simp at h <;> omega
        · have := hd x h; unfold isDig at this; omega
  intro c hc
  rw [hb] at hc
  rcases List.mem_append.1 hc with h | h
  · rcases List.mem_append.1 h with h | h
    · exact a1 c h
    · exact mant_asc hm c h
  · exact a3 c h
theorem inf_asc {l : List Nat} (h : infB (unsign l) = true) : Asc l := by
  obtain ⟨sg, hsg, hcs⟩ := unsign_cases l
  have h2 : Asc (unsign l) := by
    rcases asc_or (unsign l) with h3 | ⟨i, h4, h5⟩
    · exact h3
    · exfalso
      unfold infB at h
      rw [fold_high (by decide) h4 h5, fold_high (by decide) h4 h5] at h
      cases h
  intro c hc
  rw [hsg] at hc
  rcases List.mem_append.1 hc with h3 | h3
  · rcases hcs with ⟨h4, _⟩ | ⟨h4, _⟩ | ⟨h4, _⟩ <;> rw [h4] at h3 <;> simp at h3 <;> omega
  · exact h2 c h3
set_option maxRecDepth 100000 in
set_option maxHeartbeats 1000000 in
theorem parseLong2 (s : ByteArray) (w : World) (h : 64 < s.size) (hs : s.size < 9223372036854775808) : Calls Tryd.prog 5 #[.string s] w (ErPost w) := by
  have g : (64 : Int) < (s.size : Int) := by omega
  go_enter Tryd.func5, Tryd.ntmps5
  go_wp2_with fail
  go_ret2
  exact ⟨rfl, Below.refl _ _⟩
theorem parseAll (s : ByteArray) (w : World) (hf : FO w) (hx : FX w) (haf : AF w) (hsz : s.size < 9223372036854775808) :
    Calls Tryd.prog 5 #[.string s] w (PaPost (bl s) w) := by
  by_cases h64 : 64 < s.size
  · refine (parseLong2 s w h64 hsz).mono ?_
    rintro e w' ⟨rfl, hb⟩
    exact ⟨0, 20, rfl, .inl ⟨by rw [bl_length]; exact h64, rfl, rfl⟩, hb⟩
  · have hs : s.size ≤ 64 := by omega
    have hl : (bl s).length ≤ 64 := by rw [bl_length]; exact hs
    by_cases hi : infB (unsign (bl s)) = true
    · refine (parseInf s w hs (inf_asc hi) hi).mono ?_
      rintro e w' ⟨rfl, hb⟩
      exact ⟨_, 0, rfl, .inr (.inl ⟨hl, hi, rfl, rfl⟩), hb⟩
    · have hi : infB (unsign (bl s)) = false := by simpa using hi
      by_cases hd : decB (unsign (bl s)) = true
      · obtain ⟨sg, hsg, hcs⟩ := unsign_cases (bl s)
        have hdw := dec_word (s := s) hsg hcs (by omega) hd
        refine (parseDecAt s w hf hs (dw_asc hdw) hi hd (fun n => ?_)).mono ?_
        · by_cases htr : (rf (manL (unsign (bl s)))).tr = true
          · exact atof64T s _ _ _ _ _ hdw htr hs (hf.drewN n) (hx.on (below_dn (Below.refl _ _) n)) (fun w => readFloatC s _ _ _ _ w hdw)
          · exact atof64N s _ _ _ _ _ hdw (by simpa using htr) (hf.drewN n) (fun w => readFloatC s _ _ _ _ w hdw)
        · rintro e w' ⟨u, hu, hr, hb⟩
          rcases hr with ⟨h1, rfl⟩ | ⟨h1, rfl⟩
          · exact ⟨_, 0, rfl, .inr (.inr (.inr ⟨hl, hi, hd, u, hu, .inl ⟨h1, rfl, rfl⟩⟩)), hb⟩
          · exact ⟨0, 20, rfl, .inr (.inr (.inr ⟨hl, hi, hd, u, hu, .inr ⟨h1, rfl, rfl⟩⟩)), hb⟩
      · have hd : decB (unsign (bl s)) = false := by simpa using hd
        refine (parseNoAny s w haf hs hi hd).mono ?_
        rintro e w' ⟨rfl, hb⟩
        exact ⟨0, 20, rfl, .inr (.inr (.inl ⟨hl, hi, hd, rfl, rfl⟩)), hb⟩
end Go.Proofs.YtgbldjbkapaclaaDoor.fl
/- The walk of the law ScoreReads. -/
namespace Go.Proofs.YtgbldjbkapaclaaDoor.fl
open Go.ChangeShapes Go.WideShapes Go.ChangeAt Go.RowKit
set_option linter.unusedVariables false
set_option linter.unusedSimpArgs false
@[go_sem] theorem run_store_float8 {P : Program} {w : World} {a : Addr} {m : Mode} (k : FloatKind) (n : Nat) : (store a (.float k n) m).run P w = stored P w a (.float k n) m := run_store P w a _ m rfl
theorem PRes.word {l : List Nat} {x c : Nat} (h : PRes l x c) : x < 18446744073709551616 ∧ nanB x = false := by
  obtain ⟨s, u, hu, rfl, _⟩ := h.fin
  have hi : infR = 9218868437227405312 := rfl
  have e := sgw_mod s u (by omega)
  refine ⟨by cases s <;> simp [sgw] <;> omega, ?_⟩
  unfold nanB
  rw [e]
  simp; omega
theorem parseR (s : ByteArray) (w : World) (hsz : s.size < 9223372036854775808) :
    Calls Tryd.prog 4 #[.string s] w (PaPost (bl s) w) := by
  have cb := fhid (bitsR s w hsz)
  have hf := f64from
  clear hsz
  go_enter Tryd.func4, Tryd.ntmps4
  go_wp2_with fail
  refine cb.out.mono ?_
  rintro e w1 (⟨x, rfl, hp, hb⟩ | ⟨rfl, hp, hb⟩)
  · have HP := fhid hp
    have HB := fhid hb
    clear hp hb
    go_wp2_with fail
    go_ret2
    exact ⟨x, 0, rfl, HP.out, HB.out⟩
  · have HP := fhid hp
    have HB := fhid hb
    clear hp hb
    go_wp2_with fail
    go_ret2
    exact ⟨0, 20, rfl, HP.out, HB.out⟩
/-- Is the end open, and the rest of its word. -/
def opB (l : List Nat) : Bool := l.head? == some 40
def opT (l : List Nat) : List Nat := if opB l then l.drop 1 else l
/-- What both ParseBounds answer. -/
def PbPost (l : List Nat) (w : World) (e : Ending) (w' : World) : Prop :=
  ∃ x c : Nat, PRes (opT l) x c ∧ (c = 0 ∧ e = .returned (.tuple #[.agg #[.float .f64 x, .bool (opB l)], .int .i64 0]) ∨ c = 20 ∧ e = .returned (.tuple #[.agg #[.float .f64 0, .bool false], .int .i64 20])) ∧ Below w.heap.size w w'
theorem PbPost.bel {l : List Nat} {w w' : World} {e : Ending} (h : PbPost l w e w') : Below w.heap.size w w' := by
  obtain ⟨x, c, _, _, hb⟩ := h
  exact hb
theorem PbPost.form {l : List Nat} {w w' : World} {e : Ending} (h : PbPost l w e w') : ∃ y o, ∃ d : Nat, e = .returned (.tuple #[.agg #[.float .f64 y, .bool o], .int .i64 (d : Int)]) ∧ y < 18446744073709551616 ∧ nanB y = false := by
  obtain ⟨x, c, hp, (⟨_, rfl⟩ | ⟨_, rfl⟩), hb⟩ := h
  · exact ⟨x, _, 0, rfl, hp.word⟩
  · exact ⟨0, false, 20, rfl, by decide, by decide⟩
theorem PbPost.two {l : List Nat} {w w' v v' : World} {e e' : Ending} (h : PbPost l w e w') (h' : PbPost l v e' v') : e = e' := by
  obtain ⟨x, c, hp, h, -⟩ := h
  obtain ⟨x', c', hp', h', -⟩ := h'
  obtain ⟨rfl, rfl⟩ := hp.uniq hp'
  rcases h with ⟨rfl, rfl⟩ | ⟨rfl, rfl⟩ <;> rcases h' with ⟨h, rfl⟩ | ⟨h, rfl⟩ <;> first | rfl | omega
theorem pair_kept {w w2 : World} {v u : Value} {t : TypeId} (hb : Below (w.alloc (.cells #[v, u] t)).heap.size (w.alloc (.cells #[v, u] t)) w2) :
    w2.cell? ⟨w.heap.size, 0, none⟩ = some v ∧ w2.cell? ⟨w.heap.size, 1, none⟩ = some u ∧ w2.frozen? ⟨w.heap.size, 0, none⟩ = false ∧ w2.frozen? ⟨w.heap.size, 1, none⟩ = false := by
  have hs : (w.alloc (.cells #[v, u] t)).heap.size = w.heap.size + 1 := Array.size_push _
  have hc : ∀ o, w2.cell? ⟨w.heap.size, o, none⟩ = (w.alloc (.cells #[v, u] t)).cell? ⟨w.heap.size, o, none⟩ := fun o => hb.cell (p := ⟨w.heap.size, o, none⟩) (by rw [hs]; exact Nat.lt_succ_self _)
  have hf : ∀ o, w2.frozen? ⟨w.heap.size, o, none⟩ = (w.alloc (.cells #[v, u] t)).frozen? ⟨w.heap.size, o, none⟩ := fun o => hb.frozen (p := ⟨w.heap.size, o, none⟩) (by rw [hs]; exact Nat.lt_succ_self _)
  rw [hc, hc, hf, hf, World.cell?_alloc_at _ _ _ _ rfl, World.cell?_alloc_at _ _ _ _ rfl, World.frozen?_alloc_at _ _ _ _ rfl, World.frozen?_alloc_at _ _ _ _ rfl]
  exact ⟨rfl, rfl, rfl, rfl⟩
set_option maxRecDepth 100000 in
theorem boundS (s : ByteArray) (w : World) (hf : FO w) (hx : FX w) (haf : AF w) (hsz : s.size < 9223372036854775808) :
    Calls Tryd.prog 8 #[.string s] w (PbPost (bl s) w) := by
  have HB := fhid (Below.alloc (Below.refl w.heap.size w) (Nat.le_refl _) (Obj.cells #[Value.float FloatKind.f64 0, Value.bool false] 28))
  have hc : ∀ W, Calls Tryd.prog 17 #[.string s, .string ⟨#[40]⟩] W fun e w' => ∃ t : ByteArray, e = .returned (.tuple #[.string t, .bool (opB (bl s))]) ∧ bl t = opT (bl s) ∧ t.size ≤ s.size ∧ w' = W := fun W => cutOne s 40 W
  have cp : Hid (∀ (t : ByteArray), t.size ≤ s.size → Calls Tryd.prog 5 #[.string t] (w.alloc (.cells #[Value.float FloatKind.f64 0, Value.bool false] 28)) (PaPost (bl t) (w.alloc (.cells #[Value.float FloatKind.f64 0, Value.bool false] 28)))) := fhid (fun t ht => parseAll t _ (hf.on HB.out) (hx.on HB.out) (haf.on HB.out) (by omega))
  clear hf hx haf hsz
  obtain ⟨o, ho⟩ : ∃ o, opB (bl s) = o := ⟨_, rfl⟩
  have HOP := fhid ho
  rw [ho] at hc
  clear ho
  go_enter Tryd.func8, Tryd.ntmps8
  go_wp2_with fail
  with_reducible refine (hc _).mono ?_
  clear hc
  rintro e w1 ⟨t, rfl, ht, hts, rfl⟩
  have HT := fhid ht
  have HTS := fhid hts
  clear ht hts
  go_wp2_with fail
  with_reducible refine (cp.out t HTS.out).mono ?_
  rintro e w2 ⟨x, c, rfl, hp, hb⟩
  rw [HT.out] at hp
  have HP := fhid hp
  have hcc : c = 0 ∨ c = 20 := by obtain ⟨_, _, _, _, h⟩ := hp.fin; exact h
  have hk := pair_kept hb
  have HB2 := fhid (HB.out.trans (hb.mono HB.out.size))
  clear hb HB hp cp
  obtain ⟨k1, k2, k3, k4⟩ := hk
  obtain ⟨n, hn⟩ : ∃ n, w.heap.size = n := ⟨_, rfl⟩
  rw [hn] at k1 k2 k3 k4 HB2 ⊢
  have HN := fhid hn
  clear hn
  rcases hcc with rfl | rfl
  · go_wp2_with fail
    refine bodyPost_ret (v := .tuple #[.agg #[.float .f64 x, .bool o], .int .i64 0]) (by rw [results_cell_tmp rfl]; go_simp) rfl ?_
    exact ⟨x, 0, HP.out, .inl ⟨rfl, by rw [HOP.out]⟩, by rw [HN.out]; exact (HB2.out.setCell (Nat.le_refl _) _).setCell (Nat.le_refl _) _⟩
  · go_wp2_with fail
    refine bodyPost_ret (v := .tuple #[.agg #[.float .f64 0, .bool false], .int .i64 20]) (by rw [results_cell_tmp rfl]; go_simp) rfl ?_
    exact ⟨x, 20, HP.out, .inr ⟨rfl, rfl⟩, by rw [HN.out]; exact (HB2.out.setCell (Nat.le_refl _) _).setCell (Nat.le_refl _) _⟩
set_option maxRecDepth 100000 in
theorem boundR (s : ByteArray) (w : World) (hsz : s.size < 9223372036854775808) :
    Calls Tryd.prog 7 #[.string s] w (PbPost (bl s) w) := by
  have HB := fhid (Below.alloc (Below.refl w.heap.size w) (Nat.le_refl _) (Obj.cells #[Value.float FloatKind.f64 0, Value.bool false] 28))
  have cp : Hid (∀ (t : ByteArray) W, t.size ≤ s.size → Calls Tryd.prog 4 #[.string t] W (PaPost (bl t) W)) := fhid (fun t W ht => parseR t _ (by omega))
  have HSZ := fhid hsz
  go_enter Tryd.func7, Tryd.ntmps7
  go_upto_region 1 with fail
  go_cut [4] (fun y wx => y = .bool (opB (bl s)) ∧ wx = w.alloc (.cells #[Value.float FloatKind.f64 0, Value.bool false] 28))
  case first => as_aux_lemma =>
    by_cases h0 : s.size = 0
    · have HBZ := fhid (bl_zero0 h0)
      have z0 : ¬ (0 : Int) < (s.size : Int) := by omega
      go_wp2_with fail
      go_meet
      exact ⟨by rw [HBZ.out]; rfl, rfl⟩
    · have hlt : 0 < s.size := by omega
      have hlt2 : (0 : Int) < (s.size : Int) := by omega
      have hat := bl_at s 0 hlt
      have HBC := fhid (bl_cons hlt)
      obtain ⟨c, hc⟩ : ∃ c, (bl s).getD 0 0 = c := ⟨_, rfl⟩
      rw [hc] at hat HBC
      clear hc h0
      by_cases h1 : c = 40
      · have HU : Hid (opB (bl s) = true) := fhid (by rw [HBC.out]; subst h1; rfl)
        subst h1
        go_wp2_with fail
        go_meet
        exact ⟨by rw [HU.out], rfl⟩
      · have g40 : ((c : Int) == 40) = false := by simp; omega
        have HU : Hid (opB (bl s) = false) := fhid (by
          rw [HBC.out]; unfold opB; simp; exact h1)
        clear h1
        go_wp2_with fail
        go_meet
        exact ⟨by rw [HU.out], rfl⟩
  case rest => as_aux_lemma =>
  obtain ⟨rfl, hwc⟩ := hcut
  have HWC := fhid hwc
  obtain ⟨o, ho⟩ : ∃ o, opB (bl s) = o := ⟨_, rfl⟩
  have HOP := fhid ho
  rw [ho]
  clear ho hwc
  go_upto_if 15 with fail
  go_cut [0] (fun x wx => ∃ t : ByteArray, x = .string t ∧ Hid (bl t = opT (bl s)) ∧ t.size ≤ s.size ∧ ∃ k, wx = wc.drewN k)
  case first => as_aux_lemma =>
    cases o
    · have HU : Hid (opT (bl s) = bl s) := fhid (by unfold opT; rw [HOP.out]; rfl)
      go_wp2_with fail
      go_meet
      exact ⟨s, rfl, fhid HU.out.symm, Nat.le_refl _, 0, rfl⟩
    · have HU : Hid (opT (bl s) = (bl s).drop 1) := fhid (by unfold opT; rw [HOP.out]; rfl)
      have hlt : 0 < s.size := by
        rw [← bl_length]
        have h := HOP.out
        unfold opB at h
        cases he : bl s with
        | nil => rw [he] at h; cases h
        | cons c t => simp
      have hlt2 : (1 : Int) ≤ (s.size : Int) := by omega
      go_wp2_with fail
      go_meet
      exact ⟨_, rfl, fhid (by rw [bl_tail, HU.out]), by simp, 0, rfl⟩
  case rest => as_aux_lemma =>
    obtain ⟨t, rfl, HT, hts, k, rfl⟩ := hcut
    have HTS := fhid hts
    clear hts
    go_wp2_with fail
    with_reducible refine (cp.out t _ HTS.out).mono ?_
    rintro e w2 ⟨x, c, rfl, hp, hb⟩
    rw [HT.out] at hp
    have HP := fhid hp
    have hcc : c = 0 ∨ c = 20 := by obtain ⟨_, _, _, _, h⟩ := hp.fin; exact h
    have hb' : Below (w.alloc (.cells #[Value.float FloatKind.f64 0, Value.bool false] 28)).heap.size (w.alloc (.cells #[Value.float FloatKind.f64 0, Value.bool false] 28)) w2 := by
      have h1 := HWC.out
      subst h1
      exact (below_drewN _ k).trans (hb.mono (below_drewN _ k).size)
    have hk := pair_kept hb'
    have HB2 := fhid (HB.out.trans (hb'.mono HB.out.size))
    clear hb hb' HB hp cp HWC
    obtain ⟨k1, k2, k3, k4⟩ := hk
    obtain ⟨n, hn⟩ : ∃ n, w.heap.size = n := ⟨_, rfl⟩
    rw [hn] at k1 k2 k3 k4 HB2 ⊢
    have HN := fhid hn
    clear hn
    rcases hcc with rfl | rfl
    · go_wp2_with fail
      refine bodyPost_ret (v := .tuple #[.agg #[.float .f64 x, .bool o], .int .i64 0]) (by rw [results_cell_tmp rfl]; go_simp) rfl ?_
      exact ⟨x, 0, HP.out, .inl ⟨rfl, by rw [HOP.out]⟩, by rw [HN.out]; exact (HB2.out.setCell (Nat.le_refl _) _).setCell (Nat.le_refl _) _⟩
    · go_wp2_with fail
      refine bodyPost_ret (v := .tuple #[.agg #[.float .f64 0, .bool false], .int .i64 20]) (by rw [results_cell_tmp rfl]; go_simp) rfl ?_
      exact ⟨x, 20, HP.out, .inr ⟨rfl, rfl⟩, by rw [HN.out]; exact (HB2.out.setCell (Nat.le_refl _) _).setCell (Nat.le_refl _) _⟩
/-- The law. -/
theorem readsC (s : ByteArray) (w : World) (hf : FS w) (hx : FX w) (haf : AF w) (hsz : s.size < 9223372036854775808) :
    Calls Tryd.prog 3 #[.string s] w fun e w' => e = .returned (.bool true) ∧ Below w.heap.size w w' := by
  have HF := fhid (show FO w from hf.fo)
  have HX := fhid hx
  have HAF := fhid haf
  have HSZ := fhid hsz
  have c1 := fhid (parseR s w hsz)
  clear hf hx haf hsz
  go_enter Tryd.func3, Tryd.ntmps3
  go_wp2_with fail
  refine c1.out.mono ?_
  clear c1
  rintro e w1 ⟨x, c, rfl, hp, hb1⟩
  have HB1 := fhid hb1
  have c2 := fhid (parseAll s w1 (HF.out.on hb1) (HX.out.on hb1) (HAF.out.on hb1) HSZ.out)
  clear hb1
  go_wp2_with fail
  refine c2.out.mono ?_
  clear c2
  rintro e w2 ⟨x', c', rfl, hp', hb2⟩
  obtain ⟨rfl, rfl⟩ := hp.uniq hp'
  obtain ⟨hw, hn⟩ := hp.word
  have HB2 : Hid (Below w.heap.size w w2) := fhid (HB1.out.trans (hb2.mono HB1.out.size))
  have cA : Hid (∀ W, Calls Tryd.prog 6 #[.float .f64 x, .float .f64 x] W fun e w' => e = .returned (.bool true) ∧ W = w') := fhid (fun W => by
    have := alikeC x x W hw hw
    rwa [alike_self x hn] at this)
  have c3 := fhid (boundR s w2 HSZ.out)
  have c4 : Hid (∀ W, Below w.heap.size w W → Calls Tryd.prog 8 #[.string s] W (PbPost (bl s) W)) := fhid (fun W hb => boundS s W (HF.out.on hb) (HX.out.on hb) (HAF.out.on hb) HSZ.out)
  have hc9 : ((c : Int) != (c : Int)) = false := by simp
  clear hb2 HB1 hp hp' hw hn HF HX HAF HSZ
  go_wp2_with fail
  refine (cA.out _).mono ?_
  clear cA
  rintro e w2' ⟨rfl, rfl⟩
  go_wp2_with fail
  refine c3.out.mono ?_
  clear c3
  rintro e w3 h3
  obtain ⟨y, o, d, rfl, hy, hyn⟩ := h3.form
  have HP3 := fhid h3
  have HB3 : Hid (Below w.heap.size w w3) := fhid (HB2.out.trans (h3.bel.mono HB2.out.size))
  have cA : Hid (∀ W, Calls Tryd.prog 6 #[.float .f64 y, .float .f64 y] W fun e w' => e = .returned (.bool true) ∧ W = w') := fhid (fun W => by
    have := alikeC y y W hy hy
    rwa [alike_self y hyn] at this)
  obtain ⟨W3, hW3⟩ : ∃ W3, w3.alloc (.cells #[.float .f64 y, .bool o] 28) = W3 := ⟨_, rfl⟩
  have HW3 := fhid hW3
  have hb33 : Below w3.heap.size w3 W3 := by rw [← hW3]; exact Below.alloc (Below.refl _ _) (Nat.le_refl _) _
  have HBW3 : Hid (Below w.heap.size w W3) := fhid (HB3.out.trans (hb33.mono HB3.out.size))
  clear h3 hy hyn hb33 HB2
  go_wp2_with fail
  refine (c4.out _ HBW3.out).mono ?_
  clear c4
  rintro e w4 h4
  obtain rfl := HP3.out.two h4
  have hb4 := h4.bel
  obtain ⟨W4, hW4⟩ : ∃ W4, w4.alloc (.cells #[.float .f64 y, .bool o] 28) = W4 := ⟨_, rfl⟩
  have hb44 : Below w4.heap.size w4 W4 := by rw [← hW4]; exact Below.alloc (Below.refl _ _) (Nat.le_refl _) _
  have hb34 : Below W3.heap.size W3 W4 := hb4.trans (hb44.mono hb4.size)
  have k1 : W4.cell? ⟨w4.heap.size, 0, none⟩ = some (.float .f64 y) := by rw [← hW4, World.cell?_alloc_at _ _ _ _ rfl]; rfl
  have k2 : W4.cell? ⟨w4.heap.size, 1, none⟩ = some (.bool o) := by rw [← hW4, World.cell?_alloc_at _ _ _ _ rfl]; rfl
  have j1 : W4.cell? ⟨w3.heap.size, 0, none⟩ = some (.float .f64 y) := by
    have h0 : W3.cell? ⟨w3.heap.size, 0, none⟩ = some (.float .f64 y) := by rw [← HW3.out, World.cell?_alloc_at _ _ _ _ rfl]; rfl
    exact (hb34.cell (cell_lt h0)).trans h0
  have j2 : W4.cell? ⟨w3.heap.size, 1, none⟩ = some (.bool o) := by
    have h0 : W3.cell? ⟨w3.heap.size, 1, none⟩ = some (.bool o) := by rw [← HW3.out, World.cell?_alloc_at _ _ _ _ rfl]; rfl
    exact (hb34.cell (cell_lt h0)).trans h0
  have HB4 : Hid (Below w.heap.size w W4) := fhid (HBW3.out.trans (hb34.mono HBW3.out.size))
  have hd9 : ((d : Int) == (d : Int)) = true := by simp
  have hoo : (o == o) = true := by simp
  clear h4 hb4 hb44 hb34 HP3 HW3
  go_wp2_with fail
  refine (cA.out _).mono ?_
  clear cA
  rintro e w5 ⟨rfl, rfl⟩
  go_wp2_with fail
  go_ret
  exact ⟨rfl, HB4.out⟩
end Go.Proofs.YtgbldjbkapaclaaDoor.fl
