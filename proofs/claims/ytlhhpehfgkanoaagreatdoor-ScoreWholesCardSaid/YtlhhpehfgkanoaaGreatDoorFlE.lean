/- The contract of strconv.FormatUint at base ten. -/
import Derived.Test.YtlhhpehfgkanoaaGreatDoorFlD
import Derived.Test.YtlhhpehfgkanoaaGreatDoorFlB
import Derived.Deep.RegionHeld3
import Derived.Deep.AppendLies
import Derived.Lib.ItoaNum
import Derived.Lib.TrimByte
import Derived.Test.YtlhhpehfgkanoaaGreatDoorShelf
import Derived.Lib.ItoaMem
import Derived.Lib.AppendIntMem
/- The walk of the reference's whole. -/
namespace Go.Proofs.YtlhhpehfgkanoaaGreatDoor.fl
open Go.ChangeShapes Go.WideShapes Go.ChangeAt Go.RowKit
set_option linter.unusedVariables false
/-- A row of digits. -/
def Digs (s : ByteArray) : Prop := ∀ c ∈ bl s, isDig c
theorem dnum_take {m : List Nat} {k : Nat} (hk : k < m.length) (h : ∀ c ∈ m, isDig c) : dnum (m.take (k + 1)) = dnum (m.take k) * 10 + (m.getD k 0 - 48) ∧ 48 ≤ m.getD k 0 ∧ m.getD k 0 ≤ 57 := by
  have hd : isDig (m.getD k 0) := by
    rw [List.getD_eq_getElem?_getD, List.getElem?_eq_getElem hk]
    exact h _ (List.getElem_mem hk)
  unfold isDig at hd
  rw [take_succ_getD hk, dnum_snoc, if_neg (by omega)]
  exact ⟨rfl, hd⟩
theorem ten_kc {k : Nat} (hk : k ≤ 1000) {n : Nat} (hn : n < 10 ^ k) : n < Bs ^ KB := by
  have h1 : 10 ^ k ≤ Bs ^ k := Nat.pow_le_pow_left (by decide) _
  have h2 : Bs ^ k ≤ Bs ^ KB := Nat.pow_le_pow_right bs_pos (by unfold KB; omega)
  exact Nat.lt_of_lt_of_le hn (Nat.le_trans h1 h2)
theorem kbc : Bs ^ KB ≤ Bs ^ KC := Nat.pow_le_pow_right bs_pos (by decide)
set_option maxRecDepth 100000 in
set_option maxHeartbeats 1000000 in
theorem wholeR (s : ByteArray) (w : World) (hs : Digs s) (hl : s.size ≤ 100) :
    Calls Tryz.prog 59 #[.string s] w (NumPost .u64 (dnum (bl s)) w) := by
  have HS := fhid hs
  have hbl := bl_length s
  have HB := fhid hbl
  clear hs hbl
  obtain ⟨n, hn⟩ : ∃ n, s.size = n := ⟨_, rfl⟩
  have HN := fhid hn
  have hnil : Hid (Num .u64 w (.slice none 0 0) 0) := fhid ⟨[], ⟨none, 0, rfl, by decide, fun h => absurd h (by decide)⟩, can_nil, rfl⟩
  rw [hn] at hl
  clear hn
  have HAT : Hid (∀ k (h : k < n), ∃ h2 : k < s.size, s[k].toNat = (bl s).getD k 0) := fhid fun k h => ⟨by rw [HN.out]; exact h, bl_at s k _⟩
  go_enter Tryz.func59, Tryz.ntmps59
  go_wp2_with fail
  rw [HN.out]
  go_loopw [3, 7] (fun v j wr => ∃ (j' : Nat), j = .int .i64 j' ∧ j' ≤ n ∧ Hid (Num .u64 wr v (dnum ((bl s).take j'))) ∧ Hid (Below w.heap.size w wr)) (fun _ j _ => n - (intOf j).toNat)
  case atStart => exact ⟨0, rfl, by omega, hnil, fhid (Below.refl _ _)⟩
  case round =>
    obtain ⟨j, rfl, hj, hV, hB⟩ := hrel
    by_cases hlt : j < n
    · obtain ⟨h2, hat⟩ := HAT.out j hlt
      have hdt := dnum_take (m := bl s) (k := j) (by rw [HB.out, HN.out]; exact hlt) HS.out
      have hbound := ten_kc (k := n) (by omega) (Nat.lt_of_le_of_lt (Nat.le_refl (dnum ((bl s).take j))) (Nat.lt_of_lt_of_le (dnum_lt _ (fun c hc => HS.out c (List.mem_of_mem_take hc))) (Nat.pow_le_pow_right (by decide) (by rw [List.length_take]; omega))))
      obtain ⟨c, hc⟩ : ∃ c, (bl s).getD j 0 = c := ⟨_, rfl⟩
      rw [hc] at hat hdt
      obtain ⟨hd1, hd2, hd3⟩ := hdt
      have HD1 := fhid hd1
      have HBD := fhid (Nat.lt_of_lt_of_le hbound kbc)
      clear hd1 hbound hc
      go_wp2_with fail
      rw [show (c : Int) - 48 = ((c - 48 : Nat) : Int) by omega]
      refine (timesR _ _ 10 (c - 48) _ hV.out (by decide) (by decide) (Nat.lt_of_le_of_lt (Nat.sub_le_sub_right hd3 48) (by decide)) HBD.out).mono ?_
      rintro e w3 ⟨y, rfl, hy, hb3⟩
      rw [← HD1.out] at hy
      have HY := fhid hy
      have HB3 := fhid (hB.out.trans (hb3.mono hB.out.size))
      clear hy hb3
      go_wp2_with fail
      go_roundw
      case rel => exact ⟨j + 1, by go_num, by omega, HY, HB3⟩
      case measure => simp [intOf]; omega
    · obtain rfl : j = n := by omega
      have he : (bl s).take j = bl s := List.take_of_length_le (by rw [HB.out, HN.out]; exact Nat.le_refl _)
      have HE := fhid he
      clear he
      go_wp2_with fail
      go_ret
      exact ⟨_, rfl, by rw [← HE.out]; exact hV.out, hB.out⟩
end Go.Proofs.YtlhhpehfgkanoaaGreatDoor.fl
/- The walk of the reference's floor. -/
namespace Go.Proofs.YtlhhpehfgkanoaaGreatDoor.fl
open Go.ChangeShapes Go.WideShapes Go.ChangeAt Go.RowKit
set_option linter.unusedVariables false
/-- D is what stands ahead of the place q. -/
def FloorIs (u : Nat) (q : Int) (D : Nat) : Prop := valN D q ≤ V u * valD q ∧ V u * valD q < valN (D + 1) q
theorem down_le {X D : Nat} {q : Int} (h : valN D (q + 1) ≤ X * valD (q + 1)) : valN (D * 10) q ≤ X * valD q := by
  have h1 := val_shift D 1 q
  rw [Nat.pow_one] at h1
  have h2 : valN D (q + 1) * valD q ≤ X * valD (q + 1) * valD q := Nat.mul_le_mul_right _ h
  rw [show ((1 : Nat) : Int) = 1 from rfl] at h1
  rw [← h1, Nat.mul_assoc, Nat.mul_comm (valD (q + 1)), ← Nat.mul_assoc] at h2
  exact Nat.le_of_mul_le_mul_right h2 (valD_pos _)
theorem down_lt {X D : Nat} {q : Int} (h : X * valD (q + 1) < valN D (q + 1)) : X * valD q < valN (D * 10) q := by
  have h1 := val_shift D 1 q
  rw [Nat.pow_one, show ((1 : Nat) : Int) = 1 from rfl] at h1
  have h2 : X * valD (q + 1) * valD q < valN D (q + 1) * valD q := Nat.mul_lt_mul_of_pos_right h (valD_pos _)
  rw [← h1, Nat.mul_assoc, Nat.mul_comm (valD (q + 1)), ← Nat.mul_assoc] at h2
  exact Nat.lt_of_mul_lt_mul_right h2
/-- What the inner loop keeps: all greater digits are too much. -/
def DigR (u : Nat) (q : Int) (D x : Nat) : Prop := x ≤ 9 ∧ V u * valD q < valN (D * 10 + x + 1) q
theorem DigR.start {u D : Nat} {q : Int} (h : FloorIs u (q + 1) D) : DigR u q D 9 := ⟨by decide, by have := down_lt h.2; rwa [Nat.add_mul] at this⟩
theorem DigR.fin {u D x : Nat} {q : Int} (h : DigR u q D x) (hf : FloorIs u (q + 1) D) (hx : x = 0 ∨ ¬ V u * valD q < valN (D * 10 + x) q) : FloorIs u q (D * 10 + x) := by
  refine ⟨?_, h.2⟩
  rcases hx with rfl | hx
  · exact down_le hf.1
  · exact Nat.le_of_not_lt hx
theorem DigR.next {u D x : Nat} {q : Int} (h : DigR u q D (x + 1)) (hx : V u * valD q < valN (D * 10 + (x + 1)) q) : DigR u q D x := ⟨by have := h.1; omega, hx⟩
theorem conv1 (W : World) (D : Int) (b : UInt8) (hD : D = (b.toNat : Int)) :
    Sem.run Tryz.prog (convert 66 9 (.slice (some ⟨W.heap.size, 0, none⟩) 1 1)) (W.alloc (.cells #[.int .u8 D] 5)) = .ok (.string ⟨#[b]⟩) (W.alloc (.cells #[.int .u8 D] 5)) := by
  have h := run_convert_bytes_back (P := Tryz.prog) (W.alloc (.cells #[.int .u8 D] 5)) 66 9 5 ⟨W.heap.size, 0, none⟩ 1 [b] Tryz.underlying66 Tryz.underlying5 Tryz.underlying9 (fun j hj => by
    have hj0 : j = 0 := by simpa using hj
    subst hj0
    refine limb_new W _ 5 0 _ ?_
    simp [hD])
  exact h
theorem byte_of (c : Nat) (hc : c < 256) : ∃ b : UInt8, b.toNat = c := ⟨UInt8.ofNat c, by simp [Nat.mod_eq_of_lt hc]⟩
theorem bl_push (s : ByteArray) (b : UInt8) : bl (s ++ ⟨#[b]⟩) = bl s ++ [b.toNat] := by
  unfold bl
  simp
theorem size_push (s : ByteArray) (b : UInt8) : (s ++ ⟨#[b]⟩).size = s.size + 1 := by simp [ByteArray.size_append]; rfl
theorem digs_push {s : ByteArray} (h : Digs s) {x : Nat} (hx : x ≤ 9) {b : UInt8} (hb : b.toNat = x + 48) : Digs (s ++ ⟨#[b]⟩) ∧ dnum (bl (s ++ ⟨#[b]⟩)) = dnum (bl s) * 10 + x := by
  unfold Digs
  rw [bl_push s b, hb]
  refine ⟨fun c hc => ?_, ?_⟩
  · rcases List.mem_append.mp hc with h1 | h1
    · exact h c h1
    · simp only [List.mem_singleton] at h1
      subst h1
      unfold isDig
      omega
  · rw [dnum_snoc, if_neg (by omega)]
    omega
set_option maxRecDepth 100000 in
set_option maxHeartbeats 2000000 in
theorem floorR (u : Nat) (p : Int) (k : Nat) (w : World) (hu : u < infR) (hp1 : -400 ≤ p) (hp2 : p ≤ 400) (hk : k ≤ 17) (hx : V u * valD p < valN 1 p) :
    Calls Tryz.prog 56 #[.int .u64 u, .int .i64 p, .int .i64 k] w fun e w' => ∃ s : ByteArray, e = .returned (.string s) ∧ s.size = k ∧ Digs s ∧ FloorIs u (p - k) (dnum (bl s)) ∧ Below w.heap.size w w' := by
  have hub : u < 9223372036854775808 := Nat.lt_trans hu (by decide)
  obtain ⟨b1, b2, b3⟩ := pE_bd u hub
  have c1 := partsR u w hub
  have hR := fun d q => (ag_rung u d q).1
  have cA : Hid (∀ y d q W, Num .u64 W y d → d < Bs ^ KB → -900 ≤ q → q ≤ 900 → Calls Tryz.prog 54 #[.int .u64 (pM u), .int .i64 (pE u), y, .int .i64 q] W (CmpPost (agL (pM u) (pE u) q) (agR d (pE u) q) W)) := fhid fun y d q W h hd h1 h2 => againstR _ _ y d q W (by omega) (by omega) (by omega) h1 h2 h hd
  have H0 : Hid (FloorIs u p 0) := fhid ⟨by rw [valN_eq]; simp, hx⟩
  obtain ⟨M, hM⟩ : ∃ M, pM u = M := ⟨_, rfl⟩
  obtain ⟨E, hE⟩ : ∃ M, pE u = M := ⟨_, rfl⟩
  rw [hM, hE] at c1 cA hR
  have HRR := fhid hR
  have HM := fhid hM
  rw [hE] at b1 b2
  clear hM hE hx hR hu
  go_enter Tryz.func56, Tryz.ntmps56
  go_wp2_with fail
  refine c1.mono ?_
  clear c1
  rintro e w1 ⟨rfl, rfl⟩
  go_wp2_with fail
  go_loopw [9, 10] (fun o i wr => ∃ (s : ByteArray) (j : Nat), o = .string s ∧ i = .int .i64 ((j : Int) + 1) ∧ j ≤ k ∧ s.size = j ∧ Hid (Digs s) ∧ Hid (FloorIs u (p - j) (dnum (bl s))) ∧ Hid (Below w1.heap.size w1 wr)) (fun _ i _ => k + 1 - (intOf i).toNat)
  case atStart => exact ⟨⟨#[]⟩, 0, rfl, rfl, by omega, rfl, fhid (fun c hc => by simp [bl] at hc), fhid (by rw [show p - ((0 : Nat) : Int) = p by omega]; exact H0.out), fhid (Below.refl _ _)⟩
  case round =>
    obtain ⟨s, j, rfl, rfl, hj, hsz, hD, hF, hB⟩ := hrel
    by_cases hlt : j < k
    · have hle : ((j : Int) + 1 ≤ (k : Int)) := by omega
      have hle2 : decide ((j : Int) + 1 ≤ (k : Int)) = true := decide_eq_true hle
      go_wp2_with fail
      go_loopw [11] (fun c wr => ∃ (x : Nat), c = .int .u8 ((x : Int) + 48) ∧ x ≤ 9 ∧ Hid (DigR u (p - ((j : Int) + 1)) (dnum (bl s)) x) ∧ Hid (Below w1.heap.size w1 wr)) (fun c _ => (intOf c).toNat)
      case atStart => exact ⟨9, rfl, by omega, fhid (DigR.start (by rw [show p - ((j : Int) + 1) + 1 = p - j by omega]; exact hF.out)), hB⟩
      case round =>
        obtain ⟨x, rfl, hx9, hG, hB2⟩ := hrel
        by_cases hx0 : 0 < x
        · obtain ⟨b, hb⟩ := byte_of (x + 48) (by omega)
          have hcv := conv1 wr ((x : Int) + 48) b (by rw [hb]; simp)
          have hdp := digs_push hD.out hx9 hb
          obtain ⟨t, ht⟩ : ∃ t : ByteArray, s ++ ⟨#[b]⟩ = t := ⟨_, rfl⟩
          have hts : t.size = j + 1 := by rw [← ht, size_push, hsz]
          rw [ht] at hdp
          have HDP := fhid hdp
          have HT := fhid ht
          have HBT := fhid hb
          clear hdp ht hb
          have hsz2 := hB2.out.size
          go_wp2_with fail
          rw [HT.out]
          refine (wholeR t _ HDP.out.1 (by omega)).mono ?_
          rintro e w2 ⟨y, rfl, hy, hb2⟩
          have HY := fhid hy
          have HB3 := fhid ((hB2.out.alloc hsz2 _).trans (hb2.mono (by simp; omega)))
          clear hy hb2
          go_wp2_with fail
          have hbd : dnum (bl t) < Bs ^ KB := ten_kc (k := (bl t).length) (by rw [bl_length]; omega) (dnum_lt _ HDP.out.1)
          refine (cA.out y (dnum (bl t)) (p - ((j : Int) + 1)) _ HY.out hbd (by omega) (by omega)).mono ?_
          rintro e w3 ⟨r, rfl, hr1, hr2, hb3⟩
          have R1 := fhid (hr1.trans (HRR.out _ _))
          have HB4 := fhid (HB3.out.trans (hb3.mono HB3.out.size))
          clear hr1 hr2 hb3 hbd
          by_cases hr0 : r < 0
          · go_wp2_with fail
            go_roundw
            case rel =>
              obtain ⟨x', rfl⟩ : ∃ x', x = x' + 1 := ⟨x - 1, by omega⟩
              exact ⟨x', by go_num, by omega, fhid (hG.out.next (by have := R1.out.mp hr0; rwa [HDP.out.2] at this)), HB4⟩
            case measure => simp [intOf]; omega
          · have hcv2 := conv1 w3 ((x : Int) + 48) b (by rw [HBT.out]; simp)
            have hsz3 := HB4.out.size
            have HB5 := fhid (HB4.out.alloc hsz3 (.cells #[.int .u8 ((x : Int) + 48)] 5))
            have HFN := fhid (hG.out.fin (by rw [show p - ((j : Int) + 1) + 1 = p - j by omega]; exact hF.out) (.inr (fun h => hr0 (R1.out.mpr (by rw [HDP.out.2]; exact h)))))
            go_wp2_with fail
            rw [HT.out]
            go_roundw
            case rel =>
              exact ⟨t, j + 1, rfl, by go_num, by omega, hts, fhid HDP.out.1, fhid (by rw [HDP.out.2]; exact HFN.out), HB5⟩
            case measure => simp [intOf]; omega
        · obtain rfl : x = 0 := by omega
          obtain ⟨b, hb⟩ := byte_of (0 + 48) (by omega)
          have hcv := conv1 wr (((0 : Nat) : Int) + 48) b (by rw [hb]; rfl)
          have hcv' := conv1 wr 48 b (by rw [hb]; rfl)
          have hdp := digs_push hD.out hx9 hb
          obtain ⟨t, ht⟩ : ∃ t : ByteArray, s ++ ⟨#[b]⟩ = t := ⟨_, rfl⟩
          have hts : t.size = j + 1 := by rw [← ht, size_push, hsz]
          rw [ht] at hdp
          have HDP := fhid hdp
          have HT := fhid ht
          clear hdp ht hb
          have hsz2 := hB2.out.size
          have HB5 := fhid (hB2.out.alloc hsz2 (.cells #[.int .u8 (((0 : Nat) : Int) + 48)] 5))
          have HFN := fhid (hG.out.fin (by rw [show p - ((j : Int) + 1) + 1 = p - j by omega]; exact hF.out) (.inl rfl))
          go_wp2_with fail
          rw [HT.out]
          go_roundw
          case rel => exact ⟨t, j + 1, rfl, by go_num, by omega, hts, fhid HDP.out.1, fhid (by rw [HDP.out.2]; exact HFN.out), HB5⟩
          case measure => simp [intOf]; omega
    · obtain rfl : j = k := by omega
      have hle : ¬ ((j : Int) + 1 ≤ (j : Int)) := by omega
      go_wp2_with fail
      go_ret
      exact ⟨s, rfl, hsz, hD.out, hF.out, hB.out⟩
end Go.Proofs.YtlhhpehfgkanoaaGreatDoor.fl
/- The walk of the reference's up. -/
namespace Go.Proofs.YtlhhpehfgkanoaaGreatDoor.fl
open Go.ChangeShapes Go.WideShapes Go.ChangeAt Go.RowKit
set_option linter.unusedVariables false
theorem dnum_fold : ∀ (b : List Nat) (a : Nat), (∀ c ∈ b, isDig c) → b.foldl (fun a c => if c = 46 then a else a * 10 + (c - 48)) a = a * 10 ^ b.length + dnum b := by
  intro b
  induction b with
  | nil => intro a _; simp [dnum]
  | cons c t ih =>
    intro a h
    have hc := h c (by simp)
    unfold isDig at hc
    have ht : ∀ x ∈ t, isDig x := fun x hx => h x (by simp [hx])
    have h1 := ih (a * 10 + (c - 48)) ht
    have h2 := ih (0 * 10 + (c - 48)) ht
    unfold dnum
    simp only [List.foldl_cons, if_neg (show ¬ c = 46 by omega), List.length_cons, Nat.pow_succ]
    rw [h1, h2, Nat.add_mul, Nat.zero_mul, Nat.zero_add, Nat.mul_assoc, Nat.mul_comm 10 (10 ^ t.length)]
    omega
theorem dnum_append (a b : List Nat) (h : ∀ c ∈ b, isDig c) : dnum (a ++ b) = dnum a * 10 ^ b.length + dnum b := by
  rw [← dnum_fold b (dnum a) h]; unfold dnum; rw [List.foldl_append]
theorem dnum_zeros (m : Nat) : dnum (List.replicate m 48) = 0 := by
  induction m with
  | zero => rfl
  | succ m ih => rw [List.replicate_succ', dnum_snoc, ih]; rfl
theorem dnum_nines (m : Nat) : dnum (List.replicate m 57) + 1 = 10 ^ m := by
  induction m with
  | zero => rfl
  | succ m ih => rw [List.replicate_succ', dnum_snoc, if_neg (by decide), Nat.pow_succ, ← ih]; omega
theorem digs_rep (m c : Nat) (hc : isDig c) : ∀ x ∈ List.replicate m c, isDig x := fun x hx => List.eq_of_mem_replicate hx ▸ hc
/-- What the loop of up keeps: behind j all were nines, and are noughts now. -/
def UpR (l : List Nat) (j : Nat) (xs : List Nat) : Prop := j ≤ l.length ∧ l = l.take j ++ List.replicate (l.length - j) 57 ∧ xs = l.take j ++ List.replicate (l.length - j) 48
theorem UpR.start (l : List Nat) : UpR l l.length l := ⟨Nat.le_refl _, by simp, by simp⟩
theorem set_snoc (a b : List Nat) (c d : Nat) : (a ++ [c] ++ b).set a.length d = a ++ [d] ++ b := by simp
theorem UpR.split {l xs : List Nat} {j : Nat} (h : UpR l (j + 1) xs) : xs = l.take j ++ [l.getD j 0] ++ List.replicate (l.length - (j + 1)) 48 ∧ (l.take j).length = j ∧ l = l.take j ++ [l.getD j 0] ++ List.replicate (l.length - (j + 1)) 57 := by
  obtain ⟨h1, h2, h3⟩ := h
  rw [take_succ_getD h1] at h2 h3
  exact ⟨h3, by rw [List.length_take]; omega, h2⟩
theorem UpR.next {l xs : List Nat} {j : Nat} (h : UpR l (j + 1) xs) (h9 : l.getD j 0 = 57) : UpR l j (xs.set j 48) := by
  obtain ⟨h1, h2, h3⟩ := h.split
  have hj := h.1
  rw [h9] at h1 h3
  have e : l.length - j = l.length - (j + 1) + 1 := by omega
  refine ⟨by omega, ?_, ?_⟩
  · rw [e, List.replicate_succ, ← List.singleton_append, ← List.append_assoc]
    exact h3
  · have := set_snoc (l.take j) (List.replicate (l.length - (j + 1)) 48) 57 48
    rw [h2] at this
    rw [h1, this, e, List.replicate_succ]
    simp
theorem UpR.done {l xs : List Nat} {j : Nat} (h : UpR l (j + 1) xs) (hl : ∀ c ∈ l, isDig c) (h9 : l.getD j 0 < 57) : (∀ c ∈ xs.set j (l.getD j 0 + 1), isDig c) ∧ dnum (xs.set j (l.getD j 0 + 1)) = dnum l + 1 := by
  obtain ⟨h1, h2, h3⟩ := h.split
  have hj := h.1
  have hset := set_snoc (l.take j) (List.replicate (l.length - (j + 1)) 48) (l.getD j 0) (l.getD j 0 + 1)
  rw [h2, ← h1] at hset
  have hc : isDig (l.getD j 0) := by
    rw [List.getD_eq_getElem?_getD, List.getElem?_eq_getElem (by omega)]
    exact hl _ (List.getElem_mem _)
  unfold isDig at hc
  have d48 : isDig 48 := by unfold isDig; omega
  have d57 : isDig 57 := by unfold isDig; omega
  rw [hset]
  refine ⟨?_, ?_⟩
  · intro c hcm
    rcases List.mem_append.mp hcm with h4 | h4
    · rcases List.mem_append.mp h4 with h5 | h5
      · exact hl c (List.mem_of_mem_take h5)
      · simp only [List.mem_singleton] at h5; subst h5; unfold isDig; omega
    · exact digs_rep _ _ d48 c h4
  · have e1 : dnum l = dnum (l.take j ++ [l.getD j 0]) * 10 ^ (l.length - (j + 1)) + dnum (List.replicate (l.length - (j + 1)) 57) := by
      have := dnum_append (l.take j ++ [l.getD j 0]) (List.replicate (l.length - (j + 1)) 57) (digs_rep _ _ d57)
      rw [← h3, List.length_replicate] at this
      exact this
    rw [dnum_append _ _ (digs_rep _ _ d48), List.length_replicate, dnum_zeros, e1, dnum_snoc, dnum_snoc, if_neg (by omega), if_neg (by omega)]
    have e2 := dnum_nines (l.length - (j + 1))
    rw [Nat.add_assoc (_ * _) (dnum _) 1, e2, show dnum (l.take j) * 10 + (l.getD j 0 + 1 - 48) = dnum (l.take j) * 10 + (l.getD j 0 - 48) + 1 by omega, Nat.add_mul _ 1]
    omega
theorem UpR.all {l xs : List Nat} (h : UpR l 0 xs) : (∀ c ∈ 49 :: xs, isDig c) ∧ dnum (49 :: xs) = dnum l + 1 ∧ xs.length = l.length ∧ dnum l + 1 = 10 ^ l.length := by
  obtain ⟨h1, h2, h3⟩ := h
  simp only [List.take_zero, List.nil_append, Nat.sub_zero] at h2 h3
  have d48 : isDig 48 := by unfold isDig; omega
  have e1 : dnum l + 1 = 10 ^ l.length := by
    have := dnum_nines l.length
    rwa [← h2] at this
  refine ⟨?_, ?_, by rw [h3]; simp, e1⟩
  · intro c hc
    rw [h3] at hc
    rcases List.mem_cons.mp hc with h4 | h4
    · subst h4; unfold isDig; omega
    · exact digs_rep _ _ d48 c h4
  · rw [e1, h3, ← List.singleton_append, dnum_append _ _ (digs_rep _ _ d48), dnum_zeros, List.length_replicate]
    show 1 * 10 ^ l.length + 0 = _
    omega
/-- Bytes that may be written. -/
def Byt (g : Nat) (w : World) (xs : List Nat) : Prop := ∀ i, i < xs.length → w.cell? ⟨g, i, none⟩ = some (.int .u8 (xs.getD i 0 : Nat)) ∧ w.frozen? ⟨g, i, none⟩ = false
theorem Byt.store {g : Nat} {w : World} {xs : List Nat} (h : Byt g w xs) {j : Nat} (hj : j < xs.length) (c : Nat) : Byt g (w.setCell ⟨g, j, none⟩ (.int .u8 (c : Nat))) (xs.set j c) := by
  intro i hi
  rw [List.length_set] at hi
  obtain ⟨h1, h2⟩ := h i hi
  refine ⟨?_, by rw [World.frozen?_setCell]; exact h2⟩
  by_cases e : i = j
  · subst e
    rw [World.cell?_setCell_same w _ _ h1]
    simp [List.getD_eq_getElem?_getD, hi]
  · rw [World.cell?_setCell_other (w := w) (a := ⟨g, j, none⟩) (b := ⟨g, i, none⟩) (h := by intro e2; simp at e2; try omega), h1]
    simp [List.getD_eq_getElem?_getD, Ne.symm e]
/-- What a string turned to bytes is. -/
theorem byt_new (s : ByteArray) (cap : Nat) (w : World) (hc : s.size ≤ cap) (e : TypeId) : Byt w.heap.size (w.drew.alloc (.cells (bytesRow s cap) e ((bytesRow s cap).size, (bytesRow s cap).size + 1))) (bl s) := by
  intro i hi
  rw [bl_length] at hi
  have hget := bytesRow_at s cap i hi
  have hcell : (w.drew.alloc (.cells (bytesRow s cap) e ((bytesRow s cap).size, (bytesRow s cap).size + 1))).heap[w.heap.size]? = some (.cells (bytesRow s cap) e ((bytesRow s cap).size, (bytesRow s cap).size + 1)) := heap_alloc_new w.drew _
  refine ⟨?_, ?_⟩
  · unfold World.cell?
    simp only [hcell]
    rw [hget, ← bl_at s i hi]
    rfl
  · unfold World.frozen?
    simp only [hcell]
    have : i < (bytesRow s cap).size := by unfold bytesRow; simp; omega
    simp
    omega
/-- What up answers. -/
def UpPost (s : ByteArray) (w : World) (e : Ending) (w' : World) : Prop := ∃ t : ByteArray, e = .returned (.string t) ∧ Digs t ∧ dnum (bl t) = dnum (bl s) + 1 ∧ (t.size = s.size ∨ t.size = s.size + 1 ∧ dnum (bl s) + 1 = 10 ^ s.size) ∧ Below w.heap.size w w'
theorem conv_back {g : Nat} {W : World} {xs : List Nat} (h : Byt g W xs) (h256 : ∀ c ∈ xs, c < 256) (cap n : Nat) (hn : xs.length = n) :
    ∃ t : ByteArray, bl t = xs ∧ t.size = n ∧ Sem.run Tryz.prog (convert 66 9 (.slice (some ⟨g, 0, none⟩) n cap)) W = .ok (.string t) W := by
  have hback : (xs.map UInt8.ofNat).map UInt8.toNat = xs := by
    rw [List.map_map]
    conv => rhs; rw [← List.map_id xs]
    apply List.map_congr_left
    intro c hc
    simp [Nat.mod_eq_of_lt (h256 c hc)]
  have hb : bl ⟨(xs.map UInt8.ofNat).toArray⟩ = xs := by unfold bl; simpa using hback
  refine ⟨⟨(xs.map UInt8.ofNat).toArray⟩, hb, by rw [← bl_length, hb, hn], ?_⟩
  have h1 := run_convert_bytes_back (P := Tryz.prog) W 66 9 5 ⟨g, 0, none⟩ cap (xs.map UInt8.ofNat) Tryz.underlying66 Tryz.underlying5 Tryz.underlying9 (fun j hj => by
    rw [List.length_map] at hj
    have h2 := (h j hj).1
    have hadd : (⟨g, 0, none⟩ : Addr).add j = ⟨g, j, none⟩ := by unfold Addr.add; split <;> simp_all
    rw [hadd, h2]
    have : (xs.map UInt8.ofNat)[j]'(by simpa using hj) = UInt8.ofNat xs[j] := by simp
    rw [this, List.getD_eq_getElem?_getD, List.getElem?_eq_getElem hj]
    simp [Nat.mod_eq_of_lt (h256 _ (List.getElem_mem hj))])
  rw [List.length_map, hn] at h1
  exact h1
theorem UpR.get {l xs : List Nat} {j : Nat} (h : UpR l (j + 1) xs) : xs.getD j 0 = l.getD j 0 := by
  obtain ⟨h1, h2, _⟩ := h.split
  rw [h1, List.append_assoc, List.getD_eq_getElem?_getD, List.getElem?_append_right (by omega)]
  simp [h2]
theorem dig_256 {l : List Nat} (h : ∀ c ∈ l, isDig c) : ∀ c ∈ l, c < 256 := fun c hc => by
  have := h c hc
  unfold isDig at this
  omega
set_option maxRecDepth 100000 in
set_option maxHeartbeats 2000000 in
theorem upR (s : ByteArray) (w : World) (hs : Digs s) (hl : s.size ≤ 100) :
    Calls Tryz.prog 57 #[.string s] w (UpPost s w) := by
  have hbl := bl_length s
  have hcv := run_bytes_of_string (P := Tryz.prog) w 9 66 5 s Tryz.underlying9 Tryz.underlying66 Tryz.underlying5
  have hby := byt_new s _ w (grownCap_ge w s.size 0 5) 5
  have hbel : Below w.heap.size w (w.drew.alloc (.cells (bytesRow s (grownCap w s.size 0 5)) 5 ((bytesRow s (grownCap w s.size 0 5)).size, (bytesRow s (grownCap w s.size 0 5)).size + 1))) := (below_drewN w 1).alloc (Nat.le_refl _) _
  obtain ⟨W0, hW0⟩ : ∃ W0, w.drew.alloc (.cells (bytesRow s (grownCap w s.size 0 5)) 5 ((bytesRow s (grownCap w s.size 0 5)).size, (bytesRow s (grownCap w s.size 0 5)).size + 1)) = W0 := ⟨_, rfl⟩
  rw [hW0] at hcv hby hbel
  obtain ⟨cap, hcap⟩ : ∃ cap, grownCap w s.size 0 5 = cap := ⟨_, rfl⟩
  rw [hcap] at hcv
  obtain ⟨g, hg⟩ : ∃ g, w.heap.size = g := ⟨_, rfl⟩
  rw [hg] at hcv hby hbel
  unfold UpPost
  rw [hg]
  obtain ⟨n, hn⟩ : ∃ n, s.size = n := ⟨_, rfl⟩
  rw [hn] at hcv hl hbl ⊢
  have HBY := fhid hby
  have HBE := fhid hbel
  have HS := fhid hs
  have HB := fhid hbl
  have HN := fhid hn
  clear hby hbel hs hbl hn hg hW0 hcap
  have hcv' : Sem.run Tryz.prog (convert 9 66 (.string s)) w = .ok (.slice (some ⟨g, 0, none⟩) n cap) W0 := hcv
  clear hcv
  go_enter Tryz.func57, Tryz.ntmps57
  go_wp2_with fail
  go_loopw [4] (fun i wr => ∃ (j : Nat) (xs : List Nat), i = .int .i64 ((j : Int) - 1) ∧ j ≤ n ∧ xs.length = n ∧ Hid (UpR (bl s) j xs) ∧ Hid (Byt g wr xs) ∧ Hid (Below g w wr)) (fun i _ => (intOf i + 1).toNat)
  case atStart => exact ⟨n, bl s, rfl, Nat.le_refl _, HB.out, fhid (by have := UpR.start (bl s); rwa [HB.out] at this), HBY, HBE⟩
  case round =>
    obtain ⟨j, xs, rfl, hj, hxl, hU, hY, hB⟩ := hrel
    by_cases hp : 0 < j
    · obtain ⟨j, rfl⟩ : ∃ q, j = q + 1 := ⟨j - 1, by omega⟩
      have hj1 : ((j + 1 : Nat) : Int) - 1 = (j : Int) := by omega
      rw [hj1]
      obtain ⟨hcell, hfr⟩ := hY.out j (by omega)
      rw [hU.out.get] at hcell
      obtain ⟨c, hc⟩ : ∃ c, (bl s).getD j 0 = c := ⟨_, rfl⟩
      rw [hc] at hcell
      have hdig : 48 ≤ c ∧ c ≤ 57 := by
        have h1 : isDig ((bl s).getD j 0) := by
          rw [List.getD_eq_getElem?_getD, List.getElem?_eq_getElem (by rw [HB.out]; omega)]
          exact HS.out _ (List.getElem_mem _)
        rw [hc] at h1
        exact h1
      obtain ⟨hd1, hd2⟩ := hdig
      have HC := fhid hc
      clear hc
      by_cases h9 : c < 57
      · have hst := hY.out.store (j := j) (by omega) (c + 1)
        have hdn := hU.out.done HS.out (by rw [HC.out]; exact h9)
        rw [HC.out] at hdn
        obtain ⟨t, ht1, ht2, ht3⟩ := conv_back hst (dig_256 hdn.1) cap n (by rw [List.length_set]; exact hxl)
        have HT1 := fhid ht1
        have HT2 := fhid ht2
        have HDN := fhid hdn
        have HB2 := fhid (hB.out.setCell (p := ⟨g, j, none⟩) (Nat.le_refl _) (.int .u8 ((c + 1 : Nat) : Int)))
        have hc1 : ((c + 1 : Nat) : Int) = (c : Int) + 1 := by omega
        rw [hc1] at ht3
        clear hst hdn ht1 ht2 hc1
        go_wp2_with fail
        go_ret
        exact ⟨t, rfl, by unfold Digs; rw [HT1.out]; exact HDN.out.1, by rw [HT1.out]; exact HDN.out.2, .inl HT2.out, HB2.out⟩
      · obtain rfl : c = 57 := by omega
        have HB2 := fhid (hB.out.setCell (p := ⟨g, j, none⟩) (Nat.le_refl _) (.int .u8 ((48 : Nat) : Int)))
        have HST := fhid (hY.out.store (j := j) (by omega) 48)
        have HU2 := fhid (hU.out.next HC.out)
        go_wp2_with fail
        go_roundw
        case rel => exact ⟨j, xs.set j 48, rfl, by omega, by rw [List.length_set]; exact hxl, HU2, HST, HB2⟩
        case measure => simp [intOf]
    · obtain rfl : j = 0 := by omega
      have hall := hU.out.all
      have h256 := dig_256 hall.1
      obtain ⟨t, ht1, ht2, ht3⟩ := conv_back hY.out (fun c hc => h256 c (by simp [hc])) cap n hxl
      have hb1 : bl ((⟨#[49]⟩ : ByteArray) ++ t) = 49 :: xs := by
        rw [← ht1]; unfold bl; simp
      have hs1 : ((⟨#[49]⟩ : ByteArray) ++ t).size = n + 1 := by rw [← bl_length, hb1, List.length_cons, hxl]
      obtain ⟨t2, h2⟩ : ∃ t2, (⟨#[49]⟩ : ByteArray) ++ t = t2 := ⟨_, rfl⟩
      rw [h2] at hb1 hs1
      have HT := fhid h2
      have HB1 := fhid hb1
      have HS1 := fhid hs1
      have HALL := fhid hall
      have htl : t.size ≤ 100 := by omega
      clear h2 hb1 hs1 hall h256 ht1 ht2
      go_wp2_with fail
      go_ret
      exact ⟨t2, by rw [← HT.out]; rfl, by unfold Digs; rw [HB1.out]; exact HALL.out.1, by rw [HB1.out]; exact HALL.out.2.1, .inr ⟨HS1.out, by have := HALL.out.2.2.2; rwa [HB.out] at this⟩, hB.out⟩
end Go.Proofs.YtlhhpehfgkanoaaGreatDoor.fl
/- Shortest digits: what is picked at k digits; that 17 digits do. Plain. -/
namespace Go.Proofs.YtlhhpehfgkanoaaGreatDoor.fl
set_option linter.unusedVariables false
/-- What is picked at the place q, where L stands ahead of it. -/
def Pk (u : Nat) (q : Int) (L : Nat) (r : Option Nat) : Prop :=
  (¬ Near (valN L q) (valD q) u ∧ ¬ Near (valN (L + 1) q) (valD q) u ∧ r = none) ∨
  (Near (valN L q) (valD q) u ∧ ¬ Near (valN (L + 1) q) (valD q) u ∧ r = some L) ∨
  (¬ Near (valN L q) (valD q) u ∧ Near (valN (L + 1) q) (valD q) u ∧ r = some (L + 1)) ∨
  (Near (valN L q) (valD q) u ∧ Near (valN (L + 1) q) (valD q) u ∧
    ((valN (2 * L + 1) q < 2 * (V u * valD q) ∨ valN (2 * L + 1) q = 2 * (V u * valD q) ∧ L % 2 = 1) ∧ r = some (L + 1) ∨
     ¬ (valN (2 * L + 1) q < 2 * (V u * valD q) ∨ valN (2 * L + 1) q = 2 * (V u * valD q) ∧ L % 2 = 1) ∧ r = some L))
theorem st_spread {u : Nat} (h0 : 0 < u) : 2 * V u < (st u + st (u - 1)) * 10 ^ 16 := by
  have hB : B = 4503599627370496 := rfl
  by_cases h : u < B
  · have h1 : st u = 1 := by unfold st; rw [Nat.div_eq_of_lt h]
    have h2 : st (u - 1) = 1 := by unfold st; rw [Nat.div_eq_of_lt (by omega)]
    rw [h1, h2, V_small h, hB] at *
    omega
  · obtain ⟨e, m, rfl, h1, h2⟩ := rung_form u (by omega)
    rw [V_form e m h1 h2, st_form e m h1 h2]
    have hp : 0 < 2 ^ e := Nat.pow_pos (by decide)
    by_cases hm : B < m
    · have h3 : e * B + m - 1 = e * B + (m - 1) := by omega
      rw [h3, st_form e (m - 1) (by omega) (by omega)]
      have h4 : 2 * (m * 2 ^ e) = (2 * m) * 2 ^ e := by rw [Nat.mul_assoc]
      have h5 : (2 ^ e + 2 ^ e) * 10 ^ 16 = (2 * 10 ^ 16) * 2 ^ e := by rw [← Nat.two_mul, Nat.mul_assoc, Nat.mul_comm (2 ^ e), Nat.mul_assoc]
      rw [h4, h5]
      refine Nat.mul_lt_mul_of_pos_right ?_ hp
      rw [hB] at h2
      omega
    · obtain rfl : m = B := by omega
      have h3 : B * 2 ^ e * 2 < 2 ^ e * 10 ^ 16 := by
        rw [Nat.mul_comm B, Nat.mul_assoc]
        exact Nat.mul_lt_mul_of_pos_left (by decide) hp
      have h4 : (2 ^ e + st (e * B + B - 1)) * 10 ^ 16 = 2 ^ e * 10 ^ 16 + st (e * B + B - 1) * 10 ^ 16 := Nat.add_mul _ _ _
      rw [h4]
      omega
/-- 17 digits do. -/
theorem pk_17 {u L : Nat} {p : Int} (h0 : 0 < u) (hp : valN 1 (p - 1) ≤ V u * valD (p - 1)) (hf : FloorIs u (p - 17) L) : Near (valN L (p - 17)) (valD (p - 17)) u ∨ Near (valN (L + 1) (p - 17)) (valD (p - 17)) u := by
  obtain ⟨q, hq⟩ : ∃ q, p - 17 = q := ⟨_, rfl⟩
  rw [hq] at hf ⊢
  rw [show p - 1 = q + (16 : Nat) by omega] at hp
  have hsh := val_shift 1 16 q
  obtain ⟨hf1, hf2⟩ := hf
  have hD := valD_pos q
  have hD2 := valD_pos (q + (16 : Nat))
  -- ten to the sixteenth steps are not more than the float
  have h16 : valN (1 * 10 ^ 16) q ≤ V u * valD q := by
    have h1 : valN 1 (q + (16 : Nat)) * valD q ≤ V u * valD (q + (16 : Nat)) * valD q := Nat.mul_le_mul_right _ hp
    rw [← hsh, Nat.mul_assoc, Nat.mul_comm (valD (q + (16 : Nat))), ← Nat.mul_assoc] at h1
    exact Nat.le_of_mul_le_mul_right h1 hD2
  have hN : valN (L + 1) q = valN L q + valN 1 q := by rw [valN_eq, valN_eq, valN_eq, ← Nat.add_mul, ← Nat.add_mul]
  have h16' : valN (1 * 10 ^ 16) q = 10 ^ 16 * valN 1 q := by
    rw [valN_eq, valN_eq]; simp only [Nat.one_mul, Nat.mul_assoc]
  rw [h16'] at h16
  obtain ⟨v, rfl⟩ : ∃ v, u = v + 1 := ⟨u - 1, by omega⟩
  have hsp := st_spread h0
  rw [Nat.add_sub_cancel] at hsp
  have hv1 := V_succ v
  have hv2 := V_succ (v + 1)
  have hst1 := st_pos v
  have hst2 := st_pos (v + 1)
  obtain ⟨D, hDD⟩ : ∃ D, valD q = D := ⟨_, rfl⟩
  obtain ⟨N, hNN⟩ : ∃ D, valN L q = D := ⟨_, rfl⟩
  obtain ⟨S, hSS⟩ : ∃ D, valN 1 q = D := ⟨_, rfl⟩
  rw [hDD] at hf1 hf2 h16 hD ⊢
  rw [hN, hNN, hSS] at hf2
  rw [hN, hNN, hSS]
  rw [hNN] at hf1
  rw [hSS] at h16
  have g1 : 0 < st v * D := Nat.mul_pos hst1 hD
  have g2 : 0 < st (v + 1) * D := Nat.mul_pos hst2 hD
  have e1 : V (v + 1) * D = V v * D + st v * D := by rw [hv1, Nat.add_mul]
  have e2 : V (v + 1 + 1) * D = V (v + 1) * D + st (v + 1) * D := by rw [hv2, Nat.add_mul]
  have e3 : 2 * (V (v + 1) * D) < 10 ^ 16 * (st (v + 1) * D + st v * D) := by
    have := Nat.mul_lt_mul_of_pos_right hsp hD
    have r1 : (st (v + 1) + st v) * 10 ^ 16 * D = 10 ^ 16 * (st (v + 1) * D + st v * D) := by
      rw [← Nat.add_mul, Nat.mul_comm (st (v + 1) + st v) (10 ^ 16), Nat.mul_assoc]
    rw [r1, Nat.mul_assoc] at this
    exact this
  have e4 : 2 * S < st (v + 1) * D + st v * D := by
    have : 10 ^ 16 * (2 * S) < 10 ^ 16 * (st (v + 1) * D + st v * D) := by omega
    exact Nat.lt_of_mul_lt_mul_left this
  by_cases hc : (V v + V (v + 1)) * D < 2 * N
  · refine .inl ⟨.inr (.inl (by rw [Nat.add_sub_cancel]; exact hc)), .inl ?_⟩
    rw [Nat.add_mul]
    omega
  · refine .inr ⟨.inr (.inl ?_), .inl ?_⟩
    · rw [Nat.add_sub_cancel, Nat.add_mul]; omega
    · rw [Nat.add_mul] at hc ⊢
      omega
end Go.Proofs.YtlhhpehfgkanoaaGreatDoor.fl
/- The walk of score's left. -/
namespace Go.Proofs.YtlhhpehfgkanoaaGreatDoor.fl
open Go.ChangeShapes Go.WideShapes Go.ChangeAt Go.RowKit
set_option linter.unusedVariables false
/-- What the product is, ready to be appended. -/
def ReadyPost (N : Nat) (w : World) (e : Ending) (w' : World) : Prop :=
  ∃ l ad cap, e = .returned (.slice (some ad) (l : List Nat).length cap) ∧ 0 < l.length ∧ l.length ≤ 100000 ∧ Hid (Can l ∧ lval l = N) ∧ Hid (∀ (j : Nat) u, (l.map fun d => Value.int .u32 (d : Nat))[j]? = some u → w'.cell? (Addr.add ad j) = some u) ∧ Below w.heap.size w w'
theorem ready_of {N : Nat} {w : World} {e : Ending} {w' : World} (h : NumPost .u32 N w e w') (h0 : 0 < N) (hN : N < Bs ^ KC) : ReadyPost N w e w' := by
  obtain ⟨y, rfl, ⟨l, hl, hc, rfl⟩, hb⟩ := h
  have hpos : 0 < l.length := by
    cases l with
    | nil => simp [lval] at h0
    | cons d t => simp
  obtain ⟨ad, cap, rfl, hn⟩ := hl.news hpos
  exact ⟨l, ad, cap, rfl, hpos, len_kc hc hN, fhid ⟨hc, rfl⟩, fhid hn, hb⟩
theorem news_on {l : List Nat} {ad : Addr} {w w' : World} (h : ∀ (j : Nat) u, (l.map fun d => Value.int .u32 (d : Nat))[j]? = some u → w.cell? (Addr.add ad j) = some u) (hb : Below w.heap.size w w') : ∀ (j : Nat) u, (l.map fun d => Value.int .u32 (d : Nat))[j]? = some u → w'.cell? (Addr.add ad j) = some u := fun j u hu => by
  have h1 := h j u hu
  rw [← h1]
  exact hb.cell (cell_lt h1)
theorem own_row {k : IntKind} {e : TypeId} {B q c : Nat} {W : World} {a : Option Addr} (h : Own k e B W (.slice a q c) (List.replicate q 0)) : W.ownsRow B e 1 (.slice a q c) q ((List.replicate q 0).map fun d => .int k (d : Nat)) := by
  unfold Own at h
  rw [List.length_replicate] at h
  exact h
set_option maxRecDepth 100000 in
set_option maxHeartbeats 1000000 in
theorem leftC (x : Value) (n k : Nat) (w : World) (hx : Num .u32 w x n) (hn : n < Bs ^ KA) (h0 : 0 < n) (hk : k ≤ 10000) :
    Calls Tryz.prog 70 #[x, .int .i64 k] w (NumPost .u32 (n * 2 ^ k) w) := by
  obtain ⟨i75, hi, hz, hs, hb⟩ := info_parts infoU32
  have HX := fhid hx
  have HN := fhid hn
  have H0 := fhid h0
  clear hx hn h0
  obtain ⟨q, hq⟩ : ∃ q, k / 32 = q := ⟨_, rfl⟩
  obtain ⟨r, hr⟩ : ∃ r, k % 32 = r := ⟨_, rfl⟩
  have hr32 : r < 32 := by omega
  have hpow : (2 : Nat) ^ r < 4294967296 := Nat.lt_of_lt_of_le (Nat.pow_lt_pow_right (by decide) hr32) (by decide)
  have e1 : IntKind.i64.wrap ((k : Int) / 32) = (q : Int) := by
    rw [show (k : Int) / 32 = ((k / 32 : Nat) : Int) by omega, hq]
    exact IntWalk.i64_in _ (by omega)
  have e2 : (k : Int).tmod 32 = (r : Int) := by
    rw [Int.tmod_eq_emod_of_nonneg (by omega)]; omega
  have e3 : IntKind.u64.wrap (r : Int) = (r : Int) := IntWalk.u64_in _ (by omega)
  obtain ⟨M, hM⟩ : ∃ M, 2 ^ r = M := ⟨_, rfl⟩
  rw [hM] at hpow
  have HE4 : Hid (IntKind.u32.wrap (2 ^ r) = (M : Int)) := fhid (by
    rw [show (2 : Int) ^ r = (M : Int) by rw [← hM]; simp]
    exact IntWalk.u32_in _ (by omega))
  have HQ := fhid hq
  have HR := fhid hr
  have HM := fhid hM
  have hq1 : q ≤ 1000 := by omega
  clear hq hr hM hk
  have hmk : ∀ W : World, Sem.run Tryz.prog (Instr.makeSlice 69 (.int .i64 q) (.int .i64 q)) W = .ok (.slice (some ⟨W.heap.size, 0, none⟩) q q) (W.alloc (.cells (madeCells #[.int .u32 0] q) 75)) := fun W => by
    have h := run_makeSlice (P := Tryz.prog) W 69 75 i75 _ Tryz.underlying69 hi hz .i64 .i64 q q (by omega) (by omega) (by rw [hs]; omega) (by rw [hb]; omega) (by omega)
    rw [hs, show (q : Int).toNat = q by simp, Nat.mul_one] at h
    exact h
  have HXd : Hid (Num .u32 w.drew x n) := fhid (HX.out.on (below_drewN w 1))
  have HXa : Hid (Num .u32 (w.alloc (.cells (madeCells #[.int .u32 0] q) 75)).drew x n) := fhid (HX.out.on (((Below.refl w.heap.size w).alloc (Nat.le_refl _) _).drew))
  have hM0 : 0 < M := by rw [← HM.out]; exact Nat.pow_pos (by decide)
  have hnM : n * M < Bs ^ KC := by
    have e1 : n * M ≤ n * Bs := Nat.mul_le_mul_left _ (Nat.le_of_lt hpow)
    have e2 : n * Bs < Bs ^ KA * Bs := Nat.mul_lt_mul_of_pos_right HN.out bs_pos
    rw [← Nat.pow_succ] at e2
    have e3 : Bs ^ KA.succ ≤ Bs ^ KC := Nat.pow_le_pow_right bs_pos (by decide)
    omega
  have hval : Hid (∀ l, lval l = n * M → lval (List.replicate q 0 ++ l) = n * 2 ^ k) := fhid (fun l hl => by
    rw [lval_zeros, hl, ← HM.out, show Bs = 2 ^ 32 from rfl, ← Nat.pow_mul, show k = 32 * q + r by have := HQ.out; have := HR.out; omega, Nat.pow_add, Nat.mul_comm (2 ^ (32 * q)), Nat.mul_assoc, Nat.mul_comm (2 ^ r)])
  have cT : Hid (∀ W, Num .u32 W x n → Calls Tryz.prog 45 #[x, .int .u32 M] W (ReadyPost (n * M) W)) := fhid fun W h => (timesC x n M W h hpow (Nat.lt_of_lt_of_le HN.out kac')).mono fun e w' h => ready_of h (Nat.mul_pos H0.out hM0) hnM
  have HZ : Hid (Own .u32 75 w.heap.size (w.alloc (.cells (madeCells #[.int .u32 0] q) 75)).drew (.slice (some ⟨w.heap.size, 0, none⟩) q q) (List.replicate q 0)) := fhid ((own_zeros .u32 75 w w.heap.size q q (Nat.le_refl _) (Nat.le_refl _) (by omega)).on ((Below.refl _ _).drew))
  have HBd : Hid (Below w.heap.size w w.drew) := fhid (below_drewN w 1)
  have HBa : Hid (Below w.heap.size w (w.alloc (.cells (madeCells #[.int .u32 0] q) 75)).drew) := fhid (((Below.refl w.heap.size w).alloc (Nat.le_refl _) _).drew)
  clear HN hnM hM0
  go_enter Tryz.func70, Tryz.ntmps70
  go_wp2_with fail
  go_region_held3 (fun _ => True) (trivial) (first | (go_at_call 45; rw [HE4.out]; first | (refine (cT.out _ (by with_reducible exact HXd.out)).mono ?_; rintro e w' ⟨l, ad, cy, rfl, hp1, hp2, HL, hnw, hb⟩; have HSZ : Hid (w.heap.size ≤ w'.heap.size) := fhid (by have := hb.size; have := HBd.out.size; omega); have HBB := fhid ((HBd.out.trans (hb.mono HBd.out.size)).alloc (by have := hb.size; have := HBd.out.size; omega) (.cells (madeCells #[.int .u32 0] q) 75)); have HO := fhid (own_row (own_zeros .u32 75 w' w.heap.size q q (by have := hb.size; have := HBd.out.size; omega) (Nat.le_refl _) (by omega))); have HNW := fhid (news_on hnw.out ((Below.refl w'.heap.size w').alloc (Nat.le_refl _) (.cells (madeCells #[.int .u32 0] q) 75))); clear hb hnw) | (refine (cT.out _ (by with_reducible exact HXa.out)).mono ?_; rintro e w' ⟨l, ad, cy, rfl, hp1, hp2, HL, hnw, hb⟩; have HSZ : Hid (w.heap.size ≤ w.heap.size) := fhid (Nat.le_refl _); have HBB := fhid (HBa.out.trans (hb.mono HBa.out.size)); have HO := fhid (own_row (HZ.out.on hb)); have HNW := hnw; clear hb hnw)) | (refine step_append_lies _ (by rfl) _ _ _ (by rfl) w.heap.size 75 i75 (.int .u32 0) 1 4 Tryz.underlying69 hi hz hs hb (by rfl) (by decide) _ q _ (by rfl) HO.out _ _ _ _ (by rfl) (by rw [List.length_map, Nat.mul_one]) HNW.out lims_one hp1 (by unfold maxLen; omega) (by omega) HBB.out.size _ rfl ?_; intro g cap w1 hown hgrow hat hlt; have HG := fhid hgrow; have HOW := fhid hown; clear hgrow hown hat hlt))
  all_goals
    have HF : Hid (Num .u32 w1 (.slice (some ⟨g, 0, none⟩) (q + l.length) cap) (n * 2 ^ k)) := fhid ⟨List.replicate q 0 ++ l, Own.lim (e := 75) (B := w.heap.size) (by unfold Own; rw [List.length_append, List.length_replicate, List.map_append]; exact HOW.out), can_zeros HL.out.1 (List.ne_nil_of_length_pos hp1) q, hval.out l HL.out.2⟩
    have HE : Hid (Below w.heap.size w w1) := fhid (HBB.out.grown HG.out HBB.out.size (fun k e => by simp [Value.ownBlock] at e; have := HSZ.out; omega))
    go_wp2_with fail
    go_ret
    exact ⟨_, rfl, HF.out, HE.out⟩
end Go.Proofs.YtlhhpehfgkanoaaGreatDoor.fl
/- The walk of score's below. -/
namespace Go.Proofs.YtlhhpehfgkanoaaGreatDoor.fl
open Go.ChangeShapes Go.WideShapes Go.ChangeAt Go.RowKit
set_option linter.unusedVariables false
/-- Is num / den < 10^p? -/
def BelowPost (a b : Nat) (p : Int) (w : World) (e : Ending) (w' : World) : Prop := ∃ r, e = .returned (.bool r) ∧ (r = true ↔ a * 10 ^ (-p).toNat < b * 10 ^ p.toNat) ∧ Below w.heap.size w w'
set_option maxRecDepth 100000 in
set_option maxHeartbeats 1000000 in
theorem belowC (x y : Value) (a b : Nat) (p : Int) (w : World) (hx : Num .u32 w x a) (hy : Num .u32 w y b) (ha : a < Bs ^ KA) (hb : b < Bs ^ KA) (h1 : -900 ≤ p) (h2 : p ≤ 900) :
    Calls Tryz.prog 73 #[x, y, .int .i64 p] w (BelowPost a b p w) := by
  have HX := fhid hx
  have HY := fhid hy
  have HA := fhid ha
  have HB := fhid hb
  clear hx hy ha hb
  go_enter Tryz.func73, Tryz.ntmps73
  go_wp2_with fail
  refine (tenC _ _ (-p) _ HX.out HA.out (by omega) (by omega)).mono ?_
  rintro e1 w1 ⟨x1, rfl, hn1, hb1⟩
  have N1 := fhid hn1
  have B1 := fhid hb1
  have HY1 := fhid (HY.out.on hb1)
  clear hn1 hb1
  go_wp2_with fail
  refine (tenC _ _ p _ HY1.out HB.out (by omega) (by omega)).mono ?_
  rintro e2 w2 ⟨x2, rfl, hn2, hb2⟩
  have N2 := fhid hn2
  have N1' := fhid (N1.out.on hb2)
  have B2 := fhid (B1.out.trans (hb2.mono B1.out.size))
  clear hn2 hb2
  go_wp2_with fail
  refine (cmpC _ _ _ _ _ N1'.out N2.out (ten_lt HA.out (by omega)) (ten_lt HB.out (by omega))).mono ?_
  rintro e3 w3 ⟨r, rfl, hr1, hr2, hb3⟩
  have R1 := fhid hr1
  have B3 := fhid (B2.out.trans (hb3.mono B2.out.size))
  clear hr1 hr2 hb3
  go_wp2_with fail
  go_ret
  exact ⟨_, rfl, by rw [← R1.out]; simp, B3.out⟩
end Go.Proofs.YtlhhpehfgkanoaaGreatDoor.fl
/- The walk of the reference's noughts. -/
namespace Go.Proofs.YtlhhpehfgkanoaaGreatDoor.fl
open Go.ChangeShapes Go.WideShapes Go.ChangeAt Go.RowKit
set_option linter.unusedVariables false
theorem bl_zero (s : ByteArray) (j : Nat) (h : bl s = List.replicate j 48) : bl (s ++ ⟨#[48]⟩) = List.replicate (j + 1) 48 := by
  rw [bl_push, h, List.replicate_succ']; rfl
set_option maxRecDepth 100000 in
set_option maxHeartbeats 1000000 in
theorem noughtsR (n : Nat) (w : World) (hn : n ≤ 1000) :
    Calls Tryz.prog 33 #[.int .i64 n] w fun e w' => ∃ t : ByteArray, e = .returned (.string t) ∧ bl t = List.replicate n 48 ∧ Below w.heap.size w w' := by
  go_enter Tryz.func33, Tryz.ntmps33
  go_wp2_with fail
  go_loopw [3, 5] (fun o j wr => ∃ (s : ByteArray) (j' i : Nat), o = .string s ∧ j = .int .i64 j' ∧ j' ≤ n ∧ s.size ≤ 1000 ∧ Hid (bl s = List.replicate j' 48) ∧ wr = w.drewN i) (fun _ j _ => n - (intOf j).toNat)
  case atStart => exact ⟨⟨#[]⟩, 0, 0, rfl, rfl, by omega, by decide, fhid rfl, rfl⟩
  case round =>
    obtain ⟨s, j, i, rfl, rfl, hj, hs, hb, rfl⟩ := hrel
    by_cases hlt : j < n
    · have hb2 := fhid (bl_zero s j hb.out)
      have hsz : (s ++ (⟨#[48]⟩ : ByteArray)).size ≤ 1000 := by rw [← bl_length, hb2.out, List.length_replicate]; omega
      have HSZ := fhid hsz
      clear hsz
      go_wp2_with fail
      go_roundw
      case rel => exact ⟨_, j + 1, i, rfl, by go_num, by omega, HSZ.out, hb2, rfl⟩
      case measure => simp [intOf]; omega
    · obtain rfl : j = n := by omega
      go_wp2_with fail
      go_ret
      exact ⟨s, rfl, hb.out, below_drewN w i⟩
end Go.Proofs.YtlhhpehfgkanoaaGreatDoor.fl
/- Rows of decimal digits: which number has which row, and what is left of it without the noughts behind. Plain. -/
namespace Go.Proofs.YtlhhpehfgkanoaaGreatDoor.fl
set_option linter.unusedVariables false
theorem dnum_cons (c : Nat) (t : List Nat) (hc : isDig c) (h : ∀ x ∈ t, isDig x) : dnum (c :: t) = (c - 48) * 10 ^ t.length + dnum t := by
  have h1 : dnum [c] = c - 48 := by
    unfold isDig at hc
    show (if c = 46 then 0 else 0 * 10 + (c - 48)) = _
    rw [if_neg (by omega)]; omega
  rw [← List.singleton_append, dnum_append _ _ h, h1]
theorem two_parts {a b x y P : Nat} (hx : x < P) (hy : y < P) (h : a * P + x = b * P + y) : a = b ∧ x = y := by
  rcases Nat.lt_trichotomy a b with hh | hh | hh
  · have := Nat.mul_le_mul_right P (show a + 1 ≤ b from hh)
    rw [Nat.add_mul] at this
    omega
  · subst hh; omega
  · have := Nat.mul_le_mul_right P (show b + 1 ≤ a from hh)
    rw [Nat.add_mul] at this
    omega
theorem dnum_inj : ∀ (a b : List Nat), a.length = b.length → (∀ x ∈ a, isDig x) → (∀ x ∈ b, isDig x) → dnum a = dnum b → a = b
  | [], [], _, _, _, _ => rfl
  | [], _ :: _, hl, _, _, _ => by simp at hl
  | _ :: _, [], hl, _, _, _ => by simp at hl
  | c :: t, d :: s, hl, ha, hb, h => by
    have hl' : t.length = s.length := by simpa using hl
    have hc := ha c (by simp)
    have hd := hb d (by simp)
    have ht : ∀ x ∈ t, isDig x := fun x hx => ha x (List.mem_cons_of_mem _ hx)
    have hs : ∀ x ∈ s, isDig x := fun x hx => hb x (List.mem_cons_of_mem _ hx)
    have l1 := dnum_lt t ht
    have l2 := dnum_lt s hs
    rw [dnum_cons c t hc ht, dnum_cons d s hd hs, hl'] at h
    rw [hl'] at l1
    obtain ⟨e1, e2⟩ := two_parts l1 l2 h
    have e3 := dnum_inj t s hl' ht hs e2
    unfold isDig at hc hd
    have e4 : c = d := by omega
    rw [e3, e4]
/-- The digits of a number. -/
def ddg (n : Nat) : List Nat := (Lib.decDigits n).map UInt8.toNat
theorem dig_byte (x : Nat) (h : x ≤ 9) : (UInt8.ofNat (48 + x)).toNat = x + 48 := by
  simp; omega
theorem ddg_small {n : Nat} (h : n < 10) : ddg n = [n + 48] := by
  unfold ddg
  rw [Lib.decDigits, dif_pos h]
  simp only [List.map_cons, List.map_nil, dig_byte n (by omega)]
theorem ddg_big {n : Nat} (h : ¬ n < 10) : ddg n = ddg (n / 10) ++ [n % 10 + 48] := by
  unfold ddg
  rw [Lib.decDigits, dif_neg h]
  simp only [List.map_append, List.map_cons, List.map_nil, dig_byte (n % 10) (by omega)]
theorem ddg_ok (n : Nat) : (∀ x ∈ ddg n, isDig x) ∧ dnum (ddg n) = n := by
  induction n using Nat.strongRecOn with
  | ind n ih =>
    by_cases h : n < 10
    · rw [ddg_small h]
      refine ⟨fun x hx => ?_, ?_⟩
      · simp only [List.mem_singleton] at hx; subst hx; unfold isDig; omega
      · show (if n + 48 = 46 then 0 else 0 * 10 + (n + 48 - 48)) = n
        rw [if_neg (by omega)]; omega
    · obtain ⟨h1, h2⟩ := ih (n / 10) (by omega)
      rw [ddg_big h]
      refine ⟨fun x hx => ?_, ?_⟩
      · rcases List.mem_append.mp hx with h3 | h3
        · exact h1 x h3
        · simp only [List.mem_singleton] at h3; subst h3; unfold isDig; omega
      · rw [dnum_snoc, if_neg (by omega), h2]; omega
theorem ddg_length (n : Nat) : (ddg n).length = Lib.nDigits n := by unfold ddg; rw [List.length_map, Lib.decDigits_length]
theorem ddg_pos (n : Nat) : 0 < (ddg n).length := by
  by_cases h : n < 10
  · rw [ddg_small h]; simp
  · rw [ddg_big h]; simp
theorem ddg_len {n k : Nat} (h1 : 10 ^ k ≤ n) (h2 : n < 10 ^ (k + 1)) : (ddg n).length = k + 1 := by
  rw [ddg_length, Lib.nDigits_unique k n h1 h2]
/-- A row of digits without a nought ahead is its number's row. -/
theorem ddg_of {l : List Nat} {k : Nat} (hd : ∀ x ∈ l, isDig x) (hl : l.length = k + 1) (h : 10 ^ k ≤ dnum l) : l = ddg (dnum l) := by
  have h2 := dnum_lt l hd
  rw [hl] at h2
  exact dnum_inj _ _ (by rw [hl, ddg_len h h2]) hd (ddg_ok _).1 (ddg_ok _).2.symm
theorem ddg_head {n : Nat} (h : 0 < n) : (ddg n).getD 0 0 ≠ 48 := by
  induction n using Nat.strongRecOn with
  | ind n ih =>
    by_cases h1 : n < 10
    · rw [ddg_small h1]; simp; omega
    · rw [ddg_big h1]
      have := ih (n / 10) (by omega) (by omega)
      have hp := ddg_pos (n / 10)
      rw [List.getD_eq_getElem?_getD, List.getElem?_append_left hp, ← List.getD_eq_getElem?_getD]
      exact this
/-- Without the noughts behind. -/
def strip (l : List Nat) : List Nat := (l.reverse.dropWhile (· == 48)).reverse
theorem strip_snoc (l : List Nat) (c : Nat) : strip (l ++ [c]) = if c = 48 then strip l else l ++ [c] := by
  unfold strip
  rw [List.reverse_append]
  simp only [List.reverse_cons, List.reverse_nil, List.nil_append, List.singleton_append, List.dropWhile_cons]
  by_cases h : c = 48
  · simp [h]
  · simp [h]
theorem dropWhile_u8 : ∀ l : List UInt8, ((l.dropWhile (· == 48)).map UInt8.toNat) = (l.map UInt8.toNat).dropWhile (· == 48)
  | [] => rfl
  | c :: t => by
    simp only [List.map_cons, List.dropWhile_cons]
    by_cases h : c = 48
    · subst h
      have := dropWhile_u8 t
      simpa using this
    · have h2 : ¬ c.toNat = 48 := fun e => h (UInt8.toNat_inj.mp e)
      simp [h, h2]
theorem strip_trim (l : List UInt8) : (Lib.trimRightB l 48).map UInt8.toNat = strip (l.map UInt8.toNat) := by
  unfold Lib.trimRightB strip
  rw [List.map_reverse, dropWhile_u8, List.map_reverse]
theorem strip_all {l : List Nat} (h : l.getD 0 0 ≠ 48) (h0 : 0 < l.length) : strip l ≠ [] := by
  have key : ∀ n, ∀ l : List Nat, l.length = n → l.getD 0 0 ≠ 48 → 0 < n → strip l ≠ [] := by
    intro n
    induction n with
    | zero => intro l _ _ h; omega
    | succ n ih =>
      intro l hl h _
      rcases List.eq_nil_or_concat l with e | ⟨t, c, e⟩
      · rw [e] at hl; simp at hl
      · rw [List.concat_eq_append] at e
        subst e
        rw [strip_snoc]
        have ht : t.length = n := by simpa using hl
        by_cases hc : c = 48
        · rw [if_pos hc]
          rcases Nat.eq_zero_or_pos n with hz | hz
          · have : t = [] := List.length_eq_zero_iff.1 (by omega)
            subst this
            simp at h
            exact absurd hc h
          · refine ih t ht ?_ hz
            rw [List.getD_eq_getElem?_getD, List.getElem?_append_left (by omega), ← List.getD_eq_getElem?_getD] at h
            exact h
        · rw [if_neg hc]; simp
  exact key _ l rfl h h0
theorem strip_len (l : List Nat) : (strip l).length ≤ l.length := by
  unfold strip
  rw [List.length_reverse]
  refine Nat.le_trans (List.Sublist.length_le (List.dropWhile_sublist _)) ?_
  simp
theorem bl_mk (l : List UInt8) : bl ⟨l.toArray⟩ = l.map UInt8.toNat := by unfold bl; simp
theorem size_mk (l : List UInt8) : (⟨l.toArray⟩ : ByteArray).size = l.length := rfl
end Go.Proofs.YtlhhpehfgkanoaaGreatDoor.fl
/- What is told of a float: the digits and the point. Plain. -/
namespace Go.Proofs.YtlhhpehfgkanoaaGreatDoor.fl
set_option linter.unusedVariables false
/-- The float lies below 10^p, and not below 10^(p-1). -/
def Top (u : Nat) (p : Int) : Prop := valN 1 (p - 1) ≤ V u * valD (p - 1) ∧ V u * valD p < valN 1 p
theorem top_le {u : Nat} {p q : Int} (h1 : V u * valD p < valN 1 p) (h2 : valN 1 q ≤ V u * valD q) : q < p := by
  by_cases hh : q < p
  · exact hh
  · exfalso
    obtain ⟨j, hj⟩ : ∃ j : Nat, q = p + j := ⟨(q - p).toNat, by omega⟩
    subst hj
    have hs := val_shift 1 j p
    have d1 := valD_pos p
    have d2 := valD_pos (p + j)
    have hm : valN 1 p ≤ valN (1 * 10 ^ j) p := valN_mono p (by have := Nat.pow_pos (n := j) (show 0 < 10 by decide); omega)
    have a1 : V u * valD p * valD (p + j) < valN (1 * 10 ^ j) p * valD (p + j) := Nat.mul_lt_mul_of_pos_right (Nat.lt_of_lt_of_le h1 hm) d2
    have a2 : valN 1 (p + j) * valD p ≤ V u * valD (p + j) * valD p := Nat.mul_le_mul_right _ h2
    rw [hs] at a1
    have e : V u * valD p * valD (p + j) = V u * valD (p + j) * valD p := by rw [Nat.mul_assoc, Nat.mul_assoc, Nat.mul_comm (valD p)]
    omega
theorem Top.unique {u : Nat} {p q : Int} (h : Top u p) (g : Top u q) : p = q := by
  have a := top_le h.2 g.1
  have b := top_le g.2 h.1
  omega
theorem floor_unique {u D D' : Nat} {q : Int} (h : FloorIs u q D) (g : FloorIs u q D') : D = D' := by
  have key : ∀ {D D' : Nat}, FloorIs u q D → FloorIs u q D' → ¬ D < D' := fun {D D'} h g hh => by
    have := valN_mono q (show D + 1 ≤ D' from hh)
    have := h.2
    have := g.1
    omega
  rcases Nat.lt_trichotomy D D' with hh | hh | hh
  · exact (key h g hh).elim
  · exact hh
  · exact (key g h hh).elim
theorem Pk.unique {u L : Nat} {q : Int} {r r' : Option Nat} (h : Pk u q L r) (g : Pk u q L r') : r = r' := by
  rcases h with ⟨a, b, rfl⟩ | ⟨a, b, rfl⟩ | ⟨a, b, rfl⟩ | ⟨a, b, ⟨c, rfl⟩ | ⟨c, rfl⟩⟩ <;>
  rcases g with ⟨a', b', rfl⟩ | ⟨a', b', rfl⟩ | ⟨a', b', rfl⟩ | ⟨a', b', ⟨c', rfl⟩ | ⟨c', rfl⟩⟩ <;>
  first | rfl | exact absurd a a' | exact absurd a' a | exact absurd b b' | exact absurd b' b | exact absurd c c' | exact absurd c' c
/-- The digits so far say nothing. -/
def Quiet (u : Nat) (p : Int) (k : Nat) : Prop := ∀ j : Nat, 1 ≤ j → j < k → ∃ L, FloorIs u (p - j) L ∧ Pk u (p - j) L none
/-- What is told of a float. -/
def Sh (u : Nat) (t : List Nat) (at_ : Int) : Prop :=
  ∃ (p : Int) (k L D : Nat), 1 ≤ k ∧ Top u p ∧ Quiet u p k ∧ FloorIs u (p - k) L ∧ Pk u (p - k) L (some D) ∧ t = strip (ddg D) ∧ at_ = p + (ddg D).length - k
theorem Sh.unique {u : Nat} {t t' : List Nat} {a a' : Int} (h : Sh u t a) (g : Sh u t' a') : t = t' ∧ a = a' := by
  obtain ⟨p, k, L, D, h1, h2, h3, h4, h5, rfl, rfl⟩ := h
  obtain ⟨p', k', L', D', g1, g2, g3, g4, g5, rfl, rfl⟩ := g
  obtain rfl := h2.unique g2
  have hk : k = k' := by
    rcases Nat.lt_trichotomy k k' with hh | hh | hh
    · obtain ⟨M, m1, m2⟩ := g3 k h1 hh
      obtain rfl := floor_unique h4 m1
      cases h5.unique m2
    · exact hh
    · obtain ⟨M, m1, m2⟩ := h3 k' g1 hh
      obtain rfl := floor_unique g4 m1
      cases g5.unique m2
  subst hk
  obtain rfl := floor_unique h4 g4
  have := h5.unique g5
  simp only [Option.some.injEq] at this
  subst this
  exact ⟨rfl, rfl⟩
/-- How great the digits are. -/
theorem floor_range {u L k : Nat} {p : Int} (ht : Top u p) (hf : FloorIs u (p - k) L) (hk : 1 ≤ k) : 10 ^ (k - 1) ≤ L ∧ L < 10 ^ k := by
  obtain ⟨q, hq⟩ : ∃ q, p - k = q := ⟨_, rfl⟩
  rw [hq] at hf
  obtain ⟨t1, t2⟩ := ht
  have d0 := valD_pos q
  constructor
  · by_cases hh : 10 ^ (k - 1) ≤ L
    · exact hh
    · exfalso
      have hs := val_shift 1 (k - 1) q
      rw [show q + ((k - 1 : Nat) : Int) = p - 1 by omega, Nat.one_mul] at hs
      have d1 := valD_pos (p - 1)
      have h1 : valN (L + 1) q ≤ valN (10 ^ (k - 1)) q := valN_mono q (by omega)
      have a1 : V u * valD q * valD (p - 1) < valN (10 ^ (k - 1)) q * valD (p - 1) := Nat.mul_lt_mul_of_pos_right (Nat.lt_of_lt_of_le hf.2 h1) d1
      have a2 : valN 1 (p - 1) * valD q ≤ V u * valD (p - 1) * valD q := Nat.mul_le_mul_right _ t1
      have e : V u * valD q * valD (p - 1) = V u * valD (p - 1) * valD q := by rw [Nat.mul_assoc, Nat.mul_assoc, Nat.mul_comm (valD q)]
      omega
  · by_cases hh : L < 10 ^ k
    · exact hh
    · exfalso
      have hs := val_shift 1 k q
      rw [show q + (k : Int) = p by omega, Nat.one_mul] at hs
      have d1 := valD_pos p
      have h1 : valN (10 ^ k) q ≤ valN L q := valN_mono q (by omega)
      have a1 : valN (10 ^ k) q * valD p ≤ V u * valD q * valD p := Nat.mul_le_mul_right _ (Nat.le_trans h1 hf.1)
      have a2 : V u * valD p * valD q < valN 1 p * valD q := Nat.mul_lt_mul_of_pos_right t2 d0
      have e : V u * valD q * valD p = V u * valD p * valD q := by rw [Nat.mul_assoc, Nat.mul_assoc, Nat.mul_comm (valD q)]
      omega
theorem pk_some {u L D : Nat} {q : Int} (h : Pk u q L (some D)) : D = L ∨ D = L + 1 := by
  rcases h with ⟨a, b, c⟩ | ⟨a, b, c⟩ | ⟨a, b, c⟩ | ⟨a, b, ⟨c, d⟩ | ⟨c, d⟩⟩
  · cases c
  · simp at c; exact .inl c
  · simp at c; exact .inr c
  · simp at d; exact .inr d
  · simp at d; exact .inl d
/-- At most 17 digits. -/
theorem quiet_le {u : Nat} {p : Int} {k : Nat} (h0 : 0 < u) (ht : Top u p) (hq : Quiet u p k) : k ≤ 17 := by
  by_cases hh : k ≤ 17
  · exact hh
  · exfalso
    obtain ⟨L, h1, h2⟩ := hq 17 (by omega) (by omega)
    have h3 := pk_17 h0 ht.1 h1
    rcases h2 with ⟨a, b, _⟩ | ⟨_, _, c⟩ | ⟨_, _, c⟩ | ⟨_, _, ⟨_, c⟩ | ⟨_, c⟩⟩
    · rcases h3 with h3 | h3
      · exact a h3
      · exact b h3
    all_goals cases c
theorem Quiet.next {u : Nat} {p : Int} {k L : Nat} (h : Quiet u p k) (hf : FloorIs u (p - k) L) (hp : Pk u (p - k) L none) : Quiet u p (k + 1) := by
  intro j h1 h2
  by_cases hj : j < k
  · exact h j h1 hj
  · obtain rfl : j = k := by omega
    exact ⟨L, hf, hp⟩
/-- The word of digits and a point. -/
def layS (d : List Nat) (p : Int) : List Nat :=
  if p < -4 ∨ 17 < p then
    (if 1 < d.length then d.take 1 ++ [46] ++ d.drop 1 else d) ++ [101, if p < 1 then 45 else 43] ++ (if max (p - 1) (1 - p) < 10 then [48] else []) ++ ddg (max (p - 1) (1 - p)).toNat
  else if p ≤ 0 then [48, 46] ++ List.replicate (-p).toNat 48 ++ d
  else if d.length ≤ p then d ++ List.replicate (p - d.length).toNat 48
  else d.take p.toNat ++ [46] ++ d.drop p.toNat
/-- The word of a float's bits. -/
def PrintIs (x : Nat) (t : List Nat) : Prop :=
  if infR < x % 9223372036854775808 then t = [110, 97, 110]
  else if x % 9223372036854775808 = infR then t = (if 9223372036854775808 ≤ x then [45] else []) ++ [105, 110, 102]
  else if x % 9223372036854775808 = 0 then t = (if 9223372036854775808 ≤ x then [45] else []) ++ [48]
  else ∃ d p, Sh (x % 9223372036854775808) d p ∧ t = (if 9223372036854775808 ≤ x then [45] else []) ++ layS d p
theorem PrintIs.unique {x : Nat} {t t' : List Nat} (h : PrintIs x t) (g : PrintIs x t') : t = t' := by
  unfold PrintIs at h g
  split at h
  · rename_i h1; rw [if_pos h1] at g; rw [h, g]
  · rename_i h1
    rw [if_neg h1] at g
    split at h
    · rename_i h2; rw [if_pos h2] at g; rw [h, g]
    · rename_i h2
      rw [if_neg h2] at g
      split at h
      · rename_i h3; rw [if_pos h3] at g; rw [h, g]
      · rename_i h3
        rw [if_neg h3] at g
        obtain ⟨d, p, a, rfl⟩ := h
        obtain ⟨d', p', a', rfl⟩ := g
        obtain ⟨rfl, rfl⟩ := a.unique a'
        rfl
end Go.Proofs.YtlhhpehfgkanoaaGreatDoor.fl
/- More of the model's floats: exact products, sums, and the whole numbers cut out of them. Plain. -/
namespace Go.Proofs.YtlhhpehfgkanoaaGreatDoor.fl
open Ieee
set_option linter.unusedVariables false
set_option linter.unusedSimpArgs false
theorem near_exactD {N D x : Nat} (hD : 0 < D) (h : V x * D = N) : Near N D x :=
  near_cross (by decide) hD (by rw [h, Nat.mul_one]) (near_exact rfl)
theorem mag_pos {s : Bool} {u m : Nat} {i : Int} (r : Reads s u m i) (h : 0 < u) : 0 < m := by
  rcases Nat.eq_zero_or_pos m with h1 | h1
  · have := r.val
    rw [h1, Nat.zero_mul] at this
    have := V_ge u
    omega
  · exact h1
theorem mul_near {s t : Bool} {u v : Nat} (hu : u < infR) (hv : v < infR) (h0 : 0 < u) (h1 : 0 < v) :
    ∃ w, Near (V u * V v) (2 ^ K74) w ∧ Ieee.double.mul (sgw s + u) (sgw t + v) = some (sgw (s ^^ t) + min w infR) := by
  obtain ⟨m, i, r1⟩ := reads s u hu
  obtain ⟨n, j, r2⟩ := reads t v hv
  have hm := mag_pos r1 h0
  have hn := mag_pos r2 h1
  obtain ⟨w, hw, e⟩ := nearest_near (s ^^ t) (m * n) (i + j) (Nat.mul_pos hm hn)
  refine ⟨w, near_cross (Nat.pow_pos (by decide)) (Nat.pow_pos (by decide)) ?_ hw, ?_⟩
  · have k1 := r1.le
    have k2 := r2.le
    rw [← r1.val, ← r2.val]
    have l1 : m * n * 2 ^ (i + j + 1074).toNat * 2 ^ K74 = m * n * (2 ^ (i + j + 1074).toNat * 2 ^ K74) := Nat.mul_assoc _ _ _
    have l2 : m * 2 ^ (i + 1074).toNat * (n * 2 ^ (j + 1074).toNat) * 2 ^ (-(i + j + 1074)).toNat = m * n * (2 ^ (i + 1074).toNat * 2 ^ (j + 1074).toNat * 2 ^ (-(i + j + 1074)).toNat) := by simp only [Nat.mul_assoc, Nat.mul_comm, Nat.mul_left_comm]
    rw [l1, l2, ← Nat.pow_add, ← Nat.pow_add, ← Nat.pow_add, exp_mul i j k1 k2 K74 K74_eq]
  · unfold Format.mul
    rw [r1.read, r2.read]
    simp only [Datum.product, Option.map_some, Format.write, e]
theorem mul_exact {u v x : Nat} (hu : u < infR) (hv : v < infR) (hx : x < infR) (h0 : 0 < u) (h1 : 0 < v) (h : V u * V v = V x * 2 ^ K74) : Ieee.double.mul u v = some x := by
  obtain ⟨w, hw, e⟩ := mul_near (s := false) (t := false) hu hv h0 h1
  have hP : 0 < 2 ^ K74 := Nat.pow_pos (by decide)
  obtain rfl := near_unique hP hw (near_exactD hP h.symm)
  rw [Nat.min_eq_left (Nat.le_of_lt hx)] at e
  simpa [sgw] using e
/-- A float of 53 bits is its own whole number. -/
theorem toInt_big' (X M : Nat) (e1 : X % 9223372036854775808 = X) (e2 : X / 9223372036854775808 % 2 = 0) (e3 : ¬ X < B) (e4 : X < infR) (e5 : B + X % B = M) (e6 : X / B = 1075) (hM : M < 18446744073709551616) :
    floatToIntVal .f64 X .u64 = some (M : Int) := by
  have hr : Ieee.double.read X = .number false M 0 := by
    unfold Format.read
    simp only [d_sw, d_bin, d_inf, d_least, e1, e2, if_neg e3, if_pos e4, e5, e6]
    rfl
  have hd : (FloatKind.f64.decode X).toInt .zero = some (M : Int) := by
    show (Ieee.double.read X).toInt .zero = _
    rw [hr]
    simp [Datum.toInt, Datum.integral, Toward.cut, signed]
  unfold floatToIntVal
  rw [hd]
  simp only
  rw [if_pos]
  have e1 : IntKind.u64.min = 0 := by decide
  have e2 : IntKind.u64.max = 18446744073709551615 := by decide
  rw [e1, e2]
  omega
theorem toInt_big (m X M : Nat) (h : m < 4503599627370496) (hX : m + 4841369599423283200 = X) (hM : m + 4503599627370496 = M) : floatToIntVal .f64 X .u64 = some (M : Int) := by
  have hB : B = 4503599627370496 := rfl
  have hi : infR = 9218868437227405312 := rfl
  exact toInt_big' X M (by omega) (by omega) (by omega) (by omega) (by rw [hB]; omega) (by rw [hB]; omega) (by omega)
/-- The guess of a power of ten out of bits: it is not great. -/
def guessOK (d : Int) : Bool :=
  match Ieee.double.mul (floatOfInt .f64 d) 4599094494223104511 with
  | some x =>
    match FloatKind.f64.decode x with
    | .number s m i =>
      match floatToIntVal .f64 (FloatKind.f64.encode ((Datum.number s m i).integral .down)) .i64 with
      | some n => decide (-500 ≤ n) && decide (n ≤ 500)
      | none => false
    | _ => false
  | none => false
def guessFrom : Nat → Int → Bool
  | 0, _ => true
  | n + 1, d => guessOK d && guessFrom n (d + 1)
theorem guessFrom_at : ∀ {n : Nat} {d : Int}, guessFrom n d = true → ∀ i : Nat, i < n → guessOK (d + i) = true
  | n + 1, d, h, 0, _ => by
    unfold guessFrom at h
    simp only [Bool.and_eq_true] at h
    simpa using h.1
  | n + 1, d, h, i + 1, hi => by
    unfold guessFrom at h
    simp only [Bool.and_eq_true] at h
    have := guessFrom_at h.2 i (by omega)
    rwa [show d + ((i + 1 : Nat) : Int) = d + 1 + i by omega]
theorem guess_ok : guessFrom 2201 (-1100) = true := by decide +kernel
theorem guess_mul (d : Int) (h1 : -1100 ≤ d) (h2 : d ≤ 1100) : ∃ x s m i n, Ieee.double.mul (floatOfInt .f64 d) 4599094494223104511 = some x ∧ FloatKind.f64.decode x = .number s m i ∧
    floatToIntVal .f64 (FloatKind.f64.encode ((Datum.number s m i).integral .down)) .i64 = some n ∧ -500 ≤ n ∧ n ≤ 500 := by
  have h := guessFrom_at guess_ok (d + 1100).toNat (by omega)
  rw [show -1100 + (((d + 1100).toNat : Nat) : Int) = d by omega] at h
  unfold guessOK at h
  split at h
  · rename_i x hx
    split at h
    · rename_i s m i hr
      split at h
      · rename_i n hn
        simp only [Bool.and_eq_true, decide_eq_true_eq] at h
        exact ⟨x, s, m, i, n, hx, hr, hn, h.1, h.2⟩
      · cases h
    · cases h
  · cases h
end Go.Proofs.YtlhhpehfgkanoaaGreatDoor.fl
/- Frexp and Ldexp in rungs: what becomes of a float's bits. Plain. -/
namespace Go.Proofs.YtlhhpehfgkanoaaGreatDoor.fl
open Go.ChangeShapes Go.WideShapes Go.ChangeAt Go.RowKit
set_option linter.unusedVariables false
/-- What 'normalize' answers. -/
def NormIs (u y : Nat) (e : Int) : Prop := B ≤ y ∧ y < infR ∧ V y = V u * 2 ^ (-e).toNat ∧ (e = 0 ∨ e = -52 ∧ y / 4503599627370496 ≤ 60)
theorem c52_V : V 4841369599423283200 = 4503599627370496 * 2 ^ K74 := by decide +kernel
theorem norm_sub {u : Nat} (h0 : 0 < u) (h : u < 4503599627370496) : ∃ y, Ieee.double.mul u 4841369599423283200 = some y ∧ NormIs u y (-52) := by
  have hl1 : 2 ^ u.log2 ≤ u := Nat.log2_self_le (by omega)
  have hl2 : u < 2 ^ (u.log2 + 1) := Nat.lt_log2_self
  have hB : (2 : Nat) ^ 52 = B := rfl
  have hBB : B = 4503599627370496 := rfl
  have hg : u.log2 ≤ 51 := by
    rcases Nat.lt_or_ge 51 u.log2 with h3 | h3
    · have : 2 ^ 52 ≤ 2 ^ u.log2 := Nat.pow_le_pow_right (by decide) h3
      omega
    · exact h3
  generalize u.log2 = g at *
  have b1 : B ≤ u * 2 ^ (52 - g) := by
    have : 2 ^ g * 2 ^ (52 - g) ≤ u * 2 ^ (52 - g) := Nat.mul_le_mul_right _ hl1
    rwa [← Nat.pow_add, Nat.add_sub_of_le (by omega)] at this
  have b2 : u * 2 ^ (52 - g) < 2 * B := by
    have : u * 2 ^ (52 - g) < 2 ^ (g + 1) * 2 ^ (52 - g) := Nat.mul_lt_mul_of_pos_right hl2 (Nat.pow_pos (by decide))
    rw [← Nat.pow_add, show g + 1 + (52 - g) = 53 by omega] at this
    exact this
  have hV : V (g * B + u * 2 ^ (52 - g)) = u * 4503599627370496 := by
    rw [V_form _ _ b1 b2, Nat.mul_assoc, ← Nat.pow_add, show 52 - g + g = 52 by omega]
  have b3 : g * B ≤ 51 * B := Nat.mul_le_mul_right _ hg
  have hi : infR = 9218868437227405312 := rfl
  have hy : g * B + u * 2 ^ (52 - g) < infR := by omega
  refine ⟨g * B + u * 2 ^ (52 - g), mul_exact (by omega) (by decide) hy h0 (by decide) ?_, by omega, hy, ?_, .inr ⟨rfl, by omega⟩⟩
  · rw [hV, c52_V, V_small (by omega), Nat.mul_assoc]
  · rw [hV, V_small (by omega)]; rfl
theorem norm_self {u : Nat} (h : 4503599627370496 ≤ u) (hi : u < infR) : NormIs u u 0 := ⟨h, hi, by simp, .inl rfl⟩
theorem V_split {y : Nat} (h : B ≤ y) : V y = (y % 4503599627370496 + 4503599627370496) * 2 ^ (y / 4503599627370496 - 1) := by
  have hB : B = 4503599627370496 := rfl
  unfold V
  rw [if_neg (by omega), hB, Nat.add_comm 4503599627370496]
/-- The exponent that Frexp tells. -/
def frE (y : Nat) (e : Int) : Int := e + (y / 4503599627370496 : Nat) - 1022
theorem frE_bd {u y : Nat} {e : Int} (h : NormIs u y e) : -1074 ≤ frE y e ∧ frE y e ≤ 1024 ∧ (frE y e < 53 ∨ e = 0) := by
  obtain ⟨h1, h2, _, h4⟩ := h
  have hB : B = 4503599627370496 := rfl
  have hi : infR = 9218868437227405312 := rfl
  unfold frE
  omega
/-- As a fraction. -/
theorem frac_big {u y : Nat} {e : Int} (h : NormIs u y e) {k : Nat} (hk : frE y e = 53 + k) : (y % 4503599627370496 + 4503599627370496) * 2 ^ k * 2 ^ K74 = V u * 1 := by
  obtain ⟨h1, h2, h3, h4⟩ := h
  have hB : B = 4503599627370496 := rfl
  have hi : infR = 9218868437227405312 := rfl
  have hK := K74_eq
  unfold frE at hk
  obtain rfl : e = 0 := by omega
  rw [V_split h1, show (-(0 : Int)).toNat = 0 from rfl, Nat.pow_zero] at h3
  rw [← h3, Nat.mul_assoc, ← Nat.pow_add]
  congr 2
  omega
theorem frac_small {u y : Nat} {e : Int} (h : NormIs u y e) {k : Nat} (hk : frE y e + k = 53) : (y % 4503599627370496 + 4503599627370496) * 2 ^ K74 = V u * (1 * 2 ^ k) := by
  obtain ⟨h1, h2, h3, h4⟩ := h
  have hB : B = 4503599627370496 := rfl
  have hi : infR = 9218868437227405312 := rfl
  have hK := K74_eq
  unfold frE at hk
  rw [V_split h1] at h3
  obtain ⟨j, hj⟩ : ∃ j, k = (-e).toNat + j := ⟨k - (-e).toNat, by omega⟩
  rw [hj, Nat.one_mul, Nat.pow_add, ← Nat.mul_assoc, ← h3, Nat.mul_assoc, ← Nat.pow_add]
  congr 2
  omega
theorem one_V : V 4607182418800017408 = 1 * 2 ^ K74 := by decide +kernel
theorem mul_one_f {z : Nat} (h0 : 0 < z) (hz : z < infR) : Ieee.double.mul 4607182418800017408 z = some z :=
  mul_exact (by decide) hz hz (by decide) h0 (by rw [one_V, Nat.one_mul, Nat.mul_comm])
-- the bits
theorem zclear (X : Nat) (hX : X < 9223372036854775808) : bits BinOp.andNot IntKind.u64 (X : Int) 9218868437227405312 = ((X % 4503599627370496 : Nat) : Int) := by
  have h := u64_andNot_nat X 9218868437227405312 (by omega) (by decide)
  have e : (18446744073709551615 - 9218868437227405312 : Nat) = (2 ^ 63) ||| (2 ^ 52 - 1) := by decide
  rw [e, Nat.and_or_distrib_left, Nat.and_two_pow_sub_one_eq_mod, show (2 : Nat) ^ 63 = 9223372036854775808 by decide, and_63, show X / 9223372036854775808 = 0 by omega] at h
  simpa using h
theorem zor_at (c m : Nat) (hc : c % 4503599627370496 = 0) (hc2 : c < 18446744073709551616) (hm : m < 4503599627370496) : bits BinOp.or IntKind.u64 (m : Int) (c : Int) = ((m + c : Nat) : Int) := by
  have h := u64_or_nat m c (by omega) hc2
  rw [Nat.or_comm, nat_join52 c m hc hm, Nat.add_comm] at h
  exact h
theorem zand_2047 (q : Nat) (hq : q < 2048) : bits BinOp.and IntKind.u64 (q : Int) 2047 = (q : Int) := by
  have h := u64_and_nat q 2047 (by omega) (by decide)
  rw [nat_mask11, Nat.mod_eq_of_lt hq] at h
  exact h
theorem iand_2047 (q : Nat) (hq : q < 2048) : bits BinOp.and IntKind.i64 (q : Int) 2047 = (q : Int) := by
  show IntKind.i64.wrap ((BitVec.ofInt 64 (q : Int) &&& BitVec.ofInt 64 2047).toNat : Int) = _
  have e : (BitVec.ofInt 64 (2047 : Int)).toNat = 2047 := by decide
  rw [BitVec.toNat_and, ofInt_u64 q (by omega), e, nat_mask11, Nat.mod_eq_of_lt hq, IntWalk.i64_in _ (by omega)]
/-- The sign bit struck out. -/
theorem zabs (X : Nat) (hX : X < 18446744073709551616) : bits BinOp.andNot IntKind.u64 (X : Int) 9223372036854775808 = ((X % 9223372036854775808 : Nat) : Int) := by
  have h := u64_andNot_nat X 9223372036854775808 hX (by decide)
  have e : (18446744073709551615 - 9223372036854775808 : Nat) = 2 ^ 63 - 1 := by decide
  rw [e, Nat.and_two_pow_sub_one_eq_mod] at h
  exact h
end Go.Proofs.YtlhhpehfgkanoaaGreatDoor.fl
/- A float as a fraction: between which powers of ten it lies, and its digits by division. Plain. -/
namespace Go.Proofs.YtlhhpehfgkanoaaGreatDoor.fl
set_option linter.unusedVariables false
/-- a / b is the float u. -/
structure Frac (u a b : Nat) : Prop where
  pa : 0 < a
  pb : 0 < b
  ea : a * 2 ^ K74 = V u * b
/-- Both sides laid on one scale. -/
theorem Frac.sc {u a b : Nat} (h : Frac u a b) (p : Int) (j : Nat) : ∃ X Y, 0 < X ∧ 0 < Y ∧ a * 10 ^ (-p).toNat * 10 ^ j * X = V u * valD (p - j) * Y ∧ ∀ D, D * (b * 10 ^ p.toNat) * X = valN D (p - j) * Y := by
  refine ⟨2 ^ K74 * 10 ^ (p - j).toNat, b * 10 ^ p.toNat, Nat.mul_pos (Nat.pow_pos (by decide)) (Nat.pow_pos (by decide)), Nat.mul_pos h.pb (Nat.pow_pos (by decide)), ?_, fun D => ?_⟩
  · rw [valD_eq]
    have e1 : a * 10 ^ (-p).toNat * 10 ^ j * (2 ^ K74 * 10 ^ (p - j).toNat) = a * 2 ^ K74 * (10 ^ (-p).toNat * 10 ^ j * 10 ^ (p - j).toNat) := by simp only [Nat.mul_assoc, Nat.mul_comm, Nat.mul_left_comm]
    have e2 : V u * 10 ^ (-(p - j)).toNat * (b * 10 ^ p.toNat) = V u * b * (10 ^ (-(p - j)).toNat * 10 ^ p.toNat) := by simp only [Nat.mul_assoc, Nat.mul_comm, Nat.mul_left_comm]
    have e3 : (-p).toNat + j + (p - j).toNat = (-(p - j)).toNat + p.toNat := by omega
    rw [e1, e2, h.ea, ← Nat.pow_add, ← Nat.pow_add, ← Nat.pow_add, e3]
  · rw [valN_eq]
    simp only [Nat.mul_assoc, Nat.mul_comm, Nat.mul_left_comm]
theorem Frac.lt {u a b : Nat} (h : Frac u a b) (p : Int) (j c D : Nat) :
    (c * (a * 10 ^ (-p).toNat * 10 ^ j) < D * (b * 10 ^ p.toNat) ↔ c * (V u * valD (p - j)) < valN D (p - j)) ∧ (D * (b * 10 ^ p.toNat) < c * (a * 10 ^ (-p).toNat * 10 ^ j) ↔ valN D (p - j) < c * (V u * valD (p - j))) := by
  obtain ⟨X, Y, hX, hY, h1, h2⟩ := h.sc p j
  have h3 := h2 D
  have h4 : c * (a * 10 ^ (-p).toNat * 10 ^ j) * X = c * (V u * valD (p - j)) * Y := by rw [Nat.mul_assoc, h1, ← Nat.mul_assoc]
  exact ⟨by rw [mul_lt_iff hX, h4, h3, ← mul_lt_iff hY], by rw [mul_lt_iff hX, h4, h3, ← mul_lt_iff hY]⟩
/-- Is a / b < 10^p? -/
def bel (a b : Nat) (p : Int) : Prop := a * 10 ^ (-p).toNat < b * 10 ^ p.toNat
theorem bel_iff {u a b : Nat} (h : Frac u a b) (p : Int) : bel a b p ↔ V u * valD p < valN 1 p := by
  have := (h.lt p 0 1 1).1
  rw [show p - ((0 : Nat) : Int) = p by omega] at this
  unfold bel
  simpa using this
def K400 : Nat := 400
theorem K400_eq : K400 = 400 := rfl
def K2098 : Nat := 2098
theorem K2098_eq : K2098 = 2098 := rfl
theorem inf_400 : V infR < 10 ^ K400 * 2 ^ K74 := by decide +kernel
theorem two_400 : 2 ^ K74 < 10 ^ K400 := by decide +kernel
theorem inf_V : V infR = 2 ^ K2098 := by decide +kernel
theorem bel_hi {u a b : Nat} (h : Frac u a b) (hu : u < infR) {p : Int} (hp : 400 ≤ p) : bel a b p := by
  rw [bel_iff h, valD_eq, valN_eq, show (-p).toNat = 0 by omega, Nat.pow_zero, Nat.mul_one, Nat.one_mul]
  have h1 := V_lt hu
  have h2 : 10 ^ K400 * 2 ^ K74 ≤ 10 ^ p.toNat * 2 ^ K74 := Nat.mul_le_mul_right _ (Nat.pow_le_pow_right (by decide) (by rw [K400_eq]; omega))
  have h3 := inf_400
  omega
theorem bel_lo {u a b : Nat} (h : Frac u a b) (h0 : 0 < u) {p : Int} (hp : p ≤ -400) : ¬ bel a b p := by
  rw [bel_iff h, valD_eq, valN_eq, show p.toNat = 0 by omega, Nat.pow_zero, Nat.mul_one, Nat.one_mul]
  have h1 := V_ge u
  have h2 : 10 ^ K400 ≤ 10 ^ (-p).toNat := Nat.pow_le_pow_right (by decide) (by rw [K400_eq]; omega)
  have h3 := two_400
  have h4 : 1 * 10 ^ (-p).toNat ≤ V u * 10 ^ (-p).toNat := Nat.mul_le_mul_right _ (by omega)
  omega
theorem top_of {u a b : Nat} (h : Frac u a b) {p : Int} (h1 : bel a b p) (h2 : ¬ bel a b (p - 1)) : Top u p := by
  rw [bel_iff h] at h1 h2
  exact ⟨Nat.le_of_not_lt h2, h1⟩
theorem pow_lt {a b : Nat} (h : 2 ^ a < 2 ^ b) : a < b := (Nat.pow_lt_pow_iff_right (by decide)).1 h
/-- How the bits stand. -/
theorem Frac.bits {u a b s t : Nat} (h : Frac u a b) (h0 : 0 < u) (hu : u < infR) (a1 : 2 ^ s ≤ 2 * a) (a2 : a < 2 ^ s) (b1 : 2 ^ t ≤ 2 * b) (b2 : b < 2 ^ t) : -1100 ≤ (s : Int) - t ∧ (s : Int) - t ≤ 1100 := by
  have hv1 := V_ge u
  have hv2 := V_lt hu
  rw [inf_V] at hv2
  have he := h.ea
  have hK := K74_eq
  have hL := K2098_eq
  have p74 : 0 < 2 ^ K74 := Nat.pow_pos (by decide)
  constructor
  · have e1 : b ≤ V u * b := Nat.le_mul_of_pos_left b (by omega)
    have e2 : a * 2 ^ K74 < 2 ^ s * 2 ^ K74 := Nat.mul_lt_mul_of_pos_right a2 p74
    rw [← Nat.pow_add] at e2
    have e3 : 2 ^ t < 2 ^ (s + K74 + 1) := by rw [Nat.pow_succ]; omega
    have := pow_lt e3
    omega
  · have e1 : V u * b < 2 ^ K2098 * 2 ^ t := Nat.mul_lt_mul'' hv2 b2
    have e2 : 2 ^ s * 2 ^ K74 ≤ 2 * a * 2 ^ K74 := Nat.mul_le_mul_right _ a1
    rw [Nat.mul_assoc] at e2
    rw [← Nat.pow_add] at e1 e2
    have e3 : 2 ^ (s + K74) < 2 ^ (K2098 + t + 1) := by rw [Nat.pow_succ]; omega
    have := pow_lt e3
    omega
/-- Digits so far, and what is left. -/
def RestR (a b : Nat) (p : Int) (j L R : Nat) : Prop := a * 10 ^ (-p).toNat * 10 ^ j = L * (b * 10 ^ p.toNat) + R
theorem RestR.start {a b : Nat} {p : Int} : RestR a b p 0 0 (a * 10 ^ (-p).toNat) := by
  unfold RestR
  rw [Nat.pow_zero]; omega
theorem RestR.ten {a b j L R : Nat} {p : Int} (h : RestR a b p j L R) : RestR a b p (j + 1) (L * 10) (R * 10) := by
  unfold RestR at h ⊢
  rw [Nat.pow_succ, ← Nat.mul_assoc, h, Nat.add_mul, Nat.mul_assoc, Nat.mul_comm (b * _) 10, ← Nat.mul_assoc L]
theorem RestR.sub {a b j L R : Nat} {p : Int} (h : RestR a b p j L R) (hle : b * 10 ^ p.toNat ≤ R) : RestR a b p j (L + 1) (R - b * 10 ^ p.toNat) := by
  unfold RestR at h ⊢
  rw [h, Nat.add_mul, Nat.one_mul]
  omega
theorem RestR.le {a b j L R : Nat} {p : Int} (h : RestR a b p j L R) (hb : bel a b p) : L < 10 ^ j := by
  unfold RestR at h
  unfold bel at hb
  by_cases hh : L < 10 ^ j
  · exact hh
  · exfalso
    have h1 : 10 ^ j * (b * 10 ^ p.toNat) ≤ L * (b * 10 ^ p.toNat) := Nat.mul_le_mul_right _ (by omega)
    have h2 : a * 10 ^ (-p).toNat * 10 ^ j < b * 10 ^ p.toNat * 10 ^ j := Nat.mul_lt_mul_of_pos_right hb (Nat.pow_pos (by decide))
    rw [Nat.mul_comm (10 ^ j)] at h1
    omega
theorem RestR.floor {u a b j L R : Nat} {p : Int} (h : RestR a b p j L R) (hf : Frac u a b) (hR : R < b * 10 ^ p.toNat) : FloorIs u (p - j) L := by
  unfold RestR at h
  have h1 := (hf.lt p j 1 L).1
  have h2 := (hf.lt p j 1 (L + 1)).1
  rw [Nat.one_mul, Nat.one_mul] at h1 h2
  refine ⟨?_, ?_⟩
  · refine Nat.le_of_not_lt fun hh => ?_
    have := h1.2 hh
    omega
  · refine h2.1 ?_
    rw [h, Nat.add_mul, Nat.one_mul]
    omega
/-- Which half. -/
theorem RestR.half {u a b j L R : Nat} {p : Int} (h : RestR a b p j L R) (hf : Frac u a b) :
    (b * 10 ^ p.toNat < R * 2 ↔ valN (2 * L + 1) (p - j) < 2 * (V u * valD (p - j))) ∧ (R * 2 < b * 10 ^ p.toNat ↔ 2 * (V u * valD (p - j)) < valN (2 * L + 1) (p - j)) := by
  unfold RestR at h
  obtain ⟨h1, h2⟩ := hf.lt p j 2 (2 * L + 1)
  rw [← h1, ← h2, h]
  have e : (2 * L + 1) * (b * 10 ^ p.toNat) = 2 * (L * (b * 10 ^ p.toNat)) + b * 10 ^ p.toNat := by rw [Nat.add_mul, Nat.mul_assoc, Nat.one_mul]
  rw [e]
  constructor <;> constructor <;> intro hh <;> omega
end Go.Proofs.YtlhhpehfgkanoaaGreatDoor.fl
/- The contract of strconv.FormatUint at base ten. -/
namespace Go.Proofs.YtlhhpehfgkanoaaGreatDoor.fl
open Go.ChangeShapes Go.WideShapes Go.ChangeAt Go.RowKit Go.Sort Go.Lib
set_option linter.unusedVariables false
theorem holds_zero0 (w : World) (T : TypeId) (nd : Nat) (hs : nd ≤ 24) : Holds (fun (b : UInt8) => Value.int .u8 (b.toNat : Int)) (w.alloc (.cells Lib.zeros24 T)) w.heap.size 0 (Array.replicate nd (0 : UInt8)) := fun j hj => by
  have hj' : j < nd := by simpa using hj
  refine ⟨?_, World.frozen?_alloc_new _ _ _ _⟩
  rw [World.cell?_alloc_new, Nat.zero_add, Lib.zeros24_at _ (by omega), getElem!_pos _ j hj]
  simp
theorem fin_pos0 (w : World) (o : Obj) (dk : Array UInt8) (k : Nat) : ∃ os, (putRow (fun (b : UInt8) => Value.int .u8 (b.toNat : Int)) (w.alloc o) w.heap.size 0 dk).drewN k = grow (w.drewN k) os := by
  rw [alloc_eq_grow]
  obtain ⟨os', _, e⟩ := putRow_grow_new (fun (b : UInt8) => Value.int .u8 (b.toNat : Int)) w #[o] w.heap.size 0 dk (Nat.le_refl _)
  exact ⟨os', by rw [e]; rfl⟩
/-- What FormatUint answers. -/
def FuPost (u : Nat) (w : World) (e : Ending) (w' : World) : Prop := e = .returned (.string ⟨(Lib.decDigits u).toArray⟩) ∧ Below w.heap.size w w'
set_option maxRecDepth 100000 in
set_option maxHeartbeats 1000000 in
theorem fmtUintI (u : Nat) (hu : u < 18446744073709551616) (w : World) (htab : Lib.TabIs Tryz.prog w "internal/strconv.uint64pow10" .u64 Lib.pow10Tab) :
    Calls Tryz.prog 77 #[.int .u64 u, .int .i64 10] w (FuPost u w) := by
  by_cases hs : u < 100
  · go_enter Tryz.func77, Tryz.ntmps77
    go_wp2_with fail
    refine (Tryz.internal_strconv_small u hs _).mono ?_
    rintro e w' ⟨rfl, rfl⟩
    go_wp2_with fail
    go_ret
    exact ⟨rfl, Below.refl _ _⟩
  · have hu1 : 1 ≤ u := by omega
    have hnd20 : Lib.nDigits u ≤ 20 := by have := Lib.numDigits_eq u hu1 hu; split at this <;> omega
    have hal : Tryz.prog.arrayLen 139 = 24 := by kernel_rfl
    have hsl1 : ∀ W, (Instr.sliceAt 139 (.pointer (some ⟨w.heap.size, 0, none⟩)) none (some (.int .i64 (Lib.nDigits u : Int))) none).run Tryz.prog W = .ok (.slice (some ⟨w.heap.size, 0, none⟩) (Lib.nDigits u) 24) W := fun W => by
      rw [run_sliceAt_array_h W 139 ⟨w.heap.size, 0, none⟩ (by kernel_rfl) .i64 (Lib.nDigits u : Int) (by omega) (by rw [hal]; omega)]
      go_simp
    have hH0 := holds_zero0 w 139 (Lib.nDigits u) (by omega)
    have hfmt := Tryz.internal_strconv_formatBase10 w.heap.size 0 24 u (Array.replicate (Lib.nDigits u) 0) (w.alloc (.cells Lib.zeros24 139)) hH0 (by rw [Array.size_replicate]; exact Lib.lt_pow_nDigits u) hu (by rw [Array.size_replicate]; omega)
    rw [Array.size_replicate] at hfmt
    have HH0 := fhid hH0
    have HT := fhid (Lib.tabIs_alloc htab (.cells Lib.zeros24 139))
    have hs' : ¬ u < 100 := hs
    clear hH0 hal htab
    go_enter Tryz.func77, Tryz.ntmps77
    go_wp2_with fail
    refine (Tryz.internal_strconv_numDigits u hu1 hu _ HT.out).mono ?_
    rintro e w' ⟨rfl, rfl⟩
    go_wp2_with fail
    refine hfmt.mono ?_
    clear hfmt
    rintro e w' ⟨rfl, k, v', dk, rfl, hF⟩
    have hcv : (convert 66 9 (.slice (some ⟨w.heap.size, 0, none⟩) (Lib.nDigits u) 24)).run Tryz.prog ((putRow (fun (b : UInt8) => Value.int .u8 (b.toNat : Int)) (w.alloc (.cells Lib.zeros24 139)) w.heap.size 0 dk).drewN k) = .ok (.string ⟨(Lib.decDigits u).toArray⟩) ((putRow (fun (b : UInt8) => Value.int .u8 (b.toNat : Int)) (w.alloc (.cells Lib.zeros24 139)) w.heap.size 0 dk).drewN k) := by
      have h := run_convert_bytes_back (P := Tryz.prog) ((putRow (fun (b : UInt8) => Value.int .u8 (b.toNat : Int)) (w.alloc (.cells Lib.zeros24 139)) w.heap.size 0 dk).drewN k) 66 9 5 ⟨w.heap.size, 0, none⟩ 24 (Lib.decDigits u) Tryz.underlying66 Tryz.underlying5 Tryz.underlying9 (fun j hj => by
        rw [Lib.row_is_numeral hF j hj, Lib.add_plain, World.cell?_drewN]
        exact cell?_putRow (fun (b : UInt8) => Value.int .u8 (b.toNat : Int)) _ w.heap.size 0 _ dk HH0.out (by rw [hF.size, Array.size_replicate]) j (by rw [hF.size]; rw [Lib.decDigits_length] at hj; exact hj))
      rw [Lib.decDigits_length] at h
      exact h
    have HF : Hid (Below w.heap.size w ((putRow (fun (b : UInt8) => Value.int .u8 (b.toNat : Int)) (w.alloc (.cells Lib.zeros24 139)) w.heap.size 0 dk).drewN k)) := fhid (by
      obtain ⟨os, eo⟩ := fin_pos0 w (.cells Lib.zeros24 139) dk k
      rw [eo]
      exact Lib.below_grow _ _ (Nat.le_refl _) _ _)
    clear hF HH0 HT
    go_wp2_with fail
    go_ret
    exact ⟨rfl, HF.out⟩
set_option maxHeartbeats 1000000 in
theorem fmtUintC (u : Nat) (hu : u < 18446744073709551616) (w : World) (htab : Lib.TabIs Tryz.prog w "internal/strconv.uint64pow10" .u64 Lib.pow10Tab) :
    Calls Tryz.prog 49 #[.int .u64 u, .int .i64 10] w (FuPost u w) := by
  have c := fmtUintI u hu w htab
  go_enter Tryz.func49, Tryz.ntmps49
  go_wp2_with fail
  refine c.mono ?_
  clear c htab
  rintro e w' ⟨rfl, hb⟩
  have HB := fhid hb
  clear hb
  go_wp2_with fail
  go_ret
  exact ⟨rfl, HB.out⟩
end Go.Proofs.YtlhhpehfgkanoaaGreatDoor.fl
