/- The walk of the law ScoreKnown. Printed by mkQ4.py. -/
import Derived.Test.YtlhhpehfgkanoaaGreatDoorFlP
import Derived.Test.YtlhhpehfgkanoaaGreatDoorFlF
import Derived.Handy
import Derived.Laws.ResultCell
/- Small walks for the law ScoreKnown: math's Copysign, NaN and Ldexp at given floats; score's ParseBound, Add and Within at given ones. -/
namespace Go.Proofs.YtlhhpehfgkanoaaGreatDoor.fl
open Go.ChangeShapes Go.WideShapes Go.ChangeAt Go.RowKit
set_option linter.unusedVariables false
set_option linter.unusedSimpArgs false
theorem copysignK (w : World) :
    Calls Tryz.prog 19 #[.float .f64 0, .float .f64 13830554455654793216] w fun e w' => e = .returned (.float .f64 9223372036854775808) ∧ w = w' := by
  have hb := f64bits
  have hf := f64from
  have h1 : bits BinOp.andNot IntKind.u64 0 9223372036854775808 = 0 := by decide +kernel
  have h2 : bits BinOp.and IntKind.u64 13830554455654793216 9223372036854775808 = 9223372036854775808 := by decide +kernel
  have h3 : bits BinOp.or IntKind.u64 0 9223372036854775808 = 9223372036854775808 := by decide +kernel
  go_enter Tryz.func19, Tryz.ntmps19
  go_wp2_with fail
  go_ret
  exact ⟨rfl, rfl⟩
theorem nanP (w : World) : Calls Tryz.prog 21 #[] w fun e w' => e = .returned (.float .f64 9221120237041090561) ∧ w = w' := by
  have hf := f64from
  go_enter Tryz.func21, Tryz.ntmps21
  go_wp2_with fail
  go_ret
  exact ⟨rfl, rfl⟩
set_option maxHeartbeats 1000000 in
theorem ldexpIK (w : World) :
    Calls Tryz.prog 40 #[.float .f64 4607182418800017408, .int .i64 (-44)] w fun e w' => e = .returned (.float .f64 4409024035195715584) ∧ w = w' := by
  have hb := f64bits
  have hf := f64from
  have ci := isInfC false 4607182418800017408 0 false w (by decide) (by decide) (by decide)
  have ho : FloatKind.f64.format.order 4607182418800017408 4607182418800017408 = some .eq := by decide +kernel
  have ho0 : FloatKind.f64.format.order 4607182418800017408 0 = some .gt := by decide +kernel
  rw [show sgw false + 4607182418800017408 = 4607182418800017408 from rfl] at ci
  have cn := isNaNC 4607182418800017408 false w (by rw [ho]; rfl)
  have cm := normBig 4607182418800017408 w (by decide) (by decide)
  have hq : ∀ w, _ := fun w => run_float_arith (P := Tryz.prog) w .mul 23 .f64 4607182418800017408 4409024035195715584 _ (mul_one_f (z := 4409024035195715584) (by decide) (by decide))
  have h1 : bits BinOp.and IntKind.i64 1023 2047 = 1023 := by decide +kernel
  have h2 : bits BinOp.andNot IntKind.u64 4607182418800017408 9218868437227405312 = 0 := by decide +kernel
  have h3 : bits BinOp.or IntKind.u64 0 4409024035195715584 = 4409024035195715584 := by decide +kernel
  clear ho
  go_enter Tryz.func40, Tryz.ntmps40
  go_wp2_with fail
  refine ci.mono ?_
  rintro e w' ⟨rfl, rfl⟩
  go_wp2_with fail
  refine cn.mono ?_
  rintro e w' ⟨rfl, rfl⟩
  go_wp2_with fail
  refine cm.mono ?_
  clear cm ci cn
  rintro e w' ⟨rfl, rfl⟩
  go_wp2_with fail
  go_ret
  exact ⟨rfl, rfl⟩
theorem ldexpK (w : World) :
    Calls Tryz.prog 20 #[.float .f64 4607182418800017408, .int .i64 (-44)] w fun e w' => e = .returned (.float .f64 4409024035195715584) ∧ w = w' := by
  have c := ldexpIK w
  go_enter Tryz.func20, Tryz.ntmps20
  go_wp2_with fail
  refine c.mono ?_
  rintro e w' ⟨rfl, rfl⟩
  go_wp2_with fail
  go_ret
  exact ⟨rfl, rfl⟩
end Go.Proofs.YtlhhpehfgkanoaaGreatDoor.fl
/- Score's ParseBound, Add and Within at given words and floats. -/
namespace Go.Proofs.YtlhhpehfgkanoaaGreatDoor.fl
open Go.ChangeShapes Go.WideShapes Go.ChangeAt Go.RowKit
set_option linter.unusedVariables false
set_option linter.unusedSimpArgs false
@[go_sem] theorem run_store_float {P : Program} {w : World} {a : Addr} {m : Mode} (k : FloatKind) (n : Nat) : (store a (.float k n) m).run P w = stored P w a (.float k n) m := run_store P w a _ m rfl
/-- Two cells of a block that the call made, in a later world. -/
theorem pair_kept {w w2 : World} {v u : Value} {t : TypeId} (hb : Below (w.alloc (.cells #[v, u] t)).heap.size (w.alloc (.cells #[v, u] t)) w2) :
    w2.cell? ⟨w.heap.size, 0, none⟩ = some v ∧ w2.cell? ⟨w.heap.size, 1, none⟩ = some u ∧ w2.frozen? ⟨w.heap.size, 0, none⟩ = false ∧ w2.frozen? ⟨w.heap.size, 1, none⟩ = false := by
  have hs : (w.alloc (.cells #[v, u] t)).heap.size = w.heap.size + 1 := Array.size_push _
  have hc : ∀ o, w2.cell? ⟨w.heap.size, o, none⟩ = (w.alloc (.cells #[v, u] t)).cell? ⟨w.heap.size, o, none⟩ := fun o => hb.cell (p := ⟨w.heap.size, o, none⟩) (by rw [hs]; exact Nat.lt_succ_self _)
  have hf : ∀ o, w2.frozen? ⟨w.heap.size, o, none⟩ = (w.alloc (.cells #[v, u] t)).frozen? ⟨w.heap.size, o, none⟩ := fun o => hb.frozen (p := ⟨w.heap.size, o, none⟩) (by rw [hs]; exact Nat.lt_succ_self _)
  rw [hc, hc, hf, hf, World.cell?_alloc_at _ _ _ _ rfl, World.cell?_alloc_at _ _ _ _ rfl, World.frozen?_alloc_at _ _ _ _ rfl, World.frozen?_alloc_at _ _ _ _ rfl]
  exact ⟨rfl, rfl, rfl, rfl⟩
/-- ParseBound where Parse takes the word. -/
theorem boundC (s t : ByteArray) (o : Bool) (x : Nat) (w : World) (hf : FO w)
    (hc : ∀ w, Calls Tryz.prog 41 #[.string s, .string ⟨#[40]⟩] w fun e w' => e = .returned (.tuple #[.string t, .bool o]) ∧ w' = w)
    (cp : ∀ w, FO w → Calls Tryz.prog 14 #[.string t] w (MnPost x w)) :
    Calls Tryz.prog 22 #[.string s] w fun e w' => e = .returned (.tuple #[.agg #[.float .f64 x, .bool o], .int .i64 0]) ∧ Below w.heap.size w w' := by
  have HF := fhid (hf.on (Below.alloc (Below.refl _ _) (Nat.le_refl _) (Obj.cells #[Value.float FloatKind.f64 0, Value.bool false] 45)))
  have HC := fhid cp
  have HB := fhid (Below.alloc (Below.refl w.heap.size w) (Nat.le_refl _) (Obj.cells #[Value.float FloatKind.f64 0, Value.bool false] 45))
  clear hf cp
  go_enter Tryz.func22, Tryz.ntmps22
  go_wp2_with fail
  with_reducible refine (hc _).mono ?_
  clear hc
  rintro e w1 ⟨rfl, rfl⟩
  go_wp2_with fail
  with_reducible refine (HC.out _ HF.out).mono ?_
  rintro e w2 ⟨rfl, hb⟩
  have hk := pair_kept hb
  have HB2 := fhid (HB.out.trans (hb.mono HB.out.size))
  clear hb HF HC HB
  obtain ⟨k1, k2, k3, k4⟩ := hk
  obtain ⟨n, hn⟩ : ∃ n, w.heap.size = n := ⟨_, rfl⟩
  rw [hn] at k1 k2 k3 k4 HB2 ⊢
  have HN := fhid hn
  clear hn
  go_wp2_with fail
  refine bodyPost_ret (v := .tuple #[.agg #[.float .f64 x, .bool o], .int .i64 0]) (by rw [results_cell_tmp rfl]; go_simp) rfl ?_
  exact ⟨rfl, by rw [HN.out]; exact (HB2.out.setCell (Nat.le_refl _) _).setCell (Nat.le_refl _) _⟩
/-- .. and where it refuses. -/
theorem boundNo (s t : ByteArray) (o : Bool) (w : World)
    (hc : ∀ w, Calls Tryz.prog 41 #[.string s, .string ⟨#[40]⟩] w fun e w' => e = .returned (.tuple #[.string t, .bool o]) ∧ w' = w)
    (cp : ∀ w, Calls Tryz.prog 14 #[.string t] w (ErPost w)) :
    Calls Tryz.prog 22 #[.string s] w fun e w' => e = .returned (.tuple #[.agg #[.float .f64 0, .bool false], .int .i64 20]) ∧ Below w.heap.size w w' := by
  have HC := fhid cp
  have HB := fhid (Below.alloc (Below.refl w.heap.size w) (Nat.le_refl _) (Obj.cells #[Value.float FloatKind.f64 0, Value.bool false] 45))
  clear cp
  go_enter Tryz.func22, Tryz.ntmps22
  go_wp2_with fail
  with_reducible refine (hc _).mono ?_
  clear hc
  rintro e w1 ⟨rfl, rfl⟩
  go_wp2_with fail
  with_reducible refine (HC.out _).mono ?_
  rintro e w2 ⟨rfl, hb⟩
  have hk := pair_kept hb
  have HB2 := fhid (HB.out.trans (hb.mono HB.out.size))
  clear hb HC HB
  obtain ⟨k1, k2, k3, k4⟩ := hk
  obtain ⟨n, hn⟩ : ∃ n, w.heap.size = n := ⟨_, rfl⟩
  rw [hn] at k1 k2 k3 k4 HB2 ⊢
  have HN := fhid hn
  clear hn
  go_wp2_with fail
  refine bodyPost_ret (v := .tuple #[.agg #[.float .f64 0, .bool false], .int .i64 20]) (by rw [results_cell_tmp rfl]; go_simp) rfl ?_
  exact ⟨rfl, by rw [HN.out]; exact (HB2.out.setCell (Nat.le_refl _) _).setCell (Nat.le_refl _) _⟩
/-- Score's Within. -/
def inB (c d : Option Ordering) (ol oh : Bool) : Bool :=
  (c == some .gt || (c == some .eq && !ol)) && (d == some .lt || (d == some .eq && !oh))
set_option maxHeartbeats 1000000 in
theorem withinC (x lo hi : Nat) (ol oh : Bool) (c d : Option Ordering) (w : World)
   (h1 : FloatKind.f64.format.order x lo = c) (h2 : FloatKind.f64.format.order x hi = d) :
    Calls Tryz.prog 24 #[.float .f64 x, .agg #[.float .f64 lo, .bool ol], .agg #[.float .f64 hi, .bool oh]] w
      fun e w' => e = .returned (.bool (inB c d ol oh)) ∧ Below w.heap.size w w' := by
  rcases c with _ | _ | _ | _ <;> rcases d with _ | _ | _ | _
  all_goals cases ol
  all_goals cases oh
  all_goals
    go_enter Tryz.func24, Tryz.ntmps24
    go_wp2_with fail
    go_ret
    exact ⟨rfl, by go_grown⟩
/-- Score's Add, where the sum is a float. -/
theorem addC (a b r : Nat) (w : World) (h : Ieee.double.add a b = some r) (ho : FloatKind.f64.format.order r r = some .eq) :
    Calls Tryz.prog 23 #[.float .f64 a, .float .f64 b] w fun e w' => e = .returned (.tuple #[.float .f64 r, .int .i64 0]) ∧ Below w.heap.size w w' := by
  have hr := fun (w : World) => run_float_arith (P := Tryz.prog) w .add 23 .f64 a b r h
  have cn := fun w => isNaNC r false w (by rw [ho]; rfl)
  clear h ho
  go_enter Tryz.func23, Tryz.ntmps23
  go_wp2_with fail
  refine (cn _).mono ?_
  rintro e w' ⟨rfl, rfl⟩
  go_wp2_with fail
  go_ret2
  exact ⟨rfl, Below.refl _ _⟩
theorem drawn_nan (t : Nat) : (Ieee.double.read ((t % 2) * 2 ^ 63 + 0x7ff0000000000000 + 1 + (t / 2) % (2 ^ 52 - 1))).isNaN = true := by
  have e : Ieee.double.signWeight = 2 ^ 63 := by decide
  have i : Ieee.double.infRung = 0x7ff0000000000000 := by decide
  have b : Ieee.double.binade = 2 ^ 52 := by decide
  have m : ((t % 2) * 2 ^ 63 + 0x7ff0000000000000 + 1 + (t / 2) % (2 ^ 52 - 1)) % 2 ^ 63 = 0x7ff0000000000000 + 1 + (t / 2) % (2 ^ 52 - 1) := by omega
  unfold Ieee.Format.read
  simp only [e, i, b, m]
  rw [if_neg (by omega), if_neg (by omega), if_neg (by omega)]
  rfl
theorem order_nan (x : Nat) (h : (Ieee.double.read x).isNaN = true) : Ieee.double.order x x = none := by
  unfold Ieee.Format.order
  cases hx : Ieee.double.read x with
  | nan => simp [Ieee.Datum.order]
  | infinity s => rw [hx] at h; cases h
  | number s m p => rw [hx] at h; cases h
/-- A sum that is not valid: a NaN, whose bits are drawn. -/
theorem run_add_nan {P : Program} (t : TypeId) (a b : Nat) (h : Ieee.double.add a b = none) (w : World) :
    ∃ n, Ieee.double.order n n = none ∧ (binOp .add t (.float .f64 a) (.float .f64 b)).run P w = .ok (.float .f64 n) w.drew := by
  refine ⟨_, order_nan _ (drawn_nan (w.tape w.drawn (.nanBits .f64 a b))), ?_⟩
  have h' : FloatKind.f64.format.add a b = none := h
  simp [binOp, Op.floatArith, h', choose, Sem.run, Question.forced, Question.cut]
theorem addNo (a b : Nat) (w : World) (h : Ieee.double.add a b = none) :
    Calls Tryz.prog 23 #[.float .f64 a, .float .f64 b] w fun e w' => e = .returned (.tuple #[.float .f64 0, .int .i64 20]) ∧ Below w.heap.size w w' := by
  obtain ⟨n, hn, hr⟩ := run_add_nan (P := Tryz.prog) 23 a b h w
  have cn := fun w => isNaNC n true w (by
    have : FloatKind.f64.format.order n n = none := hn
    rw [this]; rfl)
  clear h hn
  go_enter Tryz.func23, Tryz.ntmps23
  go_wp2_with fail
  refine (cn _).mono ?_
  rintro e w' ⟨rfl, rfl⟩
  go_wp2_with fail
  go_ret2
  exact ⟨rfl, (Below.refl _ _).drew⟩
end Go.Proofs.YtlhhpehfgkanoaaGreatDoor.fl
/- The words and floats of ScoreKnown's tables: which word means which float, which word is refused, which word is a float's. Printed by mkQ3.py; the checks are the kernel's. Plain. -/
namespace Go.Proofs.YtlhhpehfgkanoaaGreatDoor.fl
open Go.ChangeShapes Go.WideShapes Go.ChangeAt Go.RowKit
set_option linter.unusedVariables false
set_option linter.unusedSimpArgs false
instance nearDec (N D u : Nat) : Decidable (Near N D u) :=
  decidable_of_iff ((u = 0 ∨ (V (u - 1) + V u) * D < 2 * N ∨ ((V (u - 1) + V u) * D = 2 * N ∧ u % 2 = 0)) ∧ (2 * N < (V u + V (u + 1)) * D ∨ (2 * N = (V u + V (u + 1)) * D ∧ u % 2 = 0))) ⟨fun h => ⟨h.1, h.2⟩, fun h => ⟨h.1, h.2⟩⟩
instance pkDec (u : Nat) (q : Int) (L : Nat) (r : Option Nat) : Decidable (Pk u q L r) := by unfold Pk; infer_instance
instance floorDec (u : Nat) (q : Int) (L : Nat) : Decidable (FloorIs u q L) := by unfold FloorIs; infer_instance
instance topDec (u : Nat) (p : Int) : Decidable (Top u p) := by unfold Top; infer_instance
/-- Does the word's magnitude have the float u? -/
def nearW (t : List Nat) (u : Nat) : Bool := !infB (unsign t) && decB (unsign t) && !(rf (manL (unsign t))).tr && decide (Near (valN (dnum (manL (unsign t))) (wq (manL (unsign t)) (expV (expL (unsign t))))) (valD (wq (manL (unsign t)) (expV (expL (unsign t))))) u)
theorem nearW_out {t : List Nat} {u : Nat} (h : nearW t u = true) : infB (unsign t) = false ∧ decB (unsign t) = true ∧ (rf (manL (unsign t))).tr = false ∧ Near (valN (dnum (manL (unsign t))) (wq (manL (unsign t)) (expV (expL (unsign t))))) (valD (wq (manL (unsign t)) (expV (expL (unsign t))))) u := by
  unfold nearW at h
  simp only [Bool.and_eq_true, decide_eq_true_eq, Bool.not_eq_true'] at h
  exact ⟨h.1.1.1, h.1.1.2, h.1.2, h.2⟩
theorem means_dec {t : List Nat} {u x : Nat} (h : nearW t u = true) (hu : u < infR) (hx : x = sgw (isNeg t) + u) : Means t x := by
  obtain ⟨h1, h2, h3, h4⟩ := nearW_out h
  exact .inr ⟨h1, h2, h3, u, h4, hu, hx⟩
/-- Are these the digits that say enough? -/
def shB (u : Nat) (p : Int) (k : Nat) (l : List Nat) (L : Nat) : Bool :=
  decide (1 ≤ k) && decide (Top u p) && (List.range k).all (fun j => j == 0 || (decide (FloorIs u (p - j) (V u * valD (p - j) / valN 1 (p - j))) && decide (Pk u (p - j) (V u * valD (p - j) / valN 1 (p - j)) none))) && decide (FloorIs u (p - k) L) && decide (Pk u (p - k) L (some (dnum l)))
def digB (l : List Nat) : Bool := l.all (fun c => decide (48 ≤ c ∧ c ≤ 57)) && match l with
  | [] => false
  | [_] => true
  | c :: m => decide (10 ^ m.length ≤ dnum (c :: m))
theorem digB_out {l : List Nat} (h : digB l = true) : 1 ≤ l.length ∧ ddg (dnum l) = l := by
  unfold digB at h
  rw [Bool.and_eq_true, List.all_eq_true] at h
  have hd : ∀ c ∈ l, isDig c := fun c hc => by have := h.1 c hc; unfold isDig; simpa using this
  match l, h.2, hd with
  | [], h2, _ => cases h2
  | [c], _, hd =>
    refine ⟨Nat.le_refl 1, ?_⟩
    have hc := hd c (by simp)
    have e : dnum [c] = c - 48 := by
      have := dnum_snoc [] c
      unfold isDig at hc
      rw [if_neg (by omega)] at this
      have e0 : dnum [] = 0 := rfl
      rw [e0] at this
      simpa using this
    unfold isDig at hc
    rw [e, ddg_small (by omega), show c - 48 + 48 = c by omega]
  | c :: d :: m, h2, hd =>
    exact ⟨by simp, (ddg_of (k := (d :: m).length) hd (by simp) (by simpa using h2)).symm⟩
theorem sh_of {u k : Nat} {p : Int} {l : List Nat} {L : Nat} (h : shB u p k l L = true) (hd : digB l = true) : Sh u (strip l) (p + l.length - k) := by
  obtain ⟨h1, h2⟩ := digB_out hd
  unfold shB at h
  simp only [Bool.and_eq_true, decide_eq_true_eq, List.all_eq_true] at h
  refine ⟨p, k, L, dnum l, h.1.1.1.1, h.1.1.1.2, ?_, h.1.2, h.2, by rw [h2], by rw [h2]⟩
  intro j j1 j2
  have := h.1.1.2 j (by simpa using j2)
  simp only [Bool.or_eq_true, Bool.and_eq_true, decide_eq_true_eq, beq_iff_eq] at this
  rcases this with h0 | h0
  · omega
  · exact ⟨_, h0.1, h0.2⟩
/-- The layout, the exponent's digits told. -/
def layX (d : List Nat) (p : Int) (el : List Nat) : List Nat :=
  if p < -4 ∨ 17 < p then
    (if 1 < d.length then d.take 1 ++ [46] ++ d.drop 1 else d) ++ [101, if p < 1 then 45 else 43] ++ (if max (p - 1) (1 - p) < 10 then [48] else []) ++ el
  else if p ≤ 0 then [48, 46] ++ List.replicate (-p).toNat 48 ++ d
  else if d.length ≤ p then d ++ List.replicate (p - d.length).toNat 48
  else d.take p.toNat ++ [46] ++ d.drop p.toNat
theorem layX_eq {p : Int} {el : List Nat} (h : digB el = true) (he : (max (p - 1) (1 - p)).toNat = dnum el) (d : List Nat) : layS d p = layX d p el := by
  unfold layS layX
  rw [he, (digB_out h).2]
theorem print_dec {s : Bool} {u x k : Nat} {p a : Int} {l el w : List Nat} {L : Nat} (h0 : 0 < u) (hu : u < infR) (hx : x = sgw s + u) (hs : shB u p k l L = true) (ha : p + l.length - k = a) (hl : digB l = true) (he : digB el = true)
    (hp : (max (a - 1) (1 - a)).toNat = dnum el) (hw : sgB s ++ layX (strip l) a el = w) : PrintIs x w := by
  subst hx hw
  rw [← layX_eq he hp, ← ha]
  exact print_fin h0 hu (sh_of hs hl)

def kw1 : Nat → ByteArray
  | 0 => ⟨#[49]⟩
  | 1 => ⟨#[43, 49]⟩
  | 2 => ⟨#[48, 49, 46, 48]⟩
  | 3 => ⟨#[49, 101, 48]⟩
  | 4 => ⟨#[46, 49, 101, 49]⟩
  | 5 => ⟨#[49, 48, 69, 45, 49]⟩
  | 6 => ⟨#[49, 46]⟩
  | 7 => ⟨#[45, 48]⟩
  | 8 => ⟨#[45, 46, 48, 101, 57]⟩
  | 9 => ⟨#[105, 110, 102]⟩
  | 10 => ⟨#[43, 73, 110, 102]⟩
  | 11 => ⟨#[45, 73, 78, 70, 73, 78, 73, 84, 89]⟩
  | 12 => ⟨#[49, 101, 45, 52, 48, 48]⟩
  | 13 => ⟨#[45, 49, 101, 45, 57, 57, 57, 57, 57]⟩
  | 14 => ⟨#[57, 48, 48, 55, 49, 57, 57, 50, 53, 52, 55, 52, 48, 57, 57, 51]⟩
  | _ => ⟨#[49, 46, 55, 57, 55, 54, 57, 51, 49, 51, 52, 56, 54, 50, 51, 49, 53, 56, 101, 51, 48, 56]⟩
def kx1 : Nat → Nat
  | 0 => 4607182418800017408
  | 1 => 4607182418800017408
  | 2 => 4607182418800017408
  | 3 => 4607182418800017408
  | 4 => 4607182418800017408
  | 5 => 4607182418800017408
  | 6 => 4607182418800017408
  | 7 => 9223372036854775808
  | 8 => 9223372036854775808
  | 9 => 9218868437227405312
  | 10 => 9218868437227405312
  | 11 => 18442240474082181120
  | 12 => 0
  | 13 => 9223372036854775808
  | 14 => 4845873199050653696
  | _ => 9218868437227405311
theorem k1_0 : Means [49] 4607182418800017408 := means_dec (u := 4607182418800017408) (by decide +kernel) (by decide) (by decide +kernel)
theorem k1_1 : Means [43, 49] 4607182418800017408 := means_dec (u := 4607182418800017408) (by decide +kernel) (by decide) (by decide +kernel)
theorem k1_2 : Means [48, 49, 46, 48] 4607182418800017408 := means_dec (u := 4607182418800017408) (by decide +kernel) (by decide) (by decide +kernel)
theorem k1_3 : Means [49, 101, 48] 4607182418800017408 := means_dec (u := 4607182418800017408) (by decide +kernel) (by decide) (by decide +kernel)
theorem k1_4 : Means [46, 49, 101, 49] 4607182418800017408 := means_dec (u := 4607182418800017408) (by decide +kernel) (by decide) (by decide +kernel)
theorem k1_5 : Means [49, 48, 69, 45, 49] 4607182418800017408 := means_dec (u := 4607182418800017408) (by decide +kernel) (by decide) (by decide +kernel)
theorem k1_6 : Means [49, 46] 4607182418800017408 := means_dec (u := 4607182418800017408) (by decide +kernel) (by decide) (by decide +kernel)
theorem k1_7 : Means [45, 48] 9223372036854775808 := means_dec (u := 0) (by decide +kernel) (by decide) (by decide +kernel)
theorem k1_8 : Means [45, 46, 48, 101, 57] 9223372036854775808 := means_dec (u := 0) (by decide +kernel) (by decide) (by decide +kernel)
theorem k1_9 : Means [105, 110, 102] 9218868437227405312 := .inl ⟨by decide, by decide +kernel⟩
theorem k1_10 : Means [43, 73, 110, 102] 9218868437227405312 := .inl ⟨by decide, by decide +kernel⟩
theorem k1_11 : Means [45, 73, 78, 70, 73, 78, 73, 84, 89] 18442240474082181120 := .inl ⟨by decide, by decide +kernel⟩
theorem k1_12 : Means [49, 101, 45, 52, 48, 48] 0 := means_dec (u := 0) (by decide +kernel) (by decide) (by decide +kernel)
theorem k1_13 : Means [45, 49, 101, 45, 57, 57, 57, 57, 57] 9223372036854775808 := means_dec (u := 0) (by decide +kernel) (by decide) (by decide +kernel)
theorem k1_14 : Means [57, 48, 48, 55, 49, 57, 57, 50, 53, 52, 55, 52, 48, 57, 57, 51] 4845873199050653696 := means_dec (u := 4845873199050653696) (by decide +kernel) (by decide) (by decide +kernel)
theorem k1_15 : Means [49, 46, 55, 57, 55, 54, 57, 51, 49, 51, 52, 56, 54, 50, 51, 49, 53, 56, 101, 51, 48, 56] 9218868437227405311 := means_dec (u := 9218868437227405311) (by decide +kernel) (by decide) (by decide +kernel)
theorem k1_all (j : Nat) (h : j < 16) : (kw1 j).size ≤ 64 ∧ Asc (bl (kw1 j)) ∧ Means (bl (kw1 j)) (kx1 j) := by
  match j, h with
  | 0, _ => exact ⟨by decide, by unfold Asc; decide, k1_0⟩
  | 1, _ => exact ⟨by decide, by unfold Asc; decide, k1_1⟩
  | 2, _ => exact ⟨by decide, by unfold Asc; decide, k1_2⟩
  | 3, _ => exact ⟨by decide, by unfold Asc; decide, k1_3⟩
  | 4, _ => exact ⟨by decide, by unfold Asc; decide, k1_4⟩
  | 5, _ => exact ⟨by decide, by unfold Asc; decide, k1_5⟩
  | 6, _ => exact ⟨by decide, by unfold Asc; decide, k1_6⟩
  | 7, _ => exact ⟨by decide, by unfold Asc; decide, k1_7⟩
  | 8, _ => exact ⟨by decide, by unfold Asc; decide, k1_8⟩
  | 9, _ => exact ⟨by decide, by unfold Asc; decide, k1_9⟩
  | 10, _ => exact ⟨by decide, by unfold Asc; decide, k1_10⟩
  | 11, _ => exact ⟨by decide, by unfold Asc; decide, k1_11⟩
  | 12, _ => exact ⟨by decide, by unfold Asc; decide, k1_12⟩
  | 13, _ => exact ⟨by decide, by unfold Asc; decide, k1_13⟩
  | 14, _ => exact ⟨by decide, by unfold Asc; decide, k1_14⟩
  | 15, _ => exact ⟨by decide, by unfold Asc; decide, k1_15⟩
  | n + 16, h => omega
def kw2 : Nat → ByteArray
  | 0 => ⟨#[]⟩
  | 1 => ⟨#[46]⟩
  | 2 => ⟨#[101, 49]⟩
  | 3 => ⟨#[49, 101]⟩
  | 4 => ⟨#[49, 101, 49, 50, 51, 52, 53, 54]⟩
  | 5 => ⟨#[45, 45, 49]⟩
  | 6 => ⟨#[49, 95, 48]⟩
  | 7 => ⟨#[48, 120, 49]⟩
  | 8 => ⟨#[110, 97, 110]⟩
  | 9 => ⟨#[32, 49]⟩
  | 10 => ⟨#[49, 32]⟩
  | 11 => ⟨#[49, 49, 49, 49, 49, 49, 49, 49, 49, 49, 49, 49, 49, 49, 49, 49, 49, 49, 49, 49, 49, 49, 49, 49, 49, 49, 49, 49, 49, 49, 49, 49, 49, 49, 49, 49, 49, 49, 49, 49, 49, 49, 49, 49, 49, 49, 49, 49, 49, 49, 49, 49, 49, 49, 49, 49, 49, 49, 49, 49, 49, 49, 49, 49, 49]⟩
  | 12 => ⟨#[49, 101, 52, 48, 48]⟩
  | 13 => ⟨#[49, 46, 55, 57, 55, 54, 57, 51, 49, 51, 52, 56, 54, 50, 51, 49, 53, 57, 101, 51, 48, 56]⟩
  | 14 => ⟨#[105, 110]⟩
  | 15 => ⟨#[105, 110, 102, 105, 110, 105, 116]⟩
  | 16 => ⟨#[49, 101, 43]⟩
  | _ => ⟨#[49, 46, 50, 46, 51]⟩
/-- A word that Parse refuses: it is no word, or its number is too great. -/
def noB (t : List Nat) (u : Nat) : Bool := decide (t.length ≤ 64) && t.all (fun c => decide (c < 128)) && !infB (unsign t) && (!decB (unsign t) || (nearW t u && decide (infR ≤ u)))
theorem parseBad (t : ByteArray) (u : Nat) (w : World) (hf : FO w) (h : noB (bl t) u = true) :
    Calls Tryz.prog 14 #[.string t] w (ErPost w) := by
  unfold noB at h
  simp only [Bool.and_eq_true, decide_eq_true_eq, Bool.not_eq_true', Bool.or_eq_true, List.all_eq_true] at h
  obtain ⟨⟨⟨h1, h2⟩, h3⟩, h4⟩ := h
  have hs : t.size ≤ 64 := by rw [bl_length] at h1; exact h1
  have ha : Asc (bl t) := fun c hc => by have := h2 c hc; simpa using this
  rcases h4 with h4 | ⟨h4, h5⟩
  · exact parseNo t w hs ha h3 h4
  · obtain ⟨-, hd, htr, hu⟩ := nearW_out h4
    obtain ⟨sg, hsg, hcs⟩ := unsign_cases (bl t)
    have hw := dec_word (s := t) hsg hcs (by omega) hd
    refine (parseDec t w hf hs ha h3 hd (fun w hf => atof64N t _ _ _ _ w hw htr hf (fun w => readFloatC t _ _ _ _ w hw))).mono ?_
    rintro e w' ⟨v, hv, hr, hb⟩
    obtain rfl := near_unique (valD_pos _) hu hv
    rcases hr with ⟨h6, _⟩ | ⟨_, rfl⟩
    · omega
    · exact ⟨rfl, hb⟩
theorem k2_0 : noB [] 0 = true := by decide +kernel
theorem k2_1 : noB [46] 0 = true := by decide +kernel
theorem k2_2 : noB [101, 49] 0 = true := by decide +kernel
theorem k2_3 : noB [49, 101] 0 = true := by decide +kernel
theorem k2_4 : noB [49, 101, 49, 50, 51, 52, 53, 54] 0 = true := by decide +kernel
theorem k2_5 : noB [45, 45, 49] 0 = true := by decide +kernel
theorem k2_6 : noB [49, 95, 48] 0 = true := by decide +kernel
theorem k2_7 : noB [48, 120, 49] 0 = true := by decide +kernel
theorem k2_8 : noB [110, 97, 110] 0 = true := by decide +kernel
theorem k2_9 : noB [32, 49] 0 = true := by decide +kernel
theorem k2_10 : noB [49, 32] 0 = true := by decide +kernel
theorem k2_12 : noB [49, 101, 52, 48, 48] 10591145569476506623 = true := by decide +kernel
theorem k2_13 : noB [49, 46, 55, 57, 55, 54, 57, 51, 49, 51, 52, 56, 54, 50, 51, 49, 53, 57, 101, 51, 48, 56] 9218868437227405312 = true := by decide +kernel
theorem k2_14 : noB [105, 110] 0 = true := by decide +kernel
theorem k2_15 : noB [105, 110, 102, 105, 110, 105, 116] 0 = true := by decide +kernel
theorem k2_16 : noB [49, 101, 43] 0 = true := by decide +kernel
theorem k2_17 : noB [49, 46, 50, 46, 51] 0 = true := by decide +kernel
theorem k2_all (j : Nat) (h : j < 18) (hj : j ≠ 11) : ∃ u, noB (bl (kw2 j)) u = true := by
  match j, h with
  | 0, _ => exact ⟨_, k2_0⟩
  | 1, _ => exact ⟨_, k2_1⟩
  | 2, _ => exact ⟨_, k2_2⟩
  | 3, _ => exact ⟨_, k2_3⟩
  | 4, _ => exact ⟨_, k2_4⟩
  | 5, _ => exact ⟨_, k2_5⟩
  | 6, _ => exact ⟨_, k2_6⟩
  | 7, _ => exact ⟨_, k2_7⟩
  | 8, _ => exact ⟨_, k2_8⟩
  | 9, _ => exact ⟨_, k2_9⟩
  | 10, _ => exact ⟨_, k2_10⟩
  | 11, _ => exact absurd rfl hj
  | 12, _ => exact ⟨_, k2_12⟩
  | 13, _ => exact ⟨_, k2_13⟩
  | 14, _ => exact ⟨_, k2_14⟩
  | 15, _ => exact ⟨_, k2_15⟩
  | 16, _ => exact ⟨_, k2_16⟩
  | 17, _ => exact ⟨_, k2_17⟩
  | n + 18, h => omega
def kw3 : Nat → ByteArray
  | 0 => ⟨#[49]⟩
  | 1 => ⟨#[49, 48, 48]⟩
  | 2 => ⟨#[48, 46, 49]⟩
  | 3 => ⟨#[49, 46, 53]⟩
  | 4 => ⟨#[49, 50, 51, 52, 53, 54]⟩
  | 5 => ⟨#[48, 46, 48, 48, 48, 49]⟩
  | 6 => ⟨#[48, 46, 48, 48, 48, 48, 49]⟩
  | 7 => ⟨#[49, 101, 45, 48, 54]⟩
  | 8 => ⟨#[48, 46, 48, 48, 48, 49, 50]⟩
  | 9 => ⟨#[49, 48, 48, 48, 48, 48, 48, 48, 48, 48, 48, 48, 48, 48, 48, 48, 48]⟩
  | 10 => ⟨#[49, 101, 43, 49, 55]⟩
  | 11 => ⟨#[49, 101, 43, 49, 48, 48]⟩
  | 12 => ⟨#[53, 101, 45, 51, 50, 52]⟩
  | 13 => ⟨#[49, 49, 50, 53, 56, 57, 57, 57, 48, 54, 56, 52, 50, 54, 50, 52, 46, 50]⟩
  | 14 => ⟨#[53, 46, 54, 56, 52, 51, 52, 49, 56, 56, 54, 48, 56, 48, 56, 48, 50, 101, 45, 49, 52]⟩
  | 15 => ⟨#[48]⟩
  | 16 => ⟨#[45, 48]⟩
  | 17 => ⟨#[105, 110, 102]⟩
  | 18 => ⟨#[45, 105, 110, 102]⟩
  | 19 => ⟨#[110, 97, 110]⟩
  | 20 => ⟨#[49, 46, 55, 57, 55, 54, 57, 51, 49, 51, 52, 56, 54, 50, 51, 49, 53, 55, 101, 43, 51, 48, 56]⟩
  | _ => ⟨#[45, 49, 101, 43, 50, 51]⟩
def kx3 : Nat → Nat
  | 0 => 4607182418800017408
  | 1 => 4636737291354636288
  | 2 => 4591870180066957722
  | 3 => 4609434218613702656
  | 4 => 4683220244930494464
  | 5 => 4547007122018943789
  | 6 => 4532020583610935537
  | 7 => 4517329193108106637
  | 8 => 4548482861544840553
  | 9 => 4846369599423283200
  | 10 => 4861130398305394688
  | 11 => 6103021453049119613
  | 12 => 1
  | 13 => 4832362400168542209
  | 14 => 4409024035195715584
  | 15 => 0
  | 16 => 9223372036854775808
  | 17 => 9218868437227405312
  | 18 => 18442240474082181120
  | 19 => 9221120237041090561
  | 20 => 9218868437227405311
  | _ => 14174284892185119478
theorem k3_0 : PrintIs 4607182418800017408 [49] := print_dec (s := false) (u := 4607182418800017408) (p := 1) (k := 1) (a := 1) (l := [49]) (el := [48]) (L := 1) (by decide) (by decide) (by decide +kernel) (by decide +kernel) (by decide +kernel) (by decide +kernel) (by decide +kernel) (by decide +kernel) (by decide +kernel)
theorem k3_1 : PrintIs 4636737291354636288 [49, 48, 48] := print_dec (s := false) (u := 4636737291354636288) (p := 3) (k := 1) (a := 3) (l := [49]) (el := [50]) (L := 1) (by decide) (by decide) (by decide +kernel) (by decide +kernel) (by decide +kernel) (by decide +kernel) (by decide +kernel) (by decide +kernel) (by decide +kernel)
theorem k3_2 : PrintIs 4591870180066957722 [48, 46, 49] := print_dec (s := false) (u := 4591870180066957722) (p := 0) (k := 1) (a := 0) (l := [49]) (el := [49]) (L := 1) (by decide) (by decide) (by decide +kernel) (by decide +kernel) (by decide +kernel) (by decide +kernel) (by decide +kernel) (by decide +kernel) (by decide +kernel)
theorem k3_3 : PrintIs 4609434218613702656 [49, 46, 53] := print_dec (s := false) (u := 4609434218613702656) (p := 1) (k := 2) (a := 1) (l := [49, 53]) (el := [48]) (L := 15) (by decide) (by decide) (by decide +kernel) (by decide +kernel) (by decide +kernel) (by decide +kernel) (by decide +kernel) (by decide +kernel) (by decide +kernel)
theorem k3_4 : PrintIs 4683220244930494464 [49, 50, 51, 52, 53, 54] := print_dec (s := false) (u := 4683220244930494464) (p := 6) (k := 6) (a := 6) (l := [49, 50, 51, 52, 53, 54]) (el := [53]) (L := 123456) (by decide) (by decide) (by decide +kernel) (by decide +kernel) (by decide +kernel) (by decide +kernel) (by decide +kernel) (by decide +kernel) (by decide +kernel)
theorem k3_5 : PrintIs 4547007122018943789 [48, 46, 48, 48, 48, 49] := print_dec (s := false) (u := 4547007122018943789) (p := -3) (k := 1) (a := -3) (l := [49]) (el := [52]) (L := 1) (by decide) (by decide) (by decide +kernel) (by decide +kernel) (by decide +kernel) (by decide +kernel) (by decide +kernel) (by decide +kernel) (by decide +kernel)
theorem k3_6 : PrintIs 4532020583610935537 [48, 46, 48, 48, 48, 48, 49] := print_dec (s := false) (u := 4532020583610935537) (p := -4) (k := 1) (a := -4) (l := [49]) (el := [53]) (L := 1) (by decide) (by decide) (by decide +kernel) (by decide +kernel) (by decide +kernel) (by decide +kernel) (by decide +kernel) (by decide +kernel) (by decide +kernel)
theorem k3_7 : PrintIs 4517329193108106637 [49, 101, 45, 48, 54] := print_dec (s := false) (u := 4517329193108106637) (p := -6) (k := 1) (a := -5) (l := [49, 48]) (el := [54]) (L := 9) (by decide) (by decide) (by decide +kernel) (by decide +kernel) (by decide +kernel) (by decide +kernel) (by decide +kernel) (by decide +kernel) (by decide +kernel)
theorem k3_8 : PrintIs 4548482861544840553 [48, 46, 48, 48, 48, 49, 50] := print_dec (s := false) (u := 4548482861544840553) (p := -3) (k := 2) (a := -3) (l := [49, 50]) (el := [52]) (L := 12) (by decide) (by decide) (by decide +kernel) (by decide +kernel) (by decide +kernel) (by decide +kernel) (by decide +kernel) (by decide +kernel) (by decide +kernel)
theorem k3_9 : PrintIs 4846369599423283200 [49, 48, 48, 48, 48, 48, 48, 48, 48, 48, 48, 48, 48, 48, 48, 48, 48] := print_dec (s := false) (u := 4846369599423283200) (p := 17) (k := 1) (a := 17) (l := [49]) (el := [49, 54]) (L := 1) (by decide) (by decide) (by decide +kernel) (by decide +kernel) (by decide +kernel) (by decide +kernel) (by decide +kernel) (by decide +kernel) (by decide +kernel)
theorem k3_10 : PrintIs 4861130398305394688 [49, 101, 43, 49, 55] := print_dec (s := false) (u := 4861130398305394688) (p := 18) (k := 1) (a := 18) (l := [49]) (el := [49, 55]) (L := 1) (by decide) (by decide) (by decide +kernel) (by decide +kernel) (by decide +kernel) (by decide +kernel) (by decide +kernel) (by decide +kernel) (by decide +kernel)
theorem k3_11 : PrintIs 6103021453049119613 [49, 101, 43, 49, 48, 48] := print_dec (s := false) (u := 6103021453049119613) (p := 101) (k := 1) (a := 101) (l := [49]) (el := [49, 48, 48]) (L := 1) (by decide) (by decide) (by decide +kernel) (by decide +kernel) (by decide +kernel) (by decide +kernel) (by decide +kernel) (by decide +kernel) (by decide +kernel)
theorem k3_12 : PrintIs 1 [53, 101, 45, 51, 50, 52] := print_dec (s := false) (u := 1) (p := -323) (k := 1) (a := -323) (l := [53]) (el := [51, 50, 52]) (L := 4) (by decide) (by decide) (by decide +kernel) (by decide +kernel) (by decide +kernel) (by decide +kernel) (by decide +kernel) (by decide +kernel) (by decide +kernel)
theorem k3_13 : PrintIs 4832362400168542209 [49, 49, 50, 53, 56, 57, 57, 57, 48, 54, 56, 52, 50, 54, 50, 52, 46, 50] := print_dec (s := false) (u := 4832362400168542209) (p := 16) (k := 17) (a := 16) (l := [49, 49, 50, 53, 56, 57, 57, 57, 48, 54, 56, 52, 50, 54, 50, 52, 50]) (el := [49, 53]) (L := 11258999068426242) (by decide) (by decide) (by decide +kernel) (by decide +kernel) (by decide +kernel) (by decide +kernel) (by decide +kernel) (by decide +kernel) (by decide +kernel)
theorem k3_14 : PrintIs 4409024035195715584 [53, 46, 54, 56, 52, 51, 52, 49, 56, 56, 54, 48, 56, 48, 56, 48, 50, 101, 45, 49, 52] := print_dec (s := false) (u := 4409024035195715584) (p := -13) (k := 16) (a := -13) (l := [53, 54, 56, 52, 51, 52, 49, 56, 56, 54, 48, 56, 48, 56, 48, 50]) (el := [49, 52]) (L := 5684341886080801) (by decide) (by decide) (by decide +kernel) (by decide +kernel) (by decide +kernel) (by decide +kernel) (by decide +kernel) (by decide +kernel) (by decide +kernel)
theorem k3_15 : PrintIs 0 [48] := print_zero false
theorem k3_16 : PrintIs 9223372036854775808 [45, 48] := print_zero true
theorem k3_17 : PrintIs 9218868437227405312 [105, 110, 102] := print_inf false 9218868437227405312 rfl
theorem k3_18 : PrintIs 18442240474082181120 [45, 105, 110, 102] := print_inf true 9218868437227405312 rfl
theorem k3_19 : PrintIs 9221120237041090561 [110, 97, 110] := print_nan (s := false) (u := 9221120237041090561) (by decide) (by decide)
theorem k3_20 : PrintIs 9218868437227405311 [49, 46, 55, 57, 55, 54, 57, 51, 49, 51, 52, 56, 54, 50, 51, 49, 53, 55, 101, 43, 51, 48, 56] := print_dec (s := false) (u := 9218868437227405311) (p := 309) (k := 17) (a := 309) (l := [49, 55, 57, 55, 54, 57, 51, 49, 51, 52, 56, 54, 50, 51, 49, 53, 55]) (el := [51, 48, 56]) (L := 17976931348623157) (by decide) (by decide) (by decide +kernel) (by decide +kernel) (by decide +kernel) (by decide +kernel) (by decide +kernel) (by decide +kernel) (by decide +kernel)
theorem k3_21 : PrintIs 14174284892185119478 [45, 49, 101, 43, 50, 51] := print_dec (s := true) (u := 4950912855330343670) (p := 23) (k := 1) (a := 24) (l := [49, 48]) (el := [50, 51]) (L := 9) (by decide) (by decide) (by decide +kernel) (by decide +kernel) (by decide +kernel) (by decide +kernel) (by decide +kernel) (by decide +kernel) (by decide +kernel)
theorem k3_all (j : Nat) (h : j < 22) : PrintIs (kx3 j) (bl (kw3 j)) ∧ kx3 j < 18446744073709551616 := by
  match j, h with
  | 0, _ => exact ⟨k3_0, by decide⟩
  | 1, _ => exact ⟨k3_1, by decide⟩
  | 2, _ => exact ⟨k3_2, by decide⟩
  | 3, _ => exact ⟨k3_3, by decide⟩
  | 4, _ => exact ⟨k3_4, by decide⟩
  | 5, _ => exact ⟨k3_5, by decide⟩
  | 6, _ => exact ⟨k3_6, by decide⟩
  | 7, _ => exact ⟨k3_7, by decide⟩
  | 8, _ => exact ⟨k3_8, by decide⟩
  | 9, _ => exact ⟨k3_9, by decide⟩
  | 10, _ => exact ⟨k3_10, by decide⟩
  | 11, _ => exact ⟨k3_11, by decide⟩
  | 12, _ => exact ⟨k3_12, by decide⟩
  | 13, _ => exact ⟨k3_13, by decide⟩
  | 14, _ => exact ⟨k3_14, by decide⟩
  | 15, _ => exact ⟨k3_15, by decide⟩
  | 16, _ => exact ⟨k3_16, by decide⟩
  | 17, _ => exact ⟨k3_17, by decide⟩
  | 18, _ => exact ⟨k3_18, by decide⟩
  | 19, _ => exact ⟨k3_19, by decide⟩
  | 20, _ => exact ⟨k3_20, by decide⟩
  | 21, _ => exact ⟨k3_21, by decide⟩
  | n + 22, h => omega
end Go.Proofs.YtlhhpehfgkanoaaGreatDoor.fl
/- The walk of the law ScoreKnown. Printed by mkQ4.py. -/
namespace Go.Proofs.YtlhhpehfgkanoaaGreatDoor.fl
open Go.ChangeShapes Go.WideShapes Go.ChangeAt Go.RowKit
set_option linter.unusedVariables false
set_option linter.unusedSimpArgs false
theorem infP' (w : World) : Calls Tryz.prog 18 #[.int .i64 1] w fun e w' => e = .returned (.float .f64 9218868437227405312) ∧ w = w' := infP w
def T1 : Array Value := #[.string ⟨#[49]⟩, .string ⟨#[43, 49]⟩, .string ⟨#[48, 49, 46, 48]⟩, .string ⟨#[49, 101, 48]⟩, .string ⟨#[46, 49, 101, 49]⟩, .string ⟨#[49, 48, 69, 45, 49]⟩, .string ⟨#[49, 46]⟩, .string ⟨#[45, 48]⟩, .string ⟨#[45, 46, 48, 101, 57]⟩, .string ⟨#[105, 110, 102]⟩, .string ⟨#[43, 73, 110, 102]⟩, .string ⟨#[45, 73, 78, 70, 73, 78, 73, 84, 89]⟩, .string ⟨#[49, 101, 45, 52, 48, 48]⟩, .string ⟨#[45, 49, 101, 45, 57, 57, 57, 57, 57]⟩, .string ⟨#[57, 48, 48, 55, 49, 57, 57, 50, 53, 52, 55, 52, 48, 57, 57, 51]⟩, .string ⟨#[49, 46, 55, 57, 55, 54, 57, 51, 49, 51, 52, 56, 54, 50, 51, 49, 53, 56, 101, 51, 48, 56]⟩]
theorem T1_at (k : Nat) (h : k < 16) : T1[k]? = some (.string (kw1 k)) := by
  match k, h with
  | 0, _ => rfl
  | 1, _ => rfl
  | 2, _ => rfl
  | 3, _ => rfl
  | 4, _ => rfl
  | 5, _ => rfl
  | 6, _ => rfl
  | 7, _ => rfl
  | 8, _ => rfl
  | 9, _ => rfl
  | 10, _ => rfl
  | 11, _ => rfl
  | 12, _ => rfl
  | 13, _ => rfl
  | 14, _ => rfl
  | 15, _ => rfl
  | n + 16, h => omega
theorem F1_at (k : Nat) (h : k < ([Value.float FloatKind.f64 4607182418800017408, Value.float FloatKind.f64 4607182418800017408, Value.float FloatKind.f64 4607182418800017408, Value.float FloatKind.f64 4607182418800017408, Value.float FloatKind.f64 4607182418800017408, Value.float FloatKind.f64 4607182418800017408, Value.float FloatKind.f64 4607182418800017408, Value.float FloatKind.f64 9223372036854775808, Value.float FloatKind.f64 9223372036854775808, Value.float FloatKind.f64 9218868437227405312, Value.float FloatKind.f64 9218868437227405312, Value.float FloatKind.f64 (Op.negFloat .f64 9218868437227405312), Value.float FloatKind.f64 0, Value.float FloatKind.f64 9223372036854775808, Value.float FloatKind.f64 4845873199050653696, Value.float FloatKind.f64 9218868437227405311] : List Value).length) : ([Value.float FloatKind.f64 4607182418800017408, Value.float FloatKind.f64 4607182418800017408, Value.float FloatKind.f64 4607182418800017408, Value.float FloatKind.f64 4607182418800017408, Value.float FloatKind.f64 4607182418800017408, Value.float FloatKind.f64 4607182418800017408, Value.float FloatKind.f64 4607182418800017408, Value.float FloatKind.f64 9223372036854775808, Value.float FloatKind.f64 9223372036854775808, Value.float FloatKind.f64 9218868437227405312, Value.float FloatKind.f64 9218868437227405312, Value.float FloatKind.f64 (Op.negFloat .f64 9218868437227405312), Value.float FloatKind.f64 0, Value.float FloatKind.f64 9223372036854775808, Value.float FloatKind.f64 4845873199050653696, Value.float FloatKind.f64 9218868437227405311] : List Value)[k]'h = Value.float FloatKind.f64 (kx1 k) := by
  match k, h with
  | 0, _ => rfl
  | 1, _ => rfl
  | 2, _ => rfl
  | 3, _ => rfl
  | 4, _ => rfl
  | 5, _ => rfl
  | 6, _ => rfl
  | 7, _ => rfl
  | 8, _ => rfl
  | 9, _ => rfl
  | 10, _ => rfl
  | 11, _ => rfl
  | 12, _ => rfl
  | 13, _ => rfl
  | 14, _ => rfl
  | 15, _ => rfl
  | n + 16, h => exact absurd h (by simp)
def T2 (t : ByteArray) : Array Value := #[.string ⟨#[]⟩, .string ⟨#[46]⟩, .string ⟨#[101, 49]⟩, .string ⟨#[49, 101]⟩, .string ⟨#[49, 101, 49, 50, 51, 52, 53, 54]⟩, .string ⟨#[45, 45, 49]⟩, .string ⟨#[49, 95, 48]⟩, .string ⟨#[48, 120, 49]⟩, .string ⟨#[110, 97, 110]⟩, .string ⟨#[32, 49]⟩, .string ⟨#[49, 32]⟩, .string t, .string ⟨#[49, 101, 52, 48, 48]⟩, .string ⟨#[49, 46, 55, 57, 55, 54, 57, 51, 49, 51, 52, 56, 54, 50, 51, 49, 53, 57, 101, 51, 48, 56]⟩, .string ⟨#[105, 110]⟩, .string ⟨#[105, 110, 102, 105, 110, 105, 116]⟩, .string ⟨#[49, 101, 43]⟩, .string ⟨#[49, 46, 50, 46, 51]⟩]
def kw2' (t : ByteArray) (k : Nat) : ByteArray := if k = 11 then t else kw2 k
theorem T2_at (t : ByteArray) (k : Nat) (h : k < 18) : (T2 t)[k]? = some (.string (kw2' t k)) := by
  match k, h with
  | 0, _ => rfl
  | 1, _ => rfl
  | 2, _ => rfl
  | 3, _ => rfl
  | 4, _ => rfl
  | 5, _ => rfl
  | 6, _ => rfl
  | 7, _ => rfl
  | 8, _ => rfl
  | 9, _ => rfl
  | 10, _ => rfl
  | 11, _ => rfl
  | 12, _ => rfl
  | 13, _ => rfl
  | 14, _ => rfl
  | 15, _ => rfl
  | 16, _ => rfl
  | 17, _ => rfl
  | n + 18, h => omega
def T3 : Array Value := #[.string ⟨#[49]⟩, .string ⟨#[49, 48, 48]⟩, .string ⟨#[48, 46, 49]⟩, .string ⟨#[49, 46, 53]⟩, .string ⟨#[49, 50, 51, 52, 53, 54]⟩, .string ⟨#[48, 46, 48, 48, 48, 49]⟩, .string ⟨#[48, 46, 48, 48, 48, 48, 49]⟩, .string ⟨#[49, 101, 45, 48, 54]⟩, .string ⟨#[48, 46, 48, 48, 48, 49, 50]⟩, .string ⟨#[49, 48, 48, 48, 48, 48, 48, 48, 48, 48, 48, 48, 48, 48, 48, 48, 48]⟩, .string ⟨#[49, 101, 43, 49, 55]⟩, .string ⟨#[49, 101, 43, 49, 48, 48]⟩, .string ⟨#[53, 101, 45, 51, 50, 52]⟩, .string ⟨#[49, 49, 50, 53, 56, 57, 57, 57, 48, 54, 56, 52, 50, 54, 50, 52, 46, 50]⟩, .string ⟨#[53, 46, 54, 56, 52, 51, 52, 49, 56, 56, 54, 48, 56, 48, 56, 48, 50, 101, 45, 49, 52]⟩, .string ⟨#[48]⟩, .string ⟨#[45, 48]⟩, .string ⟨#[105, 110, 102]⟩, .string ⟨#[45, 105, 110, 102]⟩, .string ⟨#[110, 97, 110]⟩, .string ⟨#[49, 46, 55, 57, 55, 54, 57, 51, 49, 51, 52, 56, 54, 50, 51, 49, 53, 55, 101, 43, 51, 48, 56]⟩, .string ⟨#[45, 49, 101, 43, 50, 51]⟩]
theorem T3_at (k : Nat) (h : k < 22) : T3[k]? = some (.string (kw3 k)) := by
  match k, h with
  | 0, _ => rfl
  | 1, _ => rfl
  | 2, _ => rfl
  | 3, _ => rfl
  | 4, _ => rfl
  | 5, _ => rfl
  | 6, _ => rfl
  | 7, _ => rfl
  | 8, _ => rfl
  | 9, _ => rfl
  | 10, _ => rfl
  | 11, _ => rfl
  | 12, _ => rfl
  | 13, _ => rfl
  | 14, _ => rfl
  | 15, _ => rfl
  | 16, _ => rfl
  | 17, _ => rfl
  | 18, _ => rfl
  | 19, _ => rfl
  | 20, _ => rfl
  | 21, _ => rfl
  | n + 22, h => omega
theorem F3_at (k : Nat) (h : k < ([Value.float FloatKind.f64 4607182418800017408, Value.float FloatKind.f64 4636737291354636288, Value.float FloatKind.f64 4591870180066957722, Value.float FloatKind.f64 4609434218613702656, Value.float FloatKind.f64 4683220244930494464, Value.float FloatKind.f64 4547007122018943789, Value.float FloatKind.f64 4532020583610935537, Value.float FloatKind.f64 4517329193108106637, Value.float FloatKind.f64 4548482861544840553, Value.float FloatKind.f64 4846369599423283200, Value.float FloatKind.f64 4861130398305394688, Value.float FloatKind.f64 6103021453049119613, Value.float FloatKind.f64 1, Value.float FloatKind.f64 4832362400168542209, Value.float FloatKind.f64 4409024035195715584, Value.float FloatKind.f64 0, Value.float FloatKind.f64 9223372036854775808, Value.float FloatKind.f64 9218868437227405312, Value.float FloatKind.f64 (Op.negFloat .f64 9218868437227405312), Value.float FloatKind.f64 9221120237041090561, Value.float FloatKind.f64 9218868437227405311, Value.float FloatKind.f64 14174284892185119478] : List Value).length) : ([Value.float FloatKind.f64 4607182418800017408, Value.float FloatKind.f64 4636737291354636288, Value.float FloatKind.f64 4591870180066957722, Value.float FloatKind.f64 4609434218613702656, Value.float FloatKind.f64 4683220244930494464, Value.float FloatKind.f64 4547007122018943789, Value.float FloatKind.f64 4532020583610935537, Value.float FloatKind.f64 4517329193108106637, Value.float FloatKind.f64 4548482861544840553, Value.float FloatKind.f64 4846369599423283200, Value.float FloatKind.f64 4861130398305394688, Value.float FloatKind.f64 6103021453049119613, Value.float FloatKind.f64 1, Value.float FloatKind.f64 4832362400168542209, Value.float FloatKind.f64 4409024035195715584, Value.float FloatKind.f64 0, Value.float FloatKind.f64 9223372036854775808, Value.float FloatKind.f64 9218868437227405312, Value.float FloatKind.f64 (Op.negFloat .f64 9218868437227405312), Value.float FloatKind.f64 9221120237041090561, Value.float FloatKind.f64 9218868437227405311, Value.float FloatKind.f64 14174284892185119478] : List Value)[k]'h = Value.float FloatKind.f64 (kx3 k) := by
  match k, h with
  | 0, _ => rfl
  | 1, _ => rfl
  | 2, _ => rfl
  | 3, _ => rfl
  | 4, _ => rfl
  | 5, _ => rfl
  | 6, _ => rfl
  | 7, _ => rfl
  | 8, _ => rfl
  | 9, _ => rfl
  | 10, _ => rfl
  | 11, _ => rfl
  | 12, _ => rfl
  | 13, _ => rfl
  | 14, _ => rfl
  | 15, _ => rfl
  | 16, _ => rfl
  | 17, _ => rfl
  | 18, _ => rfl
  | 19, _ => rfl
  | 20, _ => rfl
  | 21, _ => rfl
  | n + 22, h => exact absurd h (by simp)
theorem X1_ok (k : Nat) (h : k < 16) : kx1 k < 18446744073709551616 ∧ nanB (kx1 k) = false := by
  match k, h with
  | 0, _ => exact ⟨by decide, by decide⟩
  | 1, _ => exact ⟨by decide, by decide⟩
  | 2, _ => exact ⟨by decide, by decide⟩
  | 3, _ => exact ⟨by decide, by decide⟩
  | 4, _ => exact ⟨by decide, by decide⟩
  | 5, _ => exact ⟨by decide, by decide⟩
  | 6, _ => exact ⟨by decide, by decide⟩
  | 7, _ => exact ⟨by decide, by decide⟩
  | 8, _ => exact ⟨by decide, by decide⟩
  | 9, _ => exact ⟨by decide, by decide⟩
  | 10, _ => exact ⟨by decide, by decide⟩
  | 11, _ => exact ⟨by decide, by decide⟩
  | 12, _ => exact ⟨by decide, by decide⟩
  | 13, _ => exact ⟨by decide, by decide⟩
  | 14, _ => exact ⟨by decide, by decide⟩
  | 15, _ => exact ⟨by decide, by decide⟩
  | n + 16, h => omega
/-- A table in a block of the call's own, in a later world. -/
theorem tab_kept {w2 w3 : World} {n N : Nat} {f : Nat → Value} (hn : n < w2.heap.size) (h : ∀ k, k < N → w2.cell? ⟨n, k, none⟩ = some (f k)) (o : Obj) (hb : Below (w2.alloc o).heap.size (w2.alloc o) w3) :
    n < w3.heap.size ∧ ∀ k, k < N → w3.cell? ⟨n, k, none⟩ = some (f k) := by
  have hs : (w2.alloc o).heap.size = w2.heap.size + 1 := Array.size_push _
  have := hb.size
  refine ⟨by omega, fun k hk => ?_⟩
  rw [hb.cell (p := ⟨n, k, none⟩) (by rw [hs]; exact Nat.lt_succ_of_lt hn), World.cell?_alloc_past o n k hn]
  exact h k hk
theorem tab_kept0 {w2 w3 : World} {n N : Nat} {f : Nat → Value} (hn : n < w2.heap.size) (h : ∀ k, k < N → w2.cell? ⟨n, k, none⟩ = some (f k)) (hb : Below w2.heap.size w2 w3) :
    n < w3.heap.size ∧ ∀ k, k < N → w3.cell? ⟨n, k, none⟩ = some (f k) := by
  have := hb.size
  refine ⟨by omega, fun k hk => ?_⟩
  rw [hb.cell (p := ⟨n, k, none⟩) hn]
  exact h k hk
theorem tab_new (w : World) (T : Array Value) (ty : TypeId) (N : Nat) (f : Nat → Value) (h : ∀ k, k < N → T[k]? = some (f k)) :
    w.heap.size < (w.alloc (.cells T ty)).heap.size ∧ ∀ k, k < N → (w.alloc (.cells T ty)).cell? ⟨w.heap.size, k, none⟩ = some (f k) :=
  ⟨(Array.size_push (xs := w.heap) _) ▸ Nat.lt_succ_self _, fun k hk => (World.cell?_alloc_at T ty _ k rfl).trans (h k hk)⟩
theorem parse1 (j : Nat) (h : j < 16) (W : World) (hf : FS W) : Calls Tryz.prog 14 #[.string (kw1 j)] W (MnPost (kx1 j) W) :=
  parseMeans _ _ W hf.fo (k1_all j h).1 (k1_all j h).2.1 (k1_all j h).2.2
theorem alike1 (j : Nat) (h : j < 16) (W : World) : Calls Tryz.prog 13 #[.float .f64 (kx1 j), .float .f64 (kx1 j)] W fun e w' => e = .returned (.bool true) ∧ W = w' :=
  (alikeC _ _ W (X1_ok j h).1 (X1_ok j h).1).mono fun e w' ⟨h1, h2⟩ => ⟨by rw [h1, alike_self _ (X1_ok j h).2], h2⟩
theorem parse2 (t : ByteArray) (ht : t.size = 65) (j : Nat) (h : j < 18) (W : World) (hf : FS W) : Calls Tryz.prog 14 #[.string (kw2' t j)] W (ErPost W) := by
  unfold kw2'
  by_cases hj : j = 11
  · rw [if_pos hj]
    exact parseLong t W (by omega) (by omega)
  · rw [if_neg hj]
    obtain ⟨u, hu⟩ := k2_all j h hj
    exact parseBad _ u W hf.fo hu
theorem print3 (j : Nat) (h : j < 22) (W : World) (hf : FS W) : Calls Tryz.prog 10 #[.float .f64 (kx3 j)] W fun e w' => e = .returned (.string (kw3 j)) ∧ Below W.heap.size W w' := by
  refine (printC _ W hf (k3_all j h).2).mono ?_
  rintro e w' ⟨t, rfl, ht, -, hb⟩
  obtain rfl := bl_inj (ht.unique (k3_all j h).1)
  exact ⟨rfl, hb⟩
def f5 : Nat := 4617315517961601024
theorem cut_word (s p t : ByteArray) (o : Bool) (h1 : (⟨(Lib.trimPrefix s.data.toList p.data.toList).toArray⟩ : ByteArray) = t) (h2 : Lib.hasPrefix s.data.toList p.data.toList = o) (w : World) :
    Calls Tryz.prog 41 #[.string s, .string p] w fun e w' => e = .returned (.tuple #[.string t, .bool o]) ∧ w' = w := by
  rw [← h1, ← h2]
  exact Tryz.strings_CutPrefix s p w
theorem k5 : Means [53] 4617315517961601024 := means_dec (u := 4617315517961601024) (by decide +kernel) (by decide) (by decide +kernel)
theorem pb1 (w : World) (hf : FS w) : Calls Tryz.prog 22 #[.string ⟨#[40, 53]⟩] w fun e w' => e = .returned (.tuple #[.agg #[.float .f64 4617315517961601024, .bool true], .int .i64 0]) ∧ Below w.heap.size w w' :=
  boundC _ ⟨#[53]⟩ true _ w hf.fo (cut_word _ _ _ _ rfl rfl) (fun W h => parseMeans _ _ W h (by decide) (by unfold Asc; decide) k5)
theorem pb2 (w : World) (hf : FS w) : Calls Tryz.prog 22 #[.string ⟨#[40, 40, 53]⟩] w fun e w' => e = .returned (.tuple #[.agg #[.float .f64 0, .bool false], .int .i64 20]) ∧ Below w.heap.size w w' :=
  boundNo _ ⟨#[40, 53]⟩ true w (cut_word _ _ _ _ rfl rfl) (fun W => parseNo _ W (by decide) (by unfold Asc; decide) (by decide) (by decide))
theorem pb3 (w : World) (hf : FS w) : Calls Tryz.prog 22 #[.string ⟨#[40]⟩] w fun e w' => e = .returned (.tuple #[.agg #[.float .f64 0, .bool false], .int .i64 20]) ∧ Below w.heap.size w w' :=
  boundNo _ ⟨#[]⟩ true w (cut_word _ _ _ _ rfl rfl) (fun W => parseNo _ W (by decide) (by unfold Asc; decide) (by decide) (by decide))
theorem ad1 (w : World) : Calls Tryz.prog 23 #[.float .f64 9218868437227405312, .float .f64 (Op.negFloat .f64 9218868437227405312)] w fun e w' => e = .returned (.tuple #[.float .f64 0, .int .i64 20]) ∧ Below w.heap.size w w' :=
  addNo _ _ w (by decide +kernel)
theorem ad2 (w : World) : Calls Tryz.prog 23 #[.float .f64 4607182418800017408, .float .f64 4611686018427387904] w fun e w' => e = .returned (.tuple #[.float .f64 4613937818241073152, .int .i64 0]) ∧ Below w.heap.size w w' :=
  addC _ _ _ w (by decide +kernel) (by decide +kernel)
theorem wi (a b : Bool) (w : World) : Calls Tryz.prog 24 #[.float .f64 4617315517961601024, .agg #[.float .f64 4617315517961601024, .bool a], .agg #[.float .f64 4617315517961601024, .bool b]] w fun e w' => e = .returned (.bool (!a && !b)) ∧ Below w.heap.size w w' := by
  have h : FloatKind.f64.format.order 4617315517961601024 4617315517961601024 = some .eq := by decide +kernel
  refine (withinC _ _ _ a b _ _ w h h).mono ?_
  rintro e w' ⟨rfl, hb⟩
  exact ⟨by cases a <;> cases b <;> rfl, hb⟩
theorem eq5 (W : World) : (Op.equalIn 9999 23 (.float .f64 4617315517961601024) (.float .f64 4617315517961601024)).run Tryz.prog W = .ok true W := by kernel_rfl
/-- A block that holds the bound 5. -/
structure PK (n : Nat) (W : World) (u : Bool) : Prop where
  lt : n < W.heap.size
  c0 : W.cell? ⟨n, 0, none⟩ = some (.float .f64 4617315517961601024)
  c1 : W.cell? ⟨n, 1, none⟩ = some (.bool u)
theorem pk_new {w2 w3 : World} {u : Bool} {t : TypeId} (hb : Below (w2.alloc (.cells #[.float .f64 4617315517961601024, .bool u] t)).heap.size (w2.alloc (.cells #[.float .f64 4617315517961601024, .bool u] t)) w3) : PK w2.heap.size w3 u := by
  have h := pair_kept hb
  have hs : (w2.alloc (.cells #[.float .f64 4617315517961601024, .bool u] t)).heap.size = w2.heap.size + 1 := Array.size_push _
  have := hb.size
  exact ⟨by omega, h.1, h.2.1⟩
theorem PK.on {n : Nat} {W w3 : World} {u : Bool} (h : PK n W u) (hb : Below W.heap.size W w3) : PK n w3 u := by
  have := hb.size
  have := h.lt
  exact ⟨by omega, by rw [hb.cell (p := ⟨n, 0, none⟩) h.lt]; exact h.c0, by rw [hb.cell (p := ⟨n, 1, none⟩) h.lt]; exact h.c1⟩
theorem PK.push {n : Nat} {W : World} {u : Bool} (h : PK n W u) (o : Obj) : PK n (W.alloc o) u := h.on (Below.alloc (Below.refl _ _) (Nat.le_refl _) o)
set_option maxRecDepth 100000 in
set_option maxHeartbeats 4000000 in
theorem knownC (w : World) (hf : FS w) :
    Calls Tryz.prog 8 #[] w fun e w' => e = .returned (.bool true) ∧ Below w.heap.size w w' := by
  have HF := fhid hf
  have cw := wakesC w hf
  have ci := infP'
  have cc := copysignK
  clear hf
  go_enter Tryz.func8, Tryz.ntmps8
  go_wp2_with fail
  with_reducible refine cw.mono ?_
  clear cw
  rintro e w1 ⟨rfl, hb1⟩
  have B1 := fhid hb1
  have F1 := fhid (HF.out.on hb1)
  clear hb1
  go_wp2_with fail
  refine (ci _).mono ?_
  clear ci
  rintro e w2 ⟨rfl, rfl⟩
  go_wp2_with fail
  refine (cc _).mono ?_
  clear cc
  rintro e w2 ⟨rfl, rfl⟩
  go_wp2_with fail
  have HB0 := fhid (B1.out.alloc B1.out.size (.cells T1 9))
  have HF0 := fhid (F1.out.on (Below.alloc (Below.refl _ _) (Nat.le_refl _) (.cells T1 9)))
  have HT0 := fhid (tab_new w1 T1 9 16 (fun k => .string (kw1 k)) T1_at)
  obtain ⟨n1, hn1⟩ : ∃ n1, w1.heap.size = n1 := ⟨_, rfl⟩
  rw [hn1] at HT0 ⊢
  go_loopw [33] (fun j wr => ∃ (j' : Nat), j = .int .i64 j' ∧ j' ≤ 16 ∧ Hid (Below w.heap.size w wr) ∧ Hid (FS wr) ∧ Hid (n1 < wr.heap.size ∧ ∀ k, k < 16 → wr.cell? ⟨n1, k, none⟩ = some (.string (kw1 k)))) (fun j _ => 16 - (intOf j).toNat)
  case atStart => exact ⟨0, rfl, by omega, HB0, HF0, HT0⟩
  case round =>
    obtain ⟨j, rfl, hj, hB, hF, hT⟩ := hrel
    clear HB0 HF0 HT0
    by_cases hlt : j < 16
    · have hc := hT.out.2 j hlt
      have hx := F1_at j
      have cp := fhid (parse1 j hlt)
      have ca := fhid (alike1 j hlt)
      have HFA : Hid (∀ o, FS (wr.alloc o)) := fhid fun o => hF.out.on (Below.alloc (Below.refl _ _) (Nat.le_refl _) o)
      have HBA : Hid (∀ o, Below w.heap.size w (wr.alloc o)) := fhid fun o => hB.out.alloc hB.out.size o
      go_wp2_with fail
      with_reducible refine (cp.out _ (HFA.out _)).mono ?_
      rintro e w3 ⟨rfl, hb3⟩
      have B3 := fhid ((HBA.out _).trans (hb3.mono (HBA.out _).size))
      have F3 := fhid ((HFA.out _).on hb3)
      have T3 := fhid (tab_kept hT.out.1 hT.out.2 _ hb3)
      clear hb3 hc cp HFA HBA
      go_wp2_with fail
      with_reducible refine (ca.out _).mono ?_
      rintro e w4 ⟨rfl, rfl⟩
      go_wp2_with fail
      go_roundw
      case rel => exact ⟨j + 1, by go_num, by omega, B3, F3, T3⟩
      case measure => simp [intOf]; omega
    · have hge : ¬ (j : Int) < 16 := by omega
      clear hlt hj
      clear hT
      go_wp2_with fail
      go_loopw [8, 63] (fun v j w2 => ∃ (t : ByteArray) (j' : Nat), v = .string t ∧ j = .int .i64 j' ∧ j' ≤ 65 ∧ t.size = j' ∧ w2 = wr) (fun _ j _ => 65 - (intOf j).toNat)
      case atStart => exact ⟨_, 0, rfl, rfl, by omega, rfl, rfl⟩
      case round =>
        obtain ⟨t, j, rfl, rfl, hj, ht, rfl⟩ := hrel
        by_cases hlt : j < 65
        · go_wp2_with fail
          go_roundw
          case rel => exact ⟨_, j + 1, rfl, by go_num, by omega, by rw [← ht]; exact ByteArray.size_append, by first | trivial | rfl⟩
          case measure => simp [intOf]; omega
        · have hge : ¬ (j : Int) < 65 := by omega
          have HTS := fhid (show t.size = 65 by omega)
          clear hlt hj ht
          have HB0 := fhid (hB.out.alloc hB.out.size (.cells (T2 t) 9))
          have HF0 := fhid (hF.out.on (Below.alloc (Below.refl _ _) (Nat.le_refl _) (.cells (T2 t) 9)))
          have HT0 := fhid (tab_new wr (T2 t) 9 18 (fun k => .string (kw2' t k)) (T2_at t))
          go_wp2_with fail
          obtain ⟨n2, hn2⟩ : ∃ n2, wr.heap.size = n2 := ⟨_, rfl⟩
          rw [hn2] at HT0 ⊢
          go_loopw [71] (fun j wr => ∃ (j' : Nat), j = .int .i64 j' ∧ j' ≤ 18 ∧ Hid (Below w.heap.size w wr) ∧ Hid (FS wr) ∧ Hid (n2 < wr.heap.size ∧ ∀ k, k < 18 → wr.cell? ⟨n2, k, none⟩ = some (.string (kw2' t k)))) (fun j _ => 18 - (intOf j).toNat)
          case atStart => exact ⟨0, rfl, by omega, HB0, HF0, HT0⟩
          case round =>
            obtain ⟨j, rfl, hj, hB, hF, hT⟩ := hrel
            clear HB0 HF0 HT0
            by_cases hlt : j < 18
            · have hc := hT.out.2 j hlt
              have cp := fhid (parse2 t HTS.out j hlt)
              go_wp2_with fail
              with_reducible refine (cp.out _ hF.out).mono ?_
              rintro e w3 ⟨rfl, hb3⟩
              have B3 := fhid (hB.out.trans (hb3.mono hB.out.size))
              have F3 := fhid (hF.out.on hb3)
              have T3 := fhid (tab_kept0 hT.out.1 hT.out.2 hb3)
              clear hb3 hc cp
              go_wp2_with fail
              go_roundw
              case rel => exact ⟨j + 1, by go_num, by omega, B3, F3, T3⟩
              case measure => simp [intOf]; omega
            · have hge : ¬ (j : Int) < 18 := by omega
              clear hlt hj hT
              have HB0 := fhid (hB.out.alloc hB.out.size (.cells T3 9))
              have HF0 := fhid (hF.out.on (Below.alloc (Below.refl _ _) (Nat.le_refl _) (.cells T3 9)))
              have HT0 := fhid (tab_new wr T3 9 22 (fun k => .string (kw3 k)) T3_at)
              clear hB hF
              go_wp2_with fail
              obtain ⟨n3, hn3⟩ : ∃ n3, wr.heap.size = n3 := ⟨_, rfl⟩
              rw [hn3] at HT0 ⊢
              go_loopw [85] (fun j wr => ∃ (j' : Nat), j = .int .i64 j' ∧ j' ≤ 22 ∧ Hid (Below w.heap.size w wr) ∧ Hid (FS wr) ∧ Hid (n3 < wr.heap.size ∧ ∀ k, k < 22 → wr.cell? ⟨n3, k, none⟩ = some (.string (kw3 k)))) (fun j _ => 22 - (intOf j).toNat)
              case atStart => exact ⟨0, rfl, by omega, HB0, HF0, HT0⟩
              case round =>
                obtain ⟨j, rfl, hj, hB, hF, hT⟩ := hrel
                clear HB0 HF0 HT0
                by_cases hlt : j < 22
                · have hc := hT.out.2 j hlt
                  have hx := F3_at j
                  have cl := ldexpK
                  have cn := nanP
                  have cp := fhid (print3 j hlt)
                  have HFA : Hid (∀ o, FS (wr.alloc o)) := fhid fun o => hF.out.on (Below.alloc (Below.refl _ _) (Nat.le_refl _) o)
                  have HBA : Hid (∀ o, Below w.heap.size w (wr.alloc o)) := fhid fun o => hB.out.alloc hB.out.size o
                  go_wp2_with fail
                  with_reducible refine (cl _).mono ?_
                  rintro e w4 ⟨rfl, rfl⟩
                  go_wp2_with fail
                  with_reducible refine (cn _).mono ?_
                  rintro e w4 ⟨rfl, rfl⟩
                  go_wp2_with fail
                  with_reducible refine (cp.out _ (HFA.out _)).mono ?_
                  rintro e w3 ⟨rfl, hb3⟩
                  have B3 := fhid ((HBA.out _).trans (hb3.mono (HBA.out _).size))
                  have F3 := fhid ((HFA.out _).on hb3)
                  have T3 := fhid (tab_kept hT.out.1 hT.out.2 _ hb3)
                  clear hb3 hc cp HFA HBA
                  go_wp2_with fail
                  go_roundw
                  case rel => exact ⟨j + 1, by go_num, by omega, B3, F3, T3⟩
                  case measure => simp [intOf]; omega
                · have hge : ¬ (j : Int) < 22 := by omega
                  clear hlt hj hT
                  go_wp2_with fail
                  with_reducible refine (pb1 _ hF.out).mono ?_
                  rintro e w2 ⟨rfl, hb⟩
                  have HB2 := fhid (hB.out.trans (hb.mono hB.out.size))
                  have HF2 := fhid (hF.out.on hb)
                  have HBA : Hid (∀ o, Below w.heap.size w (w2.alloc o)) := fhid fun o => HB2.out.alloc HB2.out.size o
                  have HFA : Hid (∀ o, FS (w2.alloc o)) := fhid fun o => HF2.out.on (Below.alloc (Below.refl _ _) (Nat.le_refl _) o)
                  clear hB hF hb HB2 HF2
                  go_wp2_with fail
                  with_reducible refine (pb2 _ (HFA.out _)).mono ?_
                  rintro e w4 ⟨rfl, hb⟩
                  have HP := fhid (pk_new hb)
                  have HB4 := fhid ((HBA.out _).trans (hb.mono (HBA.out _).size))
                  have HF4 := fhid ((HFA.out _).on hb)
                  obtain ⟨n4, hn4⟩ : ∃ n4, w2.heap.size = n4 := ⟨_, rfl⟩
                  rw [hn4] at HP ⊢
                  clear hn4 hb HBA HFA
                  have HPA : Hid (∀ o, PK n4 (w4.alloc o) true) := fhid fun o => HP.out.push o
                  have HBA : Hid (∀ o, Below w.heap.size w (w4.alloc o)) := fhid fun o => HB4.out.alloc HB4.out.size o
                  have HFA : Hid (∀ o, FS (w4.alloc o)) := fhid fun o => HF4.out.on (Below.alloc (Below.refl _ _) (Nat.le_refl _) o)
                  clear HP HB4 HF4
                  go_wp2_with fail
                  with_reducible refine (pb3 _ (HFA.out _)).mono ?_
                  rintro e w5 ⟨rfl, hb⟩
                  have HP := fhid ((HPA.out _).on hb)
                  have HB5 := fhid ((HBA.out _).trans (hb.mono (HBA.out _).size))
                  clear hb HBA HFA HPA
                  have HPA : Hid (∀ o, PK n4 (w5.alloc o) true) := fhid fun o => HP.out.push o
                  have HBA : Hid (∀ o, Below w.heap.size w (w5.alloc o)) := fhid fun o => HB5.out.alloc HB5.out.size o
                  clear HP HB5
                  go_wp2_with fail
                  with_reducible refine (ad1 _).mono ?_
                  rintro e w6 ⟨rfl, hb⟩
                  have HP := fhid ((HPA.out _).on hb)
                  have HB6 := fhid ((HBA.out _).trans (hb.mono (HBA.out _).size))
                  clear hb HBA HPA
                  go_wp2_with fail
                  with_reducible refine (ad2 _).mono ?_
                  rintro e w7 ⟨rfl, hb⟩
                  have HP7 := fhid (HP.out.on hb)
                  have HB7 := fhid (HB6.out.trans (hb.mono HB6.out.size))
                  clear hb HP HB6
                  have HB8 := fhid (HB7.out.alloc HB7.out.size (.cells #[.float .f64 4617315517961601024, .bool false] 45))
                  have HP8 := fhid (HP7.out.push (.cells #[.float .f64 4617315517961601024, .bool false] 45))
                  have hl := HP7.out.lt
                  have c0 := HP7.out.c0
                  have c1 := HP7.out.c1
                  clear HP7 HB7
                  have he := eq5
                  go_wp2_with fail
                  clear he hl c0 c1
                  refine (wi false false _).mono ?_
                  rintro e w8 ⟨rfl, hb⟩
                  have HQ8 := fhid (pk_new hb)
                  have HP9 := fhid (HP8.out.on hb)
                  have HB9 := fhid (HB8.out.trans (hb.mono HB8.out.size))
                  clear hb HP8 HB8
                  obtain ⟨n7, hn7⟩ : ∃ n7, w7.heap.size = n7 := ⟨_, rfl⟩
                  rw [hn7] at HQ8 ⊢
                  clear hn7
                  have c0 := HP9.out.c0
                  have c1 := HP9.out.c1
                  have d0 := HQ8.out.c0
                  have d1 := HQ8.out.c1
                  go_wp2_with fail
                  clear c0 c1 d0 d1
                  refine (wi false true _).mono ?_
                  rintro e w9 ⟨rfl, hb⟩
                  have HQ9 := fhid (HQ8.out.on hb)
                  have HP10 := fhid (HP9.out.on hb)
                  have HB10 := fhid (HB9.out.trans (hb.mono HB9.out.size))
                  clear hb HP9 HB9 HQ8
                  have c0 := HP10.out.c0
                  have c1 := HP10.out.c1
                  have d0 := HQ9.out.c0
                  have d1 := HQ9.out.c1
                  go_wp2_with fail
                  clear c0 c1 d0 d1
                  refine (wi true false _).mono ?_
                  rintro e w10 ⟨rfl, hb⟩
                  have HB11 := fhid (HB10.out.trans (hb.mono HB10.out.size))
                  clear hb HB10 HP10 HQ9
                  go_wp2_with fail
                  go_ret
                  exact ⟨rfl, HB11.out⟩
end Go.Proofs.YtlhhpehfgkanoaaGreatDoor.fl
