/- The walks of the reference's within and whole. -/
import Derived.Test.YtgbldjbkapaclaaDoorFlB
import Derived.Test.YtgbldjbkapaclaaDoorFlA
import Derived.OwnWalk
import Derived.Laws.BitsAllLaws
/- The contract of internal/strconv.atof64 at a decimal word of which nothing is left out. -/
namespace Go.Proofs.YtgbldjbkapaclaaDoor.fl
open Go.ChangeShapes Go.WideShapes Go.ChangeAt Go.RowKit
set_option linter.unusedVariables false

/-- The library's float tables lie as their initialisers lay them. -/
structure FO (w : World) : Prop where
  ft : FT w
  opt : w.cell? ⟨9, 0, none⟩ = some (.bool true)
  tab : P10 w
  er : ∃ ev, w.cell? ⟨7, 0, none⟩ = some ev ∧ (ev = .nilIface ∨ ∃ te pe, ev = .iface te pe)
theorem FO.on {w w' : World} (h : FO w) (hb : Below w.heap.size w w') : FO w' := by
  have k : ∀ {p : Addr} {v : Value}, w.cell? p = some v → w'.cell? p = some v := fun hc => (hb.cell (World.block_lt_of_cell? _ _ hc)).trans hc
  obtain ⟨g, o, g1, g2⟩ := h.ft.p10
  exact ⟨⟨k h.ft.info, g, o, k g1, fun i hi => k (g2 i hi)⟩, k h.opt, fun i hi => ⟨k (h.tab i hi).1, k (h.tab i hi).2⟩, h.er.elim fun ev he => ⟨ev, k he.1, he.2⟩⟩
theorem FO.drewN {w : World} (h : FO w) (n : Nat) : FO (w.drewN n) := h.on (below_drewN (Below.refl _ _) n)
/-- What a reader of floats answers: a rung, or infinity and the error; the word's length. -/
def pf3 (neg : Bool) (u : Nat) (n : Int) : Value :=
  if u < infR then .tuple #[.float .f64 (sgw neg + u), .int .i64 n, .nilIface] else .tuple #[.float .f64 (sgw neg + infR), .int .i64 n, .iface 77 (.int .i64 1)]
theorem pf3_lt {neg : Bool} {u : Nat} {n : Int} (h : u < infR) : pf3 neg u n = .tuple #[.float .f64 (sgw neg + u), .int .i64 n, .nilIface] := if_pos h
theorem pf3_ge {neg : Bool} {u : Nat} {n : Int} (h : infR ≤ u) : pf3 neg u n = .tuple #[.float .f64 (sgw neg + infR), .int .i64 n, .iface 77 (.int .i64 1)] := if_neg (by omega)
def AtofPost (neg : Bool) (m : List Nat) (E : Int) (n : Int) (w : World) (e : Ending) (w' : World) : Prop :=
  ∃ u, Near (valN (dnum m) (wq m E)) (valD (wq m E)) u ∧ e = .returned (pf3 neg u n) ∧ Below w.heap.size w w'
theorem dec_first {s : ByteArray} {neg : Bool} {m : List Nat} {p : Bool} {E : Int} (h : DecW s neg m p E) : ∃ h0 : 0 < s.size,
    (((s[0].toNat : Int) == 43) = true ∨ ((s[0].toNat : Int) == 45) = true) ∧ (∃ h1 : 1 < s.size, s[1].toNat < 65) ∨ s[0].toNat < 65 ∧ ((s[0].toNat : Int) == 43) = false ∧ ((s[0].toNat : Int) == 45) = false := by
  obtain ⟨⟨sg, xs, hb, hsg, hx⟩, hm, hdig, hlen⟩ := h
  have hA := at_of hb
  have hM0 : 0 < m.length := by
    rcases List.eq_nil_or_concat m with h | ⟨l, c, h⟩
    · rw [h] at hdig; cases hdig
    · rw [h]; simp
  have hl := hA.len
  have hn0 : 0 < s.size := by omega
  obtain ⟨q, hq, _⟩ := mant_take hm 0
  have h2 := mant_next hm 0 (by omega) q hq
  have hlt : m.getD 0 0 < 65 ∧ (((m.getD 0 0 : Nat) : Int) == 43) = false ∧ (((m.getD 0 0 : Nat) : Int) == 45) = false := by
    have h3 := dig_not (m.getD 0 0) (by rcases h2 with h2 | h2; exact .inl h2; exact .inr h2.1)
    refine ⟨?_, h3⟩
    rcases h2 with h2 | h2
    · unfold isDig at h2; omega
    · omega
  have hc0 : s[0].toNat = (bl s).getD 0 0 := bl_at s 0 hn0
  refine ⟨hn0, ?_⟩
  rcases hsg with h | h | h
  · right
    have := hA.man 0 hn0 (by rw [h.1]; simp) (by rw [h.1]; simp; omega)
    rw [h.1] at this
    simp only [List.length_nil, Nat.sub_self] at this
    rw [this]; exact hlt
  · left
    have h1 : 1 < s.size := by rw [h.1] at hl; simp at hl; omega
    refine ⟨.inl (by rw [hc0, hb, h.1]; rfl), h1, ?_⟩
    have := hA.man 1 h1 (by rw [h.1]; simp) (by rw [h.1]; simp; omega)
    rw [h.1] at this
    simp only [List.length_cons, List.length_nil, Nat.zero_add, Nat.sub_self] at this
    rw [this]; exact hlt.1
  · left
    have h1 : 1 < s.size := by rw [h.1] at hl; simp at hl; omega
    refine ⟨.inr (by rw [hc0, hb, h.1]; rfl), h1, ?_⟩
    have := hA.man 1 h1 (by rw [h.1]; simp) (by rw [h.1]; simp; omega)
    rw [h.1] at this
    simp only [List.length_cons, List.length_nil, Nat.zero_add, Nat.sub_self] at this
    rw [this]; exact hlt.1
theorem sgn_shift (neg : Bool) : IntKind.u64.wrap ((if neg = true then (1 : Int) else 0) * 9223372036854775808) = (sgw neg : Int) := by cases neg <;> rfl
set_option maxRecDepth 100000 in
set_option maxHeartbeats 4000000 in
theorem atof64N (s : ByteArray) (neg : Bool) (m : List Nat) (p : Bool) (E : Int) (w : World) (h : DecW s neg m p E) (ht : (rf m).tr = false) (hf : FO w)
    (hR : ∀ w, Calls Tryd.prog 50 #[.string s] w (RfPost s neg m E w)) :
    Calls Tryd.prog 45 #[.string s] w (AtofPost neg m E s.size w) := by
  obtain ⟨h0, hfirst⟩ := dec_first h
  have cs := fun w => specialC s w h0 (Nat.le_trans h.short (by decide)) hfirst
  have hm := h.mant
  have hlen := h.short
  have ok := rf_ok hm
  have hmb : (rf m).mant < 10000000000000000000 := Nat.lt_of_lt_of_le ok.mant (Nat.pow_le_pow_right (by decide) (show (rf m).ndm ≤ 19 by have := ok.ndm; omega))
  obtain ⟨d, hd⟩ : ∃ d, (rf m).mant = d := ⟨_, rfl⟩
  obtain ⟨x, hx⟩ : ∃ x, rfExp m E = x := ⟨_, rfl⟩
  have hkept : Hid (d ≠ 0 → ∀ u, Near (valN d x) (valD x) u → Near (valN (dnum m) (wq m E)) (valD (wq m E)) u) := fhid (fun h0 u hu => near_kept hm E ht (by
    have : rfExp m E = rfX m E := by unfold rfExp rfX; rw [if_neg (by rw [hd]; exact h0)]
    rw [← this, hx, hd]; exact hu))
  have hz0 : Hid (d = 0 → dnum m = 0 ∧ x = 0) := fhid (fun h0 => ⟨mant_zero hm (by rw [hd]; exact h0), by rw [← hx]; unfold rfExp; rw [if_pos (by rw [hd]; exact h0)]⟩)
  have cr : ∀ w, Calls Tryd.prog 50 #[.string s] w fun e w' => e = .returned (.tuple #[.int .u64 d, .int .i64 x, .bool neg, .bool false, .bool false, .int .i64 s.size, .bool true]) ∧ ∃ n, w' = w.drewN n := by
    intro w
    have := hR w
    unfold RfPost at this
    rwa [hd, hx, ht] at this
  rw [hd] at hmb
  have hopt := hf.opt
  have HF := fhid hf
  have hfb := ffb
  obtain ⟨S, hS⟩ : ∃ S, sgw neg = S := ⟨_, rfl⟩
  obtain ⟨b2, hb2⟩ : ∃ b : Int, (if neg = true then (1 : Int) else 0) = b := ⟨_, rfl⟩
  have hsh : IntKind.u64.wrap (b2 * 9223372036854775808) = (S : Int) := by rw [← hb2, ← hS]; exact sgn_shift neg
  have hor0 : bits BinOp.or IntKind.u64 (S : Int) 0 = (S : Int) := by rw [← hS]; exact zor_sg (m := 0) (by decide)
  have hori : bits BinOp.or IntKind.u64 (S : Int) 9218868437227405312 = ((S + infR : Nat) : Int) := by rw [← hS]; exact zor_inf (sgw neg) (by cases neg <;> simp [sgw])
  have cb : ∀ w, Calls Tryd.prog 58 #[.bool neg] w fun e w' => e = .returned (.int .u64 b2) ∧ w = w' := fun w => by rw [← hb2]; exact bool2u neg w
  have HS := fhid hS
  clear ok hm hd hx hf hfirst h hR hS hb2
  go_enter Tryd.func45, Tryd.ntmps45
  go_wp2_with fail
  refine (cs _).mono ?_
  clear cs
  rintro e w1 ⟨rfl, rfl⟩
  go_wp2_with fail
  refine (cr _).mono ?_
  clear cr
  rintro e w1 ⟨rfl, n1, rfl⟩
  have hopt : (w.drewN n1).cell? ⟨9, 0, none⟩ = some (.bool true) := hopt
  go_wp2_with fail
  refine (cb _).mono ?_
  clear cb
  rintro e w1 ⟨rfl, rfl⟩
  by_cases hz : d = 0
  · obtain ⟨z1, z2⟩ := hz0.out hz
    subst hz z2
    have hfin : Hid (∃ u, Near (valN (dnum m) (wq m E)) (valD (wq m E)) u ∧ Ending.returned (.tuple #[.float .f64 S, .int .i64 s.size, .nilIface]) = .returned (pf3 neg u s.size)) := fhid ⟨0, by rw [z1]; exact near_zero _, by rw [pf3_lt (by decide), HS.out]; rfl⟩
    clear hz0 hkept z1
    go_wp2_with fail
    go_ret3
    obtain ⟨u, u1, u2⟩ := hfin.out
    exact ⟨u, u1, u2, below_drewN (Below.refl _ _) _⟩
  · have hzi : ((d : Int) == 0) = false := by simp; omega
    by_cases h310 : 310 < x
    · have hfin : Hid (∃ u, Near (valN (dnum m) (wq m E)) (valD (wq m E)) u ∧ Ending.returned (.tuple #[.float .f64 (S + infR), .int .i64 s.size, .iface 77 (.int .i64 1)]) = .returned (pf3 neg u s.size)) := fhid (by
        obtain ⟨u, hu⟩ := near_exists (valN d x) (valD x) (valD_pos x)
        exact ⟨u, hkept.out hz u hu, by rw [pf3_ge (far_up (by omega) h310 hu), HS.out]⟩)
      clear hz0 hkept hz
      go_wp2_with fail
      go_ret3
      obtain ⟨u, u1, u2⟩ := hfin.out
      exact ⟨u, u1, u2, below_drewN (Below.refl _ _) _⟩
    · by_cases h345 : x < -345
      · have hfin : Hid (∃ u, Near (valN (dnum m) (wq m E)) (valD (wq m E)) u ∧ Ending.returned (.tuple #[.float .f64 S, .int .i64 s.size, .nilIface]) = .returned (pf3 neg u s.size)) := fhid ⟨0, hkept.out hz 0 (far_down (by omega) h345), by rw [pf3_lt (by decide), HS.out]; rfl⟩
        clear hz0 hkept hz
        go_wp2_with fail
        go_ret3
        obtain ⟨u, u1, u2⟩ := hfin.out
        exact ⟨u, u1, u2, below_drewN (Below.refl _ _) _⟩
      · have hx1 : -345 ≤ x := by omega
        have hx2 : x ≤ 310 := by omega
        have hd0 : 0 < d := by omega
        have ce := fun w hf => atof64exactC d x neg w hd0 (by omega) hf
        have cp := fun w hf => parseFloat64C d x neg w hd0 (by omega) hx1 hx2 hf
        rw [HS.out] at cp
        clear hz0 hz
        go_wp2_with fail
        refine (ce _ (HF.out.drewN n1).ft).mono ?_
        clear ce
        rintro e w1 ⟨r, ok, rfl, hok, rfl⟩
        have HOK := fhid hok
        clear hok
        cases ok
        · go_wp2_with fail
          refine (cp _ (HF.out.drewN n1).tab).mono ?_
          clear cp
          rintro e w2 ⟨u, hu, rfl, hb⟩
          have hfin : Hid (Near (valN (dnum m) (wq m E)) (valD (wq m E)) u) := fhid (hkept.out (by omega) u hu)
          have hb2 : Hid (Below w.heap.size w w2) := fhid ((below_drewN (Below.refl _ _) n1).trans hb)
          clear hu hkept hb
          unfold pfV
          by_cases hui : u < infR
          · rw [if_pos hui, HS.out]
            have he : Hid (pf3 neg u s.size = .tuple #[.float .f64 (S + u), .int .i64 s.size, .nilIface]) := fhid (by rw [pf3_lt hui, HS.out])
            clear hui
            go_wp2_with fail
            go_ret3
            exact ⟨u, hfin.out, by rw [he.out]; rfl, hb2.out⟩
          · rw [if_neg hui, HS.out]
            have he : Hid (pf3 neg u s.size = .tuple #[.float .f64 (S + infR), .int .i64 s.size, .iface 77 (.int .i64 1)]) := fhid (by rw [pf3_ge (by omega), HS.out])
            clear hui
            go_wp2_with fail
            go_ret3
            exact ⟨u, hfin.out, by rw [he.out]; rfl, hb2.out⟩
        · have hfin : Hid (∃ u, Near (valN (dnum m) (wq m E)) (valD (wq m E)) u ∧ Ending.returned (.tuple #[.float .f64 r, .int .i64 s.size, .nilIface]) = .returned (pf3 neg u s.size)) := fhid (by
            obtain ⟨u, u1, u2, u3⟩ := HOK.out rfl
            exact ⟨u, hkept.out (by omega) u u2, by rw [pf3_lt u1, u3]⟩)
          clear hkept cp
          go_wp2_with fail
          go_ret3
          obtain ⟨u, u1, u2⟩ := hfin.out
          exact ⟨u, u1, u2, below_drewN (Below.refl _ _) _⟩
end Go.Proofs.YtgbldjbkapaclaaDoor.fl
/- The contract of strconv.ParseFloat, from atof64's. -/
namespace Go.Proofs.YtgbldjbkapaclaaDoor.fl
open Go.ChangeShapes Go.WideShapes Go.ChangeAt Go.RowKit
set_option linter.unusedVariables false

/-- What ParseFloat answers: the nearest rung; an error just where there is none. -/
def PfPost (neg : Bool) (m : List Nat) (E : Int) (w : World) (e : Ending) (w' : World) : Prop :=
  ∃ u, Near (valN (dnum m) (wq m E)) (valD (wq m E)) u ∧ (u < infR ∧ e = .returned (.tuple #[.float .f64 (sgw neg + u), .nilIface]) ∨ infR ≤ u ∧ ∃ p, e = .returned (.tuple #[.float .f64 (sgw neg + infR), .iface 78 p])) ∧ Below w.heap.size w w'
set_option maxHeartbeats 1000000 in
theorem prefixC (s : ByteArray) (neg : Bool) (m : List Nat) (E : Int) (w : World) (hA : Calls Tryd.prog 45 #[.string s] w (AtofPost neg m E s.size w)) :
    Calls Tryd.prog 34 #[.string s, .int .i64 64] w (AtofPost neg m E s.size w) := by
  have c := hA
  clear hA
  go_enter Tryd.func34, Tryd.ntmps34
  go_wp2_with fail
  refine c.mono ?_
  clear c
  rintro e w1 ⟨u, hu, rfl, hb⟩
  have HU := fhid hu
  have HB := fhid hb
  clear hu hb
  by_cases hi : u < infR
  · have hp := fhid (pf3_lt (neg := neg) (n := s.size) hi)
    rw [hp.out]
    go_wp2_with fail
    go_ret3
    exact ⟨u, HU.out, by rw [hp.out]; rfl, HB.out⟩
  · have hp := fhid (pf3_ge (neg := neg) (n := s.size) (Nat.le_of_not_lt hi))
    rw [hp.out]
    go_wp2_with fail
    go_ret3
    exact ⟨u, HU.out, by rw [hp.out]; rfl, HB.out⟩
/-- The inner package's answer. -/
def PiPost (neg : Bool) (m : List Nat) (E : Int) (w : World) (e : Ending) (w' : World) : Prop :=
  ∃ u, Near (valN (dnum m) (wq m E)) (valD (wq m E)) u ∧ e = .returned (pfV neg u) ∧ Below w.heap.size w w'
set_option maxHeartbeats 1000000 in
theorem innerC (s : ByteArray) (neg : Bool) (m : List Nat) (E : Int) (w : World) (hlen : s.size ≤ 1000) (hA : Calls Tryd.prog 45 #[.string s] w (AtofPost neg m E s.size w)) :
    Calls Tryd.prog 24 #[.string s, .int .i64 64] w (PiPost neg m E w) := by
  have c := prefixC s neg m E w hA
  clear hA
  have hne : ((s.size : Int) != (s.size : Int)) = false := by simp
  go_enter Tryd.func24, Tryd.ntmps24
  go_wp2_with fail
  refine c.mono ?_
  clear c
  rintro e w1 ⟨u, hu, rfl, hb⟩
  have HU := fhid hu
  have HB := fhid hb
  clear hu hb
  by_cases hi : u < infR
  · have hp := fhid (pf3_lt (neg := neg) (n := s.size) hi)
    have hq : Hid (pfV neg u = .tuple #[.float .f64 (sgw neg + u), .nilIface]) := fhid (if_pos hi)
    rw [hp.out]
    go_wp2_with fail
    go_ret2
    exact ⟨u, HU.out, by rw [hq.out]; rfl, HB.out⟩
  · have hp := fhid (pf3_ge (neg := neg) (n := s.size) (Nat.le_of_not_lt hi))
    have hq : Hid (pfV neg u = .tuple #[.float .f64 (sgw neg + infR), .iface 77 (.int .i64 1)]) := fhid (if_neg hi)
    rw [hp.out]
    go_wp2_with fail
    go_ret2
    exact ⟨u, HU.out, by rw [hq.out]; rfl, HB.out⟩
set_option maxHeartbeats 1000000 in
theorem parseFloatAt (s : ByteArray) (neg : Bool) (m : List Nat) (E : Int) (w : World) (hf : FO w) (hlen : s.size ≤ 1000) (hA : Calls Tryd.prog 45 #[.string s] w (AtofPost neg m E s.size w)) :
    Calls Tryd.prog 15 #[.string s, .int .i64 64] w (PfPost neg m E w) := by
  have c := innerC s neg m E w hlen hA
  have HF := fhid hf
  clear hA hf
  go_enter Tryd.func15, Tryd.ntmps15
  go_wp2_with fail
  refine c.mono ?_
  clear c
  rintro e w1 ⟨u, hu, rfl, hb⟩
  have HU := fhid hu
  have HB := fhid hb
  clear hu hb
  by_cases hi : u < infR
  · rw [show pfV neg u = .tuple #[.float .f64 (sgw neg + u), .nilIface] from if_pos hi]
    have HI := fhid hi
    clear hi
    go_wp2_with fail
    go_ret2
    exact ⟨u, HU.out, .inl ⟨HI.out, rfl⟩, HB.out⟩
  · rw [show pfV neg u = .tuple #[.float .f64 (sgw neg + infR), .iface 77 (.int .i64 1)] from if_neg hi]
    have HI := fhid hi
    clear hi
    obtain ⟨ev, h1, h2⟩ := (HF.out.on HB.out).er
    have ct := Tryd.strconv_toError_range ⟨#[80, 97, 114, 115, 101, 70, 108, 111, 97, 116]⟩ s 0 64 ev w1 (Nat.le_trans hlen (by decide)) h1 h2
    clear h1 h2
    go_wp2_with fail
    refine ct.mono ?_
    clear ct
    rintro e w2 ⟨N, rfl, _, _, hb2⟩
    have HB2 := fhid hb2
    clear hb2
    go_wp2_with fail
    go_ret2
    exact ⟨u, HU.out, .inr ⟨Nat.le_of_not_lt HI.out, _, rfl⟩, HB.out.trans (HB2.out.mono HB.out.size)⟩
end Go.Proofs.YtgbldjbkapaclaaDoor.fl
/- Whole numbers by limbs of 32 bits, the lowest first: the plain laws. -/
namespace Go.Proofs.YtgbldjbkapaclaaDoor.fl
/-- The base. -/
def Bs : Nat := 4294967296
/-- What a row of limbs is worth. -/
def lval : List Nat → Nat
  | [] => 0
  | d :: t => d + Bs * lval t
/-- All are limbs. -/
def Lows (l : List Nat) : Prop := ∀ d ∈ l, d < Bs
/-- The highest limb is not nought. -/
def Can (l : List Nat) : Prop := Lows l ∧ ∀ d, l.getLast? = some d → d ≠ 0
/-- Bounds, by name. -/
def KA : Nat := 10000
def KB : Nat := 1000
def KC : Nat := 100000
theorem kac : KA + KB ≤ KC := by decide
theorem bs_pos : 0 < Bs := by decide
theorem bs_pow (k : Nat) : 0 < Bs ^ k := Nat.pow_pos bs_pos
theorem lval_append (a b : List Nat) : lval (a ++ b) = lval a + Bs ^ a.length * lval b := by
  induction a with
  | nil => simp [lval]
  | cons d t ih =>
    simp only [List.cons_append, lval, ih, List.length_cons, Nat.pow_succ, Nat.mul_add]
    rw [Nat.mul_comm (Bs ^ t.length) Bs, Nat.mul_assoc]
    omega
theorem lval_snoc (a : List Nat) (d : Nat) : lval (a ++ [d]) = lval a + Bs ^ a.length * d := by
  rw [lval_append]; simp [lval]
theorem Lows.nil : Lows [] := fun _ h => by cases h
theorem Lows.snoc {a : List Nat} {d : Nat} (h : Lows a) (hd : d < Bs) : Lows (a ++ [d]) := by
  intro x hx
  rcases List.mem_append.mp hx with h1 | h1
  · exact h x h1
  · simp only [List.mem_singleton] at h1; exact h1 ▸ hd
theorem Lows.take {l : List Nat} (h : Lows l) (k : Nat) : Lows (l.take k) := fun d hd => h d (List.mem_of_mem_take hd)
theorem Lows.get {l : List Nat} (h : Lows l) (i : Nat) : l.getD i 0 < Bs := by
  rw [List.getD_eq_getElem?_getD]
  cases hh : l[i]? with
  | none => exact bs_pos
  | some d => exact h d (List.mem_of_getElem? hh)
theorem lval_lt {l : List Nat} (h : Lows l) : lval l < Bs ^ l.length := by
  induction l with
  | nil => simp [lval]
  | cons d t ih =>
    have h1 := h d (by simp)
    have h2 := ih (fun x hx => h x (by simp [hx]))
    simp only [lval, List.length_cons, Nat.pow_succ]
    have h3 : Bs * (lval t + 1) ≤ Bs * Bs ^ t.length := Nat.mul_le_mul_left _ h2
    rw [Nat.mul_comm (Bs ^ t.length) Bs]
    rw [Nat.mul_add] at h3
    omega
theorem take_succ_getD {l : List Nat} {k : Nat} (hk : k < l.length) : l.take (k + 1) = l.take k ++ [l.getD k 0] := by
  rw [List.take_add_one, List.getD_eq_getElem?_getD, List.getElem?_eq_getElem hk]; simp
theorem lval_take_succ {l : List Nat} {k : Nat} (hk : k < l.length) : lval (l.take (k + 1)) = lval (l.take k) + Bs ^ k * l.getD k 0 := by
  rw [take_succ_getD hk, lval_snoc, List.length_take, Nat.min_eq_left (Nat.le_of_lt hk)]
theorem lval_split {l : List Nat} {k : Nat} (hk : k < l.length) : lval l = lval (l.take k) + Bs ^ k * (l.getD k 0 + Bs * lval (l.drop (k + 1))) := by
  have h : l = l.take k ++ (l.getD k 0 :: l.drop (k + 1)) := by
    rw [List.getD_eq_getElem?_getD, List.getElem?_eq_getElem hk]
    simp
  have h2 := congrArg lval h
  rw [lval_append, List.length_take, Nat.min_eq_left (Nat.le_of_lt hk)] at h2
  exact h2
theorem lval_take_lt {l : List Nat} (h : Lows l) {k : Nat} (hk : k ≤ l.length) : lval (l.take k) < Bs ^ k := by
  have := lval_lt (h.take k)
  rwa [List.length_take, Nat.min_eq_left hk] at this
/-- A number's highest limb holds it up. -/
theorem can_ge {l : List Nat} (h : Can l) (hne : l ≠ []) : Bs ^ (l.length - 1) ≤ lval l := by
  have hp : 0 < l.length := List.length_pos_iff.mpr hne
  obtain ⟨n, hn⟩ : ∃ n, l.length = n + 1 := ⟨l.length - 1, by omega⟩
  have hk : n < l.length := by omega
  rw [lval_split hk, hn, Nat.add_sub_cancel]
  have hd : l.getD n 0 ≠ 0 := by
    refine h.2 _ ?_
    rw [List.getLast?_eq_getElem?, hn, Nat.add_sub_cancel, List.getD_eq_getElem?_getD, List.getElem?_eq_getElem hk]; rfl
  have h3 : Bs ^ n * 1 ≤ Bs ^ n * (l.getD n 0 + Bs * lval (l.drop (n + 1))) := Nat.mul_le_mul_left _ (by omega)
  omega
theorem can_pos {l : List Nat} (h : Can l) (hne : l ≠ []) : 0 < lval l := Nat.lt_of_lt_of_le (bs_pow _) (can_ge h hne)
theorem can_nil : Can [] := ⟨Lows.nil, fun d h => by simp at h⟩
theorem can_len_lt {a b : List Nat} (ha : Can a) (hb : Can b) (h : a.length < b.length) : lval a < lval b := by
  have h1 := lval_lt ha.1
  have h2 := can_ge hb (List.ne_nil_of_length_pos (by omega))
  have h3 : Bs ^ a.length ≤ Bs ^ (b.length - 1) := Nat.pow_le_pow_right bs_pos (by omega)
  omega
theorem can_len_of_lt {a : List Nat} (ha : Can a) {k : Nat} (h : lval a < Bs ^ k) : a.length ≤ k := by
  by_cases hh : a.length ≤ k
  · exact hh
  · have h2 := can_ge ha (List.ne_nil_of_length_pos (by omega))
    have h3 : Bs ^ k ≤ Bs ^ (a.length - 1) := Nat.pow_le_pow_right bs_pos (by omega)
    omega
theorem len_kc {a : List Nat} (ha : Can a) (h : lval a < Bs ^ KC) : a.length ≤ 100000 := by
  have h1 := can_len_of_lt ha h
  exact h1
theorem lval_drop_lt {a b : List Nat} (ha : Lows a) {i : Nat} (hia : i < a.length) (hib : i < b.length) (he : lval (a.drop (i + 1)) = lval (b.drop (i + 1))) (h : a.getD i 0 < b.getD i 0) : lval a < lval b := by
  rw [lval_split hia, lval_split hib, he]
  have h1 := lval_take_lt ha (Nat.le_of_lt hia)
  have h2 : Bs ^ i * (a.getD i 0 + Bs * lval (b.drop (i + 1)) + 1) ≤ Bs ^ i * (b.getD i 0 + Bs * lval (b.drop (i + 1))) := Nat.mul_le_mul_left _ (by omega)
  rw [Nat.mul_add _ _ 1, Nat.mul_one] at h2
  omega
theorem lval_drop {l : List Nat} {i : Nat} (hi : i < l.length) : lval (l.drop i) = l.getD i 0 + Bs * lval (l.drop (i + 1)) := by
  rw [List.drop_eq_getElem_cons hi, List.getD_eq_getElem?_getD, List.getElem?_eq_getElem hi]; rfl
/-- The carry of a product is small. -/
theorem mul_carry {c d m q r : Nat} (hc : c < Bs) (hd : d < Bs) (hm : m < Bs) (he : c + d * m = r + Bs * q) : q < Bs := by
  have h1 : d * m ≤ (Bs - 1) * (Bs - 1) := Nat.mul_le_mul (by omega) (by omega)
  have h2 : (Bs - 1) * (Bs - 1) = 18446744065119617025 := by decide
  have h3 : Bs = 4294967296 := rfl
  rw [h3] at hc h1 h2 he ⊢
  omega
theorem lval_zeros (n : Nat) (l : List Nat) : lval (List.replicate n 0 ++ l) = Bs ^ n * lval l := by
  rw [lval_append, List.length_replicate]
  have : ∀ n, lval (List.replicate n 0) = 0 := by
    intro n; induction n with
    | zero => rfl
    | succ n ih => simp [List.replicate_succ, lval, ih]
  rw [this]; omega
theorem can_zeros {l : List Nat} (h : Can l) (hne : l ≠ []) (n : Nat) : Can (List.replicate n 0 ++ l) := by
  refine ⟨?_, ?_⟩
  · intro d hd
    rcases List.mem_append.mp hd with h1 | h1
    · rw [List.eq_of_mem_replicate h1]; exact bs_pos
    · exact h.1 d h1
  · intro d hd
    rw [List.getLast?_append] at hd
    obtain ⟨e, he⟩ : ∃ e, l.getLast? = some e := by
      cases hh : l.getLast? with
      | none => simp at hh; exact absurd hh hne
      | some e => exact ⟨e, rfl⟩
    rw [he] at hd
    simp at hd
    exact h.2 d (hd ▸ he)
theorem can_snoc {l : List Nat} {d : Nat} (h : Lows l) (hd : d < Bs) (h0 : d ≠ 0) : Can (l ++ [d]) :=
  ⟨h.snoc hd, fun e he => by simp at he; exact he ▸ h0⟩
end Go.Proofs.YtgbldjbkapaclaaDoor.fl
/- Whole numbers in memory, and the walks of score's trim and cmp. -/
namespace Go.Proofs.YtgbldjbkapaclaaDoor.fl
open Go.ChangeShapes Go.WideShapes Go.ChangeAt Go.RowKit
set_option linter.unusedVariables false
/-- A slice of whole numbers reads so. -/
def Lim (k : IntKind) (w : World) (x : Value) (l : List Nat) : Prop :=
  ∃ a cap, x = .slice a l.length cap ∧ l.length ≤ cap ∧ (0 < l.length → ∃ g off, a = some ⟨g, off, none⟩ ∧ ∀ i, i < l.length → w.cell? ⟨g, off + i, none⟩ = some (.int k (l.getD i 0 : Nat)))
/-- A number lies so. -/
def Num (k : IntKind) (w : World) (x : Value) (n : Nat) : Prop := ∃ l, Lim k w x l ∧ Can l ∧ lval l = n
theorem cell_lt {w : World} {p : Addr} {v : Value} (h : w.cell? p = some v) : p.block < w.heap.size := by
  by_cases hh : p.block < w.heap.size
  · exact hh
  · have : w.heap[p.block]? = none := Array.getElem?_eq_none (by omega)
    unfold World.cell? at h
    rw [this] at h; simp at h
theorem Lim.on {k : IntKind} {w w' : World} {x : Value} {l : List Nat} (h : Lim k w x l) (hb : Below w.heap.size w w') : Lim k w' x l := by
  obtain ⟨a, cap, rfl, hc, h⟩ := h
  refine ⟨a, cap, rfl, hc, fun hp => ?_⟩
  obtain ⟨g, off, rfl, hr⟩ := h hp
  refine ⟨g, off, rfl, fun i hi => ?_⟩
  have h1 := hr i hi
  rw [← h1]
  exact hb.cell (cell_lt h1)
theorem Num.on {k : IntKind} {w w' : World} {x : Value} {n : Nat} (h : Num k w x n) (hb : Below w.heap.size w w') : Num k w' x n := by
  obtain ⟨l, h1, h2, h3⟩ := h
  exact ⟨l, h1.on hb, h2, h3⟩
theorem below_drewN (w : World) (n : Nat) : Below w.heap.size w (w.drewN n) := by
  induction n with
  | zero => exact Below.refl _ _
  | succ n ih => exact ih.trans ⟨rfl, rfl, rfl, Nat.le_refl _, fun _ _ => rfl⟩
theorem below_dn {B : Nat} {a w : World} (h : Below B a w) (n : Nat) : Below B a (w.drewN n) := by
  induction n with
  | zero => exact h
  | succ n ih => exact ih.trans ⟨rfl, rfl, rfl, Nat.le_refl _, fun _ _ => rfl⟩
/-- A front part reads so. -/
theorem Lim.take {k : IntKind} {w : World} {a : Option Addr} {n cap : Nat} {l : List Nat} (h : Lim k w (.slice a n cap) l) {j : Nat} (hj : j ≤ n) : Lim k w (.slice a j cap) (l.take j) := by
  obtain ⟨a', cap', he, hc, h⟩ := h
  simp only [Value.slice.injEq] at he
  obtain ⟨rfl, rfl, rfl⟩ := he
  have hl : (l.take j).length = j := by rw [List.length_take]; omega
  refine ⟨a, cap, by rw [hl], by omega, fun hp => ?_⟩
  rw [hl] at hp ⊢
  obtain ⟨g, off, e, hr⟩ := h (by omega)
  refine ⟨g, off, e, fun i hi => ?_⟩
  rw [hr i (by omega)]
  simp [List.getD_eq_getElem?_getD, hi]
/-- What a call that makes a number answers. -/
def NumPost (k : IntKind) (n : Nat) (w : World) (e : Ending) (w' : World) : Prop := ∃ y, e = .returned y ∧ Num k w' y n ∧ Below w.heap.size w w'
/-- What a comparison answers. -/
def CmpPost (a b : Nat) (w : World) (e : Ending) (w' : World) : Prop := ∃ r : Int, e = .returned (.int .i64 r) ∧ (r < 0 ↔ a < b) ∧ (0 < r ↔ b < a) ∧ Below w.heap.size w w'
end Go.Proofs.YtgbldjbkapaclaaDoor.fl
/- append of limbs to a slice of the call's own. -/
namespace Go.Proofs.YtgbldjbkapaclaaDoor.fl
open Go.ChangeShapes Go.WideShapes Go.ChangeAt Go.RowKit
set_option linter.unusedVariables false

section
variable {P : Program} (w : World)
theorem run_app (base : Nat) (t ty e : TypeId) (i : TypeInfo) (z : Value) (bytes : Nat) (ht : P.underlying t = some (.slice e)) (hi : P.info? e = some i) (hz : i.zero = some z)
    (hsize : i.size = 1) (hby : i.bytes = bytes) (hzs : z.cells.size = 1)
    (v : Value) (n : Nat) (xs : List Value) (hown : w.ownsRow base e 1 v n xs)
    (a : Addr) (m c : Nat) (news : List Value) (hl : news.length = m) (hm : 0 < m) (hnews : ∀ j u, news[j]? = some u → w.cell? (a.add j) = some u) (h1 : ∀ u ∈ news, u.oneCell' = true)
    (h63 : n + m ≤ maxLen) (hbytes : (n + m) * bytes ≤ 140737488355328) (hbase : base ≤ w.heap.size) :
    ∃ g2 cap2 w', (Builtin.append_ #[t, t] ty #[v, .slice (some a) m c]).run P w = .ok (.slice (some ⟨g2, 0, none⟩) (n + m) cap2) w' ∧
      w'.ownsRow base e 1 (.slice (some ⟨g2, 0, none⟩) (n + m) cap2) (n + m) (xs ++ news) ∧ w.grownBy w' v.ownBlock ∧ (v.ownBlock = some g2 ∨ (w.heap.size ≤ g2 ∧ w.grownBy w' none)) := by
  have hl1 : news.length = m * 1 := by omega
  obtain ⟨v', w', hr, ho, hg, hn⟩ := run_append_own (P := P) w base t ty e i z 1 bytes ht hi hz hsize hby hzs (by decide) v n xs hown a m c news hl1 hnews h1 h63 hbytes hbase
  have hsmall : n + m ≤ 9223372036854775807 := by simp only [maxLen] at h63; omega
  rcases hown.2 with ⟨rfl, rfl⟩ | ⟨g, cap, cur, rfl, hbg, hgg, hnc, hcm, hcs, htake⟩
  · have hr2 := run_append_nil (P := P) w t ty e i z ht hi hz a m c news (by rw [hsize]; exact hl1) hnews hm (by omega) (by rw [hby]; have hb := hbytes; simp only [Nat.zero_add] at hb; omega)
    rw [hr] at hr2
    simp only [Result.ok.injEq] at hr2
    obtain ⟨rfl, rfl⟩ := hr2
    refine ⟨_, _, _, by simpa using hr, by simpa using ho, hg, .inr ⟨Nat.le_refl _, ⟨rfl, rfl, rfl, by simp, fun k hk _ => Below.heap_alloc w.drew _ k hk⟩⟩⟩
  · by_cases hroom : n + m ≤ cap
    · have hr2 := run_append_room (P := P) w t ty e i ht hi g n cap cur hgg a m c news (by rw [hsize]; exact hl1) hnews h1 hroom (by rw [hsize]; omega)
      rw [hr] at hr2
      simp only [Result.ok.injEq] at hr2
      obtain ⟨rfl, rfl⟩ := hr2
      exact ⟨_, _, _, hr, ho, hg, .inl rfl⟩
    · have holds : ∀ j u, xs[j]? = some u → w.cell? ((⟨g, 0, none⟩ : Addr).add j) = some u := hown.cells (g := g) rfl
      have hr2 := run_append_grow (P := P) w t ty e i z ht hi hz ⟨g, 0, none⟩ n cap xs (by rw [hsize]; exact hown.1) holds a m c news (by rw [hsize]; exact hl1) hnews (by omega) (by omega) (by rw [hby]; exact growslice_fits (by omega) hbytes)
      rw [hr] at hr2
      simp only [Result.ok.injEq] at hr2
      obtain ⟨rfl, rfl⟩ := hr2
      exact ⟨_, _, _, hr, ho, hg, .inr ⟨Nat.le_refl _, ⟨rfl, rfl, rfl, by simp, fun k hk _ => Below.heap_alloc w.drew _ k hk⟩⟩⟩

theorem wpList_app {ops : Array Oper} {rest : List Oper} {o : Oper} {a : Act} {Q : Exit → Act → World → Prop} (hgd : o.guard = none) (s x : Operand) (t : TypeId)
    (ho : o.op = .call { callee := .builtin .append, args := #[s, x], argTypes := #[t, t] })
    (base : Nat) (e : TypeId) (i : TypeInfo) (z : Value) (bytes : Nat) (ht : P.underlying t = some (.slice e)) (hi : P.info? e = some i) (hz : i.zero = some z)
    (hsize : i.size = 1) (hby : i.bytes = bytes) (hzs : z.cells.size = 1)
    (v : Value) (n : Nat) (xs : List Value) (hs : a.eval s = v) (hown : w.ownsRow base e 1 v n xs)
    (ad : Addr) (m c : Nat) (news : List Value) (hx : a.eval x = .slice (some ad) m c) (hl : news.length = m) (hm : 0 < m) (hnews : ∀ j u, news[j]? = some u → w.cell? (ad.add j) = some u) (h1 : ∀ u ∈ news, u.oneCell' = true)
    (h63 : n + m ≤ maxLen) (hbytes : (n + m) * bytes ≤ 140737488355328) (hbase : base ≤ w.heap.size)
    (h : ∀ g2 cap2 w', w'.ownsRow base e 1 (.slice (some ⟨g2, 0, none⟩) (n + m) cap2) (n + m) (xs ++ news) → w.grownBy w' v.ownBlock → (v.ownBlock = some g2 ∨ (w.heap.size ≤ g2 ∧ w.grownBy w' none)) → wpList P ops Q rest (a.put o.dst (.slice (some ⟨g2, 0, none⟩) (n + m) cap2)) w') : wpList P ops Q (o :: rest) a w := by
  refine wpList_plain hgd fun K hK => ?_
  obtain ⟨g2, cap2, w', hr, h2, h3, h4⟩ := run_app (P := P) w base t o.type e i z bytes ht hi hz hsize hby hzs v n xs hown ad m c news hl hm hnews h1 h63 hbytes hbase
  unfold Oper.wp
  simp [execOp, ho, resolve, invoke, builtin, hs, hx, hr, Result.andThen]
  exact hK _ _ (h g2 cap2 w' h2 h3 h4)
end
/-- A row of limbs of the call's own. -/
def Own (k : IntKind) (e : TypeId) (B : Nat) (w : World) (v : Value) (xs : List Nat) : Prop := w.ownsRow B e 1 v xs.length (xs.map fun d => .int k (d : Nat))
theorem limb_new (W : World) (v : Value) (t : TypeId) : ∀ (j : Nat) u, [v][j]? = some u → (W.alloc (.cells #[v] t)).cell? ((⟨W.heap.size, 0, none⟩ : Addr).add j) = some u := by
  intro j u hu
  have hadd : (⟨W.heap.size, 0, none⟩ : Addr).add j = ⟨W.heap.size, j, none⟩ := by unfold Addr.add; split <;> simp_all
  rw [hadd]
  unfold World.cell?
  rw [show (W.alloc (.cells #[v] t)).heap[W.heap.size]? = some _ from heap_alloc_new W _]
  simpa using hu
theorem Own.lim {k : IntKind} {e : TypeId} {B : Nat} {w : World} {v : Value} {xs : List Nat} (h : Own k e B w v xs) : Lim k w v xs := by
  have h' : w.ownsRow B e 1 v xs.length (xs.map fun d => .int k (d : Nat)) := h
  rcases h'.2 with ⟨rfl, hn⟩ | ⟨g, cap, cur, rfl, hbg, hgg, hnc, hcm, hcs, htake⟩
  · exact ⟨none, 0, by rw [hn], by omega, fun hp => absurd hp (by omega)⟩
  · refine ⟨some ⟨g, 0, none⟩, cap, rfl, hnc, fun hp => ⟨g, 0, rfl, fun i hi => ?_⟩⟩
    have hc := h'.cells (g := g) rfl i (.int k (xs.getD i 0 : Nat)) (by rw [List.getElem?_map, List.getElem?_eq_getElem hi, List.getD_eq_getElem?_getD, List.getElem?_eq_getElem hi]; rfl)
    have hadd : (⟨g, 0, none⟩ : Addr).add i = ⟨g, 0 + i, none⟩ := by unfold Addr.add; split <;> simp_all
    rwa [hadd] at hc
theorem Own.form {k : IntKind} {e : TypeId} {B : Nat} {w : World} {v : Value} {xs : List Nat} (h : Own k e B w v xs) : ∃ a cap, v = .slice a xs.length cap ∧ (0 < xs.length → ∃ g, a = some ⟨g, 0, none⟩) ∧ ∀ b, v.ownBlock = some b → B ≤ b := by
  have h' : w.ownsRow B e 1 v xs.length (xs.map fun d => .int k (d : Nat)) := h
  rcases h'.2 with ⟨rfl, hn⟩ | ⟨g, cap, cur, rfl, hbg, hgg, hnc, hcm, hcs, htake⟩
  · exact ⟨none, 0, by rw [hn], fun hp => absurd hp (by omega), fun b hb => by simp [Value.ownBlock] at hb⟩
  · exact ⟨_, cap, rfl, fun _ => ⟨g, rfl⟩, fun b hb => by simp [Value.ownBlock] at hb; omega⟩
theorem Own.on {k : IntKind} {e : TypeId} {B : Nat} {w w' : World} {v : Value} {xs : List Nat} (h : Own k e B w v xs) (hb : Below w.heap.size w w') : Own k e B w' v xs := by
  have h' : w.ownsRow B e 1 v xs.length (xs.map fun d => .int k (d : Nat)) := h
  refine ⟨h'.1, ?_⟩
  rcases h'.2 with h0 | ⟨g, cap, cur, e0, hbg, hgg, hr⟩
  · exact .inl h0
  · have hlt : g < w.heap.size := by
      by_cases hh : g < w.heap.size
      · exact hh
      · rw [Array.getElem?_eq_none (by omega)] at hgg; cases hgg
    exact .inr ⟨g, cap, cur, e0, hbg, by rw [hb.block g hlt]; exact hgg, hr⟩
section
variable {P : Program}
/-- append of one limb. -/
theorem wpList_limb {ops : Array Oper} {rest : List Oper} {o : Oper} {a : Act} {Q : Exit → Act → World → Prop} (hgd : o.guard = none) (s x : Operand) (t : TypeId)
    (ho : o.op = .call { callee := .builtin .append, args := #[s, x], argTypes := #[t, t] })
    (B : Nat) (e : TypeId) (k : IntKind) (i : TypeInfo) (bytes : Nat) (ht : P.underlying t = some (.slice e)) (hi : P.info? e = some i) (hz : i.zero = some (.int k 0))
    (hsize : i.size = 1) (hby : i.bytes = bytes) (hbs : bytes ≤ 8)
    (v : Value) (xs : List Nat) (wb : World) (D : Int) (d : Nat) (hD : D = (d : Int)) (hs : a.eval s = v) (hown : Own k e B wb v xs)
    (hx : a.eval x = .slice (some ⟨wb.heap.size, 0, none⟩) 1 1) (hn : xs.length ≤ 10000000) (hbase : B ≤ wb.heap.size)
    (h : ∀ v' w', Own k e B w' v' (xs ++ [d]) → Below B wb w' → wpList P ops Q rest (a.put o.dst v') w') : wpList P ops Q (o :: rest) a (wb.alloc (.cells #[.int k D] e)) := by
  subst hD
  refine wpList_app (P := P) _ hgd s x t ho B e i (.int k 0) bytes ht hi hz hsize hby rfl v xs.length (xs.map fun d => .int k (d : Nat)) hs (World.ownsRow.alloc hown _) ⟨wb.heap.size, 0, none⟩ 1 1 [.int k (d : Nat)] hx rfl (by omega)
    (limb_new wb _ e) (by intro u hu; simp at hu; subst hu; rfl) (by unfold maxLen; omega) (by
      have : (xs.length + 1) * bytes ≤ (xs.length + 1) * 8 := Nat.mul_le_mul_left _ hbs
      omega) (by simp; omega) ?_
  intro g2 cap2 w' ho1 hg1 hd1
  refine h _ w' ?_ ?_
  · unfold Own
    simp only [List.length_append, List.length_cons, List.length_nil, List.map_append, List.map_cons, List.map_nil]
    exact ho1
  · obtain ⟨_, _, _, _, hob⟩ := hown.form
    exact ((Below.refl B wb).alloc hbase _).grown hg1 (by simp; omega) hob
end
end Go.Proofs.YtgbldjbkapaclaaDoor.fl
/- The walks of score's times and whole. -/
namespace Go.Proofs.YtgbldjbkapaclaaDoor.fl
open Go.ChangeShapes Go.WideShapes Go.ChangeAt Go.RowKit
set_option linter.unusedVariables false
end Go.Proofs.YtgbldjbkapaclaaDoor.fl
/- The walks of score's ten, left, bits and less. -/
namespace Go.Proofs.YtgbldjbkapaclaaDoor.fl
open Go.ChangeShapes Go.WideShapes Go.ChangeAt Go.RowKit
set_option linter.unusedVariables false
/-- What ten's loops keep. -/
def TenR (a : Nat) (n k : Int) (cur : Nat) : Prop := k ≤ n ∧ (0 ≤ n → 0 ≤ k) ∧ cur * 10 ^ k.toNat = a * 10 ^ n.toNat
theorem TenR.le {a : Nat} {n k : Int} {cur : Nat} (h : TenR a n k cur) (hn : n ≤ 1000) (ha : a < Bs ^ KA) : cur < Bs ^ KC := by
  have h1 : cur * 1 ≤ cur * 10 ^ k.toNat := Nat.mul_le_mul_left _ (Nat.pow_pos (by decide))
  rw [h.2.2] at h1
  have h2 : 10 ^ n.toNat ≤ Bs ^ n.toNat := Nat.pow_le_pow_left (by decide) _
  have h3 : Bs ^ n.toNat ≤ Bs ^ KB := Nat.pow_le_pow_right bs_pos (by unfold KB; omega)
  have h4 : a * 10 ^ n.toNat ≤ a * Bs ^ KB := Nat.mul_le_mul_left _ (Nat.le_trans h2 h3)
  have h5 : a * Bs ^ KB < Bs ^ KA * Bs ^ KB := Nat.mul_lt_mul_of_pos_right ha (bs_pow _)
  rw [← Nat.pow_add] at h5
  have h6 : Bs ^ (KA + KB) ≤ Bs ^ KC := Nat.pow_le_pow_right bs_pos kac
  rw [Nat.mul_one] at h1
  exact Nat.lt_of_le_of_lt (Nat.le_trans h1 h4) (Nat.lt_of_lt_of_le h5 h6)
theorem TenR.next {a : Nat} {n k : Int} {cur : Nat} (h : TenR a n k cur) (s : Nat) (hk : (s : Int) ≤ k) : TenR a n (k - s) (cur * 10 ^ s) := by
  refine ⟨by have := h.1; omega, fun _ => by omega, ?_⟩
  rw [← h.2.2, Nat.mul_assoc, ← Nat.pow_add]
  congr 2
  omega
theorem Lim.news {k : IntKind} {w : World} {x : Value} {l : List Nat} (h : Lim k w x l) (hne : 0 < l.length) :
    ∃ ad cap, x = .slice (some ad) l.length cap ∧ ∀ (j : Nat) u, (l.map fun d => Value.int k (d : Nat))[j]? = some u → w.cell? (ad.add j) = some u := by
  obtain ⟨a, cap, rfl, hc, h⟩ := h
  obtain ⟨g, off, rfl, hr⟩ := h hne
  refine ⟨_, cap, rfl, fun j u hu => ?_⟩
  rw [List.getElem?_map] at hu
  by_cases hj : j < l.length
  · have h1 := hr j hj
    rw [List.getElem?_eq_getElem hj] at hu
    simp only [Option.map_some, Option.some.injEq] at hu
    rw [List.getD_eq_getElem?_getD, List.getElem?_eq_getElem hj] at h1
    have hadd : (⟨g, off, none⟩ : Addr).add j = ⟨g, off + j, none⟩ := by unfold Addr.add; split <;> simp_all
    rw [hadd, h1, ← hu]; rfl
  · rw [List.getElem?_eq_none (by omega)] at hu; cases hu
end Go.Proofs.YtgbldjbkapaclaaDoor.fl
/- The walks of bits.Sub32 and score's less. -/
namespace Go.Proofs.YtgbldjbkapaclaaDoor.fl
open Go.ChangeShapes Go.WideShapes Go.ChangeAt Go.RowKit
set_option linter.unusedVariables false
theorem Own.at {k : IntKind} {e : TypeId} {B g cap n : Nat} {w : World} {xs ys : List Nat} {d : Nat} (h : Own k e B w (.slice (some ⟨g, 0, none⟩) n cap) (xs ++ d :: ys)) :
    w.cell? ⟨g, xs.length, none⟩ = some (.int k (d : Nat)) ∧ w.frozen? ⟨g, xs.length, none⟩ = false := by
  have h' : w.ownsRow B e 1 (.slice (some ⟨g, 0, none⟩) n cap) (xs ++ d :: ys).length ((xs ++ d :: ys).map fun d => .int k (d : Nat)) := h
  have hn : n = (xs ++ d :: ys).length := by
    rcases h'.2 with ⟨h0, _⟩ | ⟨g', cap', cur, h0, _⟩
    · simp at h0
    · simp only [Value.slice.injEq] at h0; exact h0.2.1
  rw [← hn] at h'
  refine ⟨?_, h'.frozenAt _⟩
  rw [h'.cellAt xs.length (by rw [hn]; simp)]
  simp
theorem drop_getD {l : List Nat} {k : Nat} (hk : k < l.length) : l.drop k = l.getD k 0 :: l.drop (k + 1) := by
  rw [List.drop_eq_getElem_cons hk, List.getD_eq_getElem?_getD, List.getElem?_eq_getElem hk]; rfl
end Go.Proofs.YtgbldjbkapaclaaDoor.fl
/- The walks of the reference's whole numbers: times, of, tens, order. -/
namespace Go.Proofs.YtgbldjbkapaclaaDoor.fl
open Go.ChangeShapes Go.WideShapes Go.ChangeAt Go.RowKit
set_option linter.unusedVariables false
theorem infoU64 : (Tryd.prog.info? 32).map (fun i => (i.zero, i.size, i.bytes)) = some (some (.int .u64 0), 1, 8) := by kernel_rfl
theorem can_of_ge {l : List Nat} (h : Lows l) (hg : l ≠ [] → Bs ^ (l.length - 1) ≤ lval l) : Can l := by
  refine ⟨h, fun d hd e => ?_⟩
  have hne : l ≠ [] := by rintro rfl; simp at hd
  have h1 := hg hne
  have hp : 0 < l.length := List.length_pos_iff.mpr hne
  obtain ⟨n, hn⟩ : ∃ n, l.length = n + 1 := ⟨l.length - 1, by omega⟩
  have hk : n < l.length := by omega
  rw [List.getLast?_eq_getElem?, hn, Nat.add_sub_cancel] at hd
  rw [hn, Nat.add_sub_cancel, lval_split hk, List.drop_of_length_le (by omega), List.getD_eq_getElem?_getD, hd, e] at h1
  simp only [Option.getD_some, lval, Nat.mul_zero, Nat.add_zero] at h1
  have h2 := lval_take_lt h (Nat.le_of_lt hk)
  omega
theorem and_low (x : Nat) (hx : x < 18446744073709551616) : bits BinOp.and IntKind.u64 (x : Int) 4294967295 = ((x % Bs : Nat) : Int) := by
  have h := u64_and_nat x 4294967295 hx (by decide)
  rw [nat_mask32] at h
  exact h
/-- What the loop of the reference's times keeps. -/
def MulS (l : List Nat) (m a j c : Nat) (xs : List Nat) : Prop := j ≤ l.length ∧ xs.length = j ∧ Lows xs ∧ c < Bs ∧ lval xs + Bs ^ j * c = lval (l.take j) * m + a
theorem MulS.next {l : List Nat} {m a j c : Nat} {xs : List Nat} (h : MulS l m a j c xs) (hl : Lows l) (hm : m < Bs) (hj : j < l.length) :
    MulS l m a (j + 1) ((c + l.getD j 0 * m) / Bs) (xs ++ [(c + l.getD j 0 * m) % Bs]) := by
  obtain ⟨h1, h2, h3, h4, h5⟩ := h
  have he : c + l.getD j 0 * m = (c + l.getD j 0 * m) % Bs + Bs * ((c + l.getD j 0 * m) / Bs) := (Nat.mod_add_div _ _).symm
  refine ⟨hj, by simp [h2], h3.snoc (Nat.mod_lt _ bs_pos), mul_carry h4 (hl.get j) hm he, ?_⟩
  rw [lval_snoc, h2, lval_take_succ hj, Nat.add_mul, Nat.pow_succ]
  have h6 : Bs ^ j * (c + l.getD j 0 * m) = Bs ^ j * ((c + l.getD j 0 * m) % Bs + Bs * ((c + l.getD j 0 * m) / Bs)) := by rw [← he]
  rw [Nat.mul_add, Nat.mul_add, ← Nat.mul_assoc, ← Nat.mul_assoc] at h6
  omega
theorem MulS.fin0 {l : List Nat} {m a : Nat} {xs : List Nat} (h : MulS l m a l.length 0 xs) (hl : Can l) (hm : 0 < m) : Can xs ∧ lval xs = lval l * m + a := by
  obtain ⟨h1, h2, h3, h4, h5⟩ := h
  rw [List.take_length, Nat.mul_zero, Nat.add_zero] at h5
  refine ⟨can_of_ge h3 fun hne => ?_, h5⟩
  rw [h2, h5]
  have hl0 : l ≠ [] := by
    rintro rfl
    simp at h2
    exact hne h2
  have h6 := can_ge hl hl0
  have h7 : lval l * 1 ≤ lval l * m := Nat.mul_le_mul_left _ hm
  omega
theorem MulS.fin1 {l : List Nat} {m a c : Nat} {xs : List Nat} (h : MulS l m a l.length c xs) (hc : c ≠ 0) : Can (xs ++ [c]) ∧ lval (xs ++ [c]) = lval l * m + a := by
  obtain ⟨h1, h2, h3, h4, h5⟩ := h
  rw [List.take_length] at h5
  exact ⟨can_snoc h3 h4 hc, by rw [lval_snoc, h2, h5]⟩
set_option maxRecDepth 100000 in
set_option maxHeartbeats 1000000 in
theorem timesR (x : Value) (n m more : Nat) (w : World) (hx : Num .u64 w x n) (hm : m < Bs) (hm0 : 0 < m) (hmore : more < Bs) (hn : n < Bs ^ KC) :
    Calls Tryd.prog 28 #[x, .int .u64 m, .int .u64 more] w (NumPost .u64 (n * m + more) w) := by
  obtain ⟨i22, hi, hz, hs, hb⟩ := info_parts infoU64
  obtain ⟨l, hl, hc, rfl⟩ := hx
  have h1 : l.length ≤ 100000 := len_kc hc hn
  obtain ⟨a, cap, rfl, hcap, hl⟩ := hl
  have HL := fhid hl
  have HC := fhid hc
  have HM := fhid hm
  have HM0 := fhid hm0
  have hmb : m < 4294967296 := hm
  have hmoreb : more < 4294967296 := hmore
  clear hl hc hm hn hm0 hmore
  obtain ⟨n, hnn⟩ : ∃ n, l.length = n := ⟨_, rfl⟩
  have HN := fhid hnn
  rw [hnn] at hcap h1 ⊢
  clear hnn
  go_enter Tryd.func28, Tryd.ntmps28
  go_wp2_with (at_make; refine wpList_make_own _ rfl _ _ 48 rfl w.heap.size 32 i22 _ 1 Tryd.underlying48 hi hz hs _ _ _ (n + 1) rfl rfl ?_ ?_ ?_ ?_ ?_; go_num; (rw [hb]; omega); (unfold maxLen; omega); exact Nat.le_refl _; intro w1 ho1 hg1; have HO1 := fhid (show Own .u64 32 w.heap.size w1 _ [] from ho1); have HB1 := fhid ((Below.refl w.heap.size w).grown hg1 (Nat.le_refl _) (fun k e => by cases e)); clear ho1 hg1)
  go_loopw [2, 7, 16] (fun c v j wr => ∃ (c' j' : Nat) (xs : List Nat), c = .int .u64 c' ∧ j = .int .i64 j' ∧ j' ≤ n ∧ c' < 4294967296 ∧ Hid (MulS l m more j' c' xs) ∧ Hid (Own .u64 32 w.heap.size wr v xs) ∧ Hid (Below w.heap.size w wr)) (fun _ _ j _ => n - (intOf j).toNat)
  case atStart => exact ⟨more, 0, [], rfl, rfl, by omega, hmoreb, fhid ⟨by omega, rfl, Lows.nil, hmoreb, by simp [lval]⟩, HO1, HB1⟩
  case round =>
    obtain ⟨c, j, xs, rfl, rfl, hj, hcb, hR, hO, hB⟩ := hrel
    by_cases hlt : j < n
    · obtain ⟨g, off, ea, hca⟩ := HL.out (by rw [HN.out]; omega)
      subst ea
      have hcell0 := hca j (by rw [HN.out]; omega)
      have hcell : wr.cell? ⟨g, off + j, none⟩ = some (.int .u64 (l.getD j 0 : Nat)) := by rw [← hcell0]; exact hB.out.cell (cell_lt hcell0)
      clear hca hcell0
      obtain ⟨d, hd⟩ : ∃ d, l.getD j 0 = d := ⟨_, rfl⟩
      rw [hd] at hcell
      have hdb : d < 4294967296 := by rw [← hd]; exact HC.out.1.get j
      have HE := fhid hd
      clear hd
      have hp1 : 0 ≤ (d : Int) * (m : Int) := Int.mul_nonneg (by omega) (by omega)
      have hpn : d * m ≤ 18446744065119617025 := by
        have := Nat.mul_le_mul (Nat.le_sub_one_of_lt hdb) (Nat.le_sub_one_of_lt hmb)
        have h2 : (4294967296 - 1) * (4294967296 - 1) = 18446744065119617025 := by decide
        rwa [h2] at this
      have hp2 : (d : Int) * (m : Int) ≤ 18446744065119617025 := by
        have h3 := Int.ofNat_le.mpr hpn
        rwa [Int.natCast_mul] at h3
      have hsz := hB.out.size
      have hO1 := hO.out
      obtain ⟨va, vc, rfl, _⟩ := hO1.form
      have HO := fhid hO1
      have hxl : xs.length ≤ 10000000 := by have := hR.out.2.1; omega
      have hcast : ((c : Int) + (d : Int) * (m : Int)) = ((c + d * m : Nat) : Int) := by simp
      have hmod : bits BinOp.and IntKind.u64 ((c : Int) + (d : Int) * (m : Int)) 4294967295 = (((c + d * m) % Bs : Nat) : Int) := by rw [hcast]; exact and_low _ (by omega)
      have hdiv : ((c : Int) + (d : Int) * (m : Int)) / 4294967296 = (((c + d * m) / Bs : Nat) : Int) := by rw [hcast]; rfl
      have HM1 := fhid hmod
      have HD1 := fhid hdiv
      clear hO hO1 hmod hdiv hcast hpn
      go_wp2_with (at_builtin; refine wpList_limb rfl (.tmp 25) (.tmp 28) 48 rfl w.heap.size 32 .u64 i22 8 Tryd.underlying48 hi hz hs hb (by decide) (.slice va xs.length vc) xs wr _ ((c + d * m) % Bs) HM1.out rfl HO.out rfl hxl hsz ?_; intro v2 w2 ho2 hb2; have HO2 := fhid ho2; have HB2 := fhid (hB.out.trans hb2); clear ho2 hb2)
      go_roundw
      case rel =>
        have hn := hR.out.next HC.out.1 HM.out (by rw [HN.out]; exact hlt)
        rw [HE.out] at hn
        exact ⟨(c + d * m) / Bs, j + 1, xs ++ [(c + d * m) % Bs], (by rw [HD1.out]), by go_num, by omega, hn.2.2.2.1, fhid hn, HO2, HB2⟩
      case measure => simp [intOf]; omega
    · have hsz := hB.out.size
      have hO1 := hO.out
      obtain ⟨va, vc, rfl, _⟩ := hO1.form
      have HO := fhid hO1
      have hxl : xs.length ≤ 10000000 := by have := hR.out.2.1; omega
      clear hO hO1
      obtain rfl : j = n := by omega
      by_cases hc0 : c = 0
      · subst hc0
        have hfin := fhid (MulS.fin0 (by rw [HN.out]; exact hR.out) HC.out HM0.out)
        go_wp2_with fail
        go_ret
        exact ⟨_, rfl, ⟨xs, HO.out.lim, hfin.out.1, hfin.out.2⟩, hB.out⟩
      · have hfin := fhid (MulS.fin1 (by rw [HN.out]; exact hR.out) hc0)
        have hc1 : 0 < c := by omega
        go_wp2_with (at_builtin; refine wpList_limb rfl (.tmp 35) (.tmp 37) 48 rfl w.heap.size 32 .u64 i22 8 Tryd.underlying48 hi hz hs hb (by decide) (.slice va xs.length vc) xs wr _ c rfl rfl HO.out rfl hxl hsz ?_; intro v2 w2 ho2 hb2; have HO2 := fhid ho2; have HB2 := fhid (hB.out.trans hb2); clear ho2 hb2)
        go_ret
        exact ⟨_, rfl, ⟨_, HO2.out.lim, hfin.out.1, hfin.out.2⟩, HB2.out⟩
end Go.Proofs.YtgbldjbkapaclaaDoor.fl
/- The walks of the reference's order, tens, of. -/
namespace Go.Proofs.YtgbldjbkapaclaaDoor.fl
open Go.ChangeShapes Go.WideShapes Go.ChangeAt Go.RowKit
set_option linter.unusedVariables false
set_option maxHeartbeats 1000000 in
theorem orderR (x y : Value) (m n : Nat) (w : World) (hx : Num .u64 w x m) (hy : Num .u64 w y n) (hm : m < Bs ^ KC) (hn : n < Bs ^ KC) :
    Calls Tryd.prog 43 #[x, y] w (CmpPost m n w) := by
  obtain ⟨l, hl, hc, rfl⟩ := hx
  obtain ⟨r, hr, hd, rfl⟩ := hy
  have h1 : l.length ≤ 100000 := len_kc hc hm
  have h2 : r.length ≤ 100000 := len_kc hd hn
  obtain ⟨a, cap, rfl, hcap, hl⟩ := hl
  obtain ⟨b, cap', rfl, hcap', hr⟩ := hr
  have HR := fhid hr
  have HL := fhid hl
  have HC := fhid hc
  have HD := fhid hd
  clear hl hr hc hd hcap hcap' hm hn
  by_cases hlen : l.length = r.length
  · obtain ⟨n, hnn⟩ : ∃ n, l.length = n := ⟨_, rfl⟩
    have HN := fhid hnn
    have HM := fhid (hlen.symm.trans hnn)
    rw [← hlen, hnn]
    rw [hnn] at h1
    clear hnn hlen h2
    have hne : ((n : Int) != (n : Int)) = false := by simp
    go_enter Tryd.func43, Tryd.ntmps43
    go_wp2_with fail
    go_loopw [5] (fun x wr => ∃ (j i : Nat), x = .int .i64 ((j : Int) - 1) ∧ Hid (lval (l.drop j) = lval (r.drop j)) ∧ j ≤ n ∧ wr = w.drewN i) (fun x _ => (intOf x + 1).toNat)
    case atStart => exact ⟨n, 0, rfl, fhid (by rw [List.drop_of_length_le (by rw [HN.out]; exact Nat.le_refl _), List.drop_of_length_le (by rw [HM.out]; exact Nat.le_refl _)]), Nat.le_refl _, rfl⟩
    case round =>
      obtain ⟨j, i, rfl, hT, hj, rfl⟩ := hrel
      by_cases hp : 0 < j
      · obtain ⟨j, rfl⟩ : ∃ q, j = q + 1 := ⟨j - 1, by omega⟩
        obtain ⟨g, off, ea, hca⟩ := HL.out (by rw [HN.out]; omega)
        obtain ⟨g', off', eb, hcb⟩ := HR.out (by rw [HM.out]; omega)
        subst ea
        subst eb
        have hcell := hca j (by rw [HN.out]; omega)
        have hcell' := hcb j (by rw [HM.out]; omega)
        clear hca hcb
        obtain ⟨d, hd⟩ : ∃ d, l.getD j 0 = d := ⟨_, rfl⟩
        obtain ⟨d', hd'⟩ : ∃ d, r.getD j 0 = d := ⟨_, rfl⟩
        rw [hd] at hcell
        rw [hd'] at hcell'
        have HE := fhid hd
        have HF := fhid hd'
        clear hd hd'
        have hj1 : ((j + 1 : Nat) : Int) - 1 = (j : Int) := by omega
        rw [hj1]
        go_wp2_with fail
        by_cases hlt : d < d'
        · go_quiet (fail)
          go_wp2_with fail
          go_ret
          exact ⟨-1, rfl, by
            have := lval_drop_lt HC.out.1 (i := j) (by rw [HN.out]; omega) (by rw [HM.out]; omega) hT.out (by rw [HE.out, HF.out]; exact hlt)
            omega, by
            have := lval_drop_lt HC.out.1 (i := j) (by rw [HN.out]; omega) (by rw [HM.out]; omega) hT.out (by rw [HE.out, HF.out]; exact hlt)
            omega, below_dn (below_drewN w _) _⟩
        · go_quiet (fail)
          go_wp2_with fail
          by_cases hgt : d' < d
          · go_quiet (fail)
            go_wp2_with fail
            go_ret
            exact ⟨1, rfl, by
              have := lval_drop_lt HD.out.1 (i := j) (by rw [HM.out]; omega) (by rw [HN.out]; omega) hT.out.symm (by rw [HE.out, HF.out]; exact hgt)
              omega, by
              have := lval_drop_lt HD.out.1 (i := j) (by rw [HM.out]; omega) (by rw [HN.out]; omega) hT.out.symm (by rw [HE.out, HF.out]; exact hgt)
              omega, below_dn (below_dn (below_drewN w _) _) _⟩
          · go_quiet (fail)
            go_wp2_with fail
            go_roundw
            case rel => exact ⟨j, _, rfl, fhid (by rw [lval_drop (by rw [HN.out]; omega), lval_drop (l := r) (by rw [HM.out]; omega), hT.out, HE.out, HF.out, Nat.le_antisymm (Nat.le_of_not_lt hgt) (Nat.le_of_not_lt hlt)]), by omega, rfl⟩
            case measure => simp [intOf]
      · obtain rfl : j = 0 := by omega
        go_wp2_with fail
        go_ret
        have he : lval l = lval r := hT.out
        exact ⟨0, rfl, by omega, by omega, below_drewN w _⟩
  · have hne : ((l.length : Int) != (r.length : Int)) = true := by simp; omega
    by_cases hlt : l.length < r.length
    · have hb := can_len_lt HC.out HD.out hlt
      have HB := fhid hb
      have hlt2 : (l.length : Int) < (r.length : Int) := by omega
      clear hb hlt
      go_enter Tryd.func43, Tryd.ntmps43
      go_wp2_with fail
      go_ret
      exact ⟨-1, rfl, by have := HB.out; omega, by have := HB.out; omega, Below.refl _ _⟩
    · have hb := can_len_lt HD.out HC.out (by omega)
      have HB := fhid hb
      have hlt2 : ¬ (l.length : Int) < (r.length : Int) := by omega
      clear hb hlt
      go_enter Tryd.func43, Tryd.ntmps43
      go_wp2_with fail
      go_ret
      exact ⟨1, rfl, by have := HB.out; omega, by have := HB.out; omega, Below.refl _ _⟩
set_option maxRecDepth 100000 in
set_option maxHeartbeats 1000000 in
theorem tensR (x : Value) (a : Nat) (n : Int) (w : World) (hx : Num .u64 w x a) (ha : a < Bs ^ KA) (hn : n ≤ 1000) (hn0 : -1000 ≤ n) :
    Calls Tryd.prog 42 #[x, .int .i64 n] w (NumPost .u64 (a * 10 ^ n.toNat) w) := by
  have HX := fhid hx
  have HA := fhid ha
  clear hx ha
  go_enter Tryd.func42, Tryd.ntmps42
  go_wp2_with fail
  go_loopw [0, 1] (fun y k wr => ∃ (k' : Int) (cur : Nat), k = .int .i64 k' ∧ k' ≤ n ∧ -1000 ≤ k' ∧ Hid (TenR a n k' cur) ∧ Hid (Num .u64 wr y cur) ∧ Hid (Below w.heap.size w wr)) (fun _ k _ => (intOf k).toNat)
  case atStart => exact ⟨n, a, rfl, by omega, hn0, fhid ⟨by omega, fun h => h, rfl⟩, HX, fhid (Below.refl _ _)⟩
  case round =>
    obtain ⟨k, cur, rfl, hk, hk0, hT, hN, hB⟩ := hrel
    by_cases h9 : 9 ≤ k
    · go_wp2_with fail
      refine (timesR _ _ 1000000000 0 _ hN.out (by decide) (by decide) (by decide) (hT.out.le hn HA.out)).mono ?_
      rintro e w3 ⟨y, rfl, hy, hb3⟩
      rw [Nat.add_zero] at hy
      have HY := fhid hy
      have HB3 := fhid hb3
      clear hy hb3
      go_wp2_with fail
      go_roundw
      case rel => exact ⟨k - 9, cur * 10 ^ 9, by go_num, by omega, by omega, fhid (hT.out.next 9 h9), HY, fhid (hB.out.trans (HB3.out.mono hB.out.size))⟩
      case measure => simp [intOf]; omega
    · go_wp2_with fail
      go_loopw [0, 1] (fun y k wr => ∃ (k' : Int) (cur : Nat), k = .int .i64 k' ∧ k' ≤ n ∧ -1000 ≤ k' ∧ Hid (TenR a n k' cur) ∧ Hid (Num .u64 wr y cur) ∧ Hid (Below w.heap.size w wr)) (fun _ k _ => (intOf k).toNat)
      case atStart => exact ⟨k, cur, rfl, hk, hk0, hT, hN, hB⟩
      case round =>
        clear hT hN hB h9 hk hk0
        obtain ⟨k, cur, rfl, hk, hk0, hT, hN, hB⟩ := hrel
        by_cases h0 : 0 < k
        · go_wp2_with fail
          refine (timesR _ _ 10 0 _ hN.out (by decide) (by decide) (by decide) (hT.out.le hn HA.out)).mono ?_
          rintro e w3 ⟨y, rfl, hy, hb3⟩
          rw [Nat.add_zero] at hy
          have HY := fhid hy
          have HB3 := fhid hb3
          clear hy hb3
          go_wp2_with fail
          go_roundw
          case rel => exact ⟨k - 1, cur * 10 ^ 1, by go_num, by omega, by omega, fhid (hT.out.next 1 (by omega)), HY, fhid (hB.out.trans (HB3.out.mono hB.out.size))⟩
          case measure => simp [intOf]; omega
        · go_wp2_with fail
          go_ret
          have he := hT.out.2.2
          rw [show k.toNat = 0 by omega, Nat.pow_zero, Nat.mul_one] at he
          exact ⟨_, rfl, he ▸ hN.out, hB.out⟩
/-- What the loop of 'of' keeps. -/
def OfR (x c : Nat) (xs : List Nat) : Prop := Lows xs ∧ lval xs + Bs ^ xs.length * c = x ∧ (c = 0 → Can xs)
theorem OfR.next {x c : Nat} {xs : List Nat} (h : OfR x c xs) (hc : 0 < c) : OfR x (c / Bs) (xs ++ [c % Bs]) := by
  obtain ⟨h1, h2, h3⟩ := h
  have he := Nat.mod_add_div c Bs
  refine ⟨h1.snoc (Nat.mod_lt _ bs_pos), ?_, fun h0 => ?_⟩
  · rw [lval_snoc, List.length_append, List.length_singleton, Nat.pow_succ]
    have h6 : Bs ^ xs.length * c = Bs ^ xs.length * (c % Bs + Bs * (c / Bs)) := by rw [he]
    rw [Nat.mul_add, ← Nat.mul_assoc] at h6
    omega
  · refine can_snoc h1 (Nat.mod_lt _ bs_pos) (fun e => ?_)
    rw [h0, e] at he
    simp at he
    omega
set_option maxRecDepth 100000 in
set_option maxHeartbeats 1000000 in
theorem ofR (x : Nat) (w : World) (hx : x < 18446744073709551616) :
    Calls Tryd.prog 40 #[.int .u64 x] w (NumPost .u64 x w) := by
  obtain ⟨i22, hi, hz, hs, hb⟩ := info_parts infoU64
  have hnil : Hid (Own .u64 32 w.heap.size w (.slice none 0 0) []) := fhid (World.ownsRow_nil _ _ _ _)
  go_enter Tryd.func40, Tryd.ntmps40
  go_wp2_with fail
  go_loopw [0, 3] (fun c v wr => ∃ (c' : Nat) (xs : List Nat), c = .int .u64 c' ∧ c' ≤ x ∧ Hid (OfR x c' xs) ∧ Hid (Own .u64 32 w.heap.size wr v xs) ∧ Hid (Below w.heap.size w wr)) (fun c _ _ => (intOf c).toNat)
  case atStart => exact ⟨x, [], rfl, by omega, fhid ⟨Lows.nil, by simp [lval], fun _ => can_nil⟩, hnil, fhid (Below.refl _ _)⟩
  case round =>
    obtain ⟨c, xs, rfl, hcx, hR, hO, hB⟩ := hrel
    have hsz := hB.out.size
    have hO1 := hO.out
    obtain ⟨va, vc, rfl, _⟩ := hO1.form
    have HO := fhid hO1
    clear hO hO1
    by_cases h0 : 0 < c
    · have hxl : xs.length ≤ 10000000 := by
        by_cases h2 : xs.length < 2
        · omega
        · have h3 : Bs ^ 2 ≤ Bs ^ xs.length := Nat.pow_le_pow_right bs_pos (by omega)
          have h4 := hR.out.2.1
          have h5 : Bs ^ xs.length * 1 ≤ Bs ^ xs.length * c := Nat.mul_le_mul_left _ h0
          have h6 : Bs ^ 2 = 18446744073709551616 := by decide
          omega
      have HM1 := fhid (and_low c (by omega))
      have HD1 : Hid ((c : Int) / 4294967296 = ((c / Bs : Nat) : Int)) := fhid rfl
      go_wp2_with (at_builtin; refine wpList_limb rfl (.tmp 6) (.tmp 9) 48 rfl w.heap.size 32 .u64 i22 8 Tryd.underlying48 hi hz hs hb (by decide) (.slice va xs.length vc) xs wr _ (c % Bs) HM1.out rfl HO.out rfl hxl hsz ?_; intro v2 w2 ho2 hb2; have HO2 := fhid ho2; have HB2 := fhid (hB.out.trans hb2); clear ho2 hb2)
      go_roundw
      case rel => exact ⟨c / Bs, xs ++ [c % Bs], (by rw [HD1.out]), Nat.le_trans (Nat.div_le_self _ _) hcx, fhid (hR.out.next h0), HO2, HB2⟩
      case measure => simp [intOf]; omega
    · obtain rfl : c = 0 := by omega
      go_wp2_with fail
      go_ret
      exact ⟨_, rfl, ⟨xs, HO.out.lim, hR.out.2.2 rfl, by simpa using hR.out.2.1⟩, hB.out⟩
end Go.Proofs.YtgbldjbkapaclaaDoor.fl
/- The walk of the reference's double. -/
namespace Go.Proofs.YtgbldjbkapaclaaDoor.fl
open Go.ChangeShapes Go.WideShapes Go.ChangeAt Go.RowKit
set_option linter.unusedVariables false
/-- A row of noughts just made, with room. -/
theorem own_zeros (k : IntKind) (e : TypeId) (W : World) (B q c : Nat) (hB : B ≤ W.heap.size) (hq : q ≤ c) (hc : c ≤ 1000000) :
    Own k e B (W.alloc (.cells (madeCells #[.int k 0] c) e)) (.slice (some ⟨W.heap.size, 0, none⟩) q c) (List.replicate q 0) := by
  unfold Own
  rw [List.length_replicate]
  refine ⟨by simp, .inr ⟨W.heap.size, c, _, rfl, hB, heap_alloc_new W _, hq, by unfold maxLen; omega, by rw [size_madeCells]; omega, ?_⟩⟩
  rw [toList_madeCells_one, List.map_replicate, Nat.mul_one, List.take_replicate, Nat.min_eq_left hq]
  rfl
theorem lims_one {k : IntKind} {l : List Nat} : ∀ u ∈ (l.map fun d => Value.int k (d : Nat)), u.oneCell' = true := by
  intro u hu
  obtain ⟨d, _, rfl⟩ := List.mem_map.mp hu
  rfl
set_option maxRecDepth 100000 in
set_option maxHeartbeats 1000000 in
theorem doubleR (x : Value) (n k : Nat) (w : World) (hx : Num .u64 w x n) (hn : n < Bs ^ KA) (h0 : 0 < n) (hk : k ≤ 10000) :
    Calls Tryd.prog 41 #[x, .int .i64 k] w (NumPost .u64 (n * 2 ^ k) w) := by
  obtain ⟨i22, hi, hz, hs, hb⟩ := info_parts infoU64
  have hnC : n < Bs ^ KC := Nat.lt_of_lt_of_le hn (Nat.pow_le_pow_right bs_pos (by decide))
  obtain ⟨l, hl, hc, rfl⟩ := hx
  have h1 : l.length ≤ 100000 := len_kc hc hnC
  have hpos : 0 < l.length := by
    cases l with
    | nil => simp [lval] at h0
    | cons d t => simp
  obtain ⟨ad, cap, rfl, hnews⟩ := hl.news hpos
  obtain ⟨q, hq⟩ : ∃ q, k / 32 = q := ⟨_, rfl⟩
  obtain ⟨r, hr⟩ : ∃ r, k % 32 = r := ⟨_, rfl⟩
  have hr32 : r < 32 := by omega
  obtain ⟨M, hM⟩ : ∃ M, 2 ^ r = M := ⟨_, rfl⟩
  have hMb : M < 4294967296 := by rw [← hM]; exact Nat.lt_of_lt_of_le (Nat.pow_lt_pow_right (by decide) hr32) (by decide)
  have hM0 : 0 < M := by rw [← hM]; exact Nat.pow_pos (by decide)
  have hval : lval (List.replicate q 0 ++ l) * M = lval l * 2 ^ k := by
    rw [lval_zeros, ← hM, show Bs = 2 ^ 32 from rfl, ← Nat.pow_mul, show k = 32 * q + r by omega, Nat.pow_add, Nat.mul_comm (2 ^ (32 * q)) (lval l), Nat.mul_assoc]
  have hbig : lval (List.replicate q 0 ++ l) < Bs ^ KC := by
    rw [lval_zeros]
    have e1 : Bs ^ q ≤ Bs ^ KB := Nat.pow_le_pow_right bs_pos (by unfold KB; omega)
    have e2 : Bs ^ q * lval l ≤ Bs ^ KB * lval l := Nat.mul_le_mul_right _ e1
    have e3 : Bs ^ KB * lval l < Bs ^ KB * Bs ^ KA := Nat.mul_lt_mul_of_pos_left hn (bs_pow _)
    rw [← Nat.pow_add, Nat.add_comm] at e3
    have e4 : Bs ^ (KA + KB) ≤ Bs ^ KC := Nat.pow_le_pow_right bs_pos kac
    omega
  have hcan := can_zeros hc (List.ne_nil_of_length_pos hpos) q
  have HV := fhid hval
  have HT : Hid (∀ y W, Num .u64 W y (lval (List.replicate q 0 ++ l)) → Calls Tryd.prog 28 #[y, .int .u64 M, .int .u64 0] W (NumPost .u64 (lval (List.replicate q 0 ++ l) * M + 0) W)) := fhid fun y W h => timesR y _ M 0 W h hMb hM0 (by decide) hbig
  rw [hval] at HT
  have HC := fhid hcan
  have HNW := fhid hnews
  obtain ⟨n, hnn⟩ : ∃ n, l.length = n := ⟨_, rfl⟩
  have HN := fhid hnn
  rw [hnn] at h1 hpos ⊢
  have e1 : IntKind.i64.wrap ((k : Int) / 32) = (q : Int) := by
    rw [show (k : Int) / 32 = ((k / 32 : Nat) : Int) by omega, hq]
    exact IntWalk.i64_in _ (by omega)
  have e2 : (k : Int).tmod 32 = (r : Int) := by
    rw [Int.tmod_eq_emod_of_nonneg (by omega)]; omega
  have e4 : IntKind.u64.wrap (2 ^ r) = (M : Int) := by
    rw [show (2 : Int) ^ r = (M : Int) by rw [← hM]; simp]
    exact IntWalk.u64_in _ (by omega)
  have HE4 := fhid e4
  clear e4
  have hq1 : q ≤ 1000 := by omega
  clear hval hbig hcan hnews hnn hM hc hl hn hnC h0
  have hmk : ∀ W : World, Sem.run Tryd.prog (Instr.makeSlice 48 (.int .i64 q) (.int .i64 ((q : Int) + n + 1))) W = .ok (.slice (some ⟨W.heap.size, 0, none⟩) q (q + n + 1)) (W.alloc (.cells (madeCells #[.int .u64 0] (q + n + 1)) 32)) := fun W => by
    have h := run_makeSlice (P := Tryd.prog) W 48 32 i22 _ Tryd.underlying48 hi hz .i64 .i64 q ((q : Int) + n + 1) (by omega) (by omega) (by rw [hs]; omega) (by rw [hb]; omega) (by omega)
    rw [hs, show (q : Int).toNat = q by simp, show ((q : Int) + n + 1).toNat = q + n + 1 by omega, Nat.mul_one] at h
    exact h
  have hown := fhid (own_zeros .u64 32 w w.heap.size q (q + n + 1) (Nat.le_refl _) (by omega) (by omega))
  have hown2 : Hid ((w.alloc (.cells (madeCells #[.int .u64 0] (q + n + 1)) 32)).ownsRow w.heap.size 32 1 (.slice (some ⟨w.heap.size, 0, none⟩) q (q + n + 1)) q ((List.replicate q 0).map fun d => .int .u64 (d : Nat))) := fhid (by
    have h := hown.out
    unfold Own at h
    rw [List.length_replicate] at h
    exact h)
  have hnw2 : Hid (∀ j u, (l.map fun d => Value.int .u64 (d : Nat))[j]? = some u → (w.alloc (.cells (madeCells #[.int .u64 0] (q + n + 1)) 32)).cell? (ad.add j) = some u) := fhid (fun j u hu => by
    have h1 := HNW.out j u hu
    rw [← h1]
    exact ((Below.refl w.heap.size w).alloc (Nat.le_refl _) _).cell (cell_lt h1))
  go_enter Tryd.func41, Tryd.ntmps41
  go_wp2_with (at_builtin; refine wpList_app _ rfl (.tmp 19) (.tmp 20) 48 rfl w.heap.size 32 i22 (.int .u64 0) 8 Tryd.underlying48 hi hz hs hb rfl (.slice (some ⟨w.heap.size, 0, none⟩) q (q + n + 1)) q _ rfl hown2.out ad n cap (l.map fun d => Value.int .u64 (d : Nat)) rfl ?_ hpos hnw2.out lims_one ?_ ?_ ?_ ?_; (rw [List.length_map, HN.out]); (unfold maxLen; omega); omega; simp; intro g2 cap2 w2 ho2 hg2 hx2; have HO2 := fhid (show Own .u64 32 w.heap.size w2 (.slice (some ⟨g2, 0, none⟩) (q + n) cap2) (List.replicate q 0 ++ l) by (unfold Own; rw [List.length_append, List.length_replicate, HN.out, List.map_append]; exact ho2)); have HB2 := fhid (((Below.refl w.heap.size w).alloc (Nat.le_refl _) _).grown hg2 (by simp) (fun k e => by simp [Value.ownBlock] at e; omega)); clear ho2 hg2 hx2)
  rw [HE4.out]
  refine (HT.out _ _ ⟨_, HO2.out.lim, HC.out, rfl⟩).mono ?_
  rintro e w3 ⟨y, rfl, hy, hb3⟩
  rw [Nat.add_zero] at hy
  have HY := fhid hy
  have HB3 := fhid hb3
  clear hy hb3
  go_wp2_with fail
  go_ret
  exact ⟨_, rfl, HY.out, HB2.out.trans (HB3.out.mono HB2.out.size)⟩
end Go.Proofs.YtgbldjbkapaclaaDoor.fl
/- The walks of the reference's parts, against, whole. Printed by mkN10.py. -/
namespace Go.Proofs.YtgbldjbkapaclaaDoor.fl
open Go.ChangeShapes Go.WideShapes Go.ChangeAt Go.RowKit
set_option linter.unusedVariables false
set_option maxRecDepth 100000 in
set_option maxHeartbeats 1000000 in
theorem doubleA (x : Value) (n k : Nat) (w : World) (hx : Num .u64 w x n) (hn : n < Bs ^ KB) (hk : k ≤ 10000) :
    Calls Tryd.prog 41 #[x, .int .i64 k] w (NumPost .u64 (n * 2 ^ k) w) := by
  by_cases h0 : 0 < n
  · exact doubleR x n k w hx (Nat.lt_of_lt_of_le hn (Nat.pow_le_pow_right bs_pos (by decide))) h0 hk
  · obtain rfl : n = 0 := by omega
    obtain ⟨l, hl, hc, hv⟩ := hx
    have hnil : l = [] := by
      cases l with
      | nil => rfl
      | cons d t => exact absurd hv (Nat.pos_iff_ne_zero.mp (can_pos hc (by simp)))
    subst hnil
    obtain ⟨a, cap, rfl, hcap, hr⟩ := hl
    have HR := fhid hr
    clear hr hn
    simp only [List.length_nil]
    go_enter Tryd.func41, Tryd.ntmps41
    go_wp2_with fail
    go_ret
    exact ⟨_, rfl, ⟨[], ⟨a, cap, rfl, hcap, HR.out⟩, can_nil, by simp [lval]⟩, Below.refl _ _⟩
theorem two_lt {n k : Nat} (hn : n < Bs ^ KB) (hk : k ≤ 10000) : n * 2 ^ k < Bs ^ KA := by
  have h1 : 2 ^ k ≤ Bs ^ KB := by
    rw [show Bs = 2 ^ 32 from rfl, ← Nat.pow_mul]
    exact Nat.pow_le_pow_right (by decide) (by unfold KB; omega)
  have h2 : n * 2 ^ k ≤ n * Bs ^ KB := Nat.mul_le_mul_left _ h1
  have h3 : n * Bs ^ KB < Bs ^ KB * Bs ^ KB := Nat.mul_lt_mul_of_pos_right hn (bs_pow _)
  rw [← Nat.pow_add] at h3
  have h4 : Bs ^ (KB + KB) ≤ Bs ^ KA := Nat.pow_le_pow_right bs_pos (by decide)
  exact Nat.lt_of_le_of_lt h2 (Nat.lt_of_lt_of_le h3 h4)
theorem ten_lt {n : Nat} {k : Int} (hn : n < Bs ^ KA) (hk : k ≤ 1000) : n * 10 ^ k.toNat < Bs ^ KC := by
  have h := TenR.le (a := n) (n := k) (k := 0) (cur := n * 10 ^ k.toNat)
  have h1 : 10 ^ k.toNat ≤ Bs ^ KB := Nat.le_trans (Nat.pow_le_pow_left (by decide) _) (Nat.pow_le_pow_right bs_pos (by unfold KB; omega))
  have h2 : n * 10 ^ k.toNat ≤ n * Bs ^ KB := Nat.mul_le_mul_left _ h1
  have h3 : n * Bs ^ KB < Bs ^ KA * Bs ^ KB := Nat.mul_lt_mul_of_pos_right hn (bs_pow _)
  rw [← Nat.pow_add] at h3
  have h4 : Bs ^ (KA + KB) ≤ Bs ^ KC := Nat.pow_le_pow_right bs_pos kac
  exact Nat.lt_of_le_of_lt h2 (Nat.lt_of_lt_of_le h3 h4)
theorem kba : Bs ^ KB ≤ Bs ^ KA := Nat.pow_le_pow_right bs_pos (by decide)
theorem kac' : Bs ^ KA ≤ Bs ^ KC := Nat.pow_le_pow_right bs_pos (by decide)
theorem of_kb {m : Nat} (h : m < 18446744073709551616) : m < Bs ^ KB := by
  have h1 : Bs ^ 2 ≤ Bs ^ KB := Nat.pow_le_pow_right bs_pos (by decide)
  have h2 : Bs ^ 2 = 18446744073709551616 := by decide
  rw [h2] at h1
  exact Nat.lt_of_lt_of_le h h1
/-- What 'parts' takes apart: the whole number and the power of two. -/
def pM (u : Nat) : Nat := if u / 4503599627370496 = 0 then u else u % 4503599627370496 + 4503599627370496
def pE (u : Nat) : Int := if u / 4503599627370496 = 0 then -1074 else (u / 4503599627370496 : Nat) - 1075
set_option maxHeartbeats 1000000 in
theorem partsR (u : Nat) (w : World) (hu : u < 9223372036854775808) :
    Calls Tryd.prog 29 #[.int .u64 u] w fun e w' => e = .returned (.tuple #[.int .u64 (pM u), .int .i64 (pE u)]) ∧ w' = w := by
  have ha := u64_and_nat u 4503599627370495 (by omega) (by decide)
  rw [nat_mask52] at ha
  have HA : Hid (bits BinOp.and IntKind.u64 (u : Int) 4503599627370495 = ((u % 4503599627370496 : Nat) : Int)) := fhid ha
  clear ha
  by_cases hz : u / 4503599627370496 = 0
  · have hz' : (u : Int) / 4503599627370496 = 0 := by omega
    have HP : Hid (pM u = u ∧ pE u = -1074) := fhid ⟨if_pos hz, if_pos hz⟩
    have HQ : Hid (u % 4503599627370496 = u) := fhid (by omega)
    clear hz
    go_enter Tryd.func29, Tryd.ntmps29
    go_wp2_with fail
    go_ret2
    exact ⟨by rw [HP.out.1, HP.out.2]; show Ending.returned (.tuple #[.int .u64 _, .int .i64 _]) = _; rw [HA.out, HQ.out], rfl⟩
  · have hz' : ((u : Int) / 4503599627370496 == 0) = false := by simp; omega
    have HP : Hid (pM u = u % 4503599627370496 + 4503599627370496 ∧ pE u = ((u / 4503599627370496 : Nat) : Int) - 1075) := fhid ⟨if_neg hz, if_neg hz⟩
    have hm : u % 4503599627370496 < 4503599627370496 := Nat.mod_lt _ (by decide)
    obtain ⟨M, hM⟩ : ∃ M, u % 4503599627370496 = M := ⟨_, rfl⟩
    rw [hM] at HA HP hm
    have ha := HA.out
    clear hz HA hM
    go_enter Tryd.func29, Tryd.ntmps29
    go_wp2_with fail
    go_ret2
    exact ⟨by rw [HP.out.1, HP.out.2]; rfl, rfl⟩
/-- The two sides that 'against' compares. -/
def agL (m : Nat) (e q : Int) : Nat := m * 2 ^ e.toNat * 10 ^ (-q).toNat
def agR (d : Nat) (e q : Int) : Nat := d * 2 ^ (-e).toNat * 10 ^ q.toNat
set_option maxRecDepth 100000 in
set_option maxHeartbeats 2000000 in
theorem againstPP (m : Nat) (e : Int) (y : Value) (d : Nat) (q : Int) (w : World) (hm : m < 18446744073709551616) (he1 : -9000 ≤ e) (he2 : e ≤ 9000) (hq1 : -900 ≤ q) (hq2 : q ≤ 900) (hy : Num .u64 w y d) (hd : d < Bs ^ KB) (he : 0 ≤ e) (hq : 0 ≤ q) :
    Calls Tryd.prog 30 #[.int .u64 m, .int .i64 e, y, .int .i64 q] w (CmpPost (agL m e q) (agR d e q) w) := by
  obtain ⟨k, hk⟩ : ∃ k : Nat, e = (k : Int) := ⟨e.natAbs, by omega⟩
  subst hk
  have HA : Hid (agL m (k : Int) q = m * 2 ^ k) := fhid (by unfold agL; rw [show ((k : Int)).toNat = k by omega, show (-q).toNat = 0 by omega]; try simp)
  have HB : Hid (agR d (k : Int) q = d * 10 ^ q.toNat) := fhid (by unfold agR; rw [show (-(k : Int)).toNat = 0 by omega]; try simp)
  have HY := fhid hy
  have HD := fhid hd
  have HM := fhid (of_kb hm)
  clear hy hd
  have HA0 : Hid (m * 2 ^ k < Bs ^ KA) := fhid (two_lt HM.out (by omega))
  have HB0 : Hid (d < Bs ^ KA) := fhid (Nat.lt_of_lt_of_le HD.out kba)
  have hk2 : k ≤ 10000 := by omega
  go_enter Tryd.func30, Tryd.ntmps30
  go_wp2_with fail
  refine (ofR m _ hm).mono ?_
  rintro e1 w1 ⟨a, rfl, ha, hb1⟩
  have H1 := fhid ha
  have B1 := fhid hb1
  have HY1 := fhid (HY.out.on hb1)
  clear ha hb1
  go_wp2_with fail
  refine (doubleA _ _ k _ H1.out HM.out hk2).mono ?_
  rintro e2 w2 ⟨a2, rfl, ha2, hb2⟩
  have H2 := fhid ha2
  have B2 := fhid (B1.out.trans (hb2.mono B1.out.size))
  have O2 := fhid (HY1.out.on hb2)
  clear ha2 hb2
  go_wp2_with fail
  refine (tensR _ _ q _ O2.out HB0.out (by omega) (by omega)).mono ?_
  rintro e3 w3 ⟨a3, rfl, ha3, hb3⟩
  have H3 := fhid ha3
  have B3 := fhid (B2.out.trans (hb3.mono B2.out.size))
  have O3 := fhid (H2.out.on hb3)
  clear ha3 hb3
  go_wp2_with fail
  refine (orderR _ _ _ _ _ O3.out H3.out (Nat.lt_of_lt_of_le HA0.out kac') (ten_lt HB0.out (by omega))).mono ?_
  rintro e4 w4 ⟨r, rfl, hr1, hr2, hb4⟩
  have R1 := fhid hr1
  have R2 := fhid hr2
  have B4 := fhid (B3.out.trans (hb4.mono B3.out.size))
  clear hr1 hr2 hb4
  go_wp2_with fail
  go_ret
  exact ⟨r, rfl, by rw [HA.out, HB.out]; exact R1.out, by rw [HA.out, HB.out]; exact R2.out, B4.out⟩
set_option maxRecDepth 100000 in
set_option maxHeartbeats 2000000 in
theorem againstPN (m : Nat) (e : Int) (y : Value) (d : Nat) (q : Int) (w : World) (hm : m < 18446744073709551616) (he1 : -9000 ≤ e) (he2 : e ≤ 9000) (hq1 : -900 ≤ q) (hq2 : q ≤ 900) (hy : Num .u64 w y d) (hd : d < Bs ^ KB) (he : 0 ≤ e) (hq : q < 0) :
    Calls Tryd.prog 30 #[.int .u64 m, .int .i64 e, y, .int .i64 q] w (CmpPost (agL m e q) (agR d e q) w) := by
  obtain ⟨k, hk⟩ : ∃ k : Nat, e = (k : Int) := ⟨e.natAbs, by omega⟩
  subst hk
  have HA : Hid (agL m (k : Int) q = m * 2 ^ k * 10 ^ (-q).toNat) := fhid (by unfold agL; rw [show ((k : Int)).toNat = k by omega]; try simp)
  have HB : Hid (agR d (k : Int) q = d) := fhid (by unfold agR; rw [show (-(k : Int)).toNat = 0 by omega, show q.toNat = 0 by omega]; try simp)
  have HY := fhid hy
  have HD := fhid hd
  have HM := fhid (of_kb hm)
  clear hy hd
  have HA0 : Hid (m * 2 ^ k < Bs ^ KA) := fhid (two_lt HM.out (by omega))
  have HB0 : Hid (d < Bs ^ KA) := fhid (Nat.lt_of_lt_of_le HD.out kba)
  have hk2 : k ≤ 10000 := by omega
  go_enter Tryd.func30, Tryd.ntmps30
  go_wp2_with fail
  refine (ofR m _ hm).mono ?_
  rintro e1 w1 ⟨a, rfl, ha, hb1⟩
  have H1 := fhid ha
  have B1 := fhid hb1
  have HY1 := fhid (HY.out.on hb1)
  clear ha hb1
  go_wp2_with fail
  refine (doubleA _ _ k _ H1.out HM.out hk2).mono ?_
  rintro e2 w2 ⟨a2, rfl, ha2, hb2⟩
  have H2 := fhid ha2
  have B2 := fhid (B1.out.trans (hb2.mono B1.out.size))
  have O2 := fhid (HY1.out.on hb2)
  clear ha2 hb2
  go_wp2_with fail
  refine (tensR _ _ (-q) _ H2.out HA0.out (by omega) (by omega)).mono ?_
  rintro e3 w3 ⟨a3, rfl, ha3, hb3⟩
  have H3 := fhid ha3
  have B3 := fhid (B2.out.trans (hb3.mono B2.out.size))
  have O3 := fhid (O2.out.on hb3)
  clear ha3 hb3
  go_wp2_with fail
  refine (orderR _ _ _ _ _ H3.out O3.out (ten_lt HA0.out (by omega)) (Nat.lt_of_lt_of_le HB0.out kac')).mono ?_
  rintro e4 w4 ⟨r, rfl, hr1, hr2, hb4⟩
  have R1 := fhid hr1
  have R2 := fhid hr2
  have B4 := fhid (B3.out.trans (hb4.mono B3.out.size))
  clear hr1 hr2 hb4
  go_wp2_with fail
  go_ret
  exact ⟨r, rfl, by rw [HA.out, HB.out]; exact R1.out, by rw [HA.out, HB.out]; exact R2.out, B4.out⟩
set_option maxRecDepth 100000 in
set_option maxHeartbeats 2000000 in
theorem againstNP (m : Nat) (e : Int) (y : Value) (d : Nat) (q : Int) (w : World) (hm : m < 18446744073709551616) (he1 : -9000 ≤ e) (he2 : e ≤ 9000) (hq1 : -900 ≤ q) (hq2 : q ≤ 900) (hy : Num .u64 w y d) (hd : d < Bs ^ KB) (he : e < 0) (hq : 0 ≤ q) :
    Calls Tryd.prog 30 #[.int .u64 m, .int .i64 e, y, .int .i64 q] w (CmpPost (agL m e q) (agR d e q) w) := by
  obtain ⟨k, hk⟩ : ∃ k : Nat, e = -(k : Int) := ⟨e.natAbs, by omega⟩
  subst hk
  have HA : Hid (agL m (-(k : Int)) q = m) := fhid (by unfold agL; rw [show ((-(k : Int))).toNat = 0 by omega, show (-q).toNat = 0 by omega]; try simp)
  have HB : Hid (agR d (-(k : Int)) q = d * 2 ^ k * 10 ^ q.toNat) := fhid (by unfold agR; rw [show (-(-(k : Int))).toNat = k by omega]; try simp)
  have HY := fhid hy
  have HD := fhid hd
  have HM := fhid (of_kb hm)
  clear hy hd
  have HA0 : Hid (d * 2 ^ k < Bs ^ KA) := fhid (two_lt HD.out (by omega))
  have HB0 : Hid (m < Bs ^ KA) := fhid (Nat.lt_of_lt_of_le HM.out kba)
  have hk2 : k ≤ 10000 := by omega
  go_enter Tryd.func30, Tryd.ntmps30
  go_wp2_with fail
  refine (ofR m _ hm).mono ?_
  rintro e1 w1 ⟨a, rfl, ha, hb1⟩
  have H1 := fhid ha
  have B1 := fhid hb1
  have HY1 := fhid (HY.out.on hb1)
  clear ha hb1
  go_wp2_with fail
  refine (doubleA _ _ k _ HY1.out HD.out hk2).mono ?_
  rintro e2 w2 ⟨a2, rfl, ha2, hb2⟩
  have H2 := fhid ha2
  have B2 := fhid (B1.out.trans (hb2.mono B1.out.size))
  have O2 := fhid (H1.out.on hb2)
  clear ha2 hb2
  go_wp2_with fail
  refine (tensR _ _ q _ H2.out HA0.out (by omega) (by omega)).mono ?_
  rintro e3 w3 ⟨a3, rfl, ha3, hb3⟩
  have H3 := fhid ha3
  have B3 := fhid (B2.out.trans (hb3.mono B2.out.size))
  have O3 := fhid (O2.out.on hb3)
  clear ha3 hb3
  go_wp2_with fail
  refine (orderR _ _ _ _ _ O3.out H3.out (Nat.lt_of_lt_of_le HB0.out kac') (ten_lt HA0.out (by omega))).mono ?_
  rintro e4 w4 ⟨r, rfl, hr1, hr2, hb4⟩
  have R1 := fhid hr1
  have R2 := fhid hr2
  have B4 := fhid (B3.out.trans (hb4.mono B3.out.size))
  clear hr1 hr2 hb4
  go_wp2_with fail
  go_ret
  exact ⟨r, rfl, by rw [HA.out, HB.out]; exact R1.out, by rw [HA.out, HB.out]; exact R2.out, B4.out⟩
set_option maxRecDepth 100000 in
set_option maxHeartbeats 2000000 in
theorem againstNN (m : Nat) (e : Int) (y : Value) (d : Nat) (q : Int) (w : World) (hm : m < 18446744073709551616) (he1 : -9000 ≤ e) (he2 : e ≤ 9000) (hq1 : -900 ≤ q) (hq2 : q ≤ 900) (hy : Num .u64 w y d) (hd : d < Bs ^ KB) (he : e < 0) (hq : q < 0) :
    Calls Tryd.prog 30 #[.int .u64 m, .int .i64 e, y, .int .i64 q] w (CmpPost (agL m e q) (agR d e q) w) := by
  obtain ⟨k, hk⟩ : ∃ k : Nat, e = -(k : Int) := ⟨e.natAbs, by omega⟩
  subst hk
  have HA : Hid (agL m (-(k : Int)) q = m * 10 ^ (-q).toNat) := fhid (by unfold agL; rw [show ((-(k : Int))).toNat = 0 by omega]; try simp)
  have HB : Hid (agR d (-(k : Int)) q = d * 2 ^ k) := fhid (by unfold agR; rw [show (-(-(k : Int))).toNat = k by omega, show q.toNat = 0 by omega]; try simp)
  have HY := fhid hy
  have HD := fhid hd
  have HM := fhid (of_kb hm)
  clear hy hd
  have HA0 : Hid (d * 2 ^ k < Bs ^ KA) := fhid (two_lt HD.out (by omega))
  have HB0 : Hid (m < Bs ^ KA) := fhid (Nat.lt_of_lt_of_le HM.out kba)
  have hk2 : k ≤ 10000 := by omega
  go_enter Tryd.func30, Tryd.ntmps30
  go_wp2_with fail
  refine (ofR m _ hm).mono ?_
  rintro e1 w1 ⟨a, rfl, ha, hb1⟩
  have H1 := fhid ha
  have B1 := fhid hb1
  have HY1 := fhid (HY.out.on hb1)
  clear ha hb1
  go_wp2_with fail
  refine (doubleA _ _ k _ HY1.out HD.out hk2).mono ?_
  rintro e2 w2 ⟨a2, rfl, ha2, hb2⟩
  have H2 := fhid ha2
  have B2 := fhid (B1.out.trans (hb2.mono B1.out.size))
  have O2 := fhid (H1.out.on hb2)
  clear ha2 hb2
  go_wp2_with fail
  refine (tensR _ _ (-q) _ O2.out HB0.out (by omega) (by omega)).mono ?_
  rintro e3 w3 ⟨a3, rfl, ha3, hb3⟩
  have H3 := fhid ha3
  have B3 := fhid (B2.out.trans (hb3.mono B2.out.size))
  have O3 := fhid (H2.out.on hb3)
  clear ha3 hb3
  go_wp2_with fail
  refine (orderR _ _ _ _ _ H3.out O3.out (ten_lt HB0.out (by omega)) (Nat.lt_of_lt_of_le HA0.out kac')).mono ?_
  rintro e4 w4 ⟨r, rfl, hr1, hr2, hb4⟩
  have R1 := fhid hr1
  have R2 := fhid hr2
  have B4 := fhid (B3.out.trans (hb4.mono B3.out.size))
  clear hr1 hr2 hb4
  go_wp2_with fail
  go_ret
  exact ⟨r, rfl, by rw [HA.out, HB.out]; exact R1.out, by rw [HA.out, HB.out]; exact R2.out, B4.out⟩
theorem againstR (m : Nat) (e : Int) (y : Value) (d : Nat) (q : Int) (w : World) (hm : m < 18446744073709551616) (he1 : -9000 ≤ e) (he2 : e ≤ 9000) (hq1 : -900 ≤ q) (hq2 : q ≤ 900) (hy : Num .u64 w y d) (hd : d < Bs ^ KB) :
    Calls Tryd.prog 30 #[.int .u64 m, .int .i64 e, y, .int .i64 q] w (CmpPost (agL m e q) (agR d e q) w) := by
  by_cases he : 0 ≤ e <;> by_cases hq : 0 ≤ q
  · exact againstPP m e y d q w hm he1 he2 hq1 hq2 hy hd he hq
  · exact againstPN m e y d q w hm he1 he2 hq1 hq2 hy hd he (by omega)
  · exact againstNP m e y d q w hm he1 he2 hq1 hq2 hy hd (by omega) hq
  · exact againstNN m e y d q w hm he1 he2 hq1 hq2 hy hd (by omega) (by omega)
end Go.Proofs.YtgbldjbkapaclaaDoor.fl
/- What 'against' compares, in rungs. Plain. -/
namespace Go.Proofs.YtgbldjbkapaclaaDoor.fl
set_option linter.unusedVariables false
def K75 : Nat := 1075
theorem K75_eq : K75 = 1075 := rfl
theorem valD_eq (q : Int) : valD q = 10 ^ (-q).toNat := by
  unfold valD
  split
  · rw [show (-q).toNat = 0 by omega, Nat.pow_zero]
  · rfl
theorem valN_eq (d : Nat) (q : Int) : valN d q = d * 10 ^ q.toNat * 2 ^ K74 := by
  unfold valN
  split
  · rfl
  · rw [show q.toNat = 0 by omega, Nat.pow_zero]
/-- Both sides, laid on one place. -/
theorem ag_place (m : Nat) (e q : Int) (d s : Nat) (hs : e + K75 = s) : ∃ z, 0 < z ∧ agL m e q * z = m * 2 ^ s * valD q ∧ agR d e q * z = d * 10 ^ q.toNat * 2 ^ K75 := by
  rw [valD_eq]
  unfold agL agR
  by_cases he : 0 ≤ e
  · refine ⟨2 ^ K75, Nat.pow_pos (by decide), ?_, ?_⟩
    · rw [show s = e.toNat + K75 by omega, Nat.pow_add]
      simp only [Nat.mul_assoc, Nat.mul_comm (10 ^ (-q).toNat)]
    · rw [show (-e).toNat = 0 by omega, Nat.pow_zero, Nat.mul_one]
  · refine ⟨2 ^ s, Nat.pow_pos (by decide), ?_, ?_⟩
    · rw [show e.toNat = 0 by omega, Nat.pow_zero, Nat.mul_one, Nat.mul_assoc, Nat.mul_assoc, Nat.mul_comm (2 ^ s)]
    · rw [show K75 = (-e).toNat + s by omega, Nat.pow_add]
      simp only [Nat.mul_assoc, Nat.mul_comm (10 ^ q.toNat)]
theorem mul_lt_iff {a b z : Nat} (hz : 0 < z) : a < b ↔ a * z < b * z := ⟨fun h => Nat.mul_lt_mul_of_pos_right h hz, fun h => Nat.lt_of_mul_lt_mul_right h⟩
theorem ag_lt (m : Nat) (e q : Int) (d s : Nat) (hs : e + K75 = s) : (agL m e q < agR d e q ↔ m * 2 ^ s * valD q < 2 * valN d q) ∧ (agR d e q < agL m e q ↔ 2 * valN d q < m * 2 ^ s * valD q) := by
  obtain ⟨z, hz, h1, h2⟩ := ag_place m e q d s hs
  have h3 : d * 10 ^ q.toNat * 2 ^ K75 = 2 * valN d q := by
    rw [valN_eq, show K75 = K74 + 1 from rfl, Nat.pow_succ, ← Nat.mul_assoc, Nat.mul_comm]
  rw [h3] at h2
  exact ⟨by rw [mul_lt_iff hz, h1, h2], by rw [mul_lt_iff hz, h1, h2]⟩
/-- What 'parts' takes apart is the rung. -/
theorem parts_V (u : Nat) : ∃ s : Nat, pE u + K74 = s ∧ pM u * 2 ^ s = V u ∧ st u = 2 ^ s := by
  have hBB : (4503599627370496 : Nat) = B := rfl
  unfold pM pE
  rw [hBB]
  by_cases h : u < B
  · have h0 : u / B = 0 := Nat.div_eq_of_lt h
    refine ⟨0, ?_, ?_, ?_⟩
    · rw [if_pos h0]; decide
    · rw [if_pos h0, V_small h]; omega
    · unfold st; rw [h0]
  · obtain ⟨e, m, rfl, h1, h2⟩ := rung_form u (by omega)
    have hd : (e * B + m) / B = e + 1 := by
      rw [Nat.add_comm, Nat.add_mul_div_right _ _ (by decide : 0 < B)]
      rw [show m / B = 1 from Nat.div_eq_of_lt_le (by omega) (by omega)]
      omega
    have hm : (e * B + m) % B + B = m := by
      rw [Nat.add_comm (e * B) m, Nat.add_mul_mod_self_right, Nat.mod_eq_sub_mod h1, Nat.mod_eq_of_lt (by omega)]
      omega
    rw [hd, if_neg (by omega), if_neg (by omega), hm, V_form e m h1 h2, st_form e m h1 h2]
    exact ⟨e, by rw [K74_eq]; omega, rfl, rfl⟩
/-- A rung against a decimal. -/
theorem ag_rung (u d : Nat) (q : Int) : (agL (pM u) (pE u) q < agR d (pE u) q ↔ V u * valD q < valN d q) ∧ (agR d (pE u) q < agL (pM u) (pE u) q ↔ valN d q < V u * valD q) := by
  obtain ⟨s, h1, h2, h3⟩ := parts_V u
  have h := ag_lt (pM u) (pE u) q d (s + 1) (by rw [K75_eq]; rw [K74_eq] at h1; omega)
  rw [Nat.pow_succ, ← Nat.mul_assoc, h2] at h
  have e1 : V u * 2 * valD q = 2 * (V u * valD q) := by rw [Nat.mul_comm (V u) 2, Nat.mul_assoc]
  rw [e1] at h
  exact ⟨h.1.trans (by omega), h.2.trans (by omega)⟩
/-- The middle above a rung against a decimal. -/
theorem ag_mid (u d : Nat) (q : Int) : (agL (2 * pM u + 1) (pE u - 1) q < agR d (pE u - 1) q ↔ (V u + V (u + 1)) * valD q < 2 * valN d q) ∧ (agR d (pE u - 1) q < agL (2 * pM u + 1) (pE u - 1) q ↔ 2 * valN d q < (V u + V (u + 1)) * valD q) := by
  obtain ⟨s, h1, h2, h3⟩ := parts_V u
  have h := ag_lt (2 * pM u + 1) (pE u - 1) q d s (by rw [K75_eq]; rw [K74_eq] at h1; omega)
  have e1 : (2 * pM u + 1) * 2 ^ s = V u + V (u + 1) := by
    rw [V_succ, Nat.add_mul, Nat.mul_assoc, h2, h3]; omega
  rw [e1] at h
  exact h
end Go.Proofs.YtgbldjbkapaclaaDoor.fl
/- The walks of the reference's within and whole. -/
namespace Go.Proofs.YtgbldjbkapaclaaDoor.fl
open Go.ChangeShapes Go.WideShapes Go.ChangeAt Go.RowKit
set_option linter.unusedVariables false
end Go.Proofs.YtgbldjbkapaclaaDoor.fl
