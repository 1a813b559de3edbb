/- A dict: find, hang, moving, Len, New. -/
import Derived.Test.YthmbhkgllfngmaaGreatDoorProg
import Derived.Test.YthmbhkgllfngmaaGreatDoorKsA
import Derived.WalkKit
import Derived.WalkLawsBesides
import Derived.WalkSpells
import Derived.Deep.QuietTactic
import Derived.BigQuiet
import Derived.Lib.Hide
import Derived.Outline
import Derived.Laws.Bits64
import Derived.Laws.Bits64b
import Derived.Deep.LoopGhost
/- What the walks of these claims import. -/

/- draw.Hash. -/
namespace Go.Proofs.YthmbhkgllfngmaaGreatDoor.ks
open Go.ChangeShapes Go.WideShapes Go.RowKit
set_option linter.unusedVariables false
set_option linter.unusedSimpArgs false
theorem hround_lt (h : Nat) (b : UInt8) : hround h b < 18446744073709551616 := Nat.mod_lt _ (by decide)
theorem hfold_lt (l : List UInt8) : ∀ h : Nat, h < 18446744073709551616 → l.foldl hround h < 18446744073709551616 := by
  induction l with
  | nil => exact fun h hh => hh
  | cons x r ih => exact fun h _ => ih _ (hround_lt h x)
theorem hash_lt (seed : Nat) (s : ByteArray) : hash seed s < 18446744073709551616 := by
  unfold hash hend hmul
  refine Nat.xor_lt_two_pow (n := 64) (Nat.mod_lt _ (by decide)) ?_
  rw [Nat.shiftRight_eq_div_pow]
  exact Nat.lt_of_le_of_lt (Nat.div_le_self _ _) (Nat.mod_lt _ (by decide))
theorem wrap_mul (a b : Nat) : IntKind.u64.wrap ((a : Int) * (b : Int)) = ((hmul a b : Nat) : Int) := by
  rw [IntKind.wrap_u64]; unfold hmul; simp
theorem hround_snoc (l : List UInt8) (h : Nat) (b : UInt8) : (l ++ [b]).foldl hround h = hround (l.foldl hround h) b := by rw [List.foldl_append, List.foldl_cons, List.foldl_nil]
theorem take_next (s : ByteArray) (k : Nat) (h : k < s.size) : s.data.toList.take (k + 1) = s.data.toList.take k ++ [s[k]] := by
  rw [List.take_succ_eq_append_getElem (by simpa using h)]; rfl
theorem xor_u64 (a b : Nat) (ha : a < 18446744073709551616) (hb : b < 18446744073709551616) : bits .xor .u64 (a : Int) (b : Int) = ((a ^^^ b : Nat) : Int) := bits_xor_u64_nat a b ha hb
theorem hround_eq (h : Nat) (c : UInt8) (hh : h < 18446744073709551616) : IntKind.u64.wrap (bits .xor .u64 (h : Int) (IntKind.u64.wrap (c.toNat : Int)) * 1099511628211) = ((hround h c : Nat) : Int) := by
  have hc := c.toNat_lt
  rw [IntKind.wrap_u64 (c.toNat : Int), Int.emod_eq_of_lt (by omega) (by omega)]
  rw [xor_u64 _ _ hh (by omega)]
  exact wrap_mul _ 1099511628211
theorem h0_eq (seed : Nat) (h : seed < 18446744073709551616) : bits .xor .u64 14695981039346656037 (seed : Int) = ((14695981039346656037 ^^^ seed : Nat) : Int) := xor_u64 14695981039346656037 seed (by decide) h
theorem h0_lt (seed : Nat) (h : seed < 18446744073709551616) : 14695981039346656037 ^^^ seed < 18446744073709551616 := Nat.xor_lt_two_pow (n := 64) (by decide) h
set_option maxHeartbeats 400000 in
theorem hashC (seed : Nat) (s : ByteArray) (w : World) (h1 : seed < 18446744073709551616) (hs : s.size ≤ maxLen) :
    Calls Tryz.prog 143 #[.int .u64 seed, .string s] w fun e w' => e = .returned (.int .u64 (hash seed s)) ∧ w = w' := by
  unfold maxLen at hs
  have h0 := h0_eq seed h1
  obtain ⟨b, hb⟩ : ∃ b, b = 14695981039346656037 ^^^ seed := ⟨_, rfl⟩
  rw [← hb] at h0
  have hbl := h0_lt seed h1
  rw [← hb] at hbl
  have HB := khid hb
  clear hb
  go_enter Tryz.func143, Tryz.ntmps143
  go_wp2
  clear h0
  go_loop [5, 11] (fun h i => ∃ k : Nat, k ≤ s.size ∧ i = .int .i64 k ∧ h = .int .u64 (((s.data.toList.take k).foldl hround b : Nat) : Int)) (fun _ i => s.size - (intOf i).toNat)
  case atStart => exact ⟨0, Nat.zero_le _, rfl, rfl⟩
  case round =>
    obtain ⟨k, hk, rfl, rfl⟩ := hrel
    have hlt := hfold_lt (s.data.toList.take k) b hbl
    obtain ⟨h, hh⟩ : ∃ h, h = (s.data.toList.take k).foldl hround b := ⟨_, rfl⟩
    rw [← hh] at hlt ⊢
    have HH := khid hh
    clear hh
    by_cases hlt2 : k < s.size
    · have hr := hround_eq h s[k] hlt
      have HR := khid hr
      clear hr
      go_wp2
      rw [HR.out]
      refine ⟨⟨k + 1, by omega, by go_num, ?_⟩, by simp [intOf]; omega⟩
      rw [take_next s k hlt2, hround_snoc, ← HH.out]
    · obtain rfl : k = s.size := by omega
      have hx : bits .xor .u64 (h : Int) ((h : Int) / 4294967296) = ((h ^^^ (h >>> 32) : Nat) : Int) := by
        have := xor_u64 h (h / 4294967296) hlt (Nat.lt_of_le_of_lt (Nat.div_le_self _ _) hlt)
        rw [Nat.shiftRight_eq_div_pow]
        exact this
      obtain ⟨m, hm⟩ : ∃ m, m = hmul (h ^^^ (h >>> 32)) 11400714819323198485 := ⟨_, rfl⟩
      have hml : m < 18446744073709551616 := by rw [hm]; exact Nat.mod_lt _ (by decide)
      have hw : IntKind.u64.wrap (bits .xor .u64 (h : Int) ((h : Int) / 4294967296) * 11400714819323198485) = (m : Int) := by
        rw [hx, hm]; exact wrap_mul _ 11400714819323198485
      have hx2 : bits .xor .u64 (m : Int) ((m : Int) / 536870912) = ((m ^^^ (m >>> 29) : Nat) : Int) := by
        have := xor_u64 m (m / 536870912) hml (Nat.lt_of_le_of_lt (Nat.div_le_self _ _) hml)
        rw [Nat.shiftRight_eq_div_pow]
        exact this
      have he : m ^^^ (m >>> 29) = hash seed s := by
        unfold hash hend
        rw [← HB.out, ← List.take_of_length_le (l := s.data.toList) (i := s.size) (by simp), ← HH.out, ← hm]
      rw [he] at hx2
      have HX := khid hx2
      have HW := khid hw
      clear hx hm hw hx2 he
      go_wp2
      rw [HW.out, HX.out]
      go_ret
      exact ⟨rfl, rfl⟩
end Go.Proofs.YthmbhkgllfngmaaGreatDoor.ks
/- A dict: slot, link, find, hang, moving. -/
namespace Go.Proofs.YthmbhkgllfngmaaGreatDoor.ks
open Go.ChangeShapes Go.WideShapes Go.RowKit
set_option linter.unusedVariables false
set_option linter.unusedSimpArgs false
def dty : DTy Nat := ⟨114, 112, 118, fun v => [.pointer (some ⟨v, 0, none⟩)]⟩
def dp (b : Nat) : Value := .pointer (some ⟨b, 0, none⟩)
theorem slot_and (h n : Nat) (hh : h < 18446744073709551616) (h0 : 0 < n) (hn : n ≤ 4611686018427387904) : bits .and .u64 (h : Int) ((n : Int) - 1) = ((h &&& (n - 1) : Nat) : Int) := by
  rw [show ((n : Int) - 1) = ((n - 1 : Nat) : Int) by omega]
  exact bits_and_u64_nat _ _ hh (by omega)
set_option maxHeartbeats 400000 in
theorem slotC (seed : Nat) (k : ByteArray) (db tb n : Nat) (w : World) (h1 : seed < 18446744073709551616) (hk : k.size ≤ maxLen) (hc : w.cell? ⟨db, 0, none⟩ = some (.int .u64 seed)) (h0 : 0 < n) (hn : n ≤ 4611686018427387904) :
    Calls Tryz.prog 104 #[dp db, .slice (some ⟨tb, 0, none⟩) n n, .string k] w fun e w' => e = .returned (.pointer (some ⟨tb, slotOf seed n k, none⟩)) ∧ w = w' := by
  have hs := slot_and (hash seed k) n (hash_lt seed k) h0 hn
  obtain ⟨i, hi⟩ : ∃ i, i = slotOf seed n k := ⟨_, rfl⟩
  have hlt : i < n := by rw [hi]; exact slotOf_lt h0 k
  rw [show hash seed k &&& (n - 1) = i from hi.symm] at hs
  rw [← hi]
  clear hi
  unfold dp
  go_enter Tryz.func104, Tryz.ntmps104
  go_wp2_with (go_at_call 143; refine (hashC seed k _ h1 hk).mono ?_; rintro e w' ⟨rfl, rfl⟩)
  go_ret
  exact ⟨rfl, rfl⟩
set_option maxHeartbeats 400000 in
theorem linkC (seed : Nat) (k : ByteArray) (db tb : Nat) (t : Tab Nat) (w : World) (h1 : seed < 18446744073709551616) (hk : k.size ≤ maxLen) (hc : w.cell? ⟨db, 0, none⟩ = some (.int .u64 seed)) (ht : TabIs dty w tb t) (hn : t.length ≤ 4611686018427387904) :
    Calls Tryz.prog 103 #[dp db, tabv tb t, .string k] w fun e w' => e = .returned (.pointer (linkAt dty seed tb t k)) ∧ w = w' := by
  by_cases hne : t = []
  · subst hne
    rw [show tabv tb ([] : Tab Nat) = .slice none 0 0 from rfl, show linkAt dty seed tb [] k = none from rfl]
    clear hc ht hn
    unfold dp
    go_enter Tryz.func103, Tryz.ntmps103
    go_wp2
    go_ret
    exact ⟨rfl, rfl⟩
  · have hp : 0 < t.length := List.length_pos_iff.2 hne
    obtain ⟨l, hl⟩ := slot_at hne seed k
    obtain ⟨n, hnn⟩ : ∃ n, n = t.length := ⟨_, rfl⟩
    have hla : linkAt dty seed tb t k = hangsAt dty k l ⟨tb, slotOf seed n k, none⟩ := by unfold linkAt; rw [hl, hnn]; rfl
    have hcl := ht.cell hl
    have hch := ht.ch l (List.mem_of_getElem? hl)
    rw [← hnn] at hp hn hcl
    have htv : tabv tb t = .slice (some ⟨tb, 0, none⟩) n n := by unfold tabv; rw [if_neg hne, hnn]
    rw [hla, htv]
    obtain ⟨a, ha⟩ : ∃ a, a = (⟨tb, slotOf seed n k, none⟩ : Addr) := ⟨_, rfl⟩
    rw [← ha] at hcl ⊢
    obtain ⟨R, hR⟩ : ∃ R, R = hangsAt dty k l a := ⟨_, rfl⟩
    rw [← hR]
    have HRR := khid hR
    clear hR
    have HA := khid ha
    have HCH := khid hch
    have HCL := khid hcl
    have HC := khid hc
    clear hla htv hnn hl ha ht hne hch hcl
    unfold dp
    go_enter Tryz.func103, Tryz.ntmps103
    go_wp2_with (go_at_call 104; refine (slotC seed k db tb n _ h1 hk HC.out hp hn).mono ?_; rintro e w' ⟨rfl, rfl⟩)
    go_loopg [7] l.length (fun g p wr => wr = w ∧ ∃ (m : List (DE Nat)) (b : Addr), p = .pointer (some b) ∧ Hid (m.length = g ∧ chainOk dty w m ∧ w.cell? b = some (ptr m) ∧ R = hangsAt dty k m b))
    case atStart => exact ⟨rfl, l, a, by rw [HA.out], khid ⟨rfl, HCH.out, HCL.out, HRR.out⟩⟩
    case round =>
      obtain ⟨rfl, m, b, rfl, hm⟩ := hrel
      obtain ⟨h1, h2, h3, h4⟩ := hm.out
      clear hm
      cases m with
      | nil =>
        unfold ptr at h3
        have H1 := khid h1
        have H4 := khid h4
        clear h1 h2 h4 hc
        go_wp2
        go_ret
        exact ⟨by rw [H4.out]; rfl, rfl⟩
      | cons e r =>
        have hkc := key_cell h2.1
        unfold ptr at h3
        have H1 := khid h1
        have H2 := khid h2
        have H4 := khid h4
        clear h1 h2 h4 hc
        by_cases hek : e.k = k
        · have hcmp := streq_true hek
          go_wp2
          go_ret
          refine ⟨?_, rfl⟩
          rw [H4.out]; unfold hangsAt; rw [if_pos hek]; rfl
        · have hcmp := streq_false hek
          go_wp2
          go_roundg r.length
          case measure => have := H1.out; simp at this; omega
          case rel =>
            refine ⟨rfl, r, ⟨e.b, 2, none⟩, rfl, khid ⟨rfl, H2.out.2, next_cell H2.out.1, ?_⟩⟩
            rw [H4.out]
            show hangsAt dty k (e :: r) b = hangsAt dty k r (nextAt dty e)
            conv => lhs; unfold hangsAt
            rw [if_neg hek]
end Go.Proofs.YthmbhkgllfngmaaGreatDoor.ks
/- A dict: find, hang, moving, Len, New. -/
namespace Go.Proofs.YthmbhkgllfngmaaGreatDoor.ks
open Go.ChangeShapes Go.WideShapes Go.RowKit
set_option linter.unusedVariables false
set_option linter.unusedSimpArgs false
set_option maxHeartbeats 400000 in
theorem moving_no (db yb : Nat) (w : World) (hc : w.cell? ⟨db, 2, none⟩ = some (.slice none 0 0)) :
    Calls Tryz.prog 69 #[dp db] w fun e w' => e = .returned (.bool false) ∧ w = w' := by
  unfold dp
  go_enter Tryz.func69, Tryz.ntmps69
  go_wp2
  go_ret
  exact ⟨rfl, rfl⟩
set_option maxHeartbeats 400000 in
theorem moving_yes (db yb n : Nat) (w : World) (h0 : 0 < n) (hc : w.cell? ⟨db, 2, none⟩ = some (.slice (some ⟨yb, 0, none⟩) n n)) :
    Calls Tryz.prog 69 #[dp db] w fun e w' => e = .returned (.bool true) ∧ w = w' := by
  unfold dp
  go_enter Tryz.func69, Tryz.ntmps69
  go_wp2
  go_ret
  exact ⟨ret_bool (by simp), rfl⟩
/-- Whether there is a second table. -/
def mv (D : DM Nat) : Bool := !D.young.isEmpty
theorem movingC (db : Nat) (D : DM Nat) (w : World) (h : DictIs dty w db D) :
    Calls Tryz.prog 69 #[dp db] w fun e w' => e = .returned (.bool (mv D)) ∧ w = w' := by
  have h2 := h.c2
  by_cases hy : D.young = []
  · rw [show mv D = false by unfold mv; rw [hy]; rfl]
    rw [hy] at h2
    exact moving_no db 0 w h2
  · rw [show mv D = true by unfold mv; cases hd : D.young with | nil => exact absurd hd hy | cons => rfl]
    rw [tabv_ne hy] at h2
    exact moving_yes db D.yb D.young.length w (List.length_pos_iff.2 hy) h2
set_option maxHeartbeats 400000 in
theorem findC (db : Nat) (D : DM Nat) (k : ByteArray) (w : World) (h : DictIs dty w db D) (hk : k.size ≤ maxLen) :
    Calls Tryz.prog 68 #[dp db, .string k] w fun e w' => e = .returned (.pointer (D.linkOf dty k)) ∧ w = w' := by
  have c0 := h.c0
  have c1 := h.c1
  have c2 := h.c2
  have H := khid h
  have HC0 := khid c0
  have hbo := h.bo
  have hby := h.by_
  clear h c0
  obtain ⟨p, hp⟩ : ∃ p, p = linkAt dty D.seed D.ob D.old k := ⟨_, rfl⟩
  unfold dp DM.linkOf
  rw [← hp]
  cases p with
  | some a =>
    have HP := khid hp
    clear hp
    rw [show (some a).or (linkAt dty D.seed D.yb D.young k) = some a from rfl]
    go_enter Tryz.func68, Tryz.ntmps68
    go_wp2_with fail
    refine (linkC D.seed k db D.ob D.old _ H.out.sd hk HC0.out H.out.ho (by omega)).mono ?_
    rintro e w' ⟨rfl, rfl⟩
    rw [← HP.out]
    go_wp2
    go_ret
    exact ⟨rfl, rfl⟩
  | none =>
    have HP := khid hp
    clear hp
    rw [show (none : Option Addr).or (linkAt dty D.seed D.yb D.young k) = linkAt dty D.seed D.yb D.young k from rfl]
    go_enter Tryz.func68, Tryz.ntmps68
    go_wp2_with fail
    refine (linkC D.seed k db D.ob D.old _ H.out.sd hk HC0.out H.out.ho (by omega)).mono ?_
    rintro e w' ⟨rfl, rfl⟩
    rw [← HP.out]
    go_wp2_with fail
    refine (linkC D.seed k db D.yb D.young _ H.out.sd hk HC0.out H.out.hy (by omega)).mono ?_
    rintro e w' ⟨rfl, rfl⟩
    go_wp2
    go_ret
    exact ⟨rfl, rfl⟩
set_option maxHeartbeats 400000 in
theorem hangC (seed db tb : Nat) (t : Tab Nat) (e : DE Nat) (nx : Value) (w : World) (h1 : seed < 18446744073709551616) (hk : e.k.size ≤ maxLen) (hc : w.cell? ⟨db, 0, none⟩ = some (.int .u64 seed))
    (ht : TabIs dty w tb t) (hne : t ≠ []) (hn : t.length ≤ 4611686018427387904) (he : w.heap[e.b]? = some (eObj dty e nx)) (hnd : (e.b :: tblocks tb t).Nodup) :
    Calls Tryz.prog 70 #[dp db, tabv tb t, dp e.b] w fun r w' => r = .returned (.tuple #[]) ∧ TabIs dty w' tb (hang seed t e) ∧ Keeps [e.b, tb] w w' := by
  obtain ⟨l, hl⟩ := slot_at hne seed e.k
  have hp : 0 < t.length := List.length_pos_iff.2 hne
  have hcl := ht.cell hl
  have hfr := ht.free hne (slotOf seed t.length e.k)
  have hfe := efree he 2
  have hkc := key_cell he
  have hnc : w.cell? ⟨e.b, 2, none⟩ = some nx := next_cell he
  have hlast := ht.hang hne seed hl he hnd
  have hkeep : Keeps [e.b, tb] w ((w.setCell ⟨e.b, 2, none⟩ (ptr l)).setCell ⟨tb, slotOf seed t.length e.k, none⟩ (ptr (e :: l))) :=
    ((Keeps.refl _ w).setCell (p := ⟨e.b, 2, none⟩) (.inl (by simp)) _).setCell (p := ⟨tb, _, none⟩) (.inl (by simp)) _
  have hbt : e.b ≠ tb := by
    rw [List.nodup_cons] at hnd
    exact fun e2 => hnd.1 (e2 ▸ tb_mem hne)
  rw [tabv_ne hne]
  generalize hnn : t.length = n at hp hn hcl hfr hlast hkeep ⊢
  obtain ⟨i, hi⟩ : ∃ i, i = slotOf seed n e.k := ⟨_, rfl⟩
  rw [← hi] at hcl hfr hlast hkeep
  have HC := khid hc
  have HI := khid hi
  obtain ⟨x, hx⟩ := ptr_is l
  rw [hx] at hcl hlast hkeep
  have HL := khid hlast
  have HK := khid hkeep
  clear hl ht hne he hnd hlast hkeep hc hnn hi hx
  unfold dp
  go_enter Tryz.func70, Tryz.ntmps70
  go_wp2_with (go_at_call 104; refine (slotC seed e.k db tb n _ h1 hk HC.out hp hn).mono ?_; rintro r w' ⟨rfl, rfl⟩; rw [← HI.out])
  go_end0
  exact ⟨rfl, HL.out, HK.out⟩
set_option maxHeartbeats 400000 in
theorem lenC (db : Nat) (D : DM Nat) (w : World) (h : DictIs dty w db D) :
    Calls Tryz.prog 28 #[dp db] w fun e w' => e = .returned (.int .i64 D.n) ∧ w = w' := by
  have c4 := h.c4
  clear h
  unfold dp
  go_enter Tryz.func28, Tryz.ntmps28
  go_wp2
  go_ret
  exact ⟨rfl, rfl⟩
set_option maxHeartbeats 400000 in
theorem newC (seed : Nat) (w : World) :
    Calls Tryz.prog 29 #[.int .u64 seed] w fun e w' => e = .returned (dp w.heap.size) ∧ w.alloc (dObj dty (DM.new seed)) = w' := by
  unfold dp
  go_enter Tryz.func29, Tryz.ntmps29
  go_wp2
  go_ret
  exact ⟨rfl, rfl⟩
theorem new_is (seed : Nat) (w : World) (h : seed < 18446744073709551616) : DictIs dty (w.alloc (dObj dty (DM.new seed))) w.heap.size (DM.new seed) :=
  ⟨alloc_new w _, TabIs.nil _ _, TabIs.nil _ _, by simp [DM.blocks, DM.new, tblocks], h, fun e he => by simp [DM.all, DM.new] at he, by simp [DM.new], by simp [DM.new], by simp [DM.new]⟩
end Go.Proofs.YthmbhkgllfngmaaGreatDoor.ks
