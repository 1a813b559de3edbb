/- The contract of journal.Read: it reads what 'reads' says. -/
import Derived.Test.YthhjnjghlmaicaaRRead
import Derived.Test.YthhjnjghlmaicaaText
namespace Go.Proofs.Ythhjnjghlmaicaa.jr
open Go.ChangeShapes Go.WideShapes Go.ChangeAt Go.RowKit
open JSpec
set_option linter.unusedVariables false

/-- The reader stands at the place p. -/
def RS (W : World) (R0 g cap p : Nat) (bs : List Int) : Prop :=
  W.heap[R0]? = some (.cells #[.slice (some ⟨g, p, none⟩) (bs.drop p).length (cap - p)] 50 (0, 0)) ∧ (∀ i, i < bs.length → W.cell? ⟨g, i, none⟩ = some (.int .u8 (bs.getD i 0))) ∧ p ≤ bs.length ∧ bs.length < cap ∧ cap ≤ 9223372036854775000 ∧ (∀ x ∈ bs, 0 ≤ x ∧ x ≤ 255) ∧ g < R0

namespace RS
variable {W W' : World} {R0 g cap p : Nat} {bs : List Int}
theorem hR (h : RS W R0 g cap p bs) : W.cell? ⟨R0, 0, none⟩ = some (.slice (some ⟨g, p, none⟩) (bs.drop p).length (cap - p)) := cell_of_one h.1
theorem hF (h : RS W R0 g cap p bs) : W.frozen? ⟨R0, 0, none⟩ = false := free_of_one h.1
theorem hl (h : RS W R0 g cap p bs) : (bs.drop p).length < cap - p := by have h1 := h.2.2.1; have h2 := h.2.2.2.1; rw [List.length_drop]; omega
theorem hcap (h : RS W R0 g cap p bs) : cap - p ≤ 9223372036854775807 := by have h1 := h.2.2.2.2.1; omega
theorem hc (h : RS W R0 g cap p bs) : ∀ i, i < (bs.drop p).length → W.cell? ⟨g, p + i, none⟩ = some (.int .u8 ((bs.drop p).getD i 0)) := by
  intro i hi
  rw [List.length_drop] at hi
  rw [h.2.1 (p + i) (by omega), drop_getD]
theorem hb (h : RS W R0 g cap p bs) : ∀ x ∈ bs.drop p, 0 ≤ x ∧ x ≤ 255 := fun x hx => h.2.2.2.2.2.1 x (List.mem_of_mem_drop hx)
theorem next {c : Nat} (h : RS W R0 g cap p bs) (hc : p + c ≤ bs.length) : RS (W.setCell ⟨R0, 0, none⟩ (.slice (some ⟨g, p + c, none⟩) ((bs.drop p).length - c) (cap - p - c))) R0 g cap (p + c) bs := by
  obtain ⟨h1, h2, h3, h4, h5, h6, h7⟩ := h
  refine ⟨?_, fun i hi => ?_, hc, h4, h5, h6, h7⟩
  · rw [one_setCell h1, List.length_drop, List.length_drop, show bs.length - p - c = bs.length - (p + c) by omega, show cap - p - c = cap - (p + c) by omega]
  · rw [World.cell?_setCell_other _ _ _ _ (fun e => by have := congrArg Addr.block e; simp at this; omega)]
    exact h2 i hi
theorem kept {S : Nat → Prop} (h : RS W R0 g cap p bs) (hk : Kept S W W') (h0 : S R0) (h1 : S g) : RS W' R0 g cap p bs :=
  ⟨by rw [hk.block R0 (lt_of_block h.1) h0]; exact h.1, fun i hi => hk.cell h1 (h.2.1 i hi), h.2.2⟩
theorem alloc (h : RS W R0 g cap p bs) (o : Obj) : RS (W.alloc o) R0 g cap p bs := h.kept ((Kept.refl (fun _ => True) W).alloc o) trivial trivial
theorem size (h : RS W R0 g cap p bs) : R0 < W.heap.size := lt_of_block h.1
end RS

def PRel (l : List Int) (B g cap : Nat) (w : World) (v at_ : Value) (wr : World) : Prop :=
  ∃ (p f : Nat) (acc : List (List (List Int))), at_ = .int .i64 (p : Int) ∧ l.length - p < f ∧ acc.length ≤ p ∧ reads l f p acc = reads l (l.length + 1) 0 [] ∧
    Own2 wr (B + 1) wr.heap.size v (acc.map strs) ∧ Below B w wr ∧ RS wr B g cap p l

theorem ownsRow_base {w : World} {b b' : Nat} {e : TypeId} {size n : Nat} {v : Value} {xs : List Value} (h : w.ownsRow b e size v n xs) (hb : b' ≤ b) : w.ownsRow b' e size v n xs := by
  refine ⟨h.1, ?_⟩
  rcases h.2 with hn | ⟨g, cap, cur, rfl, hbg, r⟩
  · exact .inl hn
  · exact .inr ⟨g, cap, cur, rfl, by omega, r⟩
theorem own2_base {w : World} {B B' L : Nat} {v : Value} {ll : List (List ByteArray)} (h : Own2 w B L v ll) (hb : B' ≤ B) : Own2 w B' L v ll := by
  obtain ⟨xs, h1, h2, h3, h4⟩ := h
  refine ⟨xs, ownsRow_base h1 hb, h2, fun i hi => ?_, h4⟩
  obtain ⟨x, hx, hi1, hi2⟩ := h3 i hi
  exact ⟨x, hx, ownsRow_base hi1 hb, hi2⟩

/-- The world within an effect: the words so far are the call's own from L0 on; the effects lie below. -/
def PW (l : List Int) (B g cap L0 p' : Nat) (w : World) (v : Value) (acc : List (List (List Int))) (x : Value) (q : Nat) (wacc : List (List Int)) (W : World) : Prop :=
  W.ownsRow L0 9 1 x q ((strs wacc).map Value.string) ∧ Own2 W (B + 1) L0 v (acc.map strs) ∧ Below B w W ∧ RS W B g cap p' l ∧ L0 ≤ W.heap.size ∧ B + 1 ≤ L0 ∧ B = w.heap.size

namespace PW
variable {l : List Int} {B g cap L0 p' : Nat} {w : World} {v : Value} {acc : List (List (List Int))} {x : Value} {q : Nat} {wacc : List (List Int)} {W : World}
theorem set {c : Nat} (h : PW l B g cap L0 p' w v acc x q wacc W) (hc : p' + c ≤ l.length) : PW l B g cap L0 (p' + c) w v acc x q wacc (W.setCell ⟨B, 0, none⟩ (.slice (some ⟨g, p' + c, none⟩) ((l.drop p').length - c) (cap - p' - c))) := by
  obtain ⟨h1, h2, h3, h4, h5, h6, h7⟩ := h
  have hk : ∀ u, Kept (· ≠ B) W (W.setCell ⟨B, 0, none⟩ u) := fun u => (Kept.refl _ _).setCell (fun _ h => h rfl) _
  refine ⟨ownsRow_kept (hk _) h1 (fun k e => by have := (h1.lt k e).1; omega), own2_kept h2 (hk _) (fun k h _ => by omega), h3.trans ((hk _).below (by rw [h7]; exact h3.size) (fun k h => by omega)), h4.next hc, by simpa [World.setCell] using h5, h6, h7⟩
theorem alloc (h : PW l B g cap L0 p' w v acc x q wacc W) (o : Obj) : PW l B g cap L0 p' w v acc x q wacc (W.alloc o) := by
  obtain ⟨h1, h2, h3, h4, h5, h6, h7⟩ := h
  exact ⟨h1.alloc o, own2_kept h2 ((Kept.refl (fun _ => True) W).alloc o) (fun _ _ _ => trivial), h3.alloc (by rw [h7]; exact h3.size) o, h4.alloc o, by simp; omega, h6, h7⟩
theorem app {W1 : World} {o : Obj} {g2 cap2 : Nat} {s : List Int} (h : PW l B g cap L0 p' w v acc x q wacc W) (ho : W1.ownsRow L0 9 1 (.slice (some ⟨g2, 0, none⟩) (q + 1) cap2) (q + 1) ((strs wacc).map Value.string ++ [.string (strOfNums s)])) (hg : (W.alloc o).grownBy W1 x.ownBlock) :
    PW l B g cap L0 p' w v acc (.slice (some ⟨g2, 0, none⟩) (q + 1) cap2) (q + 1) (wacc ++ [s]) W1 := by
  have ha := h.alloc o
  obtain ⟨h1, h2, h3, h4, h5, h6, h7⟩ := ha
  have hb : ∀ k, x.ownBlock = some k → L0 ≤ k := fun k e => (h1.lt k e).1
  have hk : Kept (fun k => k < L0) (W.alloc o) W1 := (Kept.refl _ _).grown hg (fun k e _ hs => by have := hb k e.symm.symm; omega)
  refine ⟨by simpa [strs] using ho, own2_kept h2 hk (fun k _ h => h), h3.trans (hk.below (by rw [h7]; exact h3.size) (fun k h => by omega)), h4.kept hk (by omega) (by have := h4.2.2.2.2.2.2; omega), by have := hg.size; omega, h6, h7⟩
end PW

theorem PW.rs {l : List Int} {B g cap L0 p' : Nat} {w : World} {v : Value} {acc : List (List (List Int))} {x : Value} {q : Nat} {wacc : List (List Int)} {W W1 : World} {o : Obj} {n : Nat} {xs : List Value} {e : TypeId}
    (h : PW l B g cap L0 p' w v acc x q wacc W) (h1 : W.ownsRow (B + 1) e 1 v n xs) (hg : (W.alloc o).grownBy W1 v.ownBlock) : RS W1 B g cap p' l := by
  have hb : ∀ k, v.ownBlock = some k → B + 1 ≤ k := fun k e => (h1.lt k e).1
  have hk : Kept (fun k => k ≤ B) (W.alloc o) W1 := (Kept.refl _ _).grown hg (fun k e _ hs => by have := hb k e; omega)
  exact (h.2.2.2.1.alloc o).kept hk (Nat.le_refl _) (by have := h.2.2.2.1.2.2.2.2.2.2; omega)
theorem after_out {l : List Int} {B g cap L0 p' : Nat} {w : World} {v : Value} {acc : List (List (List Int))} {x : Value} {q : Nat} {wacc : List (List Int)} {W W1 : World} {o : Obj} {n N : Nat} {xs : List Value} {e : TypeId}
    (h : PW l B g cap L0 p' w v acc x q wacc W) (h1 : W.ownsRow (B + 1) e 1 v n xs) (hg : (W.alloc o).grownBy W1 v.ownBlock) (hN : (l.drop p').length = N) : W1.cell? ⟨B, 0, none⟩ = some (.slice (some ⟨g, p', none⟩) N (cap - p')) := by
  rw [← hN]; exact (h.rs h1 hg).hR

theorem pw_below {l : List Int} {B g cap L0 p' : Nat} {w : World} {v : Value} {acc : List (List (List Int))} {x : Value} {q : Nat} {wacc : List (List Int)} {W W1 : World} {o : Obj} {n : Nat} {xs : List Value} {e : TypeId}
    (h : PW l B g cap L0 p' w v acc x q wacc W) (h1 : W.ownsRow (B + 1) e 1 v n xs) (hg : (W.alloc o).grownBy W1 v.ownBlock) : Below B w W1 := by
  have h3 := h.2.2.1
  have h7 := h.2.2.2.2.2.2
  have h8 := h.2.2.2.2.1
  have h9 := h.2.2.2.2.2.1
  exact (h3.alloc (by omega) o).grown hg (by simp; omega) (fun k e => by have := (h1.lt k e).1; omega)

def PIn (l : List Int) (B g cap L0 p c0 : Nat) (w : World) (v : Value) (acc : List (List (List Int))) (i by_ x : Value) (wi : World) : Prop :=
  ∃ (q p' : Nat) (m : Int) (wacc : List (List Int)), i = .int .i64 (q : Int) ∧ by_ = .int .i64 m ∧ q ≤ c0 ∧ 0 ≤ m ∧ m ≤ 4194304 ∧ words l (c0 - q) m p' wacc = effect l p ∧ wacc.length = q ∧
    PW l B g cap L0 p' w v acc x q wacc wi

theorem fin_none {l : List Int} {w W : World} {p f' : Nat} {acc : List (List (List Int))} (hl : ¬ 16777216 < l.length) (hrd : (match effect l p with
    | .whole ws k' => reads l f' k' (acc ++ [ws])
    | .ends => some (acc, p)
    | .wrong => none) = reads l (l.length + 1) 0 []) (he : effect l p = .wrong) (hb : Below w.heap.size w W) : ReadPost l w (.returned (.tuple #[.slice none 0 0, .int .i64 0, .int .i64 280])) W := by
  rw [he] at hrd
  exact rd_none hl hrd.symm hb
theorem fin_some {l : List Int} {g cap L0 p' : Nat} {w W : World} {p f' : Nat} {v x : Value} {acc : List (List (List Int))} {q : Nat} {wacc : List (List Int)} (hl : ¬ 16777216 < l.length) (hrd : (match effect l p with
    | .whole ws k' => reads l f' k' (acc ++ [ws])
    | .ends => some (acc, p)
    | .wrong => none) = reads l (l.length + 1) 0 []) (he : effect l p = .ends) (h : PW l w.heap.size g cap L0 p' w v acc x q wacc W) : ReadPost l w (.returned (.tuple #[v, .int .i64 (p : Int), .int .i64 0])) W := by
  rw [he] at hrd
  obtain ⟨h1, h2, h3, h4, h5, h6, h7⟩ := h
  exact rd_some hl hrd.symm (own2_base (own2_mono h2 h5) (by omega)) h3

set_option maxRecDepth 100000 in
set_option maxHeartbeats 6000000 in
theorem pread (l : List Int) (g cap : Nat) (w : World) (hl : l.length < cap) (hcap : cap ≤ 9223372036854775000) (hg : g < w.heap.size)
    (hc : ∀ i, i < l.length → w.cell? ⟨g, i, none⟩ = some (.int .u8 (l.getD i 0))) (hb : ∀ x ∈ l, 0 ≤ x ∧ x ≤ 255) :
    Calls Try.prog 13 #[.slice (some ⟨g, 0, none⟩) l.length cap] w (ReadPost l w) := by
  obtain ⟨i9, hi9, hz9, hs9, hb9⟩ := info_parts info9
  obtain ⟨i45, hi45, hz45, hs45, hb45⟩ := info_parts info45
  by_cases hlong : 16777216 < l.length
  · have hlong' : (16777216 : Int) < (l.length : Int) := by omega
    have HL := jhid hlong
    clear hb hlong hc
    go_enter Try.func13, Try.ntmps13
    go_wp2
    go_step3
    go_wp2
    rw [Exit.noGoto_ret]
    go_ret3
    exact (if_pos HL.out).mpr ⟨rfl, Below.refl _ _⟩
  · have hlong' : ¬ (16777216 : Int) < (l.length : Int) := by omega
    have HL := jhid hlong
    have hll : l.length ≤ 16777216 := by omega
    have h0 : RS (w.alloc (.cells #[.slice (some ⟨g, 0, none⟩) l.length cap] 50)) w.heap.size g cap 0 l := by
      refine ⟨?_, fun i hi => ?_, by omega, hl, hcap, hb, by omega⟩
      · exact heap_alloc_new w _
      · rw [World.cell?_alloc_lt _ _ _ (by exact hg)]; exact hc i hi
    have H0 := jhid h0
    clear hb hlong hc h0
    go_enter Try.func13, Try.ntmps13
    go_wp2_with fail
    go_step3
    go_wp2_with fail
    go_step3
    go_wp2_with fail
    go_loopw [5, 7, 8] (fun v at_ _ wr => PRel l w.heap.size g cap w v at_ wr) (fun _ at_ _ _ => l.length - (intOf at_).toNat)
    case atStart => exact ⟨0, l.length + 1, [], rfl, by omega, by simp, rfl, own2_nil _ _ _, by exact (Below.refl _ _).alloc (Nat.le_refl _) _, H0.out⟩
    case round =>
      obtain ⟨p, f, acc, rfl, hf, hac, hrd, hown, hbel, hrs⟩ := hrel
      obtain ⟨f', rfl⟩ : ∃ f', f = f' + 1 := ⟨f - 1, by omega⟩
      rw [reads_succ] at hrd
      have hp := hrs.2.2.1
      have HBL := jhid hbel
      have HOW := jhid hown
      have HRS := jhid hrs
      clear hbel hown hrs
      cases hn : num (l.drop p) 42 1 1024 with
      | wrong =>
        have hr : effect l p = .wrong := by unfold effect; rw [hn]
        rw [hr] at hrd
        have HW := jhid hrd.symm
        clear hrd hr
        go_wp2_with fail
        refine (number (l.drop p) w.heap.size g p (cap - p) 42 1 1024 _ HRS.out.hR HRS.out.hF HRS.out.hl HRS.out.hcap HRS.out.hc HRS.out.hb (by omega) (by omega) (by omega)).mono ?_
        intro e w' hpo
        rw [hn] at hpo
        obtain ⟨rfl, hww⟩ := hpo
        obtain rfl := hww.symm
        clear hn hww
        go_wp2_with fail
        rw [Exit.noGoto_ret]
        go_ret3
        exact rd_none HL.out HW.out (by exact HBL.out)
      | ends =>
        have hr : effect l p = .ends := by unfold effect; rw [hn]
        rw [hr] at hrd
        have HW := jhid hrd.symm
        clear hrd hr
        go_wp2_with fail
        refine (number (l.drop p) w.heap.size g p (cap - p) 42 1 1024 _ HRS.out.hR HRS.out.hF HRS.out.hl HRS.out.hcap HRS.out.hc HRS.out.hb (by omega) (by omega) (by omega)).mono ?_
        intro e w' hpo
        rw [hn] at hpo
        obtain ⟨rfl, hww⟩ := hpo
        obtain rfl := hww.symm
        clear hn hww
        go_wp2_with fail
        rw [Exit.noGoto_ret]
        go_ret3
        exact rd_some HL.out HW.out (by exact own2_base HOW.out (by omega)) (by exact HBL.out)
      | whole v0 k1 =>
        have hv := num_len (by omega) hn
        rw [List.length_drop] at hv
        obtain ⟨c0, rfl⟩ := Int.eq_ofNat_of_zero_le hv.2.2.1
        have hr : effect l p = words l c0 0 (p + k1) [] := by unfold effect; rw [hn]; exact rfl
        have HE := jhid hr
        have HRD := jhid hrd
        clear hrd hr
        go_wp2_with fail
        refine (number (l.drop p) w.heap.size g p (cap - p) 42 1 1024 _ HRS.out.hR HRS.out.hF HRS.out.hl HRS.out.hcap HRS.out.hc HRS.out.hb (by omega) (by omega) (by omega)).mono ?_
        intro e w' hpo
        rw [hn] at hpo
        obtain ⟨rfl, hww⟩ := hpo
        have hrs1 : RS w' w.heap.size g cap (p + k1) l := by rw [hww]; exact HRS.out.next (by omega)
        have hkept : Kept (· ≠ w.heap.size) wr w' := by rw [hww]; exact (Kept.refl _ _).setCell (fun _ h => h rfl) _
        have hsz : w'.heap.size = wr.heap.size := by rw [hww]; simp [World.setCell]
        have hbel1 : Below w.heap.size w w' := HBL.out.trans (hkept.below HBL.out.size (fun k h => by omega))
        have hown1 : Own2 w' (w.heap.size + 1) wr.heap.size u5 (acc.map strs) := own2_kept HOW.out hkept (fun k h _ => by omega)
        have HRS1 := jhid hrs1
        have HBL1 := jhid hbel1
        have HOW1 := jhid hown1
        have HSZ := jhid hsz
        have hL0 : w.heap.size + 1 ≤ wr.heap.size := by have := HRS.out.size; omega
        clear hn hww hrs1 hkept hbel1 hown1 hsz
        obtain ⟨L0, hL0e⟩ : ∃ L0, L0 = wr.heap.size := ⟨_, rfl⟩
        have HL0 := jhid hL0e
        clear hL0e
        go_wp2_with fail
        go_loopw [28, 10, 11] (fun i by_ x wi => PIn l w.heap.size g cap L0 p c0 w u5 acc i by_ x wi) (fun i _ _ _ => c0 - (intOf i).toNat)
        case atStart => exact ⟨0, p + k1, 0, [], rfl, rfl, by omega, by omega, by omega, by rw [HE.out]; simp, rfl, ⟨World.ownsRow_nil _ _ _ _, by rw [HL0.out]; exact HOW1.out, HBL1.out, HRS1.out, by rw [HL0.out, HSZ.out]; exact Nat.le_refl _, by rw [HL0.out]; exact hL0, rfl⟩⟩
        case round =>
          obtain ⟨q, p', m, wacc, rfl, rfl, hq, hm0, hm1, hw, hwl, hpw⟩ := hrel
          have hp' := hpw.2.2.2.1.2.2.1
          have HPW := jhid hpw
          have HWL := jhid hwl
          clear hpw hwl
          by_cases hlt : q < c0
          · obtain ⟨d, hd⟩ : ∃ d, c0 - q = d + 1 := ⟨c0 - q - 1, by omega⟩
            rw [hd, words_succ] at hw
            have hlt' : (q : Int) < (c0 : Int) := by omega
            have HD := jhid hd
            clear hd
            cases hr : num (l.drop p') 36 0 (min 1048576 (4194304 - m)) with
            | wrong =>
              rw [hr] at hw
              have HW : Hid (effect l p = .wrong) := hw.symm
              clear hw
              have hmin : (4194304 - m < 1048576 ∧ min 1048576 (4194304 - m) = 4194304 - m) ∨ (m = 3145728 ∧ min 1048576 (4194304 - m) = 1048576) ∨ (1048576 < 4194304 - m ∧ min 1048576 (4194304 - m) = 1048576) := by omega
              rcases hmin with ⟨hmin, he⟩ | ⟨rfl, he⟩ | ⟨hmin, he⟩
              all_goals
                rw [he] at hr
                clear he
                go_wp2_with fail
                refine (number (l.drop p') w.heap.size g p' (cap - p') 36 0 _ _ HPW.out.2.2.2.1.hR HPW.out.2.2.2.1.hF HPW.out.2.2.2.1.hl HPW.out.2.2.2.1.hcap HPW.out.2.2.2.1.hc HPW.out.2.2.2.1.hb (by omega) (by omega) (by omega)).mono ?_
                intro e w' hpo
                rw [hr] at hpo
                obtain ⟨rfl, hww⟩ := hpo
                obtain rfl := hww.symm
                clear hr hww
                go_wp2_with fail
                rw [Exit.noGoto_ret]
                go_ret3
                exact fin_none HL.out HRD.out HW.out HPW.out.2.2.1
            | ends =>
              rw [hr] at hw
              have HW : Hid (effect l p = .ends) := hw.symm
              clear hw
              have hmin : (4194304 - m < 1048576 ∧ min 1048576 (4194304 - m) = 4194304 - m) ∨ (m = 3145728 ∧ min 1048576 (4194304 - m) = 1048576) ∨ (1048576 < 4194304 - m ∧ min 1048576 (4194304 - m) = 1048576) := by omega
              rcases hmin with ⟨hmin, he⟩ | ⟨rfl, he⟩ | ⟨hmin, he⟩
              all_goals
                rw [he] at hr
                clear he
                go_wp2_with fail
                refine (number (l.drop p') w.heap.size g p' (cap - p') 36 0 _ _ HPW.out.2.2.2.1.hR HPW.out.2.2.2.1.hF HPW.out.2.2.2.1.hl HPW.out.2.2.2.1.hcap HPW.out.2.2.2.1.hc HPW.out.2.2.2.1.hb (by omega) (by omega) (by omega)).mono ?_
                intro e w' hpo
                rw [hr] at hpo
                obtain ⟨rfl, hww⟩ := hpo
                obtain rfl := hww.symm
                clear hr hww
                go_wp2_with fail
                rw [Exit.noGoto_ret]
                go_ret3
                exact fin_some HL.out HRD.out HW.out HPW.out
            | whole v k2 =>
              rw [hr] at hw
              have hv2 := num_len (by omega) hr
              rw [List.length_drop] at hv2
              obtain ⟨z, rfl⟩ := Int.eq_ofNat_of_zero_le hv2.2.2.1
              have hzm : (z : Int) ≤ 4194304 - m := by omega
              have hz1 : z ≤ 1048576 := by omega
              simp only [Int.toNat_natCast] at hw
              cases ht : text (l.drop (p' + k2)) z with
              | wrong =>
                simp only [ht] at hw
                have HW : Hid (effect l p = .wrong) := hw.symm
                clear hw
                have hmin : (4194304 - m < 1048576 ∧ min 1048576 (4194304 - m) = 4194304 - m) ∨ (m = 3145728 ∧ min 1048576 (4194304 - m) = 1048576) ∨ (1048576 < 4194304 - m ∧ min 1048576 (4194304 - m) = 1048576) := by omega
                rcases hmin with ⟨hmin, he⟩ | ⟨rfl, he⟩ | ⟨hmin, he⟩
                all_goals
                  rw [he] at hr
                  clear he
                  go_wp2_with fail
                  refine (number (l.drop p') w.heap.size g p' (cap - p') 36 0 _ _ HPW.out.2.2.2.1.hR HPW.out.2.2.2.1.hF HPW.out.2.2.2.1.hl HPW.out.2.2.2.1.hcap HPW.out.2.2.2.1.hc HPW.out.2.2.2.1.hb (by omega) (by omega) (by omega)).mono ?_
                  intro e w' hpo
                  rw [hr] at hpo
                  obtain ⟨rfl, hww⟩ := hpo
                  have hpw1 := HPW.out.set (c := k2) (by omega)
                  rw [← hww] at hpw1
                  have HP1 := jhid hpw1
                  clear hr hww hpw1
                  go_wp2_with fail
                  refine (textC (l.drop (p' + k2)) z w.heap.size g (p' + k2) (cap - (p' + k2)) _ HP1.out.2.2.2.1.hR HP1.out.2.2.2.1.hF HP1.out.2.2.2.1.hl HP1.out.2.2.2.1.hcap (by omega) HP1.out.2.2.2.1.hc HP1.out.2.2.2.1.hb).mono ?_
                  intro e w2 hpo
                  rw [ht] at hpo
                  obtain ⟨rfl, hww⟩ := hpo
                  have hpw2 := HP1.out.alloc (.cells #[.int .u8 13, .int .u8 10] 5 (2, 3))
                  rw [← hww] at hpw2
                  have HP2 := jhid hpw2
                  clear hww hpw2 ht
                  go_wp2_with fail
                  rw [Exit.noGoto_ret]
                  go_ret3
                  exact fin_none HL.out HRD.out HW.out HP2.out.2.2.1
              | ends =>
                simp only [ht] at hw
                have HW : Hid (effect l p = .ends) := hw.symm
                clear hw
                have hmin : (4194304 - m < 1048576 ∧ min 1048576 (4194304 - m) = 4194304 - m) ∨ (m = 3145728 ∧ min 1048576 (4194304 - m) = 1048576) ∨ (1048576 < 4194304 - m ∧ min 1048576 (4194304 - m) = 1048576) := by omega
                rcases hmin with ⟨hmin, he⟩ | ⟨rfl, he⟩ | ⟨hmin, he⟩
                all_goals
                  rw [he] at hr
                  clear he
                  go_wp2_with fail
                  refine (number (l.drop p') w.heap.size g p' (cap - p') 36 0 _ _ HPW.out.2.2.2.1.hR HPW.out.2.2.2.1.hF HPW.out.2.2.2.1.hl HPW.out.2.2.2.1.hcap HPW.out.2.2.2.1.hc HPW.out.2.2.2.1.hb (by omega) (by omega) (by omega)).mono ?_
                  intro e w' hpo
                  rw [hr] at hpo
                  obtain ⟨rfl, hww⟩ := hpo
                  have hpw1 := HPW.out.set (c := k2) (by omega)
                  rw [← hww] at hpw1
                  have HP1 := jhid hpw1
                  clear hr hww hpw1
                  go_wp2_with fail
                  refine (textC (l.drop (p' + k2)) z w.heap.size g (p' + k2) (cap - (p' + k2)) _ HP1.out.2.2.2.1.hR HP1.out.2.2.2.1.hF HP1.out.2.2.2.1.hl HP1.out.2.2.2.1.hcap (by omega) HP1.out.2.2.2.1.hc HP1.out.2.2.2.1.hb).mono ?_
                  intro e w2 hpo
                  rw [ht] at hpo
                  obtain ⟨rfl, hww⟩ := hpo
                  have hpw2 := HP1.out.alloc (.cells #[.int .u8 13, .int .u8 10] 5 (2, 3))
                  rw [← hww] at hpw2
                  have HP2 := jhid hpw2
                  clear hww hpw2 ht
                  go_wp2_with fail
                  rw [Exit.noGoto_ret]
                  go_ret3
                  exact fin_some HL.out HRD.out HW.out HP2.out
              | whole s k3 =>
                simp only [ht] at hw
                have htl := text_len ht
                rw [List.length_drop] at htl
                have HT := jhid hw
                clear hw
                obtain ⟨M, hM⟩ : ∃ M, M = m := ⟨_, rfl⟩
                have HM := jhid hM
                clear hM
                have hmin : (4194304 - m < 1048576 ∧ min 1048576 (4194304 - m) = 4194304 - m) ∨ (m = 3145728 ∧ min 1048576 (4194304 - m) = 1048576) ∨ (1048576 < 4194304 - m ∧ min 1048576 (4194304 - m) = 1048576) := by omega
                rcases hmin with ⟨hmin, he⟩ | ⟨rfl, he⟩ | ⟨hmin, he⟩
                all_goals
                  rw [he] at hr
                  clear he
                  go_wp2_with fail
                  refine (number (l.drop p') w.heap.size g p' (cap - p') 36 0 _ _ HPW.out.2.2.2.1.hR HPW.out.2.2.2.1.hF HPW.out.2.2.2.1.hl HPW.out.2.2.2.1.hcap HPW.out.2.2.2.1.hc HPW.out.2.2.2.1.hb (by omega) (by omega) (by omega)).mono ?_
                  intro e w' hpo
                  rw [hr] at hpo
                  obtain ⟨rfl, hww⟩ := hpo
                  have hpw1 := HPW.out.set (c := k2) (by omega)
                  rw [← hww] at hpw1
                  have HP1 := jhid hpw1
                  clear hr hww hpw1
                  go_wp2_with fail
                  refine (textC (l.drop (p' + k2)) z w.heap.size g (p' + k2) (cap - (p' + k2)) _ HP1.out.2.2.2.1.hR HP1.out.2.2.2.1.hF HP1.out.2.2.2.1.hl HP1.out.2.2.2.1.hcap (by omega) HP1.out.2.2.2.1.hc HP1.out.2.2.2.1.hb).mono ?_
                  intro e w2 hpo
                  rw [ht] at hpo
                  obtain ⟨rfl, hww⟩ := hpo
                  have hpw2 := (HP1.out.set (c := k3) (by omega)).alloc (.cells #[.int .u8 13, .int .u8 10] 5 (2, 3))
                  rw [← hww] at hpw2
                  have HP2 := jhid hpw2
                  clear hww hpw2 ht
                  obtain ⟨str, hstr⟩ : ∃ str, strOfNums s = str := ⟨_, rfl⟩
                  rw [hstr]
                  have HSTR := jhid hstr
                  clear hstr
                  have hsz2 : ∀ o, L0 ≤ (w2.alloc o).heap.size := by intro o; have := HP2.out.2.2.2.2.1; simp; omega
                  have HSZ2 := jhid hsz2
                  clear hsz2
                  go_wp2_with (at_builtin; refine wpList_app _ rfl _ _ 45 rfl L0 9 i9 _ 16 Try.underlying45 hi9 hz9 hs9 hb9 rfl _ q _ rfl (HP2.out.1.alloc _) _ 1 1 [.string str] rfl rfl (by decide) ?_ ?_ ?_ ?_ ?_ ?_; exact cells_new w2 [.string str] 9; exact one_str; (unfold maxLen; omega); omega; exact HSZ2.out _; intro g2 cap2 w1 ho1 hg1 hd1; have HO := jhid ho1; have HG := jhid hg1; clear ho1 hg1 hd1)
                  go_roundw
                  case rel => exact ⟨q + 1, p' + k2 + k3, _, wacc ++ [s], by go_num, rfl, by omega, by omega, by omega, by rw [show c0 - (q + 1) = d by have := HD.out; omega]; exact HT.out, by rw [List.length_append, HWL.out]; rfl, by
                    have h9 := HO.out
                    rw [← HSTR.out] at h9
                    have h8 := HP2.out.app h9 HG.out
                    rw [HSTR.out] at h9
                    exact h8⟩
                  case measure => first | (simp [intOf]; done) | (simp [intOf]; omega)
          · have hqc : q = c0 := by omega
            have hge : (c0 : Int) ≤ (q : Int) := by omega
            have he : effect l p = .whole wacc p' := by
              rw [show c0 - q = 0 by omega] at hw
              exact hw.symm
            have hel := effect_len hp he
            have HEW := jhid he
            clear hw he
            obtain ⟨xs, h1, h2, h3, h4⟩ := HPW.out.2.1
            obtain ⟨ax, cx, hx, _, _, _⟩ := own_form HPW.out.1
            have hox := HPW.out.1
            rw [hx] at hox
            rw [hx]
            rw [List.length_map] at h1
            have hsz2 : ∀ o, w.heap.size + 1 ≤ (wr.alloc o).heap.size := by intro o; have h8 := HPW.out.2.2.2.2.1; have h9 := HPW.out.2.2.2.2.2.1; simp; omega
            have hacl : acc.length ≤ 16777216 := by omega
            obtain ⟨N, hN⟩ : ∃ N, (l.drop p').length = N := ⟨_, rfl⟩
            have hNl : N + p' = l.length := by rw [← hN, List.length_drop]; omega
            have H1 := jhid h1
            have H2 := jhid h2
            have H3 := jhid h3
            have H4 := jhid h4
            have HSZ2 := jhid hsz2
            have HOX := jhid hox
            have HN := jhid hN
            have HNL := jhid hNl
            have hNle : (N : Int) ≤ (l.length : Int) := by omega
            have HX := jhid hx
            clear h1 h2 h3 h4 hsz2 hox hN hNl hx hqc
            go_wp2_with (at_builtin; refine wpList_app _ rfl _ _ 35 rfl (w.heap.size + 1) 45 i45 _ 24 Try.underlying35 hi45 hz45 hs45 hb45 rfl _ acc.length _ rfl (H1.out.alloc _) _ 1 1 [.slice ax q cx] rfl rfl (by decide) ?_ ?_ ?_ ?_ ?_ ?_; exact cells_new wr [.slice ax q cx] 45; exact one_slice; (unfold maxLen; omega); omega; exact HSZ2.out _; intro g2 cap2 w1 ho1 hg1 hd1; have hR1 := after_out HPW.out H1.out hg1 HN.out; have HO := jhid ho1; have HG := jhid hg1; clear ho1 hg1 hd1)
            go_roundw
            case rel => exact ⟨p', f', acc ++ [wacc], congrArg (Value.int IntKind.i64) (by have := HNL.out; omega), by omega, by simp; omega, by have h9 := HRD.out; rw [HEW.out] at h9; exact h9, rr_own (L := L0) HPW.out.2.2.2.2.2.1 H1.out H2.out H3.out H4.out (by rw [show (strs wacc).length = q by rw [strs, List.length_map]; exact HWL.out]; exact HOX.out) HO.out HG.out rfl HPW.out.2.2.2.2.1, pw_below HPW.out H1.out HG.out, HPW.out.rs H1.out HG.out⟩
            case measure => first | (simp [intOf]; done) | (simp [intOf]; have := HNL.out; omega)
end Go.Proofs.Ythhjnjghlmaicaa.jr
