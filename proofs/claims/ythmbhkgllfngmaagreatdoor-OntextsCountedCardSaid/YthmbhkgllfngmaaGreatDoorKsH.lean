/- ontexts: the frame of a command; less. -/
import Derived.Test.YthmbhkgllfngmaaGreatDoorKsA
import Derived.RangeFuncNested
import Derived.RangeFuncBound
import Derived.RangeFuncCalls
import Derived.RangeFuncLeaves
import Derived.Test.YthmbhkgllfngmaaGreatDoorKsG
import Derived.Test.YthmbhkgllfngmaaGreatDoorKsD
import Derived.Deep.RegionHeld3
import Derived.Deep.AppendLies
import Derived.Test.YthmbhkgllfngmaaGreatDoorShelf
import Derived.StillTailTactics
import Derived.Shelf.Abstract
/- A range over a function whose rounds all go on: what is the caller's own, what is not. -/
namespace Go.Proofs.YthmbhkgllfngmaaGreatDoor.ks
open Go.ChangeShapes Go.WideShapes Go.RowKit
set_option linter.unusedVariables false
set_option linter.unusedSimpArgs false

/-- What is so named is as it was. -/
structure KP (G : Nat → Prop) (w w' : World) : Prop where
  os : w'.os = w.os
  tape : w'.tape = w.tape
  output : w'.output = w.output
  size : w.heap.size ≤ w'.heap.size
  block : ∀ k, k < w.heap.size → G k → w'.heap[k]? = w.heap[k]?
namespace KP
variable {G H : Nat → Prop} {a b c w w' : World}
theorem refl (G : Nat → Prop) (w : World) : KP G w w := ⟨rfl, rfl, rfl, Nat.le_refl _, fun _ _ _ => rfl⟩
theorem trans (h : KP G a b) (k : KP G b c) : KP G a c := ⟨k.os.trans h.os, k.tape.trans h.tape, k.output.trans h.output, Nat.le_trans h.size k.size, fun i hi hs => (k.block i (Nat.lt_of_lt_of_le hi h.size) hs).trans (h.block i hi hs)⟩
theorem mono (h : KP G a b) (hT : ∀ k, k < a.heap.size → H k → G k) : KP H a b := ⟨h.os, h.tape, h.output, h.size, fun i hi ht => h.block i hi (hT i hi ht)⟩
theorem then_ (h : KP G a b) (k : KP H b c) (hT : ∀ k, k < a.heap.size → G k → H k) : KP G a c :=
  ⟨k.os.trans h.os, k.tape.trans h.tape, k.output.trans h.output, Nat.le_trans h.size k.size, fun i hi hs => (k.block i (Nat.lt_of_lt_of_le hi h.size) (hT i hi hs)).trans (h.block i hi hs)⟩
theorem alloc (h : KP G a b) (o : Obj) : KP G a (b.alloc o) := h.trans ⟨rfl, rfl, rfl, by simp, fun k hk _ => Below.heap_alloc _ _ _ hk⟩
theorem drew (h : KP G a b) : KP G a b.drew := ⟨h.os, h.tape, h.output, h.size, h.block⟩
theorem drewN (h : KP G a b) (n : Nat) : KP G a (b.drewN n) := ⟨h.os, h.tape, h.output, h.size, h.block⟩
theorem putObj (h : KP G a b) {l : Nat} (hl : ¬ (l < a.heap.size ∧ G l)) (o : Obj) : KP G a (b.putObj l o) :=
  ⟨h.os, h.tape, h.output, by simpa using h.size, fun k hk hs => (World.putObj_heap_other (fun e => hl (by subst e; exact ⟨hk, hs⟩))).trans (h.block k hk hs)⟩
theorem setCell (h : KP G a b) {p : Addr} (hp : ¬ (p.block < a.heap.size ∧ G p.block)) (u : Value) : KP G a (b.setCell p u) :=
  ⟨h.os, h.tape, h.output, by simpa [World.setCell] using h.size, fun k hk hs => (Below.heap_setCell _ _ _ _ (fun e => hp (by rw [← e]; exact ⟨hk, hs⟩))).trans (h.block k hk hs)⟩
theorem grown {row : Option Nat} (h : KP G a b) (hg : b.grownBy c row) (hr : ∀ k, row = some k → ¬ (k < a.heap.size ∧ G k)) : KP G a c :=
  ⟨hg.os.trans h.os, hg.tape.trans h.tape, hg.output.trans h.output, Nat.le_trans h.size hg.size, fun k hk hs => (hg.block k (Nat.lt_of_lt_of_le hk h.size) (fun e => hr k e.symm ⟨hk, hs⟩)).trans (h.block k hk hs)⟩
theorem ofKeeps {bs : List Nat} (h : Keeps bs a b) (hG : ∀ k, k < a.heap.size → G k → k ∉ bs) : KP G a b := ⟨h.os, h.tape, h.output, h.size, fun k hk hs => h.block k hk (hG k hk hs)⟩
theorem keeps {bs : List Nat} (h : KP G a b) (hG : ∀ k, k < a.heap.size → k ∉ bs → G k) : Keeps bs a b := ⟨h.os, h.tape, h.output, h.size, fun k hk hs => h.block k hk (hG k hk hs)⟩
end KP

abbrev Blks := Nat → Prop
/-- The caller's invariant: what has come, the blocks that it relies on, the blocks that its rounds write; it abides what leaves its blocks alone. -/
def Abides {α : Type} (J : List α → Blks → Blks → World → Prop) : Prop := ∀ pre G H A B, J pre G H A → KP G A B → J pre G H B
/-- An iterator that hands out just these, one by one, whatever the rounds do with what is not its own (Rd). -/
def Gives {α : Type} (F : Fence) (n : Nat) (P : Program) (g : Nat) (lb : Array Value) (encs : α → Array Value) (xs : List α) (Rd : Blks) (W : World) : Prop :=
  ∀ (l : Nat) (J : List α → Blks → Blks → World → Prop) (G0 H0 : Blks), Abides J →
    (∀ pre x rest G H W1, xs = pre ++ x :: rest → J pre G H W1 → YieldAt F (n - 1) P l (encs x) W1 fun e W' => e = .returned (.bool true) ∧ ∃ G' H', J (pre ++ [x]) G' H' W' ∧
      (∀ b, G' b → G b ∨ W1.heap.size ≤ b) ∧ (∀ b, H' b → H b ∨ W1.heap.size ≤ b) ∧ KP (fun b => ¬ H b) W1 W') →
    J [] G0 H0 W → (∀ b, G0 b → b < W.heap.size) → (∀ b, H0 b → b < W.heap.size ∧ ¬ Rd b) →
    CallsIn F n P g (#[.func (.yield l) #[] #[]] ++ lb) W fun e W' => (∃ v, e = .returned v) ∧ ∃ G H, J xs G H W' ∧ (∀ b, H b → H0 b ∨ W.heap.size ≤ b) ∧ KP (fun b => ¬ H0 b) W W'

/-- How a round ends: off its end. -/
def goesOn {α : Type} (I : List α → Blks → Blks → World → Prop) (ys : List α) (G H : Blks) (W : World) : Exit → Act → World → Prop
  | .normal, _, W' => ∃ G' H', I ys G' H' W' ∧ (∀ b, G' b → G b ∨ W.heap.size ≤ b) ∧ (∀ b, H' b → H b ∨ W.heap.size ≤ b) ∧ KP (fun b => ¬ H b) W W'
  | _, _, _ => False

variable {F : Fence} {n : Nat} {P : Program}
theorem wpIn_range_all {α : Type} {g : Operand} {ps : Array Tmp} {assign body : Code} {Q : Exit → Act → World → Prop} {a : Act} {w : World}
    (hro : F.round = none) (h1 : 1 ≤ n) {gf : Nat} {lb : Array Value} (hg : a.eval g = .func (.func gf) #[] lb) (hFg : F.fn gf) (eg : ∀ args w, (callFunc gf args).run P w = .ok (.enter gf args) w)
    {encs : α → Array Value} {xs : List α} {Rd : Blks} (hseq : ∀ W, KP (fun _ => True) w W → Gives F (n - 1) P gf lb encs xs Rd W) (hps : ∀ x, (encs x).size = ps.size)
    (I : List α → Blks → Blks → World → Prop) (G0 H0 : Blks) (hI : Abides I) (h0 : I [] G0 H0 w) (hG0 : ∀ b, G0 b → b < w.heap.size) (hH0 : ∀ b, H0 b → b < w.heap.size ∧ ¬ Rd b)
    (a₁ : α → Act)
    (hassign : ∀ (l : Nat) (x : α) (W : World) (K : Act → World → Prop), K (a₁ x) W →
      assign.wpIn (F.inRound l) (n - 1 - 1) P (Exit.then K (fun _ _ _ => False)) { tmps := (ps.zip (encs x)).foldl (fun t (p, v) => t.setIfInBounds p v) a.tmps, defers := [] } W)
    (hbody : ∀ (l : Nat) (pre : List α) (x : α) (rest : List α) (G H : Blks) (W : World), xs = pre ++ x :: rest → I pre G H W → body.wpIn (F.inRound l) (n - 1 - 1) P (goesOn I (pre ++ [x]) G H W) (a₁ x) W)
    (hdone : ∀ (D : Nat) (G H : Blks) (W : World), w.heap.size ≤ D → I xs G H W → (∀ b, H b → H0 b ∨ w.heap.size ≤ b) → KP (fun b => ¬ H0 b) w W → W.heap[D]? = some (.deferred (some [])) → Q .normal { a with defers := { target := .collected D, args := #[] } :: a.defers } W) :
    (Code.rangeFunc g ps assign body).wpIn F n P Q a w := by
  refine wpIn_rangeFunc ?_
  intro fn hfn
  rw [hro]
  obtain ⟨rec, hrec⟩ : ∃ rec : LoopState → Option Code → Loop, rec = fun st pe => { state := st, pending := pe, fn, tmps := a.tmps, params := ps, assign, body, defers := w.heap.size } := ⟨_, rfl⟩
  obtain ⟨W1, hW1⟩ : ∃ W1, (w.alloc (.deferred (some []))).alloc (.loop (rec .ready none)) = W1 := ⟨_, rfl⟩
  have hL1 : W1.heap[w.heap.size + 1]? = some (.loop (rec .ready none)) := by
    rw [← hW1]; have := World.alloc_heap_new (w.alloc (.deferred (some []))) (.loop (rec .ready none)); rwa [World.size_alloc] at this
  have hK1 : W1.heap[w.heap.size]? = some (.deferred (some [])) := by
    rw [← hW1]; exact (Below.heap_alloc _ _ _ (by simp)).trans (World.alloc_heap_new w _)
  have hk1 : ∀ G, KP G w W1 := fun G => by rw [← hW1]; exact ((KP.refl G w).alloc _).alloc _
  have hz1 : W1.heap.size = w.heap.size + 2 := by rw [← hW1]; simp
  obtain ⟨L, hL⟩ : ∃ L, L = w.heap.size + 1 := ⟨_, rfl⟩
  obtain ⟨D, hD⟩ : ∃ D, D = w.heap.size := ⟨_, rfl⟩
  refine ⟨w.heap.size + 1, [{ target := .collected w.heap.size, args := #[] }], W1, { target := .fn (.func gf) lb, args := #[.func (.yield (w.heap.size + 1)) #[] #[]] }, W1, gf,
    #[.func (.yield (w.heap.size + 1)) #[] #[]] ++ lb, W1, ?_, ?_, ?_, ?_, fun _ => h1, ?_⟩
  · rw [← hW1, hrec]; exact run_enterLoop_outer _ _ _ _ _
  · simp only [resolve, hg]
    simp [go_sem]
  · intro f' hf'; simp [Target.leads] at hf'; subst hf'; exact hFg
  · simp [invoke, go_sem, eg]
  · rw [← hL] at hL1 ⊢
    rw [← hD] at hK1
    have hLD : L ≠ D := by omega
    refine (hseq W1 (hk1 _) L
      (fun pre G' H W => ∃ G : Blks, (∀ b, G' b ↔ G b ∨ b = L ∨ b = D) ∧ I pre G H W ∧ (¬ G L ∧ ¬ G D ∧ ¬ H L ∧ ¬ H D) ∧ W.heap[L]? = some (.loop (rec .ready none)) ∧ W.heap[D]? = some (.deferred (some [])))
      (fun b => G0 b ∨ b = L ∨ b = D) H0 ?_ ?_ ?_ ?_ ?_).mono ?_
    · rintro pre G' H A B ⟨G, hG, hi, hn, hl, hd⟩ hk
      exact ⟨G, hG, hI _ _ _ _ _ hi (hk.mono (fun b _ hb => (hG b).2 (.inl hb))), hn, (hk.block L (hlt hl) ((hG L).2 (.inr (.inl rfl)))).trans hl, (hk.block D (hlt hd) ((hG D).2 (.inr (.inr rfl)))).trans hd⟩
    · -- ONE ROUND
      rintro pre x rest G' H W hx ⟨G, hG, hi, ⟨n1, n2, n3, n4⟩, hl, hd⟩
      have hy := run_yield (P := P) (args := encs x) hl (by rw [hrec]; exact hps x)
      rw [hrec] at hy
      refine ⟨fn, _, assign, body, hy, roundIn_of_wpIn hfn (hassign _ x W _ ?_)⟩
      clear hy
      refine ⟨_, run_beginRound hl (by rw [hrec]), ?_⟩
      obtain ⟨W2, hW2⟩ : ∃ W2, W.putObj L (.loop { rec .ready none with state := .busy }) = W2 := ⟨_, rfl⟩
      rw [hW2]
      have hl2 : W2.heap[L]? = some (.loop { rec .ready none with state := .busy }) := by rw [← hW2]; exact World.putObj_heap_same (hlt hl)
      have hd2 : W2.heap[D]? = some (.deferred (some [])) := by rw [← hW2]; exact (World.putObj_heap_other hLD.symm).trans hd
      have hz2 : W2.heap.size = W.heap.size := by rw [← hW2]; simp
      have hi2 : I pre G H W2 := by rw [← hW2]; exact hI _ _ _ _ _ hi ((KP.refl _ _).putObj (fun h => n1 h.2) _)
      refine wpIn_mono (hbody _ pre x rest G H W2 hx hi2) ?_
      rintro e a3 W3 hp
      cases e with
      | normal =>
        obtain ⟨G3, H3, hi3, g3, h3, k3⟩ := hp
        have hl3 : W3.heap[L]? = some (.loop { rec .ready none with state := .busy }) := (k3.block L (hlt hl2) n3).trans hl2
        have hd3 : W3.heap[D]? = some (.deferred (some [])) := (k3.block D (hlt hd2) n4).trans hd2
        have hend := run_endRound (P := P) none hl3
        have hll : L < W2.heap.size := hlt hl2
        have hdl : D < W2.heap.size := hlt hd2
        have hnG : ¬ G3 L ∧ ¬ G3 D ∧ ¬ H3 L ∧ ¬ H3 D := by
          refine ⟨fun h => ?_, fun h => ?_, fun h => ?_, fun h => ?_⟩
          · rcases g3 L h with h | h; exact n1 h; omega
          · rcases g3 D h with h | h; exact n2 h; omega
          · rcases h3 L h with h | h; exact n3 h; omega
          · rcases h3 D h with h | h; exact n4 h; omega
        refine ⟨_, _, hend, rfl, (fun b => G3 b ∨ b = L ∨ b = D), H3, ⟨G3, fun b => Iff.rfl, hI _ _ _ _ _ hi3 ((KP.refl _ _).putObj (fun h => hnG.1 h.2) _), hnG, ?_, (World.putObj_heap_other hLD.symm).trans hd3⟩, ?_, ?_, ?_⟩
        · rw [World.putObj_heap_same (hlt hl3)]
          rw [hrec]; rfl
        · rintro b (hb | hb | hb)
          · rcases g3 b hb with h | h
            · exact .inl ((hG b).2 (.inl h))
            · right; omega
          · exact .inl ((hG b).2 (.inr (.inl hb)))
          · exact .inl ((hG b).2 (.inr (.inr hb)))
        · intro b hb
          rcases h3 b hb with h | h
          · exact .inl h
          · right; omega
        · refine ⟨k3.os.trans (by rw [← hW2]; rfl), k3.tape.trans (by rw [← hW2]; rfl), k3.output.trans (by rw [← hW2]; rfl), by have := k3.size; simp; omega, fun b hb hs => ?_⟩
          by_cases hbl : b = L
          · subst hbl
            rw [World.putObj_heap_same (hlt hl3), hl, hrec]; rfl
          · rw [World.putObj_heap_other hbl, k3.block b (by omega) hs, ← hW2, World.putObj_heap_other hbl]
      | ret => exact hp.elim
      | exit id => exact hp.elim
      | goto t => exact hp.elim
      | panic ch => exact hp.elim
      | outgrown => exact hp.elim
    · exact ⟨G0, fun b => Iff.rfl, hI _ _ _ _ _ h0 (hk1 _), ⟨fun h => by have := hG0 _ h; omega, fun h => by have := hG0 _ h; omega, fun h => by have := (hH0 _ h).1; omega, fun h => by have := (hH0 _ h).1; omega⟩, hL1, hK1⟩
    · rintro b (hb | hb | hb)
      · have := hG0 b hb; omega
      · omega
      · omega
    · exact fun b hb => ⟨by have := (hH0 b hb).1; omega, (hH0 b hb).2⟩
    · rintro e W2 ⟨⟨v, rfl⟩, G', H, ⟨G, hG, hi, ⟨n1, n2, n3, n4⟩, hl, hd⟩, hH, hk⟩
      have hend := run_endLoop (P := P) hl (by rw [hrec]; simp)
      rw [hrec] at hend
      refine ⟨none, _, hend, ?_⟩
      rw [← hD]
      refine hdone D G H _ (by omega) (hI _ _ _ _ _ hi ((KP.refl _ _).putObj (fun h => n1 h.2) _)) (fun b hb => ?_) ?_ ((World.putObj_heap_other hLD.symm).trans hd)
      · rcases hH b hb with h | h
        · exact .inl h
        · right; omega
      · exact ((hk1 _).then_ hk (fun b _ h => h)).putObj (fun h => by omega) _
end Go.Proofs.YthmbhkgllfngmaaGreatDoor.ks
/- ontexts: what is asked between commands; a command in memory; effects; tells, fails, bulk, size. -/
namespace Go.Proofs.YthmbhkgllfngmaaGreatDoor.ks
open Go.ChangeShapes Go.WideShapes Go.RowKit
set_option linter.unusedVariables false
set_option linter.unusedSimpArgs false
/-- A space in memory between commands, with room for so many steps. -/
structure At (w : World) (sp : Nat) (S : SS) (n : Nat) : Prop where
  mem : MemIs w sp S
  inv : S.Inv
  room : Room S n
  env : Env w
  lo : ∀ b ∈ foot S sp, 20 ≤ b
  hz : 20 ≤ w.heap.size
theorem Next.lo {sp : Nat} {w w' : World} {S S' : SS} (h : Next sp w S w' S') (hz : 20 ≤ w.heap.size) (hl : ∀ b ∈ foot S sp, 20 ≤ b) : ∀ b ∈ foot S' sp, 20 ≤ b := fun b hb => by
  rcases h.b b hb with h1 | h1
  · exact hl b h1
  · omega
theorem At.next {w w' : World} {sp : Nat} {S S' : SS} {n m : Nat} (h : At w sp S n) (hn : Next sp w S w' S') (hm : MemIs w' sp S') (hi : S'.Inv) (hr : Room S' m) : At w' sp S' m :=
  ⟨hm, hi, hr, h.env.keeps hn.k h.lo h.hz, hn.lo h.hz h.lo, by have := hn.k.size; have := h.hz; omega⟩
theorem At.keeps {w w' : World} {sp : Nat} {S : SS} {n : Nat} {bs : List Nat} (h : At w sp S n) (hk : Keeps bs w w') (hb : ∀ b ∈ bs, b ∉ foot S sp ∧ 20 ≤ b) : At w' sp S n :=
  ⟨h.mem.keep (fun b hbf => hk.block b (h.mem.flt b hbf) (fun hm => (hb b hm).1 hbf)), h.inv, h.room, h.env.keeps hk (fun b hm => (hb b hm).2) h.hz, h.lo, by have := hk.size; have := h.hz; omega⟩
theorem At.keeps0 {w w' : World} {sp : Nat} {S : SS} {n : Nat} (h : At w sp S n) (hk : Keeps [] w w') : At w' sp S n := h.keeps hk (by simp)
theorem At.mono {w : World} {sp : Nat} {S : SS} {n m : Nat} (h : At w sp S n) (hm : m ≤ n) : At w sp S m := ⟨h.mem, h.inv, h.room.mono hm, h.env, h.lo, h.hz⟩
/-- A step of a space within a step that keeps all else. -/
theorem Next.after {sp : Nat} {w w1 w2 : World} {S S' : SS} (h : Keeps [] w w1) (h2 : Next sp w1 S w2 S') : Next sp w S w2 S' :=
  ⟨(h.mono (by simp)).trans h2.k, fun b hb => by
    rcases h2.b b hb with h1 | h1
    · exact .inl h1
    · right; have := h.size; omega⟩
/-- A row of texts that is a call's own. -/
def StrRow (N : Nat) (w : World) (v : Value) (ws : List ByteArray) : Prop := w.ownsRow N 9 1 v ws.length (ws.map Value.string)
/-- Effects: rows of texts. -/
def RowsAre (N : Nat) (w : World) : List Value → List (List ByteArray) → Prop
  | [], [] => True
  | x :: xs, l :: ls => StrRow N w x l ∧ RowsAre N w xs ls
  | _, _ => False
def EffAt (N : Nat) (w : World) (v : Value) (ls : List (List ByteArray)) : Prop := ∃ xs : List Value, w.ownsRow N 48 1 v xs.length xs ∧ RowsAre N w xs ls
def resV (k : Int) (t : ByteArray) (n : Int) (l eff : Value) : Value := .agg #[.int .i64 k, .string t, .int .i64 n, l, eff]
/-- A command under way. -/
def CmdIs (w : World) (cb sp : Nat) (wv : Value) (key text : ByteArray) (there : Bool) : Prop :=
  w.heap[cb]? = some (.cells #[dp sp, wv, .string key, .string text, .bool there] 84 (0, 0))
def bulkV (text : ByteArray) (there : Bool) : Value := if there then repV 4 text 0 else repV 5 ByteArray.empty 0
end Go.Proofs.YthmbhkgllfngmaaGreatDoor.ks
/- ontexts: tells, fails, bulk, size, did. -/
namespace Go.Proofs.YthmbhkgllfngmaaGreatDoor.ks
open Go.ChangeShapes Go.WideShapes Go.RowKit
set_option linter.unusedVariables false
set_option linter.unusedSimpArgs false
set_option maxHeartbeats 400000 in
theorem tellsC (k n : Int) (t : ByteArray) (a : Option Addr) (m c : Nat) (w : World) :
    Calls Tryz.prog 44 #[.agg #[.int .i64 k, .string t, .int .i64 n, .slice a m c]] w fun r w' => r = .returned (resV k t n (.slice a m c) (.slice none 0 0)) ∧ Keeps [] w w' := by
  go_enter Tryz.func44, Tryz.ntmps44
  go_wp2_with fail
  refine bodyPost_ret (v := resV k t n (.slice a m c) (.slice none 0 0)) (by simp [results, Tryz.results44, go_sem]; go_simp; try rfl) rfl ?_
  exact ⟨rfl, ((Keeps.refl _ _).alloc _).alloc _⟩
set_option maxHeartbeats 400000 in
theorem failsC (s : ByteArray) (w : World) (h : Env w) (hn : 20 ≤ w.heap.size) (hf : Flat s) :
    Calls Tryz.prog 49 #[.string s] w fun r w' => r = .returned (resV 2 s 0 (.slice none 0 0) (.slice none 0 0)) ∧ Keeps [] w w' := by
  have HF := khid hf
  have HE := khid h
  clear hf h
  go_enter Tryz.func49, Tryz.ntmps49
  go_wp2_with fail
  generalize hw0 : w.alloc _ = w0
  have k0 : Keeps [] w w0 := by rw [← hw0]; exact (Keeps.refl _ _).alloc _
  have h0 : w0.heap[w.heap.size]? = some (.cells #[.int .i64 0, .string ByteArray.empty, .int .i64 0, .slice none 0 0, .slice none 0 0] 51 (0, 0)) := by rw [← hw0]; exact alloc_new _ _
  have z0 : 20 ≤ w0.heap.size := by have := k0.size; omega
  have E0 := HE.out.keeps k0 (by simp) hn
  have K0 := khid k0
  have H0 := khid h0
  clear hw0 k0 h0
  refine (repErrC s _ E0 z0 HF.out).mono ?_
  rintro r w1 ⟨rfl, k1⟩
  have hx := k1.get H0.out (by simp)
  have K1 := khid (K0.out.trans k1)
  clear k1 E0
  have c0 : w1.cell? ⟨w.heap.size, 0, none⟩ = some (.int .i64 0) := by rw [cell_at hx]; rfl
  have c1 : w1.cell? ⟨w.heap.size, 1, none⟩ = some (.string ByteArray.empty) := by rw [cell_at hx]; rfl
  have c2 : w1.cell? ⟨w.heap.size, 2, none⟩ = some (.int .i64 0) := by rw [cell_at hx]; rfl
  have c3 : w1.cell? ⟨w.heap.size, 3, none⟩ = some (.slice none 0 0) := by rw [cell_at hx]; rfl
  have c4 : w1.cell? ⟨w.heap.size, 4, none⟩ = some (.slice none 0 0) := by rw [cell_at hx]; rfl
  have f0 : w1.frozen? ⟨w.heap.size, 0, none⟩ = false := free_at hx 0
  have f1 : w1.frozen? ⟨w.heap.size, 1, none⟩ = false := free_at hx 1
  have f2 : w1.frozen? ⟨w.heap.size, 2, none⟩ = false := free_at hx 2
  have f3 : w1.frozen? ⟨w.heap.size, 3, none⟩ = false := free_at hx 3
  have f4 : w1.frozen? ⟨w.heap.size, 4, none⟩ = false := free_at hx 4
  clear hx
  unfold repV
  go_wp2_with fail
  refine bodyPost_ret (v := resV 2 s 0 (.slice none 0 0) (.slice none 0 0)) (by simp [results, Tryz.results49, go_sem]; go_simp; try rfl) rfl ?_
  exact ⟨rfl, (((((K1.out).setCell (p := ⟨w.heap.size, 0, none⟩) (.inr (Nat.le_refl _)) _).setCell (p := ⟨w.heap.size, 1, none⟩) (.inr (Nat.le_refl _)) _).setCell (p := ⟨w.heap.size, 2, none⟩) (.inr (Nat.le_refl _)) _).setCell (p := ⟨w.heap.size, 3, none⟩) (.inr (Nat.le_refl _)) _).setCell (p := ⟨w.heap.size, 4, none⟩) (.inr (Nat.le_refl _)) _⟩
set_option maxHeartbeats 400000 in
theorem bulkC (cb sp : Nat) (wv : Value) (key text : ByteArray) (there : Bool) (w : World) (h : CmdIs w cb sp wv key text there) :
    Calls Tryz.prog 34 #[dp cb] w fun r w' => r = .returned (bulkV text there) ∧ Keeps [] w w' := by
  unfold CmdIs at h
  have c3 : w.cell? ⟨cb, 3, none⟩ = some (.string text) := by rw [cell_at h]; rfl
  have c4 : w.cell? ⟨cb, 4, none⟩ = some (.bool there) := by rw [cell_at h]; rfl
  have hlt := hlt h
  clear h
  unfold dp bulkV
  cases there with
  | true =>
    go_enter Tryz.func34, Tryz.ntmps34
    go_wp2_with fail
    generalize hw0 : w.alloc _ = w0
    have h0 : w0.heap[w.heap.size]? = some (.cells #[.int .i64 0, .string ByteArray.empty, .int .i64 0, .slice none 0 0] 28 (0, 0)) := by rw [← hw0]; exact alloc_new _ _
    have k0 : Keeps [] w w0 := by rw [← hw0]; exact (Keeps.refl _ _).alloc _
    have K0 := khid k0
    have H0 := khid h0
    clear hw0 k0 h0
    refine (repBulkC text _).mono ?_
    rintro r w1 ⟨rfl, k1⟩
    have hx := k1.get H0.out (by simp)
    have K1 := khid (K0.out.trans k1)
    clear k1
    have c0 : w1.cell? ⟨w.heap.size, 0, none⟩ = some (.int .i64 0) := by rw [cell_at hx]; rfl
    have c1 : w1.cell? ⟨w.heap.size, 1, none⟩ = some (.string ByteArray.empty) := by rw [cell_at hx]; rfl
    have c2 : w1.cell? ⟨w.heap.size, 2, none⟩ = some (.int .i64 0) := by rw [cell_at hx]; rfl
    have c3 : w1.cell? ⟨w.heap.size, 3, none⟩ = some (.slice none 0 0) := by rw [cell_at hx]; rfl
    have f0 : w1.frozen? ⟨w.heap.size, 0, none⟩ = false := free_at hx 0
    have f1 : w1.frozen? ⟨w.heap.size, 1, none⟩ = false := free_at hx 1
    have f2 : w1.frozen? ⟨w.heap.size, 2, none⟩ = false := free_at hx 2
    have f3 : w1.frozen? ⟨w.heap.size, 3, none⟩ = false := free_at hx 3
    clear hx
    unfold repV
    go_wp2_with fail
    refine bodyPost_ret (v := repV 4 text 0) (by simp [results, Tryz.results34, go_sem]; go_simp; try rfl) rfl ?_
    exact ⟨rfl, ((((K1.out).setCell (p := ⟨w.heap.size, 0, none⟩) (.inr (Nat.le_refl _)) _).setCell (p := ⟨w.heap.size, 1, none⟩) (.inr (Nat.le_refl _)) _).setCell (p := ⟨w.heap.size, 2, none⟩) (.inr (Nat.le_refl _)) _).setCell (p := ⟨w.heap.size, 3, none⟩) (.inr (Nat.le_refl _)) _⟩
  | false =>
    go_enter Tryz.func34, Tryz.ntmps34
    go_wp2_with fail
    generalize hw0 : w.alloc _ = w0
    have h0 : w0.heap[w.heap.size]? = some (.cells #[.int .i64 0, .string ByteArray.empty, .int .i64 0, .slice none 0 0] 28 (0, 0)) := by rw [← hw0]; exact alloc_new _ _
    have k0 : Keeps [] w w0 := by rw [← hw0]; exact (Keeps.refl _ _).alloc _
    have K0 := khid k0
    have H0 := khid h0
    clear hw0 k0 h0
    refine (repNullC _).mono ?_
    rintro r w1 ⟨rfl, k1⟩
    have hx := k1.get H0.out (by simp)
    have K1 := khid (K0.out.trans k1)
    clear k1
    have c0 : w1.cell? ⟨w.heap.size, 0, none⟩ = some (.int .i64 0) := by rw [cell_at hx]; rfl
    have c1 : w1.cell? ⟨w.heap.size, 1, none⟩ = some (.string ByteArray.empty) := by rw [cell_at hx]; rfl
    have c2 : w1.cell? ⟨w.heap.size, 2, none⟩ = some (.int .i64 0) := by rw [cell_at hx]; rfl
    have c3 : w1.cell? ⟨w.heap.size, 3, none⟩ = some (.slice none 0 0) := by rw [cell_at hx]; rfl
    have f0 : w1.frozen? ⟨w.heap.size, 0, none⟩ = false := free_at hx 0
    have f1 : w1.frozen? ⟨w.heap.size, 1, none⟩ = false := free_at hx 1
    have f2 : w1.frozen? ⟨w.heap.size, 2, none⟩ = false := free_at hx 2
    have f3 : w1.frozen? ⟨w.heap.size, 3, none⟩ = false := free_at hx 3
    clear hx
    unfold repV
    go_wp2_with fail
    refine bodyPost_ret (v := repV 5 ByteArray.empty 0) (by simp [results, Tryz.results34, go_sem]; go_simp; try rfl) rfl ?_
    exact ⟨rfl, ((((K1.out).setCell (p := ⟨w.heap.size, 0, none⟩) (.inr (Nat.le_refl _)) _).setCell (p := ⟨w.heap.size, 1, none⟩) (.inr (Nat.le_refl _)) _).setCell (p := ⟨w.heap.size, 2, none⟩) (.inr (Nat.le_refl _)) _).setCell (p := ⟨w.heap.size, 3, none⟩) (.inr (Nat.le_refl _)) _⟩
set_option maxHeartbeats 400000 in
theorem sizeC (s : ByteArray) (w : World) (hs : s.size ≤ 281474976710656) :
    Calls Tryz.prog 36 #[.string s] w fun r w' => r = .returned (repV 3 ByteArray.empty s.size) ∧ Keeps [] w w' := by
  go_enter Tryz.func36, Tryz.ntmps36
  go_wp2_with fail
  generalize hw0 : w.alloc _ = w0
  have h0 : w0.heap[w.heap.size]? = some (.cells #[.int .i64 0, .string ByteArray.empty, .int .i64 0, .slice none 0 0] 28 (0, 0)) := by rw [← hw0]; exact alloc_new _ _
  have k0 : Keeps [] w w0 := by rw [← hw0]; exact (Keeps.refl _ _).alloc _
  have K0 := khid k0
  have H0 := khid h0
  clear hw0 k0 h0
  refine (repIntC _ _).mono ?_
  rintro r w1 ⟨rfl, k1⟩
  have hx := k1.get H0.out (by simp)
  have K1 := khid (K0.out.trans k1)
  clear k1
  have c0 : w1.cell? ⟨w.heap.size, 0, none⟩ = some (.int .i64 0) := by rw [cell_at hx]; rfl
  have c1 : w1.cell? ⟨w.heap.size, 1, none⟩ = some (.string ByteArray.empty) := by rw [cell_at hx]; rfl
  have c2 : w1.cell? ⟨w.heap.size, 2, none⟩ = some (.int .i64 0) := by rw [cell_at hx]; rfl
  have c3 : w1.cell? ⟨w.heap.size, 3, none⟩ = some (.slice none 0 0) := by rw [cell_at hx]; rfl
  have f0 : w1.frozen? ⟨w.heap.size, 0, none⟩ = false := free_at hx 0
  have f1 : w1.frozen? ⟨w.heap.size, 1, none⟩ = false := free_at hx 1
  have f2 : w1.frozen? ⟨w.heap.size, 2, none⟩ = false := free_at hx 2
  have f3 : w1.frozen? ⟨w.heap.size, 3, none⟩ = false := free_at hx 3
  clear hx
  unfold repV
  go_wp2_with fail
  refine bodyPost_ret (v := repV 3 ByteArray.empty s.size) (by simp [results, Tryz.results36, go_sem]; go_simp; try rfl) rfl ?_
  exact ⟨rfl, ((((K1.out).setCell (p := ⟨w.heap.size, 0, none⟩) (.inr (Nat.le_refl _)) _).setCell (p := ⟨w.heap.size, 1, none⟩) (.inr (Nat.le_refl _)) _).setCell (p := ⟨w.heap.size, 2, none⟩) (.inr (Nat.le_refl _)) _).setCell (p := ⟨w.heap.size, 3, none⟩) (.inr (Nat.le_refl _)) _⟩
end Go.Proofs.YthmbhkgllfngmaaGreatDoor.ks
/- ontexts: did. -/
namespace Go.Proofs.YthmbhkgllfngmaaGreatDoor.ks
open Go.ChangeShapes Go.WideShapes Go.RowKit
set_option linter.unusedVariables false
set_option linter.unusedSimpArgs false
theorem cell_below {W w1 : World} (hb : Below W.heap.size W w1) {b o : Nat} {v : Value} (h : W.cell? ⟨b, o, none⟩ = some v) : w1.cell? ⟨b, o, none⟩ = some v :=
  (hb.cell (p := ⟨b, o, none⟩) (World.block_lt_of_cell? W _ h)).trans h
theorem free_below {W w1 : World} (hb : Below W.heap.size W w1) {b o : Nat} {v : Value} (hc : W.cell? ⟨b, o, none⟩ = some v) (h : W.frozen? ⟨b, o, none⟩ = false) : w1.frozen? ⟨b, o, none⟩ = false :=
  (hb.frozen (p := ⟨b, o, none⟩) (World.block_lt_of_cell? W _ hc)).trans h
theorem below_alloc1 (W : World) (x : Obj) : Below W.heap.size W (W.alloc x) := (Below.refl _ _).alloc (Nat.le_refl _) _
theorem cell_alloc1 {W : World} {x : Obj} {b o : Nat} {v : Value} (h : W.cell? ⟨b, o, none⟩ = some v) : (W.alloc x).cell? ⟨b, o, none⟩ = some v := cell_below (below_alloc1 W x) h
theorem free_alloc1 {W : World} {x : Obj} {b o : Nat} {v : Value} (hc : W.cell? ⟨b, o, none⟩ = some v) (h : W.frozen? ⟨b, o, none⟩ = false) : (W.alloc x).frozen? ⟨b, o, none⟩ = false := free_below (below_alloc1 W x) hc h
theorem cell_keep {w w' : World} {b o : Nat} {v : Value} (hl : b < w.heap.size) (k : Keeps [] w w') (h : w.cell? ⟨b, o, none⟩ = some v) : w'.cell? ⟨b, o, none⟩ = some v := by
  unfold World.cell? at h ⊢
  simp only [k.block b hl (by simp)]
  exact h
theorem words_keep {w w' : World} {wb off : Nat} {ws : List ByteArray} (h : WordsAt w wb off ws) (hk : w'.heap[wb]? = w.heap[wb]?) : WordsAt w' wb off ws := fun i s hi => by
  have h1 := h i s hi
  unfold World.cell? at h1 ⊢
  simp only [hk]
  exact h1
theorem words_lt {w : World} {wb off : Nat} {ws : List ByteArray} (h : WordsAt w wb off ws) (h0 : 0 < ws.length) : wb < w.heap.size :=
  World.block_lt_of_cell? w ⟨wb, off + 0, none⟩ (h 0 _ (List.getElem?_eq_getElem h0))
/-- slices.Clone of words. -/
theorem cloneC (ws : List ByteArray) (wb off cap : Nat) (w : World) (hn : ws.length ≤ 1048576) (hw : WordsAt w wb off ws) :
    Calls Tryz.prog 92 #[.slice (some ⟨wb, off, none⟩) ws.length cap] w fun r w' => ∃ g cp, r = .returned (.slice (some ⟨g, 0, none⟩) ws.length cp) ∧ StrRow w.heap.size w' (.slice (some ⟨g, 0, none⟩) ws.length cp) ws ∧ Below w.heap.size w w' := by
  refine (Tryz.slices_Clone_string wb off ws.length cap ws w (Nat.le_refl _) (by omega) (fun j hj => ?_)).mono ?_
  · exact hw j _ (by rw [List.getD_eq_getElem?_getD, List.getElem?_eq_getElem hj]; rfl)
  · rintro r w' ⟨v, rfl, hr, hne, hb⟩
    rw [List.take_length] at hr
    rcases hr.2 with ⟨rfl, _⟩ | ⟨g, cp, cur, rfl, _⟩
    · exact absurd rfl hne
    · exact ⟨g, cp, rfl, hr, hb⟩
theorem owns_mono {N M : Nat} {w : World} {e : TypeId} {size : Nat} {v : Value} {n : Nat} {xs : List Value} (hN : M ≤ N) (h : w.ownsRow N e size v n xs) : w.ownsRow M e size v n xs := by
  refine ⟨h.1, ?_⟩
  rcases h.2 with h2 | ⟨g, cap, cur, hv, hb, r⟩
  · exact .inl h2
  · exact .inr ⟨g, cap, cur, hv, Nat.le_trans hN hb, r⟩
theorem rows_mono {N M : Nat} {w : World} (hN : M ≤ N) : ∀ {xs : List Value} {ls : List (List ByteArray)}, RowsAre N w xs ls → RowsAre M w xs ls
  | [], [], _ => trivial
  | _ :: _, _ :: _, h => ⟨owns_mono hN h.1, rows_mono hN h.2⟩
  | [], _ :: _, h => h.elim
  | _ :: _, [], h => h.elim
theorem eff_mono {N M : Nat} {w : World} {v : Value} {ls : List (List ByteArray)} (hN : M ≤ N) (h : EffAt N w v ls) : EffAt M w v ls := by
  obtain ⟨xs, h1, h2⟩ := h
  exact ⟨xs, owns_mono hN h1, rows_mono hN h2⟩
/-- Effects of one row. -/
theorem eff_one {N B g cp b : Nat} {w1 W : World} {ws : List ByteArray} (hr : StrRow N w1 (.slice (some ⟨g, 0, none⟩) ws.length cp) ws) (hN : N ≤ w1.heap.size) (hb : b < N)
    (hz : W.heap.size = w1.heap.size) (hk : ∀ k, k ≠ b → W.heap[k]? = w1.heap[k]?) (hB : B = w1.heap.size) :
    EffAt N (W.alloc (.cells #[.slice (some ⟨g, 0, none⟩) ws.length cp] 48)) (.slice (some ⟨B, 0, none⟩) 1 1) [ws] := by
  subst hB
  have hl := (hr.lt g rfl)
  refine ⟨[.slice (some ⟨g, 0, none⟩) ws.length cp], ⟨rfl, .inr ⟨w1.heap.size, 1, #[.slice (some ⟨g, 0, none⟩) ws.length cp], rfl, hN, ?_, Nat.le_refl _, by unfold maxLen; omega, rfl, rfl⟩⟩, ?_, trivial⟩
  · rw [← hz]; exact alloc_new W _
  · refine row_keep hr (fun k hk2 => ?_)
    obtain rfl : g = k := by simpa [Value.ownBlock] using hk2
    rw [Below.heap_alloc _ _ _ (by omega), hk _ (by omega)]
theorem keeps_five {w w1 : World} {b : Nat} (h : Keeps [] w w1) (hb : w.heap.size ≤ b) (v0 v1 v2 v3 v4 : Value) :
    Keeps [] w (((((w1.setCell ⟨b, 0, none⟩ v0).setCell ⟨b, 1, none⟩ v1).setCell ⟨b, 2, none⟩ v2).setCell ⟨b, 3, none⟩ v3).setCell ⟨b, 4, none⟩ v4) :=
  ((((h.setCell (p := ⟨b, 0, none⟩) (.inr hb) _).setCell (p := ⟨b, 1, none⟩) (.inr hb) _).setCell (p := ⟨b, 2, none⟩) (.inr hb) _).setCell (p := ⟨b, 3, none⟩) (.inr hb) _).setCell (p := ⟨b, 4, none⟩) (.inr hb) _
theorem other_five (w1 : World) (b : Nat) (v0 v1 v2 v3 v4 : Value) :
    (((((w1.setCell ⟨b, 0, none⟩ v0).setCell ⟨b, 1, none⟩ v1).setCell ⟨b, 2, none⟩ v2).setCell ⟨b, 3, none⟩ v3).setCell ⟨b, 4, none⟩ v4).heap.size = w1.heap.size ∧
    ∀ k, k ≠ b → (((((w1.setCell ⟨b, 0, none⟩ v0).setCell ⟨b, 1, none⟩ v1).setCell ⟨b, 2, none⟩ v2).setCell ⟨b, 3, none⟩ v3).setCell ⟨b, 4, none⟩ v4).heap[k]? = w1.heap[k]? :=
  ⟨by simp [World.setCell], fun k hk => by rw [set_other _ hk, set_other _ hk, set_other _ hk, set_other _ hk, set_other _ hk]⟩
set_option maxRecDepth 8000 in
set_option maxHeartbeats 1600000 in
theorem didC (cb sp wb off cap : Nat) (ws : List ByteArray) (key text : ByteArray) (there : Bool) (k n : Int) (t : ByteArray) (a : Option Addr) (m c : Nat) (w : World)
    (h : CmdIs w cb sp (.slice (some ⟨wb, off, none⟩) ws.length cap) key text there) (hn : ws.length ≤ 1048576) (hw : WordsAt w wb off ws) (h0 : 0 < ws.length) :
    Calls Tryz.prog 48 #[dp cb, .agg #[.int .i64 k, .string t, .int .i64 n, .slice a m c]] w fun r w' => ∃ eff, r = .returned (resV k t n (.slice a m c) eff) ∧ EffAt w.heap.size w' eff [ws] ∧ Keeps [] w w' := by
  unfold CmdIs at h
  have hcb := hlt h
  have hwb := words_lt hw h0
  have c1 : w.cell? ⟨cb, 1, none⟩ = some (.slice (some ⟨wb, off, none⟩) ws.length cap) := by rw [cell_at h]; rfl
  have HCL := khid (fun (W : World) (hk : Keeps [] w W) => cloneC ws wb off cap W hn (words_keep hw (hk.block wb hwb (by simp))))
  clear h hw
  unfold dp
  go_enter Tryz.func48, Tryz.ntmps48
  go_wp2_with fail
  generalize hw0 : (w.alloc _).alloc _ = w0
  have k0 : Keeps [] w w0 := by rw [← hw0]; exact ((Keeps.refl _ _).alloc _).alloc _
  have hb1 : w0.heap[w.heap.size]? = some (.cells #[.int .i64 k, .string t, .int .i64 n, .slice a m c] 28 (0, 0)) := by rw [← hw0]; exact alloc_old _ (alloc_new _ _)
  have hb2 : w0.heap[w.heap.size + 1]? = some (.cells #[.int .i64 0, .string ByteArray.empty, .int .i64 0, .slice none 0 0, .slice none 0 0] 51 (0, 0)) := by rw [← hw0]; have := alloc_new (w.alloc (.cells #[.int .i64 k, .string t, .int .i64 n, .slice a m c] 28)) (.cells #[.int .i64 0, .string ByteArray.empty, .int .i64 0, .slice none 0 0, .slice none 0 0] 51); rwa [World.size_alloc] at this
  have hz0 : w.heap.size + 1 < w0.heap.size := hlt hb2
  have c1' : w0.cell? ⟨cb, 1, none⟩ = some (.slice (some ⟨wb, off, none⟩) ws.length cap) := cell_keep hcb k0 c1
  have a0 : w0.cell? ⟨w.heap.size, 0, none⟩ = some (.int .i64 k) := by rw [cell_at hb1]; rfl
  have a1 : w0.cell? ⟨w.heap.size, 1, none⟩ = some (.string t) := by rw [cell_at hb1]; rfl
  have a2 : w0.cell? ⟨w.heap.size, 2, none⟩ = some (.int .i64 n) := by rw [cell_at hb1]; rfl
  have a3 : w0.cell? ⟨w.heap.size, 3, none⟩ = some (.slice a m c) := by rw [cell_at hb1]; rfl
  have r0 : w0.cell? ⟨w.heap.size + 1, 0, none⟩ = some (.int .i64 0) := by rw [cell_at hb2]; rfl
  have r1 : w0.cell? ⟨w.heap.size + 1, 1, none⟩ = some (.string ByteArray.empty) := by rw [cell_at hb2]; rfl
  have r2 : w0.cell? ⟨w.heap.size + 1, 2, none⟩ = some (.int .i64 0) := by rw [cell_at hb2]; rfl
  have r3 : w0.cell? ⟨w.heap.size + 1, 3, none⟩ = some (.slice none 0 0) := by rw [cell_at hb2]; rfl
  have r4 : w0.cell? ⟨w.heap.size + 1, 4, none⟩ = some (.slice none 0 0) := by rw [cell_at hb2]; rfl
  have g0 : w0.frozen? ⟨w.heap.size + 1, 0, none⟩ = false := free_at hb2 0
  have g1 : w0.frozen? ⟨w.heap.size + 1, 1, none⟩ = false := free_at hb2 1
  have g2 : w0.frozen? ⟨w.heap.size + 1, 2, none⟩ = false := free_at hb2 2
  have g3 : w0.frozen? ⟨w.heap.size + 1, 3, none⟩ = false := free_at hb2 3
  have g4 : w0.frozen? ⟨w.heap.size + 1, 4, none⟩ = false := free_at hb2 4
  have HK0 := khid k0
  have HZ := khid hz0
  clear hw0 hb1 hb2 k0 c1 hz0
  go_region_with ((go_at_call 92; (with_reducible refine (HCL.out _ HK0.out.drew).mono ?_); rintro e w1 ⟨g, cp, rfl, hrow, hb⟩; have xa0 := cell_below hb a0; have xa1 := cell_below hb a1; have xa2 := cell_below hb a2; have xa3 := cell_below hb a3; have xr0 := cell_below hb r0; have xr1 := cell_below hb r1; have xr2 := cell_below hb r2; have xr3 := cell_below hb r3; have xr4 := cell_below hb r4; have xc1' := cell_below hb c1'; have xg0 := free_below hb r0 g0; have xg1 := free_below hb r1 g1; have xg2 := free_below hb r2 g2; have xg3 := free_below hb r3 g3; have xg4 := free_below hb r4 g4; have hz1 : w.heap.size + 1 < w1.heap.size := Nat.lt_of_lt_of_le HZ.out hb.size; have hz2 : w.heap.size < w1.heap.size := Nat.lt_of_succ_lt hz1; have HB := khid hb; have HR := khid hrow; clear hb hrow))
  all_goals
    go_wp2_with fail
    refine bodyPost_ret (v := resV k t n (.slice a m c) (.slice (some ⟨w1.heap.size, 0, none⟩) 1 1)) (by simp [results, Tryz.results48, go_sem]; go_simp; try rfl) rfl ?_
    have hN : w.heap.size + 2 ≤ w1.heap.size := by have := HZ.out; have := HB.out.size; have e : w0.drew.heap.size = w0.heap.size := rfl; omega
    refine ⟨_, rfl, ?_, (keeps_five (HK0.out.drew.trans (Keeps.ofBelow HB.out)) (Nat.le_succ _) _ _ _ _ _).alloc _⟩
    obtain ⟨e1, e2⟩ := other_five w1 (w.heap.size + 1) (.int .i64 k) (.string t) (.int .i64 n) (.slice a m c) (.slice (some ⟨w1.heap.size, 0, none⟩) 1 1)
    have h3 := eff_one (N := w0.drew.heap.size) HR.out (Nat.le_trans (Nat.le_refl _) HB.out.size) (by have := HZ.out; show w.heap.size + 1 < w0.heap.size; omega) e1 e2 rfl
    exact eff_mono (by have := HZ.out; show w.heap.size ≤ w0.heap.size; omega) h3
end Go.Proofs.YthmbhkgllfngmaaGreatDoor.ks
/- ontexts: look. -/
namespace Go.Proofs.YthmbhkgllfngmaaGreatDoor.ks
open Go.ChangeShapes Go.WideShapes Go.RowKit
set_option linter.unusedVariables false
set_option linter.unusedSimpArgs false
/-- A step of a space and of a command's own block. -/
structure NextC (cb sp : Nat) (w : World) (S : SS) (w' : World) (S' : SS) : Prop where
  k : Keeps (cb :: foot S sp) w w'
  b : ∀ b ∈ foot S' sp, b ∈ foot S sp ∨ w.heap.size ≤ b
theorem NextC.of {cb sp : Nat} {w w' : World} {S S' : SS} (h : Next sp w S w' S') : NextC cb sp w S w' S' := ⟨h.k.mono (fun b hb => List.mem_cons_of_mem _ hb), h.b⟩
theorem NextC.ofKeeps {cb sp : Nat} {w w' : World} {S : SS} (h : Keeps [cb] w w') : NextC cb sp w S w' S := ⟨h.mono (fun b hb => by simp at hb; subst hb; exact List.mem_cons_self ..), fun b hb => .inl hb⟩
theorem NextC.trans {cb sp : Nat} {w w1 w2 : World} {S S1 S2 : SS} (h : NextC cb sp w S w1 S1) (h2 : NextC cb sp w1 S1 w2 S2) : NextC cb sp w S w2 S2 :=
  ⟨h.k.step h2.k (fun b hb => by
    rcases List.mem_cons.1 hb with h3 | h3
    · exact .inl (h3 ▸ List.mem_cons_self ..)
    · rcases h.b b h3 with h4 | h4
      · exact .inl (List.mem_cons_of_mem _ h4)
      · exact .inr h4), fun b hb => by
    rcases h2.b b hb with h3 | h3
    · exact h.b b h3
    · right; have := h.k.size; omega⟩
theorem NextC.fresh {cb sp : Nat} {w w' : World} {S S' : SS} (h : NextC cb sp w S w' S') {b : Nat} (hb : b < w.heap.size) (hn : b ∉ foot S sp) : b ∉ foot S' sp := fun hm => by
  rcases h.b b hm with h1 | h1
  · exact hn h1
  · omega
theorem NextC.at_ {cb sp : Nat} {w w' : World} {S S' : SS} {n m : Nat} (h : NextC cb sp w S w' S') (ha : At w sp S n) (hcb : 20 ≤ cb) (hm : MemIs w' sp S') (hi : S'.Inv) (hr : Room S' m) : At w' sp S' m :=
  ⟨hm, hi, hr, ha.env.keeps h.k (fun b hb => by
    rcases List.mem_cons.1 hb with h1 | h1
    · omega
    · exact ha.lo b h1) ha.hz, fun b hb => by
    rcases h.b b hb with h1 | h1
    · exact ha.lo b h1
    · have := ha.hz; omega, by have := h.k.size; have := ha.hz; omega⟩
/-- What a met key holds as a text; whether it may be asked. -/
def lookT (S : SS) (o : Option Nat) : ByteArray := match o with | some b => ((S.ents b).val.txt).getD ByteArray.empty | none => ByteArray.empty
def lookOk (S : SS) (o : Option Nat) : Bool := match o with | some b => ((S.ents b).val.txt).isSome | none => true
theorem cmd_keep {w w' : World} {cb sp : Nat} {wv : Value} {key text : ByteArray} {there : Bool} (h : CmdIs w cb sp wv key text there) (hk : w'.heap[cb]? = w.heap[cb]?) : CmdIs w' cb sp wv key text there := hk.trans h
theorem cmd_cells {w : World} {cb sp : Nat} {wv : Value} {key text : ByteArray} {there : Bool} (h : CmdIs w cb sp wv key text there) :
    w.cell? ⟨cb, 0, none⟩ = some (dp sp) ∧ w.cell? ⟨cb, 1, none⟩ = some wv ∧ w.cell? ⟨cb, 2, none⟩ = some (.string key) ∧ w.cell? ⟨cb, 3, none⟩ = some (.string text) ∧ w.cell? ⟨cb, 4, none⟩ = some (.bool there) := by
  unfold CmdIs at h
  exact ⟨by rw [cell_at h]; rfl, by rw [cell_at h]; rfl, by rw [cell_at h]; rfl, by rw [cell_at h]; rfl, by rw [cell_at h]; rfl⟩
theorem cmd_free {w : World} {cb sp : Nat} {wv : Value} {key text : ByteArray} {there : Bool} (h : CmdIs w cb sp wv key text there) (i : Nat) : w.frozen? ⟨cb, i, none⟩ = false := by
  unfold CmdIs at h
  exact free_at h i
theorem cmd_set {w : World} {cb sp : Nat} {wv : Value} {key text k2 t2 : ByteArray} {there b2 : Bool} (h : CmdIs w cb sp wv key text there) :
    CmdIs (((w.setCell ⟨cb, 2, none⟩ (.string k2)).setCell ⟨cb, 4, none⟩ (.bool b2)).setCell ⟨cb, 3, none⟩ (.string t2)) cb sp wv k2 t2 b2 := by
  unfold CmdIs at h ⊢
  rw [set_same (set_same (set_same h 2 (.string k2)) 4 (.bool b2)) 3 (.string t2)]
  rfl
theorem cmd_set3 {w : World} {cb sp : Nat} {wv : Value} {key text t2 : ByteArray} {there : Bool} (h : CmdIs w cb sp wv key text there) : CmdIs (w.setCell ⟨cb, 3, none⟩ (.string t2)) cb sp wv key t2 there := by
  unfold CmdIs at h ⊢
  rw [set_same h 3 (.string t2)]
  rfl
theorem keeps_cmd {w1 : World} {cb : Nat} (k2 t2 : ByteArray) (b2 : Bool) : Keeps [cb] w1 (((w1.setCell ⟨cb, 2, none⟩ (.string k2)).setCell ⟨cb, 4, none⟩ (.bool b2)).setCell ⟨cb, 3, none⟩ (.string t2)) :=
  (((Keeps.refl _ w1).setCell (p := ⟨cb, 2, none⟩) (.inl (by simp)) _).setCell (p := ⟨cb, 4, none⟩) (.inl (by simp)) _).setCell (p := ⟨cb, 3, none⟩) (.inl (by simp)) _
/-- Where look ends. -/
theorem look_end {w w1 w2 : World} {cb sp : Nat} {S S1 : SS} {n : Nat} {k : ByteArray} {o : Option Nat} (ha : At w sp S (n + 1)) (hr : MetR S k S1 o) (m1 : MemIs w1 sp S1) (n1 : Next sp w S w1 S1) (hcb : cb < w.heap.size) (hcf : cb ∉ foot S sp) (hc20 : 20 ≤ cb)
    (hk : Keeps [cb] w1 w2) : At w2 sp S1 n ∧ NextC cb sp w S w2 S1 := by
  have hn : NextC cb sp w S w2 S1 := (NextC.of n1).trans (NextC.ofKeeps hk)
  have hf : cb ∉ foot S1 sp := (NextC.of (cb := cb) n1).fresh hcb hcf
  exact ⟨hn.at_ ha hc20 (m1.keep (fun b hb => hk.block b (m1.flt b hb) (by simp; rintro rfl; exact hf hb))) (met_facts ha.inv hr).inv (met_room ha.inv hr ha.room), hn⟩
set_option maxRecDepth 8000 in
set_option maxHeartbeats 1600000 in
theorem lookCmdC (cb sp : Nat) (wv : Value) (key text : ByteArray) (there : Bool) (S : SS) (n : Nat) (k : ByteArray) (w : World) (ha : At w sp S (n + 1)) (h : CmdIs w cb sp wv key text there) (hcf : cb ∉ foot S sp) (hc20 : 20 ≤ cb) (hk : k.size ≤ maxLen) :
    Calls Tryz.prog 43 #[dp cb, .string k] w fun r w' => ∃ S' o, r = .returned (.bool (lookOk S' o)) ∧ MetR S k S' o ∧ At w' sp S' n ∧ CmdIs w' cb sp wv k (lookT S' o) o.isSome ∧ NextC cb sp w S w' S' := by
  have HL := khid (lookC sp S k w ha.mem ha.inv hk (ha.room.mono (by omega)))
  have HA := khid ha
  have HC := khid h
  have hcb : cb < w.heap.size := by unfold CmdIs at h; exact hlt h
  have HF := khid hcf
  have c0 := (cmd_cells h).1
  clear ha h hk hcf
  unfold dp at c0 ⊢
  go_enter Tryz.func43, Tryz.ntmps43
  go_wp2_with fail
  refine HL.out.mono ?_
  rintro r w1 ⟨S1, o, rfl, hm, m1, n1⟩
  have HR := khid hm
  have h1 : CmdIs w1 cb sp wv key text there := cmd_keep HC.out (n1.k.block cb hcb HF.out)
  obtain ⟨d0, d1, d2, d3, d4⟩ := cmd_cells h1
  have f2 := cmd_free h1 2
  have f3 := cmd_free h1 3
  have f4 := cmd_free h1 4
  have N1 := khid n1
  have M1 := khid m1
  have H1 := khid h1
  clear hm m1 n1 h1 c0 d0 d1
  cases o with
  | none =>
    unfold lookV
    go_wp2_with fail
    go_ret
    obtain ⟨a1, a2⟩ := look_end HA.out HR.out M1.out N1.out hcb HF.out hc20 (keeps_cmd k ⟨#[]⟩ false)
    exact ⟨S1, none, rfl, HR.out, a1, cmd_set H1.out, a2⟩
  | some b =>
    obtain ⟨he, hb4⟩ := met_ent HA.out.inv HR.out M1.out
    obtain ⟨s, hv, hs, hc⟩ := he.v
    have hvb : (S1.ents b).vb ≠ cb := by
      intro e
      have hf : cb ∉ foot S1 sp := (NextC.of (cb := cb) N1.out).fresh hcb HF.out
      obtain ⟨x, hx, hxv⟩ := List.mem_map.1 hb4
      exact hf (mem_foot.2 ⟨5, List.mem_map.2 ⟨x, hx, by rw [hxv, e]⟩⟩)
    have HAT := khid (fun (W : World) (hk : W.heap[(S1.ents b).vb]? = w1.heap[(S1.ents b).vb]?) => asTextC (S1.ents b).vb (Val.text s) W ⟨s, rfl, hs, hk.trans hc⟩)
    have HT := khid (show lookT S1 (some b) = s by show ((S1.ents b).val.txt).getD ByteArray.empty = s; rw [hv]; rfl)
    have HO := khid (show lookOk S1 (some b) = true by show ((S1.ents b).val.txt).isSome = true; rw [hv]; rfl)
    have HV := khid hvb
    clear he hb4 hv hs hc hvb
    unfold lookV dp
    go_wp2_with fail
    refine (HAT.out _ ?_).mono ?_
    · rw [set_other _ HV.out, set_other _ HV.out, set_other _ HV.out]
    rintro r w' ⟨rfl, rfl⟩
    rw [show (Val.text s).asText = .tuple #[.string s, .bool true] from rfl]
    go_wp2_with fail
    go_ret
    obtain ⟨a1, a2⟩ := look_end HA.out HR.out M1.out N1.out hcb HF.out hc20 ((keeps_cmd k ⟨#[]⟩ true).setCell (p := ⟨cb, 3, none⟩) (.inl (by simp)) (.string s))
    refine ⟨S1, some b, by rw [HO.out]; rfl, HR.out, a1, ?_, a2⟩
    rw [HT.out]
    exact cmd_set3 (cmd_set H1.out)
end Go.Proofs.YthmbhkgllfngmaaGreatDoor.ks
/- ontexts: over. -/
namespace Go.Proofs.YthmbhkgllfngmaaGreatDoor.ks
open Go.ChangeShapes Go.WideShapes Go.RowKit
set_option linter.unusedVariables false
set_option linter.unusedSimpArgs false
/-- The deadline that a met key has. -/
def dlOf (S : SS) (o : Option Nat) : Int := match o with | some b => (S.ents b).dl | none => 0
def hasDl (d : Int) : Bool := decide (d ≠ 0)
theorem dlV_eq (S : SS) (o : Option Nat) : dlV S o = .tuple #[.int .i64 (dlOf S o), .bool (hasDl (dlOf S o))] := by
  unfold hasDl
  cases o with
  | none => rfl
  | some b =>
    unfold dlV dlOf
    simp only
    by_cases h : (S.ents b).dl = 0
    · rw [if_pos h]; simp [h]
    · rw [if_neg h]; simp [h]
/-- What over makes of a space. -/
def OverR (S : SS) (k t : ByteArray) (S' : SS) : Prop :=
  ∃ S1 o vb S2, MetR S k S1 o ∧ PutR S1 k vb (Val.text t) S2 ∧ ((dlOf S1 o = 0 ∧ S' = S2) ∨ (dlOf S1 o ≠ 0 ∧ ∃ r, DlR S2 k (dlOf S1 o) S' r))
theorem NextV.next {sp vb : Nat} {w0 w w' : World} {S S' : SS} (h : NextV sp vb w S w' S') (hk : Keeps [] w0 w) (hv : w0.heap.size ≤ vb) : Next sp w0 S w' S' :=
  ⟨(hk.mono (by simp)).step h.k (fun b hb => by
    rcases List.mem_cons.1 hb with h1 | h1
    · exact .inr (h1 ▸ hv)
    · exact .inl h1), fun b hb => by
    rcases h.b b hb with h1 | h1 | h1
    · exact .inl h1
    · right; have := hk.size; omega
    · right; omega⟩
theorem cell_far {w w' : World} {bs : List Nat} {b o : Nat} {v : Value} (k : Keeps bs w w') (hl : b < w.heap.size) (hn : b ∉ bs) (h : w.cell? ⟨b, o, none⟩ = some v) : w'.cell? ⟨b, o, none⟩ = some v := by
  unfold World.cell? at h ⊢
  simp only [k.block b hl hn]
  exact h
theorem dl_inv {S S' : SS} {k : ByteArray} {at_ : Int} {r : Bool} (inv : S.Inv) (h : DlR S k at_ S' r) : S'.Inv := by
  have := dl_facts inv h
  revert this
  cases S.al k with
  | none => exact fun h => h.1.inv
  | some p =>
    obtain ⟨v, d⟩ := p
    simp only
    split
    · exact fun h => h.1.inv
    · split <;> exact fun h => h.1.inv
/-- A text is put under a key. -/
theorem putTextC (sp : Nat) (S : SS) (n : Nat) (k t : ByteArray) (w : World) (ha : At w sp S (n + 2)) (hk : k.size ≤ 1048576) (ht : t.size ≤ 1048576) :
    Calls Tryz.prog 46 #[dp sp, .string k, dp w.heap.size] (w.alloc (textObj t)) fun r w' => ∃ S' vb, r = .returned (.int .i64 0) ∧ PutR S k vb (Val.text t) S' ∧ At w' sp S' n ∧ Next sp w S w' S' := by
  have hf : w.heap.size ∉ foot S sp := fun hm => by have := ha.mem.flt _ hm; omega
  have k0 : Keeps [] w (w.alloc (textObj t)) := (Keeps.refl _ _).alloc _
  refine (putC sp S k w.heap.size t _ (ha.keeps0 k0).mem ha.inv hk ⟨t, rfl, ht, alloc_new _ _⟩ ht hf (ha.room.mono (by omega))).mono ?_
  rintro r w' ⟨S', rfl, hp, hm, hn⟩
  have hn2 := hn.next k0 (Nat.le_refl _)
  exact ⟨S', _, rfl, hp, ha.next hn2 hm (put_facts ha.inv hp).inv (put_room ha.inv hp ha.room), hn2⟩
set_option maxRecDepth 8000 in
set_option maxHeartbeats 1600000 in
theorem overC (cb sp : Nat) (wv : Value) (key text : ByteArray) (there : Bool) (S : SS) (n : Nat) (t : ByteArray) (w : World) (ha : At w sp S (n + 5)) (h : CmdIs w cb sp wv key text there) (hcf : cb ∉ foot S sp) (hk : key.size ≤ 1048576) (ht : t.size ≤ 1048576) :
    Calls Tryz.prog 86 #[dp cb, .string t] w fun r w' => ∃ S', r = .returned (.tuple #[]) ∧ OverR S key t S' ∧ At w' sp S' n ∧ Next sp w S w' S' := by
  have hkm : key.size ≤ maxLen := by unfold maxLen; omega
  have hcb : cb < w.heap.size := by unfold CmdIs at h; exact hlt h
  have HA := khid ha
  have HC := khid h
  have HF := khid hcf
  have HD := khid (deadlineC sp S key w.drew (ha.keeps0 ((Keeps.refl _ w).drew)).mem ha.inv hkm (ha.room.mono (by omega)))
  obtain ⟨c0, _, c2, _⟩ := cmd_cells h
  clear ha h hcf
  unfold dp at c0 ⊢
  go_enter Tryz.func86, Tryz.ntmps86
  go_wp2_with fail
  go_region_held3 (fun W => W.cell? ⟨cb, 0, none⟩ = some (.pointer (some ⟨sp, 0, none⟩)) ∧ W.cell? ⟨cb, 2, none⟩ = some (.string key)) (first | (go_keep; done) | (go_split_ands; (try dsimp only); (repeat' apply And.intro) <;> first | (with_reducible exact cell_alloc1 (by assumption)) | (go_keep; done) | assumption))
    ((go_at_call 14; refine HD.out.mono ?_; rintro e w1 ⟨S1, o, rfl, hm, m1, n1⟩; rw [dlV_eq]; have x0 : w1.cell? ⟨cb, 0, none⟩ = some (.pointer (some ⟨sp, 0, none⟩)) := cell_far n1.k hcb HF.out c0; have x2 : w1.cell? ⟨cb, 2, none⟩ = some (.string key) := cell_far n1.k hcb HF.out c2))
  have n1 := Next.after ((Keeps.refl _ w).drew) n1
  have a1 : At w1 sp S1 (n + 4) := HA.out.next n1 m1 (met_facts HA.out.inv hm).inv (met_room HA.out.inv hm HA.out.room)
  have h1 : CmdIs w1 cb sp wv key text there := cmd_keep HC.out (n1.k.block cb hcb HF.out)
  have hf1 : cb ∉ foot S1 sp := (NextC.of (cb := cb) n1).fresh hcb HF.out
  have hcb1 : cb < w1.heap.size := by unfold CmdIs at h1; exact hlt h1
  obtain ⟨d0, _, d2, _⟩ := cmd_cells h1
  have HPT := khid (putTextC sp S1 (n + 2) key t w1.drew (a1.keeps0 ((Keeps.refl _ w1).drew)) hk ht)
  have HR := khid hm
  have N1 := khid n1
  have A1 := khid a1
  have H1 := khid h1
  have HF1 := khid hf1
  clear hm m1 n1 a1 h1 hf1 c0 c2
  obtain ⟨D, hD⟩ : ∃ D, D = dlOf S1 o := ⟨_, rfl⟩
  rw [← hD]
  have HDD := khid hD
  clear hD
  unfold dp at d0 HPT
  go_wp2_with fail
  go_region_held3 (fun W => W.cell? ⟨cb, 0, none⟩ = some (.pointer (some ⟨sp, 0, none⟩)) ∧ W.cell? ⟨cb, 2, none⟩ = some (.string key))
    (first | (go_keep; done) | (go_split_ands; (try dsimp only); (repeat' apply And.intro) <;> first | (with_reducible exact cell_alloc1 (by assumption)) | (go_keep; done) | assumption))
    (first | (go_at_call 47; refine (textC _ _).mono ?_; rintro e w9 ⟨rfl, rfl⟩; unfold dp) | (go_at_call 46; refine HPT.out.mono ?_; rintro e w2 ⟨S2, vb, rfl, hp, a2, n2⟩; have x0 : w2.cell? ⟨cb, 0, none⟩ = some (.pointer (some ⟨sp, 0, none⟩)) := cell_far n2.k hcb1 HF1.out d0; have x2 : w2.cell? ⟨cb, 2, none⟩ = some (.string key) := cell_far n2.k hcb1 HF1.out d2))
  have n2 := Next.after ((Keeps.refl _ w1).drew) n2
  have hf2 : cb ∉ foot S2 sp := (NextC.of (cb := cb) n2).fresh hcb1 HF1.out
  have hcb2 : cb < w2.heap.size := Nat.lt_of_lt_of_le hcb1 n2.k.size
  have HSD := khid (setDlC sp S2 key D w2.drew (a2.keeps0 ((Keeps.refl _ w2).drew)).mem a2.inv hkm (a2.room.mono (by omega)))
  have HP := khid hp
  have A2 := khid a2
  have N2 := khid n2
  have HF2 := khid hf2
  clear hp a2 n2 hf2 d0 d2 HPT
  by_cases h0 : D = 0
  · have hne : hasDl D = false := by unfold hasDl; simp [h0]
    have H0 := khid h0
    clear h0
    rw [hne]
    clear hne
    go_wp2_with fail
    go_end0
    exact ⟨S2, rfl, ⟨S1, o, vb, S2, HR.out, HP.out, .inl ⟨by rw [← HDD.out]; exact H0.out, rfl⟩⟩, A2.out.mono (by omega), N1.out.trans N2.out⟩
  · have hne : hasDl D = true := by unfold hasDl; simp [h0]
    have H0 := khid h0
    clear h0
    rw [hne]
    clear hne
    unfold dp at HSD
    go_wp2_with fail
    go_still_tail 9, (by kernel_rfl)
    go_wp2_with fail
    refine HSD.out.mono ?_
    rintro e w3 ⟨S3, bo, rfl, hd3, m3, n3⟩
    have n3 := Next.after ((Keeps.refl _ w2).drew) n3
    go_wp2_with fail
    go_end0
    refine ⟨S3, rfl, ⟨S1, o, vb, S2, HR.out, HP.out, .inr ⟨by rw [← HDD.out]; exact H0.out, bo, ?_⟩⟩, ?_, (N1.out.trans N2.out).trans n3⟩
    · rw [← HDD.out]; exact hd3
    · exact A2.out.next n3 m3 (dl_inv A2.out.inv hd3) (dl_room A2.out.inv hd3 A2.out.room)
end Go.Proofs.YthmbhkgllfngmaaGreatDoor.ks
/- ontexts: numbers. -/
namespace Go.Proofs.YthmbhkgllfngmaaGreatDoor.ks
open Go.ChangeShapes Go.WideShapes Go.RowKit
set_option linter.unusedVariables false
set_option linter.unusedSimpArgs false
/-- The words as whole numbers; none: one is none. -/
def numsOf : List ByteArray → Option (List Int)
  | [] => some []
  | s :: r => if (intV s).2 = 0 then (numsOf r).map ((intV s).1 :: ·) else none
theorem numsOf_snoc {l : List ByteArray} {s : ByteArray} {xs : List Int} (h : numsOf l = some xs) (hs : (intV s).2 = 0) : numsOf (l ++ [s]) = some (xs ++ [(intV s).1]) := by
  induction l generalizing xs with
  | nil =>
    simp [numsOf] at h
    subst h
    simp [numsOf, hs]
  | cons a r ih =>
    simp only [numsOf] at h
    by_cases ha : (intV a).2 = 0
    · rw [if_pos ha] at h
      cases hr : numsOf r with
      | none => rw [hr] at h; simp at h
      | some ys =>
        rw [hr] at h
        simp at h
        subst h
        rw [List.cons_append, numsOf, if_pos ha, ih hr]
        rfl
    · rw [if_neg ha] at h; cases h
theorem numsOf_bad {l r : List ByteArray} {s : ByteArray} (hs : (intV s).2 ≠ 0) : numsOf (l ++ s :: r) = none := by
  induction l with
  | nil => simp [numsOf, hs]
  | cons a l ih =>
    rw [List.cons_append, numsOf, ih]
    split <;> rfl
def intB (s : ByteArray) : Prop := -9223372036854775808 ≤ (intV s).1 ∧ (intV s).1 ≤ 9223372036854775807
theorem take_snoc_w {ws : List ByteArray} {frm j : Nat} {s : ByteArray} (h : ws[frm + j]? = some s) : (ws.drop frm).take (j + 1) = (ws.drop frm).take j ++ [s] ∧ ws.drop frm = (ws.drop frm).take j ++ s :: (ws.drop frm).drop (j + 1) := by
  have h1 : (ws.drop frm)[j]? = some s := by rw [List.getElem?_drop]; exact h
  obtain ⟨hl, he⟩ := List.getElem?_eq_some_iff.1 h1
  refine ⟨by rw [List.take_succ_eq_append_getElem hl, he], ?_⟩
  rw [← he, List.getElem_cons_drop, List.take_append_drop]
theorem info_i64 : (Tryz.prog.info? 2).map (fun i => (i.zero, i.size, i.bytes)) = some (some (.int .i64 0), 1, 8) := by kernel_rfl
/-- What numbers tells. -/
def NumPost (N : Nat) (o : Option (List Int)) (r : Ending) (w' : World) : Prop := match o with
  | some xs => ∃ v, r = .returned (.tuple #[v, .bool true]) ∧ w'.ownsRow N 2 1 v xs.length (xs.map (Value.int .i64))
  | none => r = .returned (.tuple #[.slice none 0 0, .bool false])
structure NumR (w wr : World) (ws : List ByteArray) (frm j : Nat) (v : Value) (xs : List Int) : Prop where
  k : Keeps [] w wr
  n : numsOf ((ws.drop frm).take j) = some xs
  l : xs.length = j
  o : wr.ownsRow w.heap.size 2 1 v xs.length (xs.map (Value.int .i64))
set_option maxRecDepth 8000 in
set_option maxHeartbeats 1600000 in
theorem numbersC (cb sp wb off cap : Nat) (ws : List ByteArray) (key text : ByteArray) (there : Bool) (frm : Nat) (w : World)
    (h : CmdIs w cb sp (.slice (some ⟨wb, off, none⟩) ws.length cap) key text there) (hw : WordsAt w wb off ws) (hn : ws.length ≤ 1048576) (hcap : ws.length ≤ cap ∧ cap ≤ maxLen) (hf : frm < ws.length) (hs : ∀ s ∈ ws, s.size ≤ 1048576) (he : Env w) (hz : 20 ≤ w.heap.size) :
    Calls Tryz.prog 77 #[dp cb, .int .i64 (frm : Int)] w fun r w' => NumPost w.heap.size (numsOf (ws.drop frm)) r w' ∧ Keeps [] w w' := by
  obtain ⟨i9, hi9, hz9, hs9, hb9⟩ := info_parts info_i64
  have hwb := words_lt hw (by omega)
  have HI := khid (fun (W : World) (hk : Keeps [] w W) (s : ByteArray) (hsz : s.size ≤ 1048576) => intC s W (he.keeps hk (by simp) hz) (by omega))
  have HW := khid (fun (W : World) (hk : Keeps [] w W) => words_keep hw (hk.block wb hwb (by simp)))
  have HS := khid hs
  obtain ⟨_, c1, _⟩ := cmd_cells h
  unfold maxLen at hcap
  obtain ⟨m, hm⟩ : ∃ m, m = ws.length - frm := ⟨_, rfl⟩
  have HM := khid hm
  generalize hln : ws.length = N at c1 hcap hf hn hm
  have HN := khid hln
  clear h hw he hs hln
  have hfc : frm ≠ cap := by omega
  have hfc2 : ¬ cap = frm := by omega
  have hfc3 : ¬ cap - frm = 0 := by omega
  have hfN : frm ≤ N := by omega
  have hfc4 : frm ≤ cap := by omega
  unfold dp
  go_enter Tryz.func77, Tryz.ntmps77
  go_wp2_with fail
  rw [← hm]
  clear hm
  go_loopw [6, 18] (fun l i wr => ∃ (j : Nat) (xs : List Int), i = .int .i64 (j : Int) ∧ j ≤ m ∧ Hid (NumR w wr ws frm j l xs)) (fun _ i _ => m - (intOf i).toNat)
  case atStart => exact ⟨0, [], rfl, Nat.zero_le _, khid ⟨Keeps.refl _ _, rfl, rfl, World.ownsRow_nil _ _ _ _⟩⟩
  case round =>
    obtain ⟨j, xs, rfl, hj, HR⟩ := hrel
    have hmN : m = N - frm := by rw [← HN.out]; exact HM.out
    have hmb : m ≤ 1048576 := by omega
    by_cases hlt2 : j < m
    · obtain ⟨s, hsj⟩ : ∃ s, ws[frm + j]? = some s := ⟨_, List.getElem?_eq_getElem (by rw [HN.out]; omega)⟩
      have hss := HS.out s (List.mem_of_getElem? hsj)
      have hcw := HW.out wr HR.out.k (frm + j) s hsj
      rw [← Nat.add_assoc] at hcw
      have HC := khid (HI.out wr HR.out.k s hss)
      obtain ⟨t1, t2⟩ := take_snoc_w hsj
      have HT1 := khid t1
      have HT2 := khid t2
      clear hsj t1 t2 c1
      by_cases hc : (intV s).2 = 0
      · have HCC := khid hc
        obtain ⟨q, hq⟩ : ∃ q, q = (intV s).1 := ⟨_, rfl⟩
        have HQ := khid hq
        have hrow := HR.out.o
        have HXL := khid (show xs.length + 1 ≤ maxLen by have := HR.out.l; unfold maxLen; omega)
        have HXL2 := khid (show (xs.length + 1) * 8 ≤ 140737488355328 by have := HR.out.l; omega)
        have HSZ := khid (show w.heap.size ≤ wr.heap.size from HR.out.k.size)
        rw [hc, ← hq] at HC
        clear hc hq hmN
        have HROW := khid hrow
        clear hrow
        go_wp2_with fail
        refine HC.out.mono ?_
        rintro r w1 ⟨rfl, k1⟩
        have HROW1 := khid (row_keep (w' := w1) HROW.out (fun b hb => k1.block b (HROW.out.lt b hb).2 (by simp)))
        have K1 := khid (HR.out.k.trans k1)
        have HSZ1 := khid (show w.heap.size ≤ w1.heap.size by have := K1.out.size; omega)
        have HC1 := khid (cells_new w1 [.int .i64 q] 2)
        have HC2 := khid (show ∀ u ∈ [Value.int .i64 q], u.oneCell' = true by intro u hu; simp at hu; rw [hu]; rfl)
        clear k1
        go_wp2_with (at_builtin; refine wpList_append_lies _ rfl _ _ 87 rfl w.heap.size 2 i9 (.int .i64 0) 1 8 Tryz.underlying87 hi9 hz9 hs9 hb9 rfl (by decide) u6 xs.length (xs.map (Value.int .i64)) rfl (HROW1.out.alloc _) ⟨w1.heap.size, 0, none⟩ 1 1 [.int .i64 q] rfl rfl HC1.out HC2.out (by decide) HXL.out HXL2.out (by have := HSZ1.out; simp; omega) (w1.heap.size + 1) (by simp) ?_; intro g cp w2 ho hg hgb hgl; have HO := khid ho; have HG := khid hg; have HGB := khid hgb; clear ho hg hgb hgl)
        go_roundw
        case rel =>
          refine ⟨j + 1, xs ++ [q], by go_num, by omega, khid ⟨?_, ?_, ?_, ?_⟩⟩
          · refine (K1.out.alloc _).grown HG.out (fun k hk => .inr ?_)
            exact (HROW1.out.lt k hk).1
          · rw [HT1.out, HQ.out]; exact numsOf_snoc HR.out.n HCC.out
          · rw [List.length_append, HR.out.l]; rfl
          · rw [List.length_append, List.map_append]; exact HO.out
        case measure => simp [intOf]; omega
      · have HB := khid (show numsOf (ws.drop frm) = none by rw [HT2.out]; exact numsOf_bad hc)
        have hne : ((intV s).2 == 0) = false := by simpa using hc
        have hne2 : ((intV s).2 != 0) = true := by simpa using hc
        clear hc hmN
        go_wp2_with fail
        refine HC.out.mono ?_
        rintro r w1 ⟨rfl, k1⟩
        have K1 := khid (HR.out.k.trans k1)
        clear k1
        go_wp2_with fail
        go_ret2
        exact ⟨by rw [HB.out]; rfl, K1.out⟩
    · have HE := khid (show numsOf (ws.drop frm) = some xs by
        rw [← HR.out.n, List.take_of_length_le]
        rw [List.length_drop, HN.out]; omega)
      have HL := khid (show xs.length = j from HR.out.l)
      clear hmN
      go_wp2_with fail
      go_ret2
      exact ⟨by rw [HE.out]; exact ⟨_, rfl, HR.out.o⟩, HR.out.k⟩
set_option maxRecDepth 8000 in
set_option maxHeartbeats 1600000 in
theorem numbers0C (cb sp wb off cap : Nat) (n : Nat) (key text : ByteArray) (there : Bool) (w : World)
    (h : CmdIs w cb sp (.slice (some ⟨wb, off, none⟩) n cap) key text there) (hn : n ≤ 1048576) (hcap : n ≤ cap ∧ cap ≤ maxLen) :
    Calls Tryz.prog 77 #[dp cb, .int .i64 (n : Int)] w fun r w' => r = .returned (.tuple #[.slice none 0 0, .bool true]) ∧ Keeps [] w w' := by
  obtain ⟨_, c1, _⟩ := cmd_cells h
  unfold maxLen at hcap
  obtain ⟨h1, h2⟩ := hcap
  clear h
  unfold dp
  by_cases hc : cap = n
  · subst hc
    go_enter Tryz.func77, Tryz.ntmps77
    go_wp2_with fail
    go_loop [6, 18] (fun l i => l = .slice none 0 0 ∧ i = .int .i64 0) (fun _ _ => 0)
    case atStart => exact ⟨rfl, rfl⟩
    case round =>
      obtain ⟨rfl, rfl⟩ := hrel
      go_wp2_with fail
      go_ret2
      exact ⟨rfl, Keeps.refl _ _⟩
  · have e1 : n ≠ cap := fun e => hc e.symm
    have e2 : ¬ cap - n = 0 := by omega
    go_enter Tryz.func77, Tryz.ntmps77
    go_wp2_with fail
    go_loop [6, 18] (fun l i => l = .slice none 0 0 ∧ i = .int .i64 0) (fun _ _ => 0)
    case atStart => exact ⟨rfl, rfl⟩
    case round =>
      obtain ⟨rfl, rfl⟩ := hrel
      go_wp2_with fail
      go_ret2
      exact ⟨rfl, Keeps.refl _ _⟩
end Go.Proofs.YthmbhkgllfngmaaGreatDoor.ks
/- ontexts: read. -/
namespace Go.Proofs.YthmbhkgllfngmaaGreatDoor.ks
open Go.ChangeShapes Go.WideShapes Go.RowKit
set_option linter.unusedVariables false
set_option linter.unusedSimpArgs false
theorem numsC (cb sp wb off cap : Nat) (ws : List ByteArray) (key text : ByteArray) (there : Bool) (frm : Nat) (w : World)
    (h : CmdIs w cb sp (.slice (some ⟨wb, off, none⟩) ws.length cap) key text there) (hw : WordsAt w wb off ws) (hn : ws.length ≤ 1048576) (hcap : ws.length ≤ cap ∧ cap ≤ maxLen) (hf : frm ≤ ws.length) (hs : ∀ s ∈ ws, s.size ≤ 1048576) (he : Env w) (hz : 20 ≤ w.heap.size) :
    Calls Tryz.prog 77 #[dp cb, .int .i64 (frm : Int)] w fun r w' => NumPost w.heap.size (numsOf (ws.drop frm)) r w' ∧ Keeps [] w w' := by
  by_cases hlt : frm < ws.length
  · exact numbersC cb sp wb off cap ws key text there frm w h hw hn hcap hlt hs he hz
  · obtain rfl : frm = ws.length := by omega
    refine (numbers0C cb sp wb off cap ws.length key text there w h hn hcap).mono ?_
    rintro r w' ⟨rfl, hk⟩
    refine ⟨?_, hk⟩
    rw [List.drop_length]
    exact ⟨_, rfl, World.ownsRow_nil _ _ _ _⟩
def txInt : ByteArray := ⟨#[69, 82, 82, 32, 116, 104, 105, 115, 32, 105, 115, 32, 110, 111, 32, 119, 104, 111, 108, 101, 32, 110, 117, 109, 98, 101, 114, 44, 32, 111, 114, 32, 105, 116, 32, 105, 115, 32, 111, 117, 116, 32, 111, 102, 32, 114, 97, 110, 103, 101]⟩
def txKind : ByteArray := ⟨#[87, 82, 79, 78, 71, 84, 89, 80, 69, 32, 116, 104, 101, 32, 107, 101, 121, 32, 104, 111, 108, 100, 115, 32, 97, 110, 111, 116, 104, 101, 114, 32, 107, 105, 110, 100, 32, 111, 102, 32, 118, 97, 108, 117, 101]⟩
theorem flat_int : Flat txInt := ⟨by decide +kernel, by decide +kernel, by decide +kernel, by decide +kernel⟩
theorem flat_kind : Flat txKind := ⟨by decide +kernel, by decide +kernel, by decide +kernel, by decide +kernel⟩
/-- What a command tells that met a key: of another kind, or not. -/
def okV (ok : Bool) (k n : Int) (t : ByteArray) : Value := if ok then resV k t n (.slice none 0 0) (.slice none 0 0) else resV 2 txKind 0 (.slice none 0 0) (.slice none 0 0)
/-- The words of a command in memory, apart from the space and the command's block. -/
structure Words (w : World) (sp cb wb off cap : Nat) (S : SS) (ws : List ByteArray) : Prop where
  at_ : WordsAt w wb off ws
  f : wb ∉ foot S sp
  c : wb ≠ cb
  n : 0 < ws.length ∧ ws.length ≤ 1024
  cap : ws.length ≤ cap ∧ cap ≤ maxLen
  s : ∀ s ∈ ws, s.size ≤ 1048576
  cf : cb ∉ foot S sp
  c20 : 20 ≤ cb
theorem Words.next {w w' : World} {sp cb wb off cap : Nat} {S S' : SS} {ws : List ByteArray} (h : Words w sp cb wb off cap S ws) (hn : NextC cb sp w S w' S') (hcb : cb < w.heap.size) : Words w' sp cb wb off cap S' ws :=
  ⟨words_keep h.at_ (hn.k.block wb (words_lt h.at_ h.n.1) (by simp; exact ⟨h.c, h.f⟩)), hn.fresh (words_lt h.at_ h.n.1) h.f, h.c, h.n, h.cap, h.s, hn.fresh hcb h.cf, h.c20⟩
theorem Words.keeps {w w' : World} {sp cb wb off cap : Nat} {S : SS} {ws : List ByteArray} (h : Words w sp cb wb off cap S ws) (hk : Keeps [] w w') : Words w' sp cb wb off cap S ws :=
  ⟨words_keep h.at_ (hk.block wb (words_lt h.at_ h.n.1) (by simp)), h.f, h.c, h.n, h.cap, h.s, h.cf, h.c20⟩
theorem cmd_lt {w : World} {cb sp : Nat} {wv : Value} {key text : ByteArray} {there : Bool} (h : CmdIs w cb sp wv key text there) : cb < w.heap.size := by unfold CmdIs at h; exact hlt h
theorem NextC.keeps0 {cb sp : Nat} {w w' : World} {S : SS} (h : Keeps [] w w') : NextC cb sp w S w' S := NextC.ofKeeps (h.mono (by simp))
def five (w : World) (b : Nat) (v0 v1 v2 v3 v4 : Value) : World := ((((w.setCell ⟨b, 0, none⟩ v0).setCell ⟨b, 1, none⟩ v1).setCell ⟨b, 2, none⟩ v2).setCell ⟨b, 3, none⟩ v3).setCell ⟨b, 4, none⟩ v4
/-- The result is stored into the call's own block. -/
theorem five_end {w w4 : World} {cb sp : Nat} {wv : Value} {key text : ByteArray} {there : Bool} {S S2 : SS} {n : Nat} (a : At w4 sp S2 n) (h : CmdIs w4 cb sp wv key text there) (hn : NextC cb sp w S w4 S2) {b : Nat} (hb : w.heap.size ≤ b) (hf : b ∉ foot S2 sp) (hz : 20 ≤ w.heap.size) (hcb : cb < w.heap.size) (v0 v1 v2 v3 v4 : Value) :
    At (five w4 b v0 v1 v2 v3 v4) sp S2 n ∧ CmdIs (five w4 b v0 v1 v2 v3 v4) cb sp wv key text there ∧ NextC cb sp w S (five w4 b v0 v1 v2 v3 v4) S2 := by
  have hk : Keeps [b] w4 (five w4 b v0 v1 v2 v3 v4) := (((((Keeps.refl _ w4).setCell (p := ⟨b, 0, none⟩) (.inl (by simp)) _).setCell (p := ⟨b, 1, none⟩) (.inl (by simp)) _).setCell (p := ⟨b, 2, none⟩) (.inl (by simp)) _).setCell (p := ⟨b, 3, none⟩) (.inl (by simp)) _).setCell (p := ⟨b, 4, none⟩) (.inl (by simp)) _
  refine ⟨a.keeps hk (fun c hc => by simp at hc; subst hc; exact ⟨hf, by omega⟩), cmd_keep h (hk.block cb (cmd_lt h) (by simp; omega)), ⟨hn.k.step hk (fun c hc => by simp at hc; subst hc; exact .inr hb), hn.b⟩⟩
theorem five_facts {w : World} {b : Nat} {t : TypeId} {v0 v1 v2 v3 v4 : Value} (h : w.heap[b]? = some (.cells #[v0, v1, v2, v3, v4] t (0, 0))) :
    (w.cell? ⟨b, 0, none⟩ = some v0 ∧ w.cell? ⟨b, 1, none⟩ = some v1 ∧ w.cell? ⟨b, 2, none⟩ = some v2 ∧ w.cell? ⟨b, 3, none⟩ = some v3 ∧ w.cell? ⟨b, 4, none⟩ = some v4) ∧
    (w.frozen? ⟨b, 0, none⟩ = false ∧ w.frozen? ⟨b, 1, none⟩ = false ∧ w.frozen? ⟨b, 2, none⟩ = false ∧ w.frozen? ⟨b, 3, none⟩ = false ∧ w.frozen? ⟨b, 4, none⟩ = false) :=
  ⟨⟨by rw [cell_at h]; rfl, by rw [cell_at h]; rfl, by rw [cell_at h]; rfl, by rw [cell_at h]; rfl, by rw [cell_at h]; rfl⟩, free_at h 0, free_at h 1, free_at h 2, free_at h 3, free_at h 4⟩
set_option maxRecDepth 8000 in
set_option maxHeartbeats 1600000 in
theorem readC (cb sp wb off cap : Nat) (ws : List ByteArray) (key text : ByteArray) (there : Bool) (S : SS) (n : Nat) (f : Nat) (lb : Array Value) (k : ByteArray) (w : World)
    (HE : ∀ args w, (callFunc f args).run Tryz.prog w = .ok (.enter f args) w)
    (ha : At w sp S (n + 1)) (h : CmdIs w cb sp (.slice (some ⟨wb, off, none⟩) ws.length cap) key text there) (hw : Words w sp cb wb off cap S ws) (hn : 2 ≤ ws.length) (h1 : ws[1]? = some k) (K : ByteArray → Bool → Int) (T : ByteArray → Bool → ByteArray) (V : ByteArray → Bool → Int) (xs : List Int) (hxs : numsOf (ws.drop 2) = some xs)
    (hask : ∀ (W : World) (S' : SS) (t : ByteArray) (b : Bool) (v : Value), At W sp S' n → CmdIs W cb sp (.slice (some ⟨wb, off, none⟩) ws.length cap) k t b → NextC cb sp w S W S' → W.ownsRow w.heap.size 2 1 v xs.length (xs.map (Value.int .i64)) →
      Calls Tryz.prog f (#[v] ++ lb) W fun r w' => r = .returned (repV (K t b) (T t b) (V t b)) ∧ Keeps [] W w') :
    Calls Tryz.prog 32 #[dp cb, .func (.func f) #[] lb] w fun r w' => ∃ S' o, r = .returned (okV (lookOk S' o) (K (lookT S' o) o.isSome) (V (lookT S' o) o.isSome) (T (lookT S' o) o.isSome)) ∧ MetR S k S' o ∧ At w' sp S' n ∧ CmdIs w' cb sp (.slice (some ⟨wb, off, none⟩) ws.length cap) k (lookT S' o) o.isSome ∧ NextC cb sp w S w' S' := by
  have hks : k.size ≤ maxLen := by have := hw.s k (List.mem_of_getElem? h1); unfold maxLen; omega
  have HNU := khid (fun (W : World) (hk : Keeps [] w W) => numsC cb sp wb off cap ws key text there 2 W (cmd_keep h (hk.block cb (cmd_lt h) (by simp))) (hw.keeps hk).at_ (by have := hw.n; omega) hw.cap hn hw.s (ha.keeps0 hk).env (by have := hk.size; have := ha.hz; omega))
  have HA := khid ha
  have HC := khid h
  have HW := khid hw
  have HASK := khid hask
  have HXS := khid hxs
  have H1 := khid h1
  have HKS := khid hks
  obtain ⟨hcap, hcap2⟩ := hw.cap
  unfold maxLen at hcap2
  clear ha h hw hask hxs h1 hks
  unfold dp
  go_enter Tryz.func32, Tryz.ntmps32
  go_wp2_with fail
  generalize hw0 : w.alloc _ = w0
  have h0 : w0.heap[w.heap.size]? = some (.cells #[.int .i64 0, .string ByteArray.empty, .int .i64 0, .slice none 0 0, .slice none 0 0] 51 (0, 0)) := by rw [← hw0]; exact alloc_new _ _
  have k0 : Keeps [] w w0 := by rw [← hw0]; exact (Keeps.refl _ _).alloc _
  have K0 := khid k0
  have H0 := khid h0
  clear hw0 k0 h0
  refine (HNU.out w0 K0.out).mono ?_
  rintro r w1 ⟨hnp, k1⟩
  rw [HXS.out] at hnp
  obtain ⟨v, rfl, hrow⟩ := hnp
  have K1 := khid (K0.out.trans k1)
  have HROW := khid hrow
  have HB1 := khid (k1.get H0.out (by simp))
  have a1 := HA.out.keeps0 K1.out
  have h1 := cmd_keep HC.out (K1.out.block cb (cmd_lt HC.out) (by simp))
  have w1s := HW.out.keeps K1.out
  have HL := khid (lookCmdC cb sp _ key text there S n k w1 a1 h1 w1s.cf w1s.c20 HKS.out)
  obtain ⟨_, d1, _⟩ := cmd_cells h1
  have e1 := w1s.at_ 1 k H1.out
  have H1W := khid h1
  clear a1 k1 h1 w1s hrow
  go_wp2_with fail
  refine HL.out.mono ?_
  rintro r w2 ⟨S2, o, rfl, hm, a2, h2, n2⟩
  have hcb := cmd_lt HC.out
  have hrb1 : w.heap.size < w1.heap.size := hlt HB1.out
  have hrf : w.heap.size ∉ foot S2 sp := n2.fresh hrb1 (fun hm2 => by have := HA.out.mem.flt _ hm2; omega)
  have hbl : w2.heap[w.heap.size]? = some _ := (n2.k.block _ hrb1 (by simp; exact ⟨by omega, fun hm2 => by have := HA.out.mem.flt _ hm2; omega⟩)).trans HB1.out
  have hrow2 := row_keep (w' := w2) HROW.out (fun b hb => n2.k.block b (HROW.out.lt b hb).2 (by
    have h3 := (HROW.out.lt b hb).1
    have h4 := K0.out.size
    simp
    exact ⟨by omega, fun hm2 => by have := HA.out.mem.flt _ hm2; omega⟩))
  have n02 : NextC cb sp w S w2 S2 := (NextC.keeps0 K1.out).trans n2
  have HQ := khid (HASK.out w2 S2 _ _ v a2 h2 n02 (owns_mono K0.out.size hrow2))
  have HM := khid hm
  have A2 := khid a2
  have H2 := khid h2
  have N2 := khid n02
  have HRF := khid hrf
  have HBL := khid hbl
  have HZ := khid HA.out.hz
  clear hm a2 h2 n2 n02 hrf hbl hrow2 d1 e1
  obtain ⟨ok, hok⟩ : ∃ ok, ok = lookOk S2 o := ⟨_, rfl⟩
  rw [← hok]
  have HOK := khid hok
  clear hok
  cases ok with
  | true =>
    go_wp2_with fail
    refine HQ.out.mono ?_
    rintro r w3 ⟨rfl, k3⟩
    have K3 := khid k3
    clear k3
    unfold repV
    go_wp2_with fail
    refine (tellsC _ _ _ _ _ _ _).mono ?_
    rintro r w4 ⟨rfl, k4⟩
    have K4 := khid (K3.out.trans k4)
    obtain ⟨⟨z0, z1, z2, z3, z4⟩, y0, y1, y2, y3, y4⟩ := five_facts (K4.out.get HBL.out (by simp))
    have a4 := A2.out.keeps0 K4.out
    have h4 := cmd_keep H2.out (K4.out.block cb (cmd_lt H2.out) (by simp))
    have n4 := N2.out.trans (NextC.keeps0 K4.out)
    have HE4 := khid (five_end a4 h4 n4 (Nat.le_refl _) HRF.out HZ.out hcb)
    clear k4 a4 h4 n4
    unfold resV
    go_wp2_with fail
    refine bodyPost_ret (v := resV (K (lookT S2 o) o.isSome) (T (lookT S2 o) o.isSome) (V (lookT S2 o) o.isSome) (.slice none 0 0) (.slice none 0 0)) (by simp [results, Tryz.results32, go_sem]; go_simp; try rfl) rfl ?_
    have hfin := HE4.out (.int .i64 (K (lookT S2 o) o.isSome)) (.string (T (lookT S2 o) o.isSome)) (.int .i64 (V (lookT S2 o) o.isSome)) (.slice none 0 0) (.slice none 0 0)
    unfold five at hfin
    exact ⟨S2, o, by rw [← HOK.out]; rfl, HM.out, hfin.1, hfin.2.1, hfin.2.2⟩
  | false =>
    have HFL := khid (failsC txKind w2 A2.out.env A2.out.hz flat_kind)
    unfold txKind at HFL
    go_wp2_with fail
    refine HFL.out.mono ?_
    rintro r w4 ⟨rfl, k4⟩
    have K4 := khid k4
    obtain ⟨⟨z0, z1, z2, z3, z4⟩, y0, y1, y2, y3, y4⟩ := five_facts (K4.out.get HBL.out (by simp))
    have a4 := A2.out.keeps0 K4.out
    have h4 := cmd_keep H2.out (K4.out.block cb (cmd_lt H2.out) (by simp))
    have n4 := N2.out.trans (NextC.keeps0 K4.out)
    have HE4 := khid (five_end a4 h4 n4 (Nat.le_refl _) HRF.out HZ.out hcb)
    clear k4 a4 h4 n4
    unfold resV
    go_wp2_with fail
    refine bodyPost_ret (v := resV 2 txKind 0 (.slice none 0 0) (.slice none 0 0)) (by simp [results, Tryz.results32, go_sem]; go_simp; try rfl) rfl ?_
    have hfin := HE4.out (.int .i64 2) (.string txKind) (.int .i64 0) (.slice none 0 0) (.slice none 0 0)
    unfold five txKind at hfin
    exact ⟨S2, o, by rw [← HOK.out]; rfl, HM.out, hfin.1, hfin.2.1, hfin.2.2⟩
end Go.Proofs.YthmbhkgllfngmaaGreatDoor.ks
/- ontexts: the frame of a command; less. -/
namespace Go.Proofs.YthmbhkgllfngmaaGreatDoor.ks
open Go.ChangeShapes Go.WideShapes Go.RowKit
set_option linter.unusedVariables false
set_option linter.unusedSimpArgs false
def zero5 : Array Value := #[.int .i64 0, .string ByteArray.empty, .int .i64 0, .slice none 0 0, .slice none 0 0]
/-- A command's function under way: it began in w, at the space S0; rb is its result's block. -/
structure Fr (w W : World) (cb sp wb off cap : Nat) (ws : List ByteArray) (key text : ByteArray) (there : Bool) (S0 S : SS) (n rb : Nat) : Prop where
  at_ : At W sp S n
  cmd : CmdIs W cb sp (.slice (some ⟨wb, off, none⟩) ws.length cap) key text there
  wd : Words W sp cb wb off cap S ws
  nx : NextC cb sp w S0 W S
  rf : rb ∉ foot S sp
  rl : w.heap.size ≤ rb
  rb_ : W.heap[rb]? = some (.cells zero5 51 (0, 0))
  cl : cb < w.heap.size
  hz : 20 ≤ w.heap.size
section
variable {w W W' : World} {cb sp wb off cap : Nat} {ws : List ByteArray} {key text : ByteArray} {there : Bool} {S0 S : SS} {n rb : Nat}
theorem Fr.start (ha : At w sp S n) (h : CmdIs w cb sp (.slice (some ⟨wb, off, none⟩) ws.length cap) key text there) (hw : Words w sp cb wb off cap S ws) :
    Fr w (w.alloc (.cells zero5 51)) cb sp wb off cap ws key text there S S n w.heap.size :=
  have k0 : Keeps [] w (w.alloc (.cells zero5 51)) := (Keeps.refl _ _).alloc _
  ⟨ha.keeps0 k0, cmd_keep h (k0.block cb (cmd_lt h) (by simp)), hw.keeps k0, NextC.keeps0 k0, fun hm => by have := ha.mem.flt _ hm; omega, Nat.le_refl _, alloc_new _ _, cmd_lt h, ha.hz⟩
theorem Fr.keeps (h : Fr w W cb sp wb off cap ws key text there S0 S n rb) (hk : Keeps [] W W') : Fr w W' cb sp wb off cap ws key text there S0 S n rb :=
  ⟨h.at_.keeps0 hk, cmd_keep h.cmd (hk.block cb (cmd_lt h.cmd) (by simp)), h.wd.keeps hk, h.nx.trans (NextC.keeps0 hk), h.rf, h.rl, hk.get h.rb_ (by simp), h.cl, h.hz⟩
theorem Fr.next {key2 text2 : ByteArray} {there2 : Bool} {S2 : SS} {m : Nat} (h : Fr w W cb sp wb off cap ws key text there S0 S n rb) (hn : NextC cb sp W S W' S2) (ha : At W' sp S2 m) (hc : CmdIs W' cb sp (.slice (some ⟨wb, off, none⟩) ws.length cap) key2 text2 there2) :
    Fr w W' cb sp wb off cap ws key2 text2 there2 S0 S2 m rb :=
  ⟨ha, hc, h.wd.next hn (cmd_lt h.cmd), h.nx.trans hn, hn.fresh (hlt h.rb_) h.rf, h.rl, (hn.k.block rb (hlt h.rb_) (by simp; exact ⟨by have := h.cl; have := h.rl; omega, h.rf⟩)).trans h.rb_, h.cl, h.hz⟩
/-- A step of the space that leaves the command's block alone. -/
theorem Fr.step {S2 : SS} {m : Nat} (h : Fr w W cb sp wb off cap ws key text there S0 S n rb) (hn : Next sp W S W' S2) (ha : At W' sp S2 m) : Fr w W' cb sp wb off cap ws key text there S0 S2 m rb :=
  h.next (NextC.of hn) ha (cmd_keep h.cmd (hn.k.block cb (cmd_lt h.cmd) h.wd.cf))
theorem Fr.fin (h : Fr w W cb sp wb off cap ws key text there S0 S n rb) (v0 v1 v2 v3 v4 : Value) :
    At (five W rb v0 v1 v2 v3 v4) sp S n ∧ CmdIs (five W rb v0 v1 v2 v3 v4) cb sp (.slice (some ⟨wb, off, none⟩) ws.length cap) key text there ∧ NextC cb sp w S0 (five W rb v0 v1 v2 v3 v4) S :=
  five_end h.at_ h.cmd h.nx h.rl h.rf h.hz h.cl v0 v1 v2 v3 v4
theorem Fr.res (h : Fr w W cb sp wb off cap ws key text there S0 S n rb) :
    (W.cell? ⟨rb, 0, none⟩ = some (.int .i64 0) ∧ W.cell? ⟨rb, 1, none⟩ = some (.string ByteArray.empty) ∧ W.cell? ⟨rb, 2, none⟩ = some (.int .i64 0) ∧ W.cell? ⟨rb, 3, none⟩ = some (.slice none 0 0) ∧ W.cell? ⟨rb, 4, none⟩ = some (.slice none 0 0)) ∧
    (W.frozen? ⟨rb, 0, none⟩ = false ∧ W.frozen? ⟨rb, 1, none⟩ = false ∧ W.frozen? ⟨rb, 2, none⟩ = false ∧ W.frozen? ⟨rb, 3, none⟩ = false ∧ W.frozen? ⟨rb, 4, none⟩ = false) := five_facts h.rb_
theorem rows_keep {N : Nat} {w w' : World} (hk : ∀ b, N ≤ b → b < w.heap.size → w'.heap[b]? = w.heap[b]?) : ∀ {xs : List Value} {ls : List (List ByteArray)}, RowsAre N w xs ls → RowsAre N w' xs ls
  | [], [], _ => trivial
  | _ :: _, _ :: _, h => ⟨row_keep h.1 (fun b hb => hk b (h.1.lt b hb).1 (h.1.lt b hb).2), rows_keep hk h.2⟩
  | [], _ :: _, h => h.elim
  | _ :: _, [], h => h.elim
theorem eff_keep {N : Nat} {w w' : World} {v : Value} {ls : List (List ByteArray)} (h : EffAt N w v ls) (hk : ∀ b, N ≤ b → b < w.heap.size → w'.heap[b]? = w.heap[b]?) : EffAt N w' v ls := by
  obtain ⟨xs, h1, h2⟩ := h
  exact ⟨xs, row_keep h1 (fun b hb => hk b (h1.lt b hb).1 (h1.lt b hb).2), rows_keep hk h2⟩
theorem five_other (W : World) (rb : Nat) (v0 v1 v2 v3 v4 : Value) {b : Nat} (h : b ≠ rb) : (five W rb v0 v1 v2 v3 v4).heap[b]? = W.heap[b]? := (other_five W rb v0 v1 v2 v3 v4).2 b h
theorem Fr.eff {N : Nat} {v v0 v1 v2 v3 v4 : Value} {ls : List (List ByteArray)} (h : EffAt N W v ls) (hr : rb < N) : EffAt N (five W rb v0 v1 v2 v3 v4) v ls :=
  eff_keep h (fun b hb _ => five_other W rb v0 v1 v2 v3 v4 (by omega))
end
/-- What less tells. -/
def lessV (a b : Int) : Int × Int := if b ≠ -9223372036854775808 then addV a (-b) else if 0 ≤ a then (0, 11) else (a - b, 0)
set_option maxHeartbeats 400000 in
theorem lessC (a b : Int) (w : World) (ha : -9223372036854775808 ≤ a ∧ a ≤ 9223372036854775807) (hb : -9223372036854775808 ≤ b ∧ b ≤ 9223372036854775807) :
    Calls Tryz.prog 60 #[.int .i64 a, .int .i64 b] w fun r w' => r = .returned (.tuple #[.int .i64 (lessV a b).1, .int .i64 (lessV a b).2]) ∧ w = w' := by
  by_cases h : b = -9223372036854775808
  · subst h
    by_cases h0 : 0 ≤ a
    · have HV := khid (show lessV a (-9223372036854775808) = (0, 11) by unfold lessV; rw [if_neg (by simp), if_pos h0])
      go_enter Tryz.func60, Tryz.ntmps60
      go_wp2_with fail
      go_ret2
      exact ⟨by rw [HV.out]; rfl, rfl⟩
    · have HV := khid (show lessV a (-9223372036854775808) = (a - -9223372036854775808, 0) by unfold lessV; rw [if_neg (by simp), if_neg h0])
      have hw : IntKind.i64.wrap (a - -9223372036854775808) = a - -9223372036854775808 := by rw [IntKind.wrap_i64]; omega
      go_enter Tryz.func60, Tryz.ntmps60
      go_wp2_with fail
      go_ret2
      exact ⟨by rw [HV.out]; rfl, rfl⟩
  · have HV := khid (show lessV a b = addV a (-b) by unfold lessV; rw [if_pos h])
    have hne : (b != -9223372036854775808) = true := by simpa using h
    have hw : IntKind.i64.wrap (-b) = -b := by rw [IntKind.wrap_i64]; omega
    have HA := khid (addC a (-b) w ha (by omega))
    clear h
    go_enter Tryz.func60, Tryz.ntmps60
    go_wp2_with fail
    refine HA.out.mono ?_
    rintro r w' ⟨rfl, rfl⟩
    go_wp2_with fail
    go_ret2
    exact ⟨by rw [HV.out]; rfl, rfl⟩
end Go.Proofs.YthmbhkgllfngmaaGreatDoor.ks
