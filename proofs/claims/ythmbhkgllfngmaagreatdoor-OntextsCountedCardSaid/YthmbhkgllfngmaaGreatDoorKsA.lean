/- A dict in memory: while a bucket is moved. -/
import Derived.Lib.Hide
import Derived.WalkKit
import Derived.Deep.QuietTactic
/- A dict as plain data: two tables of chains, and what its functions make of them; no program in sight. -/
namespace Go.Proofs.YthmbhkgllfngmaaGreatDoor.ks
set_option linter.unusedVariables false
set_option linter.unusedSimpArgs false

/-- An entry: its block, its key, what lies under it. -/
structure DE (α : Type) where
  b : Nat
  k : ByteArray
  v : α
abbrev Tab (α : Type) := List (List (DE α))

def hmul (h : Nat) (m : Nat) : Nat := (h * m) % 18446744073709551616
def hround (h : Nat) (b : UInt8) : Nat := hmul (h ^^^ b.toNat) 1099511628211
def hend (h : Nat) : Nat := (hmul (h ^^^ (h >>> 32)) 11400714819323198485) ^^^ ((hmul (h ^^^ (h >>> 32)) 11400714819323198485) >>> 29)
def hash (seed : Nat) (s : ByteArray) : Nat := hend (s.data.toList.foldl hround (14695981039346656037 ^^^ seed))
/-- The bucket of a key in a table of so many. -/
def slotOf (seed len : Nat) (k : ByteArray) : Nat := hash seed k &&& (len - 1)
theorem slotOf_lt {seed len : Nat} (h : 0 < len) (k : ByteArray) : slotOf seed len k < len := by
  have := Nat.and_le_right (n := hash seed k) (m := len - 1)
  unfold slotOf; omega

/-- 'at' is called cur. -/
structure DM (α : Type) where
  seed : Nat
  ob : Nat
  old : Tab α
  yb : Nat
  young : Tab α
  cur : Nat
  n : Nat

variable {α : Type}
def hang (seed : Nat) (t : Tab α) (e : DE α) : Tab α := t.modify (slotOf seed t.length e.k) (fun l => e :: l)
def skip (t : Tab α) : Nat → Nat → Nat
  | 0, i => i
  | f + 1, i => match t[i]? with
    | some [] => skip t f (i + 1)
    | _ => i
/-- The bucket that a step empties, behind those that it passes. -/
def DM.moved (D : DM α) : DM α :=
  match D.old[skip D.old 10 D.cur]? with
  | some (e :: l) => { D with old := D.old.set (skip D.old 10 D.cur) [], young := (e :: l).foldl (hang D.seed) D.young, cur := skip D.old 10 D.cur + 1 }
  | _ => { D with cur := skip D.old 10 D.cur }
def DM.turned (D : DM α) : DM α := if D.cur = D.old.length then { D with ob := D.yb, old := D.young, yb := 0, young := [], cur := 0 } else D
def DM.step (D : DM α) : DM α := if D.young = [] then D else D.moved.turned

def chainFind (l : List (DE α)) (k : ByteArray) : Option (DE α) := l.find? (fun e => decide (e.k = k))
def tabFind (seed : Nat) (t : Tab α) (k : ByteArray) : Option (DE α) := (t[slotOf seed t.length k]?).bind (fun l => chainFind l k)
def DM.find (D : DM α) (k : ByteArray) : Option (DE α) := (tabFind D.seed D.old k).or (tabFind D.seed D.young k)

def chainPut (l : List (DE α)) (k : ByteArray) (v : α) : List (DE α) :=
  match l with
  | [] => []
  | e :: r => if e.k = k then { e with v := v } :: r else e :: chainPut r k v
def chainDel (l : List (DE α)) (k : ByteArray) : List (DE α) :=
  match l with
  | [] => []
  | e :: r => if e.k = k then r else e :: chainDel r k
def tabPut (seed : Nat) (t : Tab α) (k : ByteArray) (v : α) : Tab α := t.modify (slotOf seed t.length k) (fun l => chainPut l k v)
def tabDel (seed : Nat) (t : Tab α) (k : ByteArray) : Tab α := t.modify (slotOf seed t.length k) (fun l => chainDel l k)

/-- The tables that a new key finds. -/
def DM.grown (D : DM α) (tb : Nat) : DM α :=
  if D.old = [] then { D with ob := tb, old := List.replicate 4 [] } else if D.young = [] ∧ D.old.length ≤ D.n then { D with yb := tb, young := List.replicate (2 * D.old.length) [] } else D
def DM.added (D : DM α) (e : DE α) : DM α :=
  if D.young = [] then { D with old := hang D.seed D.old e, n := D.n + 1 } else { D with young := hang D.seed D.young e, n := D.n + 1 }
/-- Set, behind its step: tb and nb are the blocks that it makes, if it makes them. -/
def DM.put (D : DM α) (k : ByteArray) (v : α) (tb nb : Nat) : DM α :=
  if (tabFind D.seed D.old k).isSome then { D with old := tabPut D.seed D.old k v }
  else if (tabFind D.seed D.young k).isSome then { D with young := tabPut D.seed D.young k v }
  else (D.grown tb).added ⟨nb, k, v⟩
def DM.set (D : DM α) (k : ByteArray) (v : α) (tb nb : Nat) : DM α := D.step.put k v tb nb
def DM.isNew (D : DM α) (k : ByteArray) : Bool := (D.step.find k).isNone

def shrunk (n : Nat) : Nat → Nat → Nat
  | 0, size => size
  | f + 1, size => if size < n then shrunk n f (2 * size) else size
def DM.shrink (D : DM α) (tb : Nat) : DM α :=
  if D.young = [] ∧ 4 < D.old.length ∧ 8 * D.n ≤ D.old.length then { D with yb := tb, young := List.replicate (shrunk D.n 64 4) [] } else D
def DM.drop (D : DM α) (k : ByteArray) (tb : Nat) : DM α :=
  if (tabFind D.seed D.old k).isSome then ({ D with old := tabDel D.seed D.old k, n := D.n - 1 } : DM α).shrink tb
  else if (tabFind D.seed D.young k).isSome then ({ D with young := tabDel D.seed D.young k, n := D.n - 1 } : DM α).shrink tb
  else D
def DM.del (D : DM α) (k : ByteArray) (tb : Nat) : DM α := D.step.drop k tb

def DM.new (seed : Nat) : DM α := ⟨seed, 0, [], 0, [], 0, 0⟩
/-- All entries, in the order of the tables. -/
def DM.all (D : DM α) : List (DE α) := D.old.flatten ++ D.young.flatten

/-! ### What holds of a table at every time -/
structure DM.WF (D : DM α) : Prop where
  keys : (D.all.map (fun e => e.k)).Nodup
  oslot : ∀ i l, D.old[i]? = some l → ∀ e ∈ l, slotOf D.seed D.old.length e.k = i
  yslot : ∀ i l, D.young[i]? = some l → ∀ e ∈ l, slotOf D.seed D.young.length e.k = i
  gone : ∀ i, i < D.cur → D.old[i]? = some []
  cur : D.young = [] → D.cur = 0
  none : D.old = [] → D.young = []
  n : D.n = D.all.length
  lt : D.young ≠ [] → D.cur < D.old.length

/-- What lies under a key. -/
def DM.look (D : DM α) (k : ByteArray) : Option α := (chainFind D.all k).map (·.v)

theorem chainFind_some {l : List (DE α)} {k : ByteArray} {e : DE α} (h : chainFind l k = some e) : e ∈ l ∧ e.k = k := by
  unfold chainFind at h
  exact ⟨List.mem_of_find?_eq_some h, by have := List.find?_some h; simpa using this⟩
theorem chainFind_none {l : List (DE α)} {k : ByteArray} (h : chainFind l k = none) : ∀ e ∈ l, e.k ≠ k := by
  unfold chainFind at h
  intro e he hk
  have := List.find?_eq_none.1 h e he
  simp [hk] at this
theorem chainFind_of {l : List (DE α)} {e : DE α} (hk : (l.map (fun e => e.k)).Nodup) (h : e ∈ l) : chainFind l e.k = some e := by
  induction l with
  | nil => simp at h
  | cons x r ih =>
    rw [List.map_cons, List.nodup_cons] at hk
    unfold chainFind
    rw [List.find?_cons]
    by_cases hx : x.k = e.k
    · rcases List.mem_cons.1 h with rfl | hr
      · simp
      · exact absurd (List.mem_map.2 ⟨e, hr, rfl⟩) (by have := hk.1; rw [hx] at this; exact this)
    · rw [show decide (x.k = e.k) = false by simpa using hx]
      rcases List.mem_cons.1 h with rfl | hr
      · exact absurd rfl hx
      · exact ih hk.2 hr
theorem chainFind_perm {l m : List (DE α)} (hp : l.Perm m) (hk : (l.map (fun e => e.k)).Nodup) (k : ByteArray) : chainFind l k = chainFind m k := by
  have hm : (m.map (fun e => e.k)).Nodup := (hp.map _).nodup hk
  cases h : chainFind l k with
  | none =>
    cases h2 : chainFind m k with
    | none => rfl
    | some e =>
      obtain ⟨he, rfl⟩ := chainFind_some h2
      exact absurd rfl (chainFind_none h e (hp.mem_iff.2 he))
  | some e =>
    obtain ⟨he, rfl⟩ := chainFind_some h
    exact (chainFind_of hm (hp.mem_iff.1 he)).symm
end Go.Proofs.YthmbhkgllfngmaaGreatDoor.ks
/- A dict as plain data: what a step, a set and a delete leave. -/
namespace Go.Proofs.YthmbhkgllfngmaaGreatDoor.ks
set_option linter.unusedVariables false
set_option linter.unusedSimpArgs false
variable {α : Type}

theorem flatten_split {β : Type} : ∀ (t : List (List β)) (i : Nat) (l : List β), t[i]? = some l → t.flatten.Perm (l ++ (t.eraseIdx i).flatten)
  | [], i, l, h => by simp at h
  | x :: r, 0, l, h => by simp at h; subst h; simp
  | x :: r, i + 1, l, h => by
    simp at h
    have := flatten_split r i l h
    simp only [List.flatten_cons, List.eraseIdx_cons_succ]
    refine (this.append_left x).trans ?_
    rw [← List.append_assoc, ← List.append_assoc]
    exact List.perm_append_comm.append_right _
theorem flatten_modify {β : Type} (f : List β → List β) (t : List (List β)) (i : Nat) (l : List β) (h : t[i]? = some l) : (t.modify i f).flatten.Perm (f l ++ (t.eraseIdx i).flatten) := by
  have h2 : (t.modify i f)[i]? = some (f l) := by simp [List.getElem?_modify, h]
  have := flatten_split _ _ _ h2
  have e : (t.modify i f).eraseIdx i = t.eraseIdx i := by
    apply List.ext_getElem?
    intro j
    simp only [List.getElem?_eraseIdx, List.getElem?_modify]
    by_cases hj : j < i
    · simp [hj, show i ≠ j by omega]
    · simp [hj, show i ≠ j + 1 by omega]
  rwa [e] at this
theorem flatten_set {β : Type} (t : List (List β)) (i : Nat) (l m : List β) (h : t[i]? = some l) : (t.set i m).flatten.Perm (m ++ (t.eraseIdx i).flatten) := by
  have := flatten_modify (fun _ => m) t i l h
  rwa [show t.modify i (fun _ => m) = t.set i m from ?_] at this
  apply List.ext_getElem?
  intro j
  simp only [List.getElem?_modify, List.getElem?_set]
  by_cases hj : i = j
  · subst hj; simp [h, (List.getElem?_eq_some_iff.1 h).1]
  · simp [hj]

def Slots (seed : Nat) (t : Tab α) : Prop := ∀ i l, t[i]? = some l → ∀ e ∈ l, slotOf seed t.length e.k = i
theorem slot_at {t : Tab α} (h : t ≠ []) (seed : Nat) (k : ByteArray) : ∃ l, t[slotOf seed t.length k]? = some l := by
  have : slotOf seed t.length k < t.length := slotOf_lt (List.length_pos_iff.2 h) k
  exact ⟨_, List.getElem?_eq_getElem this⟩

theorem tabFind_eq {seed : Nat} {t : Tab α} (hs : Slots seed t) (hk : (t.flatten.map (fun e => e.k)).Nodup) (k : ByteArray) : tabFind seed t k = chainFind t.flatten k := by
  by_cases ht : t = []
  · subst ht; rfl
  obtain ⟨l, hl⟩ := slot_at ht seed k
  have hp := flatten_split _ _ _ hl
  rw [chainFind_perm hp hk k]
  unfold tabFind
  rw [hl]
  simp only [Option.bind_some]
  unfold chainFind
  rw [List.find?_append]
  have hn : List.find? (fun e : DE α => decide (e.k = k)) (t.eraseIdx (slotOf seed t.length k)).flatten = none := by
    rw [List.find?_eq_none]
    intro e he
    simp only [decide_eq_true_eq]
    rintro rfl
    obtain ⟨m, hm, hem⟩ := List.mem_flatten.1 he
    obtain ⟨j, hj⟩ := List.getElem?_of_mem hm
    rw [List.getElem?_eraseIdx] at hj
    split at hj
    · have := hs _ _ hj e hem; omega
    · have := hs _ _ hj e hem; omega
  rw [hn]
  simp

theorem hang_length (seed : Nat) (t : Tab α) (e : DE α) : (hang seed t e).length = t.length := by unfold hang; simp
theorem hang_ne (seed : Nat) (t : Tab α) (e : DE α) (h : t ≠ []) : hang seed t e ≠ [] := by
  intro h2; have := hang_length seed t e; rw [h2] at this; exact h (List.eq_nil_of_length_eq_zero this.symm)
theorem hang_flatten {seed : Nat} {t : Tab α} (e : DE α) (h : t ≠ []) : (hang seed t e).flatten.Perm (e :: t.flatten) := by
  obtain ⟨l, hl⟩ := slot_at h seed e.k
  exact (flatten_modify _ _ _ _ hl).trans ((List.Perm.cons e (flatten_split _ _ _ hl).symm))
theorem hang_slots {seed : Nat} {t : Tab α} (e : DE α) (hs : Slots seed t) : Slots seed (hang seed t e) := by
  intro i l hi x hx
  rw [hang_length]
  unfold hang at hi
  rw [List.getElem?_modify] at hi
  cases hti : t[i]? with
  | none => rw [hti] at hi; simp at hi
  | some m =>
    rw [hti] at hi
    simp only [Option.map_eq_map, Option.map_some, Option.some.injEq] at hi
    subst hi
    split at hx
    · rename_i he
      rcases List.mem_cons.1 hx with rfl | hx
      · exact he
      · exact hs i m hti x hx
    · exact hs i m hti x hx
theorem hangs_length (seed : Nat) : ∀ (l : List (DE α)) (t : Tab α), (l.foldl (hang seed) t).length = t.length
  | [], t => rfl
  | e :: l, t => by rw [List.foldl_cons, hangs_length seed l, hang_length]
theorem hangs_ne (seed : Nat) (l : List (DE α)) (t : Tab α) (h : t ≠ []) : l.foldl (hang seed) t ≠ [] := by
  intro h2; have := hangs_length seed l t; rw [h2] at this; exact h (List.eq_nil_of_length_eq_zero this.symm)
theorem hangs_flatten (seed : Nat) : ∀ (l : List (DE α)) (t : Tab α), t ≠ [] → (l.foldl (hang seed) t).flatten.Perm (l ++ t.flatten)
  | [], t, h => .refl _
  | e :: l, t, h => by
    rw [List.foldl_cons]
    refine (hangs_flatten seed l _ (hang_ne seed t e h)).trans ?_
    refine ((hang_flatten e h).append_left l).trans ?_
    exact (List.perm_middle (a := e) (l₁ := l) (l₂ := t.flatten))
theorem hangs_slots (seed : Nat) : ∀ (l : List (DE α)) (t : Tab α), Slots seed t → Slots seed (l.foldl (hang seed) t)
  | [], t, h => h
  | e :: l, t, h => by rw [List.foldl_cons]; exact hangs_slots seed l _ (hang_slots e h)

theorem skip_le (t : Tab α) : ∀ (f i : Nat), i ≤ skip t f i
  | 0, i => Nat.le_refl _
  | f + 1, i => by
    unfold skip
    split
    · exact Nat.le_trans (by omega) (skip_le t f (i + 1))
    · exact Nat.le_refl _
theorem skip_gone (t : Tab α) : ∀ (f i j : Nat), i ≤ j → j < skip t f i → t[j]? = some []
  | 0, i, j, h1, h2 => by unfold skip at h2; omega
  | f + 1, i, j, h1, h2 => by
    unfold skip at h2
    split at h2
    · rename_i he
      by_cases hj : i = j
      · subst hj; exact he
      · exact skip_gone t f (i + 1) j (by omega) h2
    · omega
theorem skip_len (t : Tab α) : ∀ (f i : Nat), i ≤ t.length → skip t f i ≤ t.length
  | 0, i, h => h
  | f + 1, i, h => by
    unfold skip
    split
    · rename_i he
      have := (List.getElem?_eq_some_iff.1 he).1
      exact skip_len t f (i + 1) (by omega)
    · exact h

theorem DM.moved_cons {D : DM α} {e : DE α} {l : List (DE α)} (h : D.old[skip D.old 10 D.cur]? = some (e :: l)) :
    D.moved = { D with old := D.old.set (skip D.old 10 D.cur) [], young := (e :: l).foldl (hang D.seed) D.young, cur := skip D.old 10 D.cur + 1 } := by
  unfold DM.moved; simp only [h]
theorem DM.moved_else {D : DM α} (h : ∀ e l, D.old[skip D.old 10 D.cur]? ≠ some (e :: l)) : D.moved = { D with cur := skip D.old 10 D.cur } := by
  unfold DM.moved
  split
  · rename_i e l he; exact absurd he (h e l)
  · rfl
theorem DM.moved_facts {D : DM α} (h : D.WF) (hy : D.young ≠ []) :
    D.moved.seed = D.seed ∧ D.moved.old.length = D.old.length ∧ D.moved.young.length = D.young.length ∧ D.moved.all.Perm D.all ∧ Slots D.seed D.moved.old ∧ Slots D.seed D.moved.young ∧
    (∀ i, i < D.moved.cur → D.moved.old[i]? = some []) ∧ D.moved.n = D.n ∧ D.moved.cur ≤ D.old.length ∧ D.moved.ob = D.ob ∧ D.moved.yb = D.yb := by
  have hlt := h.lt hy
  have hle := skip_len D.old 10 D.cur (Nat.le_of_lt hlt)
  have hg : ∀ j, j < skip D.old 10 D.cur → D.old[j]? = some [] := fun j hj => by
    by_cases hc : j < D.cur
    · exact h.gone j hc
    · exact skip_gone D.old 10 D.cur j (by omega) hj
  by_cases hex : ∃ e l, D.old[skip D.old 10 D.cur]? = some (e :: l)
  · obtain ⟨e, l, he⟩ := hex
    rw [DM.moved_cons he]
    have hlt2 := (List.getElem?_eq_some_iff.1 he).1
    refine ⟨rfl, by simp, by simp [hangs_length, hang_length], ?_, ?_, hangs_slots _ _ _ h.yslot, ?_, rfl, hlt2, rfl, rfl⟩
    · unfold DM.all
      simp only
      have h1 := flatten_set D.old _ _ [] he
      have h2 := hangs_flatten D.seed (e :: l) D.young hy
      have h3 := flatten_split _ _ _ he
      refine (h1.append h2).trans ?_
      simp only [List.nil_append]
      refine List.Perm.trans ?_ (h3.append_right D.young.flatten).symm
      rw [← List.append_assoc]
      exact (List.perm_append_comm).append_right _
    · intro i m hm x hx
      rw [List.length_set]
      rw [List.getElem?_set] at hm
      split at hm
      · simp at hm; obtain ⟨_, rfl⟩ := hm; simp at hx
      · exact h.oslot i m hm x hx
    · intro j hj
      rw [List.getElem?_set]
      simp only at hj
      by_cases hji : skip D.old 10 D.cur = j
      · simp only [hji, if_true]; rw [← hji]; simp [hlt2]
      · rw [if_neg hji]; exact hg j (by omega)
  · rw [DM.moved_else (fun e l he => hex ⟨e, l, he⟩)]
    exact ⟨rfl, rfl, rfl, .refl _, h.oslot, h.yslot, hg, rfl, hle, rfl, rfl⟩

theorem flatten_gone {β : Type} {t : List (List β)} (h : ∀ i, i < t.length → t[i]? = some []) : t.flatten = [] := by
  rw [List.flatten_eq_nil_iff]
  intro l hl
  obtain ⟨i, hi⟩ := List.getElem?_of_mem hl
  have := h i (List.getElem?_eq_some_iff.1 hi).1
  rw [hi] at this
  exact Option.some.inj this

theorem DM.step_facts {D : DM α} (h : D.WF) : D.step.WF ∧ D.step.all.Perm D.all ∧ D.step.seed = D.seed ∧ D.step.n = D.n := by
  unfold DM.step
  by_cases hy : D.young = []
  · rw [if_pos hy]; exact ⟨h, .refl _, rfl, rfl⟩
  rw [if_neg hy]
  obtain ⟨hse, hol, hyl, hp, hos, hys, hg, hn, hle, hob, hyb⟩ := DM.moved_facts h hy
  have hyn : D.moved.young ≠ [] := fun e => hy (List.eq_nil_of_length_eq_zero (by rw [← hyl, e]; rfl))
  have hkeys : (D.moved.all.map (fun e => e.k)).Nodup := (hp.map _).symm.nodup h.keys
  have hlen : D.moved.n = D.moved.all.length := by rw [hn, h.n, hp.length_eq]
  unfold DM.turned
  split
  · rename_i hc
    have hfl : D.moved.old.flatten = [] := flatten_gone (fun i hi => hg i (by omega))
    have hal : D.moved.all = D.moved.young.flatten := by unfold DM.all; rw [hfl]; rfl
    refine ⟨⟨?_, ?_, ?_, ?_, ?_, ?_, ?_, ?_⟩, ?_, hse, hn⟩
    · show ((D.moved.young.flatten ++ []).map _).Nodup
      rw [List.append_nil, ← hal]; exact hkeys
    · intro i l hi; simp only at hi; rw [hse]; exact hys i l hi
    · intro i l hi; simp at hi
    · intro i hi; simp at hi
    · intro _; rfl
    · intro _; rfl
    · show D.moved.n = (D.moved.young.flatten ++ []).length
      rw [List.append_nil, ← hal]; exact hlen
    · intro hh; exact absurd rfl hh
    · show (D.moved.young.flatten ++ []).Perm _
      rw [List.append_nil, ← hal]; exact hp
  · rename_i hc
    refine ⟨⟨hkeys, by rw [hse]; exact hos, by rw [hse]; exact hys, hg, fun e => absurd e hyn, fun e => ?_, hlen, fun _ => by omega⟩, hp, hse, hn⟩
    have : D.old = [] := List.eq_nil_of_length_eq_zero (by rw [← hol, e]; rfl)
    exact absurd (h.none this) hy

theorem nodup_left {D : DM α} (h : D.WF) : (D.old.flatten.map (fun e => e.k)).Nodup := by
  have := h.keys; unfold DM.all at this; rw [List.map_append] at this; exact (List.nodup_append.1 this).1
theorem nodup_right {D : DM α} (h : D.WF) : (D.young.flatten.map (fun e => e.k)).Nodup := by
  have := h.keys; unfold DM.all at this; rw [List.map_append] at this; exact (List.nodup_append.1 this).2.1

theorem DM.find_eq {D : DM α} (h : D.WF) (k : ByteArray) : D.find k = chainFind D.all k := by
  unfold DM.find
  rw [tabFind_eq h.oslot (nodup_left h) k, tabFind_eq h.yslot (nodup_right h) k]
  unfold DM.all chainFind
  rw [List.find?_append]
theorem DM.look_find {D : DM α} (h : D.WF) (k : ByteArray) : D.look k = (D.find k).map (fun e => e.v) := by
  unfold DM.look; rw [DM.find_eq h]
theorem DM.look_perm {D E : DM α} (hp : D.all.Perm E.all) (h : D.WF) (k : ByteArray) : D.look k = E.look k := by
  unfold DM.look; rw [chainFind_perm hp h.keys]
theorem DM.step_look {D : DM α} (h : D.WF) (k : ByteArray) : D.step.look k = D.look k := DM.look_perm (DM.step_facts h).2.1 (DM.step_facts h).1 k
end Go.Proofs.YthmbhkgllfngmaaGreatDoor.ks
/- A dict as plain data: what a set and a delete leave. -/
namespace Go.Proofs.YthmbhkgllfngmaaGreatDoor.ks
set_option linter.unusedVariables false
set_option linter.unusedSimpArgs false
variable {α : Type}

def rep (k : ByteArray) (v : α) (e : DE α) : DE α := if e.k = k then { e with v := v } else e
theorem rep_k (k : ByteArray) (v : α) (e : DE α) : (rep k v e).k = e.k := by unfold rep; split <;> rfl
theorem rep_b (k : ByteArray) (v : α) (e : DE α) : (rep k v e).b = e.b := by unfold rep; split <;> rfl
theorem rep_other {k : ByteArray} {v : α} {e : DE α} (h : e.k ≠ k) : rep k v e = e := if_neg h
theorem map_rep_other {k : ByteArray} {v : α} {l : List (DE α)} (h : ∀ e ∈ l, e.k ≠ k) : l.map (rep k v) = l := by
  induction l with
  | nil => rfl
  | cons x r ih => rw [List.map_cons, rep_other (h x (by simp)), ih (fun e he => h e (by simp [he]))]
theorem chainPut_eq {k : ByteArray} {v : α} : ∀ {l : List (DE α)}, (l.map (fun e => e.k)).Nodup → chainPut l k v = l.map (rep k v)
  | [], h => rfl
  | e :: r, h => by
    rw [List.map_cons, List.nodup_cons] at h
    unfold chainPut
    by_cases hk : e.k = k
    · rw [if_pos hk, List.map_cons, map_rep_other]
      · unfold rep; rw [if_pos hk]
      · intro x hx e2; exact h.1 (List.mem_map.2 ⟨x, hx, by rw [e2, hk]⟩)
    · rw [if_neg hk, List.map_cons, rep_other hk, chainPut_eq h.2]
def notK (k : ByteArray) (e : DE α) : Bool := decide (e.k ≠ k)
theorem filter_other {k : ByteArray} {l : List (DE α)} (h : ∀ e ∈ l, e.k ≠ k) : l.filter (notK k) = l := by
  rw [List.filter_eq_self]
  intro e he; simpa [notK] using h e he
theorem chainDel_eq {k : ByteArray} : ∀ {l : List (DE α)}, (l.map (fun e => e.k)).Nodup → chainDel l k = l.filter (notK k)
  | [], h => rfl
  | e :: r, h => by
    rw [List.map_cons, List.nodup_cons] at h
    unfold chainDel
    by_cases hk : e.k = k
    · rw [if_pos hk, List.filter_cons, show notK k e = false by simp [notK, hk], filter_other]
      · simp
      · intro x hx e2; exact h.1 (List.mem_map.2 ⟨x, hx, by rw [e2, hk]⟩)
    · rw [if_neg hk, List.filter_cons, show notK k e = true by simp [notK, hk], if_pos rfl, chainDel_eq h.2]

theorem sub_nodup {t : Tab α} (hk : (t.flatten.map (fun e => e.k)).Nodup) {l : List (DE α)} (hl : l ∈ t) : (l.map (fun e => e.k)).Nodup := by
  have : (l.map (fun e => e.k)).Sublist (t.flatten.map (fun e => e.k)) := (List.sublist_flatten_of_mem hl).map _
  exact this.nodup hk
theorem tabPut_eq {seed : Nat} {t : Tab α} (hs : Slots seed t) (hk : (t.flatten.map (fun e => e.k)).Nodup) (k : ByteArray) (v : α) : tabPut seed t k v = t.map (List.map (rep k v)) := by
  unfold tabPut
  apply List.ext_getElem?
  intro i
  rw [List.getElem?_modify, List.getElem?_map]
  cases h : t[i]? with
  | none => simp
  | some l =>
    simp only [Option.map_eq_map, Option.map_some]
    split
    · rw [chainPut_eq (sub_nodup hk (List.mem_of_getElem? h))]
    · rename_i hne
      rw [map_rep_other]
      intro e he e2
      exact hne (by rw [← e2]; exact hs i l h e he)
theorem tabDel_eq {seed : Nat} {t : Tab α} (hs : Slots seed t) (hk : (t.flatten.map (fun e => e.k)).Nodup) (k : ByteArray) : tabDel seed t k = t.map (List.filter (notK k)) := by
  unfold tabDel
  apply List.ext_getElem?
  intro i
  rw [List.getElem?_modify, List.getElem?_map]
  cases h : t[i]? with
  | none => simp
  | some l =>
    simp only [Option.map_eq_map, Option.map_some]
    split
    · rw [chainDel_eq (sub_nodup hk (List.mem_of_getElem? h))]
    · rename_i hne
      rw [filter_other]
      intro e he e2
      exact hne (by rw [← e2]; exact hs i l h e he)
theorem flatten_map_map {β γ : Type} (f : β → γ) (t : List (List β)) : (t.map (List.map f)).flatten = t.flatten.map f := by rw [List.map_flatten]
theorem flatten_map_filter {β : Type} (p : β → Bool) (t : List (List β)) : (t.map (List.filter p)).flatten = t.flatten.filter p := by
  induction t with
  | nil => rfl
  | cons x r ih => rw [List.map_cons, List.flatten_cons, List.flatten_cons, List.filter_append, ih]

theorem slots_map {seed : Nat} {t : Tab α} (hs : Slots seed t) (k : ByteArray) (v : α) : Slots seed (t.map (List.map (rep k v))) := by
  intro i l hi e he
  rw [List.getElem?_map] at hi
  cases h : t[i]? with
  | none => rw [h] at hi; simp at hi
  | some m =>
    rw [h] at hi; simp at hi; subst hi
    obtain ⟨x, hx, rfl⟩ := List.mem_map.1 he
    rw [rep_k, List.length_map]; exact hs i m h x hx
theorem slots_filter {seed : Nat} {t : Tab α} (hs : Slots seed t) (p : DE α → Bool) : Slots seed (t.map (List.filter p)) := by
  intro i l hi e he
  rw [List.getElem?_map] at hi
  cases h : t[i]? with
  | none => rw [h] at hi; simp at hi
  | some m =>
    rw [h] at hi; simp at hi; subst hi
    rw [List.length_map]; exact hs i m h e (List.mem_filter.1 he).1
theorem slots_nil (seed n : Nat) : Slots seed (List.replicate n ([] : List (DE α))) := by
  intro i l hi e he
  rw [List.getElem?_replicate] at hi
  split at hi
  · simp at hi; subst hi; simp at he
  · simp at hi

theorem tabFind_isSome {seed : Nat} {t : Tab α} (hs : Slots seed t) (hk : (t.flatten.map (fun e => e.k)).Nodup) (k : ByteArray) : (tabFind seed t k).isSome = true ↔ ∃ e ∈ t.flatten, e.k = k := by
  rw [tabFind_eq hs hk]
  constructor
  · intro h
    obtain ⟨e, he⟩ := Option.isSome_iff_exists.1 h
    exact ⟨e, chainFind_some he⟩
  · rintro ⟨e, he, rfl⟩
    rw [chainFind_of hk he]; rfl

theorem DM.put_found {D : DM α} (h : D.WF) {k : ByteArray} (v : α) (tb nb : Nat) (hf : ∃ e ∈ D.all, e.k = k) :
    (D.put k v tb nb).WF ∧ (D.put k v tb nb).all = D.all.map (rep k v) ∧ (D.put k v tb nb).n = D.n := by
  have hsa : ∀ (a : Tab α), (∃ e ∈ a.flatten, e.k = k) → ∀ e ∈ a.flatten, True := fun _ _ _ _ => trivial
  have hno := h.keys
  unfold DM.all at hno
  rw [List.map_append, List.nodup_append] at hno
  unfold DM.put
  by_cases ho : (tabFind D.seed D.old k).isSome = true
  · rw [if_pos ho]
    obtain ⟨e, he, rfl⟩ := (tabFind_isSome h.oslot (nodup_left h) k).1 ho
    have hy : D.young.flatten.map (rep e.k v) = D.young.flatten := map_rep_other (fun x hx e2 => hno.2.2 _ (List.mem_map.2 ⟨e, he, rfl⟩) _ (List.mem_map.2 ⟨x, hx, rfl⟩) e2.symm)
    have hal : ({ D with old := tabPut D.seed D.old e.k v } : DM α).all = D.all.map (rep e.k v) := by
      unfold DM.all
      simp only
      rw [tabPut_eq h.oslot (nodup_left h), flatten_map_map, List.map_append, hy]
    refine ⟨⟨?_, ?_, ?_, ?_, h.cur, ?_, ?_, ?_⟩, hal, rfl⟩
    · rw [hal, List.map_map]; rw [show ((fun e => e.k) ∘ rep e.k v : DE α → ByteArray) = (fun e => e.k) from funext (fun x => rep_k _ _ x)]; exact h.keys
    · show Slots D.seed (tabPut D.seed D.old e.k v)
      rw [tabPut_eq h.oslot (nodup_left h)]; exact slots_map h.oslot _ _
    · exact h.yslot
    · intro i hi
      show (tabPut D.seed D.old e.k v)[i]? = _
      rw [tabPut_eq h.oslot (nodup_left h), List.getElem?_map, h.gone i hi]; rfl
    · intro hh
      have : D.old = [] := List.eq_nil_of_length_eq_zero (by have := congrArg List.length hh; simpa [tabPut] using this)
      exact h.none this
    · rw [hal, List.length_map]; exact h.n
    · intro hh; show D.cur < (tabPut D.seed D.old e.k v).length; rw [show (tabPut D.seed D.old e.k v).length = D.old.length by simp [tabPut]]; exact h.lt hh
  · rw [if_neg ho]
    have hyy : ∃ e ∈ D.young.flatten, e.k = k := by
      obtain ⟨e, he, hk⟩ := hf
      rcases List.mem_append.1 he with h1 | h1
      · exact absurd ((tabFind_isSome h.oslot (nodup_left h) k).2 ⟨e, h1, hk⟩) ho
      · exact ⟨e, h1, hk⟩
    rw [if_pos ((tabFind_isSome h.yslot (nodup_right h) k).2 hyy)]
    obtain ⟨e, he, rfl⟩ := hyy
    have hy : D.old.flatten.map (rep e.k v) = D.old.flatten := map_rep_other (fun x hx e2 => hno.2.2 _ (List.mem_map.2 ⟨x, hx, rfl⟩) _ (List.mem_map.2 ⟨e, he, rfl⟩) e2)
    have hal : ({ D with young := tabPut D.seed D.young e.k v } : DM α).all = D.all.map (rep e.k v) := by
      unfold DM.all
      simp only
      rw [tabPut_eq h.yslot (nodup_right h), flatten_map_map, List.map_append, hy]
    have hyn : D.young ≠ [] := by rintro e2; rw [e2] at he; simp at he
    refine ⟨⟨?_, h.oslot, ?_, h.gone, ?_, ?_, ?_, ?_⟩, hal, rfl⟩
    · rw [hal, List.map_map]; rw [show ((fun e => e.k) ∘ rep e.k v : DE α → ByteArray) = (fun e => e.k) from funext (fun x => rep_k _ _ x)]; exact h.keys
    · show Slots D.seed (tabPut D.seed D.young e.k v)
      rw [tabPut_eq h.yslot (nodup_right h)]; exact slots_map h.yslot _ _
    · intro hh
      exact absurd (List.eq_nil_of_length_eq_zero (by have := congrArg List.length hh; simpa [tabPut] using this)) hyn
    · intro hh; exact absurd (h.none hh) hyn
    · rw [hal, List.length_map]; exact h.n
    · intro hh; exact h.lt hyn

theorem DM.grown_facts {D : DM α} (h : D.WF) (tb : Nat) : (D.grown tb).WF ∧ (D.grown tb).all = D.all ∧ (D.grown tb).seed = D.seed ∧ (D.grown tb).n = D.n ∧ (D.grown tb).old ≠ [] := by
  unfold DM.grown
  by_cases ho : D.old = []
  · rw [if_pos ho]
    have hy := h.none ho
    have hal : ({ D with ob := tb, old := List.replicate 4 [] } : DM α).all = D.all := by unfold DM.all; simp [ho]
    refine ⟨⟨by rw [hal]; exact h.keys, slots_nil _ _, h.yslot, ?_, h.cur, fun _ => hy, by rw [hal]; exact h.n, fun hh => absurd hy hh⟩, hal, rfl, rfl, by simp⟩
    intro i hi
    have : i < D.cur := hi
    rw [h.cur hy] at this
    omega
  · rw [if_neg ho]
    split
    · rename_i hc
      have hal : ({ D with yb := tb, young := List.replicate (2 * D.old.length) [] } : DM α).all = D.all := by unfold DM.all; simp [hc.1]
      have hp : 0 < D.old.length := List.length_pos_iff.2 ho
      refine ⟨⟨by rw [hal]; exact h.keys, h.oslot, slots_nil _ _, h.gone, fun _ => h.cur hc.1, fun e => absurd e ho, by rw [hal]; exact h.n, fun _ => ?_⟩, hal, rfl, rfl, ho⟩
      show D.cur < D.old.length
      rw [h.cur hc.1]; exact hp
    · exact ⟨h, rfl, rfl, rfl, ho⟩
theorem DM.added_facts {D : DM α} (h : D.WF) (ho : D.old ≠ []) (e : DE α) (hf : ∀ x ∈ D.all, x.k ≠ e.k) : (D.added e).WF ∧ (D.added e).all.Perm (e :: D.all) ∧ (D.added e).seed = D.seed ∧ (D.added e).n = D.n + 1 := by
  have hk : ((e :: D.all).map (fun e => e.k)).Nodup := by
    rw [List.map_cons, List.nodup_cons]
    refine ⟨fun hm => ?_, h.keys⟩
    obtain ⟨x, hx, e2⟩ := List.mem_map.1 hm
    exact hf x hx e2
  unfold DM.added
  by_cases hy : D.young = []
  · rw [if_pos hy]
    have hp : ({ D with old := hang D.seed D.old e, n := D.n + 1 } : DM α).all.Perm (e :: D.all) := by
      unfold DM.all
      exact (hang_flatten e ho).append_right _
    refine ⟨⟨(hp.map _).symm.nodup hk, hang_slots e h.oslot, h.yslot, ?_, fun _ => h.cur hy, fun e2 => absurd e2 (hang_ne _ _ _ ho), by rw [hp.length_eq]; simp [h.n], fun hh => absurd hy hh⟩, hp, rfl, rfl⟩
    intro i hi
    have : i < D.cur := hi
    rw [h.cur hy] at this
    omega
  · rw [if_neg hy]
    have hp : ({ D with young := hang D.seed D.young e, n := D.n + 1 } : DM α).all.Perm (e :: D.all) := by
      unfold DM.all
      refine ((hang_flatten e hy).append_left _).trans ?_
      exact List.perm_middle
    exact ⟨⟨(hp.map _).symm.nodup hk, h.oslot, hang_slots e h.yslot, h.gone, fun e2 => absurd e2 (hang_ne _ _ _ hy), fun e2 => absurd e2 ho, by rw [hp.length_eq]; simp [h.n], fun _ => h.lt hy⟩, hp, rfl, rfl⟩
theorem DM.put_new_eq {D : DM α} (h : D.WF) {k : ByteArray} (v : α) (tb nb : Nat) (hf : ∀ e ∈ D.all, e.k ≠ k) : D.put k v tb nb = (D.grown tb).added ⟨nb, k, v⟩ := by
  unfold DM.put
  rw [if_neg (fun h1 => by obtain ⟨e, he, e2⟩ := (tabFind_isSome h.oslot (nodup_left h) k).1 h1; exact hf e (List.mem_append_left _ he) e2),
    if_neg (fun h1 => by obtain ⟨e, he, e2⟩ := (tabFind_isSome h.yslot (nodup_right h) k).1 h1; exact hf e (List.mem_append_right _ he) e2)]
theorem DM.put_new {D : DM α} (h : D.WF) {k : ByteArray} (v : α) (tb nb : Nat) (hf : ∀ e ∈ D.all, e.k ≠ k) :
    (D.put k v tb nb).WF ∧ (D.put k v tb nb).all.Perm (⟨nb, k, v⟩ :: D.all) ∧ (D.put k v tb nb).n = D.n + 1 := by
  rw [DM.put_new_eq h v tb nb hf]
  obtain ⟨g1, g2, g3, g4, g5⟩ := DM.grown_facts h tb
  obtain ⟨a1, a2, a3, a4⟩ := DM.added_facts g1 g5 ⟨nb, k, v⟩ (by rw [g2]; exact hf)
  exact ⟨a1, by rw [g2] at a2; exact a2, by rw [a4, g4]⟩

theorem shrunk_ge (n : Nat) : ∀ (f s : Nat), 0 < s → s ≤ shrunk n f s
  | 0, s, h => Nat.le_refl _
  | f + 1, s, h => by
    unfold shrunk
    split
    · exact Nat.le_trans (by omega) (shrunk_ge n f (2 * s) (by omega))
    · exact Nat.le_refl _
theorem DM.shrink_facts {D : DM α} (h : D.WF) (tb : Nat) : (D.shrink tb).WF ∧ (D.shrink tb).all = D.all ∧ (D.shrink tb).n = D.n ∧ (D.shrink tb).seed = D.seed := by
  unfold DM.shrink
  split
  · rename_i hc
    have hal : ({ D with yb := tb, young := List.replicate (shrunk D.n 64 4) [] } : DM α).all = D.all := by unfold DM.all; simp [hc.1]
    refine ⟨⟨by rw [hal]; exact h.keys, h.oslot, slots_nil _ _, h.gone, fun _ => h.cur hc.1, fun e => ?_, by rw [hal]; exact h.n, fun _ => ?_⟩, hal, rfl, rfl⟩
    · have : D.old = [] := e
      have h4 := hc.2.1
      rw [this] at h4; simp at h4
    · show D.cur < D.old.length
      rw [h.cur hc.1]; omega
  · exact ⟨h, rfl, rfl, rfl⟩
theorem nodup_filter {D : DM α} {p : DE α → Bool} (h : (D.all.map (fun e => e.k)).Nodup) : ((D.all.filter p).map (fun e => e.k)).Nodup := (List.filter_sublist.map _).nodup h
theorem length_filter_one {l : List (DE α)} (hk : (l.map (fun e => e.k)).Nodup) {k : ByteArray} (hf : ∃ e ∈ l, e.k = k) : (l.filter (notK k)).length + 1 = l.length := by
  induction l with
  | nil => obtain ⟨e, he, _⟩ := hf; simp at he
  | cons x r ih =>
    rw [List.map_cons, List.nodup_cons] at hk
    rw [List.filter_cons]
    by_cases hx : x.k = k
    · rw [show notK k x = false by simp [notK, hx]]
      have : r.filter (notK k) = r := filter_other (fun y hy e2 => hk.1 (List.mem_map.2 ⟨y, hy, by rw [e2, hx]⟩))
      simp [this]
    · rw [show notK k x = true by simp [notK, hx]]
      simp only [if_true, List.length_cons]
      rw [ih hk.2]
      obtain ⟨e, he, e2⟩ := hf
      rcases List.mem_cons.1 he with rfl | he
      · exact absurd e2 hx
      · exact ⟨e, he, e2⟩
theorem DM.drop_found {D : DM α} (h : D.WF) {k : ByteArray} (tb : Nat) (hf : ∃ e ∈ D.all, e.k = k) :
    (D.drop k tb).WF ∧ (D.drop k tb).all = D.all.filter (notK k) ∧ (D.drop k tb).n + 1 = D.n := by
  have hno := h.keys
  unfold DM.all at hno
  rw [List.map_append, List.nodup_append] at hno
  have hlen := length_filter_one h.keys hf
  unfold DM.drop
  by_cases ho : (tabFind D.seed D.old k).isSome = true
  · rw [if_pos ho]
    obtain ⟨e, he, rfl⟩ := (tabFind_isSome h.oslot (nodup_left h) k).1 ho
    have hy : D.young.flatten.filter (notK e.k) = D.young.flatten := filter_other (fun x hx e2 => hno.2.2 _ (List.mem_map.2 ⟨e, he, rfl⟩) _ (List.mem_map.2 ⟨x, hx, rfl⟩) e2.symm)
    have hal : ({ D with old := tabDel D.seed D.old e.k, n := D.n - 1 } : DM α).all = D.all.filter (notK e.k) := by
      unfold DM.all
      simp only
      rw [tabDel_eq h.oslot (nodup_left h), flatten_map_filter, List.filter_append, hy]
    have hwf : ({ D with old := tabDel D.seed D.old e.k, n := D.n - 1 } : DM α).WF := by
      refine ⟨?_, ?_, h.yslot, ?_, h.cur, ?_, ?_, ?_⟩
      · rw [hal]; exact nodup_filter h.keys
      · show Slots D.seed (tabDel D.seed D.old e.k)
        rw [tabDel_eq h.oslot (nodup_left h)]; exact slots_filter h.oslot _
      · intro i hi
        show (tabDel D.seed D.old e.k)[i]? = _
        rw [tabDel_eq h.oslot (nodup_left h), List.getElem?_map, h.gone i hi]; rfl
      · intro hh
        have : D.old = [] := List.eq_nil_of_length_eq_zero (by have := congrArg List.length hh; simpa [tabDel] using this)
        exact h.none this
      · rw [hal]; show D.n - 1 = _; rw [h.n]; omega
      · intro hh; show D.cur < (tabDel D.seed D.old e.k).length; rw [show (tabDel D.seed D.old e.k).length = D.old.length by simp [tabDel]]; exact h.lt hh
    obtain ⟨s1, s2, s3, _⟩ := DM.shrink_facts hwf tb
    refine ⟨s1, s2.trans hal, ?_⟩
    rw [s3]; show D.n - 1 + 1 = D.n; rw [h.n]; omega
  · rw [if_neg ho]
    have hyy : ∃ e ∈ D.young.flatten, e.k = k := by
      obtain ⟨e, he, hk⟩ := hf
      rcases List.mem_append.1 he with h1 | h1
      · exact absurd ((tabFind_isSome h.oslot (nodup_left h) k).2 ⟨e, h1, hk⟩) ho
      · exact ⟨e, h1, hk⟩
    rw [if_pos ((tabFind_isSome h.yslot (nodup_right h) k).2 hyy)]
    obtain ⟨e, he, rfl⟩ := hyy
    have hy : D.old.flatten.filter (notK e.k) = D.old.flatten := filter_other (fun x hx e2 => hno.2.2 _ (List.mem_map.2 ⟨x, hx, rfl⟩) _ (List.mem_map.2 ⟨e, he, rfl⟩) e2)
    have hal : ({ D with young := tabDel D.seed D.young e.k, n := D.n - 1 } : DM α).all = D.all.filter (notK e.k) := by
      unfold DM.all
      simp only
      rw [tabDel_eq h.yslot (nodup_right h), flatten_map_filter, List.filter_append, hy]
    have hyn : D.young ≠ [] := by rintro e2; rw [e2] at he; simp at he
    have hwf : ({ D with young := tabDel D.seed D.young e.k, n := D.n - 1 } : DM α).WF := by
      refine ⟨?_, h.oslot, ?_, h.gone, ?_, ?_, ?_, ?_⟩
      · rw [hal]; exact nodup_filter h.keys
      · show Slots D.seed (tabDel D.seed D.young e.k)
        rw [tabDel_eq h.yslot (nodup_right h)]; exact slots_filter h.yslot _
      · intro hh
        exact absurd (List.eq_nil_of_length_eq_zero (by have := congrArg List.length hh; simpa [tabDel] using this)) hyn
      · intro hh; exact absurd (h.none hh) hyn
      · rw [hal]; show D.n - 1 = _; rw [h.n]; omega
      · intro hh; exact h.lt hyn
    obtain ⟨s1, s2, s3, _⟩ := DM.shrink_facts hwf tb
    refine ⟨s1, s2.trans hal, ?_⟩
    rw [s3]; show D.n - 1 + 1 = D.n; rw [h.n]; omega
theorem DM.drop_none {D : DM α} (h : D.WF) {k : ByteArray} (tb : Nat) (hf : ∀ e ∈ D.all, e.k ≠ k) : D.drop k tb = D := by
  unfold DM.drop
  rw [if_neg (fun h1 => by obtain ⟨e, he, e2⟩ := (tabFind_isSome h.oslot (nodup_left h) k).1 h1; exact hf e (List.mem_append_left _ he) e2),
    if_neg (fun h1 => by obtain ⟨e, he, e2⟩ := (tabFind_isSome h.yslot (nodup_right h) k).1 h1; exact hf e (List.mem_append_right _ he) e2)]

theorem DM.look_none {D : DM α} {k : ByteArray} : D.look k = none ↔ ∀ e ∈ D.all, e.k ≠ k := by
  unfold DM.look
  constructor
  · intro h; exact chainFind_none (by simpa using h)
  · intro h
    cases hc : chainFind D.all k with
    | none => rfl
    | some e => exact absurd (chainFind_some hc).2 (h e (chainFind_some hc).1)
theorem DM.look_of {D : DM α} (h : D.WF) {e : DE α} (he : e ∈ D.all) : D.look e.k = some e.v := by unfold DM.look; rw [chainFind_of h.keys he]; rfl
theorem DM.look_some {D : DM α} {k : ByteArray} {v : α} (h : D.look k = some v) : ∃ e ∈ D.all, e.k = k ∧ e.v = v := by
  unfold DM.look at h
  obtain ⟨e, he, rfl⟩ := Option.map_eq_some_iff.1 h
  exact ⟨e, (chainFind_some he).1, (chainFind_some he).2, rfl⟩
theorem DM.put_look {D : DM α} (h : D.WF) (k : ByteArray) (v : α) (tb nb : Nat) : (D.put k v tb nb).WF ∧ ∀ q, (D.put k v tb nb).look q = if q = k then some v else D.look q := by
  by_cases hf : ∃ e ∈ D.all, e.k = k
  · obtain ⟨w1, w2, _⟩ := DM.put_found h v tb nb hf
    refine ⟨w1, fun q => ?_⟩
    obtain ⟨e, he, rfl⟩ := hf
    by_cases hq : q = e.k
    · subst hq
      rw [if_pos rfl]
      have : rep e.k v e ∈ (D.put e.k v tb nb).all := by rw [w2]; exact List.mem_map.2 ⟨e, he, rfl⟩
      have h2 := DM.look_of w1 this
      rw [rep_k] at h2
      rw [h2]; unfold rep; rw [if_pos rfl]
    · rw [if_neg hq]
      cases hd : D.look q with
      | none =>
        rw [DM.look_none] at hd ⊢
        intro x hx
        rw [w2] at hx
        obtain ⟨y, hy, rfl⟩ := List.mem_map.1 hx
        rw [rep_k]; exact hd y hy
      | some u =>
        obtain ⟨x, hx, rfl, rfl⟩ := DM.look_some hd
        have : x ∈ (D.put e.k v tb nb).all := by rw [w2]; exact List.mem_map.2 ⟨x, hx, rep_other hq⟩
        exact DM.look_of w1 this
  · have hf' : ∀ e ∈ D.all, e.k ≠ k := fun e he e2 => hf ⟨e, he, e2⟩
    obtain ⟨w1, w2, _⟩ := DM.put_new h v tb nb hf'
    refine ⟨w1, fun q => ?_⟩
    by_cases hq : q = k
    · subst hq
      rw [if_pos rfl]
      exact DM.look_of (e := ⟨nb, q, v⟩) w1 (w2.mem_iff.2 (by simp))
    · rw [if_neg hq]
      cases hd : D.look q with
      | none =>
        rw [DM.look_none] at hd ⊢
        intro x hx
        rcases List.mem_cons.1 (w2.mem_iff.1 hx) with rfl | hx
        · exact fun e2 => hq e2.symm
        · exact hd x hx
      | some u =>
        obtain ⟨x, hx, rfl, rfl⟩ := DM.look_some hd
        exact DM.look_of w1 (w2.mem_iff.2 (by simp [hx]))
theorem DM.drop_look {D : DM α} (h : D.WF) (k : ByteArray) (tb : Nat) : (D.drop k tb).WF ∧ ∀ q, (D.drop k tb).look q = if q = k then none else D.look q := by
  by_cases hf : ∃ e ∈ D.all, e.k = k
  · obtain ⟨w1, w2, _⟩ := DM.drop_found h tb hf
    refine ⟨w1, fun q => ?_⟩
    by_cases hq : q = k
    · subst hq
      rw [if_pos rfl, DM.look_none, w2]
      intro e he
      simpa [notK] using (List.mem_filter.1 he).2
    · rw [if_neg hq]
      cases hd : D.look q with
      | none =>
        rw [DM.look_none] at hd ⊢
        intro x hx
        rw [w2] at hx
        exact hd x (List.mem_filter.1 hx).1
      | some u =>
        obtain ⟨x, hx, rfl, rfl⟩ := DM.look_some hd
        exact DM.look_of w1 (by rw [w2]; exact List.mem_filter.2 ⟨hx, by simp [notK, hq]⟩)
  · have hf' : ∀ e ∈ D.all, e.k ≠ k := fun e he e2 => hf ⟨e, he, e2⟩
    rw [DM.drop_none h tb hf']
    refine ⟨h, fun q => ?_⟩
    by_cases hq : q = k
    · subst hq; rw [if_pos rfl, DM.look_none]; exact hf'
    · rw [if_neg hq]
theorem DM.set_look {D : DM α} (h : D.WF) (k : ByteArray) (v : α) (tb nb : Nat) : (D.set k v tb nb).WF ∧ ∀ q, (D.set k v tb nb).look q = if q = k then some v else D.look q := by
  obtain ⟨s1, _⟩ := DM.step_facts h
  obtain ⟨p1, p2⟩ := DM.put_look s1 k v tb nb
  exact ⟨p1, fun q => by rw [← DM.step_look h q]; exact p2 q⟩
theorem DM.del_look {D : DM α} (h : D.WF) (k : ByteArray) (tb : Nat) : (D.del k tb).WF ∧ ∀ q, (D.del k tb).look q = if q = k then none else D.look q := by
  obtain ⟨s1, _⟩ := DM.step_facts h
  obtain ⟨p1, p2⟩ := DM.drop_look s1 k tb
  exact ⟨p1, fun q => by rw [← DM.step_look h q]; exact p2 q⟩
theorem DM.new_wf (seed : Nat) : (DM.new seed : DM α).WF := by
  refine ⟨by simp [DM.new, DM.all], ?_, ?_, ?_, fun _ => rfl, fun _ => rfl, by simp [DM.new, DM.all], fun h => absurd rfl h⟩
  · intro i l hi; simp [DM.new] at hi
  · intro i l hi; simp [DM.new] at hi
  · intro i hi; simp [DM.new] at hi
end Go.Proofs.YthmbhkgllfngmaaGreatDoor.ks
/- Blocks and cells, and the frame: all blocks but those in a list are as they were. -/
namespace Go.Proofs.YthmbhkgllfngmaaGreatDoor.ks
open Go.ChangeShapes Go.WideShapes Go.RowKit
set_option linter.unusedVariables false
set_option linter.unusedSimpArgs false

theorem khid {p : Prop} (h : p) : Hid p := h
theorem hlt {w : World} {b : Nat} {o : Obj} (h : w.heap[b]? = some o) : b < w.heap.size := (Array.getElem?_eq_some_iff.1 h).1
theorem cell_at {w : World} {b : Nat} {c : Array Value} {t : TypeId} {fz : Nat × Nat} (h : w.heap[b]? = some (.cells c t fz)) (o : Nat) : w.cell? ⟨b, o, none⟩ = c[o]? := by
  unfold World.cell?; simp only [h]; rfl
theorem free_at {w : World} {b : Nat} {c : Array Value} {t : TypeId} (h : w.heap[b]? = some (.cells c t (0, 0))) (o : Nat) : w.frozen? ⟨b, o, none⟩ = false := by
  unfold World.frozen?; simp only [h]; simp
theorem set_same {w : World} {b : Nat} {c : Array Value} {t : TypeId} {fz : Nat × Nat} (h : w.heap[b]? = some (.cells c t fz)) (o : Nat) (v : Value) : (w.setCell ⟨b, o, none⟩ v).heap[b]? = some (.cells (c.setIfInBounds o v) t fz) := by
  simp only [World.setCell, Array.getElem?_modify, if_true, h]; rfl
theorem set_other {w : World} {b : Nat} {a : Addr} (v : Value) (h : b ≠ a.block) : (w.setCell a v).heap[b]? = w.heap[b]? := Below.heap_setCell _ _ _ _ h
theorem drew_heap (w : World) (n : Nat) : (w.drewN n).heap = w.heap := rfl
theorem alloc_old {w : World} {b : Nat} {o : Obj} (x : Obj) (h : w.heap[b]? = some o) : (w.alloc x).heap[b]? = some o := by rw [Below.heap_alloc _ _ _ (hlt h)]; exact h
theorem alloc_new (w : World) (x : Obj) : (w.alloc x).heap[w.heap.size]? = some x := heap_alloc_new w x

/-- All blocks but those in a list are as they were. -/
structure Keeps (bs : List Nat) (w w' : World) : Prop where
  os : w'.os = w.os
  tape : w'.tape = w.tape
  output : w'.output = w.output
  size : w.heap.size ≤ w'.heap.size
  block : ∀ k, k < w.heap.size → k ∉ bs → w'.heap[k]? = w.heap[k]?
namespace Keeps
variable {bs cs : List Nat} {a b c w w' : World}
theorem refl (bs : List Nat) (w : World) : Keeps bs w w := ⟨rfl, rfl, rfl, Nat.le_refl _, fun _ _ _ => rfl⟩
theorem trans (h : Keeps bs a b) (k : Keeps bs b c) : Keeps bs a c := ⟨k.os.trans h.os, k.tape.trans h.tape, k.output.trans h.output, Nat.le_trans h.size k.size, fun i hi hs => (k.block i (Nat.lt_of_lt_of_le hi h.size) hs).trans (h.block i hi hs)⟩
/-- Blocks that came later may have turned too. -/
theorem step (h : Keeps bs a b) (k : Keeps cs b c) (hT : ∀ k, k ∈ cs → k ∈ bs ∨ a.heap.size ≤ k) : Keeps bs a c :=
  ⟨k.os.trans h.os, k.tape.trans h.tape, k.output.trans h.output, Nat.le_trans h.size k.size, fun i hi hs => (k.block i (Nat.lt_of_lt_of_le hi h.size) (fun hc => by rcases hT i hc with h1 | h1; exact hs h1; omega)).trans (h.block i hi hs)⟩
theorem mono (h : Keeps bs a b) (hT : ∀ k, k ∈ bs → k ∈ cs) : Keeps cs a b := ⟨h.os, h.tape, h.output, h.size, fun i hi ht => h.block i hi (fun hb => ht (hT i hb))⟩
theorem drew (h : Keeps bs a b) : Keeps bs a b.drew := ⟨h.os, h.tape, h.output, h.size, h.block⟩
theorem drewN (h : Keeps bs a b) (n : Nat) : Keeps bs a (b.drewN n) := ⟨h.os, h.tape, h.output, h.size, h.block⟩
theorem alloc (h : Keeps bs a b) (o : Obj) : Keeps bs a (b.alloc o) := h.trans ⟨rfl, rfl, rfl, by simp, fun k hk _ => Below.heap_alloc _ _ _ hk⟩
theorem setCell (h : Keeps bs a b) {p : Addr} (hp : p.block ∈ bs ∨ a.heap.size ≤ p.block) (u : Value) : Keeps bs a (b.setCell p u) :=
  ⟨h.os, h.tape, h.output, by simpa [World.setCell] using h.size, fun k hk hs => (Below.heap_setCell _ _ _ _ (fun e => by rcases hp with h1 | h1; exact hs (e ▸ h1); omega)).trans (h.block k hk hs)⟩
theorem grown {row : Option Nat} (h : Keeps bs a b) (hg : b.grownBy c row) (hr : ∀ k, row = some k → k ∈ bs ∨ a.heap.size ≤ k) : Keeps bs a c :=
  ⟨hg.os.trans h.os, hg.tape.trans h.tape, hg.output.trans h.output, Nat.le_trans h.size hg.size, fun k hk hs => (hg.block k (Nat.lt_of_lt_of_le hk h.size) (fun e => by rcases hr k e.symm with h1 | h1; exact hs h1; omega)).trans (h.block k hk hs)⟩
theorem ofBelow (h : Below a.heap.size a b) : Keeps bs a b := ⟨h.os, h.tape, h.output, h.size, fun k hk _ => h.block k hk⟩
theorem below (h : Keeps [] a b) : Below a.heap.size a b := ⟨h.os, h.tape, h.output, h.size, fun k hk => h.block k hk (by simp)⟩
theorem belowOf {B : Nat} (h : Keeps bs a b) (hB : B ≤ a.heap.size) (hb : ∀ k, k ∈ bs → B ≤ k) : Below B a b := ⟨h.os, h.tape, h.output, h.size, fun k hk => h.block k (Nat.lt_of_lt_of_le hk hB) (fun hm => by have := hb k hm; omega)⟩
theorem get (h : Keeps bs a b) {k : Nat} {o : Obj} (hk : a.heap[k]? = some o) (hn : k ∉ bs) : b.heap[k]? = some o := (h.block k (hlt hk) hn).trans hk
end Keeps
theorem drewN_zero (w : World) : w.drewN 0 = w := rfl
theorem ret_bool {a b : Bool} (h : a = b) : Ending.returned (.bool a) = .returned (.bool b) := by rw [h]
theorem ret_i64 {a b : Int} (h : a = b) : Ending.returned (.int .i64 a) = .returned (.int .i64 b) := by rw [h]
theorem streq_true {a b : ByteArray} (h : a = b) : (a.toList == b.toList) = true := by rw [h]; simp
theorem streq_false {a b : ByteArray} (h : a ≠ b) : (a.toList == b.toList) = false := by
  rw [beq_eq_false_iff_ne, ByteArray.toList_eq, ByteArray.toList_eq]
  exact fun e => h (bytes_inj e)
end Go.Proofs.YthmbhkgllfngmaaGreatDoor.ks
/- A dict in memory: chains, tables, the dict itself; what a store does to them. Over whatever program: the types' numbers are handed in. -/
namespace Go.Proofs.YthmbhkgllfngmaaGreatDoor.ks
open Go.ChangeShapes Go.WideShapes Go.RowKit
set_option linter.unusedVariables false
set_option linter.unusedSimpArgs false

/-- The types' numbers: an entry, a pointer to one, the dict; and where in an entry 'next' lies. -/
structure DTy (α : Type) where
  e : Nat
  p : Nat
  d : Nat
  pv : α → List Value
variable {α : Type} (ty : DTy α)
def ptr : List (DE α) → Value
  | [] => .pointer none
  | e :: _ => .pointer (some ⟨e.b, 0, none⟩)
theorem ptr_is (l : List (DE α)) : ∃ q, ptr l = .pointer q := by cases l <;> exact ⟨_, rfl⟩
def eObj (e : DE α) (nx : Value) : Obj := .cells (.string e.k :: (ty.pv e.v ++ [nx])).toArray ty.e (0, 0)
def chainOk (w : World) : List (DE α) → Prop
  | [] => True
  | e :: r => w.heap[e.b]? = some (eObj ty e (ptr r)) ∧ chainOk w r
def tabv (tb : Nat) (t : Tab α) : Value := if t = [] then .slice none 0 0 else .slice (some ⟨tb, 0, none⟩) t.length t.length
structure TabIs (w : World) (tb : Nat) (t : Tab α) : Prop where
  row : t ≠ [] → w.heap[tb]? = some (.cells (t.map ptr).toArray ty.p (0, 0))
  ch : ∀ l ∈ t, chainOk ty w l
def tblocks (tb : Nat) (t : Tab α) : List Nat := (if t = [] then [] else [tb]) ++ t.flatten.map (fun e => e.b)
def DM.blocks (D : DM α) (db : Nat) : List Nat := db :: (tblocks D.ob D.old ++ tblocks D.yb D.young)
def dObj (D : DM α) : Obj := .cells #[.int .u64 D.seed, tabv D.ob D.old, tabv D.yb D.young, .int .i64 D.cur, .int .i64 D.n] ty.d (0, 0)
structure DictIs (w : World) (db : Nat) (D : DM α) : Prop where
  hd : w.heap[db]? = some (dObj ty D)
  ho : TabIs ty w D.ob D.old
  hy : TabIs ty w D.yb D.young
  nd : (D.blocks db).Nodup
  sd : D.seed < 18446744073709551616
  ks : ∀ e ∈ D.all, e.k.size ≤ maxLen
  bo : D.old.length ≤ 17592186044416
  by_ : D.young.length ≤ 17592186044416
  bn : D.n ≤ 8796093022208

variable {ty}
theorem chainOk.keep {w w' : World} : ∀ {l : List (DE α)}, chainOk ty w l → (∀ e ∈ l, w'.heap[e.b]? = w.heap[e.b]?) → chainOk ty w' l
  | [], _, _ => trivial
  | e :: r, h, hk => ⟨(hk e (by simp)).trans h.1, h.2.keep (fun x hx => hk x (by simp [hx]))⟩
theorem mem_tblocks {tb : Nat} {t : Tab α} {l : List (DE α)} {e : DE α} (hl : l ∈ t) (he : e ∈ l) : e.b ∈ tblocks tb t :=
  List.mem_append_right _ (List.mem_map.2 ⟨e, List.mem_flatten.2 ⟨l, hl, he⟩, rfl⟩)
theorem tb_mem {tb : Nat} {t : Tab α} (h : t ≠ []) : tb ∈ tblocks tb t := by unfold tblocks; rw [if_neg h]; simp
theorem TabIs.keep {w w' : World} {tb : Nat} {t : Tab α} (h : TabIs ty w tb t) (hk : ∀ b ∈ tblocks tb t, w'.heap[b]? = w.heap[b]?) : TabIs ty w' tb t :=
  ⟨fun ht => (hk tb (tb_mem ht)).trans (h.row ht), fun l hl => (h.ch l hl).keep (fun e he => hk _ (mem_tblocks hl he))⟩
theorem TabIs.nil (w : World) (tb : Nat) : TabIs ty w tb ([] : Tab α) := ⟨fun h => absurd rfl h, fun l hl => by simp at hl⟩
theorem DictIs.keep {w w' : World} {db : Nat} {D : DM α} (h : DictIs ty w db D) (hk : ∀ b ∈ D.blocks db, w'.heap[b]? = w.heap[b]?) : DictIs ty w' db D :=
  ⟨(hk db (by simp [DM.blocks])).trans h.hd, h.ho.keep (fun b hb => hk b (by simp [DM.blocks, hb])), h.hy.keep (fun b hb => hk b (by simp [DM.blocks, hb])), h.nd, h.sd, h.ks, h.bo, h.by_, h.bn⟩
theorem chainOk.lt {w : World} : ∀ {l : List (DE α)}, chainOk ty w l → ∀ e ∈ l, e.b < w.heap.size
  | x :: r, h, e, he => by
    rcases List.mem_cons.1 he with rfl | he
    · exact hlt h.1
    · exact h.2.lt e he
theorem TabIs.lt {w : World} {tb : Nat} {t : Tab α} (h : TabIs ty w tb t) : ∀ b ∈ tblocks tb t, b < w.heap.size := by
  intro b hb
  unfold tblocks at hb
  rcases List.mem_append.1 hb with h1 | h1
  · split at h1
    · simp at h1
    · rename_i hn; simp at h1; subst h1; exact hlt (h.row hn)
  · obtain ⟨e, he, rfl⟩ := List.mem_map.1 h1
    obtain ⟨l, hl, hel⟩ := List.mem_flatten.1 he
    exact (h.ch l hl).lt e hel
theorem DictIs.lt {w : World} {db : Nat} {D : DM α} (h : DictIs ty w db D) : ∀ b ∈ D.blocks db, b < w.heap.size := by
  intro b hb
  unfold DM.blocks at hb
  rcases List.mem_cons.1 hb with rfl | hb
  · exact hlt h.hd
  · rcases List.mem_append.1 hb with h1 | h1
    · exact h.ho.lt b h1
    · exact h.hy.lt b h1
theorem DictIs.keeps {w w' : World} {db : Nat} {D : DM α} {bs : List Nat} (h : DictIs ty w db D) (hk : Keeps bs w w') (hb : ∀ b ∈ D.blocks db, b ∉ bs) : DictIs ty w' db D :=
  h.keep (fun b hm => hk.block b (h.lt b hm) (hb b hm))

/-- The cell of a bucket. -/
theorem TabIs.cell {w : World} {tb : Nat} {t : Tab α} (h : TabIs ty w tb t) {i : Nat} {l : List (DE α)} (hl : t[i]? = some l) : w.cell? ⟨tb, i, none⟩ = some (ptr l) := by
  have hn : t ≠ [] := by rintro rfl; simp at hl
  rw [cell_at (h.row hn), List.getElem?_toArray, List.getElem?_map, hl]; rfl
theorem TabIs.free {w : World} {tb : Nat} {t : Tab α} (h : TabIs ty w tb t) (hn : t ≠ []) (i : Nat) : w.frozen? ⟨tb, i, none⟩ = false := free_at (h.row hn) i

/-- A bucket's head is stored: the chain l in the place of what hung there. -/
theorem TabIs.setHead {w : World} {tb : Nat} {t : Tab α} (h : TabIs ty w tb t) {i : Nat} (hi : i < t.length) (l : List (DE α)) (hl : chainOk ty w l) (hb : ∀ e ∈ l, e.b ≠ tb) (ht : ∀ e ∈ t.flatten, e.b ≠ tb) :
    TabIs ty (w.setCell ⟨tb, i, none⟩ (ptr l)) tb (t.set i l) := by
  have hn : t ≠ [] := by rintro rfl; simp at hi
  refine ⟨fun _ => ?_, fun m hm => ?_⟩
  · rw [set_same (h.row hn)]
    congr 1
    have : (t.map ptr).toArray.setIfInBounds i (ptr l) = ((t.set i l).map ptr).toArray := by
      apply Array.ext_getElem?
      intro j
      rw [Array.getElem?_setIfInBounds, List.getElem?_toArray, List.getElem?_toArray, List.getElem?_map, List.getElem?_map, List.getElem?_set]
      by_cases hj : i = j
      · subst hj; simp [hi]
      · simp [hj]
    rw [this]
  · rcases List.mem_or_eq_of_mem_set hm with h1 | rfl
    · exact (h.ch m h1).keep (fun e he => set_other _ (fun e2 => ht e (List.mem_flatten.2 ⟨m, h1, he⟩) e2))
    · exact hl.keep (fun e he => set_other _ (hb e he))

/-- An entry's 'next' is stored. -/
theorem next_set {w : World} {e : DE α} {nx : Value} (h : w.heap[e.b]? = some (eObj ty e nx)) (nv : Value) : (w.setCell ⟨e.b, 1 + (ty.pv e.v).length, none⟩ nv).heap[e.b]? = some (eObj ty e nv) := by
  unfold eObj at h ⊢
  rw [set_same h]
  congr 2
  apply Array.ext_getElem?
  intro j
  rw [Array.getElem?_setIfInBounds]
  simp only [List.getElem?_toArray, List.size_toArray, List.length_cons, List.length_append, List.length_nil]
  rcases j with _ | j
  · simp
  · simp only [List.getElem?_cons_succ]
    by_cases hj : (ty.pv e.v).length = j
    · subst hj; rw [if_pos (by omega), if_pos (by omega)]; simp
    · rw [if_neg (by omega)]
      by_cases hj2 : j < (ty.pv e.v).length
      · rw [List.getElem?_append_left hj2, List.getElem?_append_left hj2]
      · rw [List.getElem?_append_right (by omega), List.getElem?_append_right (by omega), List.getElem?_eq_none (by simp; omega), List.getElem?_eq_none (by simp; omega)]
theorem next_cell {w : World} {e : DE α} {nx : Value} (h : w.heap[e.b]? = some (eObj ty e nx)) : w.cell? ⟨e.b, 1 + (ty.pv e.v).length, none⟩ = some nx := by
  unfold eObj at h
  rw [cell_at h, List.getElem?_toArray, show 1 + (ty.pv e.v).length = (ty.pv e.v).length + 1 by omega, List.getElem?_cons_succ, List.getElem?_append_right (by omega)]; simp
theorem key_cell {w : World} {e : DE α} {nx : Value} (h : w.heap[e.b]? = some (eObj ty e nx)) : w.cell? ⟨e.b, 0, none⟩ = some (.string e.k) := by
  unfold eObj at h
  rw [cell_at h]; rfl
theorem efree {w : World} {e : DE α} {nx : Value} (h : w.heap[e.b]? = some (eObj ty e nx)) (o : Nat) : w.frozen? ⟨e.b, o, none⟩ = false := free_at h o

/-- 'hang': an entry at the head of its chain. -/
theorem TabIs.hang {w : World} {tb : Nat} {t : Tab α} (h : TabIs ty w tb t) (hn : t ≠ []) (seed : Nat) {e : DE α} {l : List (DE α)} {nx : Value} (hl : t[slotOf seed t.length e.k]? = some l) (he : w.heap[e.b]? = some (eObj ty e nx))
    (hnd : (e.b :: tblocks tb t).Nodup) :
    TabIs ty ((w.setCell ⟨e.b, 1 + (ty.pv e.v).length, none⟩ (ptr l)).setCell ⟨tb, slotOf seed t.length e.k, none⟩ (ptr (e :: l))) tb (ks.hang seed t e) := by
  rw [List.nodup_cons] at hnd
  obtain ⟨h1, h2⟩ := hnd
  have hbt : tb ∉ t.flatten.map (fun e => e.b) := by
    unfold tblocks at h2; rw [if_neg hn] at h2
    exact (List.nodup_cons.1 h2).1
  have hti : ∀ b ∈ tblocks tb t, (w.setCell ⟨e.b, 1 + (ty.pv e.v).length, none⟩ (ptr l)).heap[b]? = w.heap[b]? := fun b hb => set_other _ (fun e2 => h1 (by have e3 : b = e.b := e2; rw [← e3]; exact hb))
  have hw1 := h.keep hti
  have hset : ks.hang seed t e = t.set (slotOf seed t.length e.k) (e :: l) := by
    unfold ks.hang
    apply List.ext_getElem?
    intro j
    rw [List.getElem?_modify, List.getElem?_set]
    by_cases hj : slotOf seed t.length e.k = j
    · rw [← hj]; simp only [if_true, hl, if_pos (List.getElem?_eq_some_iff.1 hl).1]; rfl
    · simp [hj]
  rw [hset]
  refine hw1.setHead (List.getElem?_eq_some_iff.1 hl).1 (e :: l) ⟨next_set he _, (h.ch l (List.mem_of_getElem? hl)).keep (fun x hx => hti _ (mem_tblocks (List.mem_of_getElem? hl) hx))⟩ (fun x hx e2 => ?_) (fun x hx e2 => hbt (List.mem_map.2 ⟨x, hx, e2⟩))
  rcases List.mem_cons.1 hx with rfl | hx
  · exact h1 (e2 ▸ tb_mem hn)
  · exact hbt (List.mem_map.2 ⟨x, List.mem_flatten.2 ⟨l, List.mem_of_getElem? hl, hx⟩, e2⟩)
theorem DictIs.c0 {w : World} {db : Nat} {D : DM α} (h : DictIs ty w db D) : w.cell? ⟨db, 0, none⟩ = some (.int .u64 D.seed) := by rw [cell_at h.hd]; rfl
theorem DictIs.c1 {w : World} {db : Nat} {D : DM α} (h : DictIs ty w db D) : w.cell? ⟨db, 1, none⟩ = some (tabv D.ob D.old) := by rw [cell_at h.hd]; rfl
theorem DictIs.c2 {w : World} {db : Nat} {D : DM α} (h : DictIs ty w db D) : w.cell? ⟨db, 2, none⟩ = some (tabv D.yb D.young) := by rw [cell_at h.hd]; rfl
theorem DictIs.c3 {w : World} {db : Nat} {D : DM α} (h : DictIs ty w db D) : w.cell? ⟨db, 3, none⟩ = some (.int .i64 D.cur) := by rw [cell_at h.hd]; rfl
theorem DictIs.c4 {w : World} {db : Nat} {D : DM α} (h : DictIs ty w db D) : w.cell? ⟨db, 4, none⟩ = some (.int .i64 D.n) := by rw [cell_at h.hd]; rfl
theorem DictIs.free {w : World} {db : Nat} {D : DM α} (h : DictIs ty w db D) (o : Nat) : w.frozen? ⟨db, o, none⟩ = false := free_at h.hd o
theorem tabv_nil (tb : Nat) : tabv tb ([] : Tab α) = .slice none 0 0 := rfl
theorem tabv_ne {t : Tab α} (h : t ≠ []) (tb : Nat) : tabv tb t = .slice (some ⟨tb, 0, none⟩) t.length t.length := if_neg h
theorem tabv_form (tb : Nat) (t : Tab α) : ∃ oa, tabv tb t = .slice oa t.length t.length := by
  by_cases h : t = []
  · subst h; exact ⟨none, rfl⟩
  · exact ⟨_, tabv_ne h tb⟩
theorem nd_old {D : DM α} {db : Nat} (h : (D.blocks db).Nodup) : (tblocks D.ob D.old).Nodup := (List.nodup_append.1 (List.nodup_cons.1 h).2).1
theorem nd_young {D : DM α} {db : Nat} (h : (D.blocks db).Nodup) : (tblocks D.yb D.young).Nodup := (List.nodup_append.1 (List.nodup_cons.1 h).2).2.1
end Go.Proofs.YthmbhkgllfngmaaGreatDoor.ks
/- A dict in memory: which blocks are its own behind each of its functions. -/
namespace Go.Proofs.YthmbhkgllfngmaaGreatDoor.ks
open Go.ChangeShapes Go.WideShapes Go.RowKit
set_option linter.unusedVariables false
set_option linter.unusedSimpArgs false
variable {α : Type}

def bof (e : DE α) : Nat := e.b
theorem tblocks_nil (tb : Nat) : tblocks tb ([] : Tab α) = [] := rfl
theorem tblocks_ne {t : Tab α} (h : t ≠ []) (tb : Nat) : tblocks tb t = tb :: t.flatten.map (fun e => e.b) := by unfold tblocks; rw [if_neg h]; rfl
theorem tblocks_replicate (tb n : Nat) (h : 0 < n) : tblocks tb (List.replicate n ([] : List (DE α))) = [tb] := by
  rw [tblocks_ne (by intro e; have := congrArg List.length e; simp at this; omega)]; simp

theorem tb_perm {t s : Tab α} {tb : Nat} {m : List (DE α)} (ht : t ≠ []) (hs : s ≠ []) (hp : s.flatten.Perm (m ++ t.flatten)) : (tblocks tb s).Perm (m.map (fun e => e.b) ++ tblocks tb t) := by
  rw [tblocks_ne ht, tblocks_ne hs]
  have := hp.map (fun e : DE α => e.b)
  rw [List.map_append] at this
  exact (List.Perm.cons tb this).trans List.perm_middle.symm

theorem DM.moved_blocks {D : DM α} (h : D.WF) (hy : D.young ≠ []) (db : Nat) : (D.moved.blocks db).Perm (D.blocks db) ∧ D.moved.young ≠ [] := by
  have hlt := h.lt hy
  have hon : D.old ≠ [] := by intro e; rw [e] at hlt; simp at hlt
  by_cases hex : ∃ e l, D.old[skip D.old 10 D.cur]? = some (e :: l)
  · obtain ⟨e, l, he⟩ := hex
    rw [DM.moved_cons he]
    have hyn := hangs_ne D.seed (e :: l) D.young hy
    refine ⟨?_, hyn⟩
    unfold DM.blocks
    refine List.Perm.cons _ ?_
    simp only
    have hsn : D.old.set (skip D.old 10 D.cur) [] ≠ [] := by intro e2; have := congrArg List.length e2; simp at this; exact hon this
    have p1 : (tblocks D.yb (List.foldl (hang D.seed) D.young (e :: l))).Perm ((e :: l).map (fun e => e.b) ++ tblocks D.yb D.young) := tb_perm hy hyn (hangs_flatten D.seed (e :: l) D.young hy)
    have p2 : (tblocks D.ob D.old).Perm ((e :: l).map (fun e => e.b) ++ tblocks D.ob (D.old.set (skip D.old 10 D.cur) [])) := by
      refine tb_perm hsn hon ?_
      refine (flatten_split _ _ _ he).trans ?_
      refine List.Perm.append_left _ ?_
      have := flatten_set D.old _ _ [] he
      simpa using this.symm
    refine (p1.append_left _).trans ?_
    refine List.Perm.trans ?_ (p2.symm.append_right _)
    rw [← List.append_assoc]
    exact List.perm_append_comm.append_right _
  · rw [DM.moved_else (fun e l he => hex ⟨e, l, he⟩)]
    exact ⟨.refl _, hy⟩
theorem DM.step_blocks {D : DM α} (h : D.WF) (db : Nat) : ∃ x, (D.step.blocks db ++ x).Perm (D.blocks db) := by
  unfold DM.step
  by_cases hy : D.young = []
  · rw [if_pos hy]; exact ⟨[], by simp⟩
  rw [if_neg hy]
  obtain ⟨hp, hyn⟩ := DM.moved_blocks h hy db
  unfold DM.turned
  split
  · refine ⟨tblocks D.moved.ob D.moved.old, List.Perm.trans ?_ hp⟩
    unfold DM.blocks
    simp only [tblocks_nil, List.append_nil, List.cons_append]
    exact List.Perm.cons _ List.perm_append_comm
  · exact ⟨[], by simpa using hp⟩
theorem sub_nodup_of {l x m : List Nat} (h : (l ++ x).Perm m) (hm : m.Nodup) : l.Nodup ∧ ∀ b ∈ l, b ∈ m :=
  ⟨(List.nodup_append.1 (h.nodup_iff.2 hm)).1, fun b hb => h.mem_iff.1 (List.mem_append_left _ hb)⟩

theorem tabPut_blocks (seed : Nat) (t : Tab α) (k : ByteArray) (v : α) (tb : Nat) : tblocks tb (tabPut seed t k v) = tblocks tb t := by
  have hc : ∀ l : List (DE α), (chainPut l k v).map (fun e => e.b) = l.map (fun e => e.b) := by
    intro l
    induction l with
    | nil => rfl
    | cons e r ih => unfold chainPut; split <;> simp [ih]
  have hf : (tabPut seed t k v).flatten.map (fun e => e.b) = t.flatten.map (fun e => e.b) := by
    rw [List.map_flatten, List.map_flatten]
    congr 1
    apply List.ext_getElem?
    intro i
    unfold tabPut
    rw [List.getElem?_map, List.getElem?_map, List.getElem?_modify]
    cases t[i]? with
    | none => simp
    | some l =>
      simp only [Option.map_eq_map, Option.map_some]
      split <;> simp [hc]
  by_cases ht : t = []
  · subst ht; simp [tabPut]
  · rw [tblocks_ne ht, tblocks_ne (by intro e; apply ht; apply List.eq_nil_of_length_eq_zero; have := congrArg List.length e; simpa [tabPut] using this), hf]
theorem tabDel_blocks (seed : Nat) (t : Tab α) (k : ByteArray) (tb : Nat) : (tblocks tb (tabDel seed t k)).Sublist (tblocks tb t) := by
  have hc : ∀ l : List (DE α), (chainDel l k).Sublist l := by
    intro l
    induction l with
    | nil => exact .refl _
    | cons e r ih =>
      unfold chainDel
      split
      · exact List.sublist_cons_self _ _
      · exact ih.cons_cons _
  have hf : (tabDel seed t k).flatten.Sublist t.flatten := by
    unfold tabDel
    by_cases hi : slotOf seed t.length k < t.length
    · have key : ∀ (t : Tab α) (i : Nat), (t.modify i (fun l => chainDel l k)).flatten.Sublist t.flatten := by
        intro t
        induction t with
        | nil => intro i; simp
        | cons x r ih =>
          intro i
          cases i with
          | zero => simp only [List.modify_zero_cons, List.flatten_cons]; exact (hc x).append (.refl _)
          | succ i => simp only [List.modify_succ_cons, List.flatten_cons]; exact (List.Sublist.refl _).append (ih i)
      exact key t _
    · rw [List.modify_eq_self (by omega)]; exact .refl _
  by_cases ht : t = []
  · subst ht; simp [tabDel]
  · rw [tblocks_ne ht, tblocks_ne (by intro e; apply ht; apply List.eq_nil_of_length_eq_zero; have := congrArg List.length e; simpa [tabDel] using this)]
    exact (hf.map _).cons_cons _

theorem hang_blocks (seed : Nat) {t : Tab α} (e : DE α) (h : t ≠ []) (tb : Nat) : (tblocks tb (hang seed t e)).Perm (e.b :: tblocks tb t) :=
  tb_perm (m := [e]) h (hang_ne seed t e h) (hang_flatten e h)

theorem DM.put_found_blocks {D : DM α} {k : ByteArray} (v : α) (tb nb db : Nat) (hf : (D.find k).isSome = true) : (D.put k v tb nb).blocks db = D.blocks db := by
  unfold DM.put
  split
  · unfold DM.blocks; simp only [tabPut_blocks]
  · split
    · unfold DM.blocks; simp only [tabPut_blocks]
    · rename_i h1 h2
      unfold DM.find at hf
      simp only [Option.not_isSome_iff_eq_none] at h1 h2
      rw [h1, h2] at hf
      simp at hf
theorem DM.grown_blocks {D : DM α} (tb db : Nat) : (D.grown tb).blocks db = D.blocks db ∨ (D.old ≠ [] → (D.grown tb).blocks db = (D.blocks db) ++ [tb]) ∧ (D.old = [] → D.young = [] → (D.grown tb).blocks db = [db, tb] ∧ D.blocks db = [db]) := by
  unfold DM.grown
  by_cases ho : D.old = []
  · rw [if_pos ho]
    refine .inr ⟨fun h => absurd ho h, fun _ hy => ⟨?_, ?_⟩⟩
    · unfold DM.blocks; simp only [tblocks_replicate tb 4 (by decide), hy]; rfl
    · unfold DM.blocks; rw [ho, hy]; rfl
  · rw [if_neg ho]
    split
    · rename_i hc
      refine .inr ⟨fun _ => ?_, fun h => absurd h ho⟩
      have hp : 0 < D.old.length := List.length_pos_iff.2 ho
      unfold DM.blocks
      simp only [tblocks_replicate tb (2 * D.old.length) (by omega), hc.1, tblocks_nil]
      simp
    · exact .inl rfl
theorem DM.grown_sub {D : DM α} (h : D.WF) (tb db : Nat) : ∀ b ∈ (D.grown tb).blocks db, b ∈ D.blocks db ∨ b = tb := by
  rcases DM.grown_blocks (D := D) tb db with e | ⟨e1, e2⟩
  · rw [e]; exact fun b hb => .inl hb
  · by_cases ho : D.old = []
    · obtain ⟨e3, e4⟩ := e2 ho (h.none ho)
      rw [e3, e4]
      intro b hb
      simpa using hb
    · rw [e1 ho]
      intro b hb
      simpa using hb
/-- Blocks of a dict to which an entry has come: its own ones, the new ones. -/
theorem DM.put_new_blocks {D : DM α} (h : D.WF) {k : ByteArray} (v : α) {tb nb db : Nat} (hf : ∀ e ∈ D.all, e.k ≠ k) (hnd : (D.blocks db).Nodup) (h1 : tb ∉ D.blocks db) (h2 : nb ∉ D.blocks db) (h3 : tb ≠ nb) :
    ((D.put k v tb nb).blocks db).Nodup ∧ ∀ b ∈ (D.put k v tb nb).blocks db, b ∈ D.blocks db ∨ b = tb ∨ b = nb := by
  rw [DM.put_new_eq h v tb nb hf]
  obtain ⟨g1, g2, g3, g4, g5⟩ := DM.grown_facts h tb
  have hg : ((D.grown tb).blocks db).Nodup ∧ ∀ b ∈ (D.grown tb).blocks db, b ∈ D.blocks db ∨ b = tb := by
    rcases DM.grown_blocks (D := D) tb db with e | ⟨e1, e2⟩
    · rw [e]; exact ⟨hnd, fun b hb => .inl hb⟩
    · by_cases ho : D.old = []
      · obtain ⟨e3, e4⟩ := e2 ho (h.none ho)
        rw [e3, e4]
        rw [e4] at h1
        refine ⟨by simp at h1 ⊢; exact fun e => h1 e.symm, fun b hb => ?_⟩
        simp at hb ⊢; exact hb
      · rw [e1 ho]
        refine ⟨List.nodup_append.2 ⟨hnd, by simp, fun a ha b hb => ?_⟩, fun b hb => ?_⟩
        · simp at hb; subst hb; rintro rfl; exact h1 ha
        · simpa using hb
  have hp : (((D.grown tb).added ⟨nb, k, v⟩).blocks db).Perm (nb :: (D.grown tb).blocks db) := by
    unfold DM.added
    split
    · rename_i hy
      unfold DM.blocks
      simp only
      refine (List.Perm.cons db ((hang_blocks _ _ g5 _).append_right _)).trans ?_
      exact .swap _ _ _
    · rename_i hy
      unfold DM.blocks
      simp only
      refine (List.Perm.cons db ((hang_blocks _ _ hy _).append_left _)).trans ?_
      exact (List.Perm.cons db List.perm_middle).trans (.swap _ _ _)
  refine ⟨hp.nodup_iff.2 (List.nodup_cons.2 ⟨fun hm => ?_, hg.1⟩), fun b hb => ?_⟩
  · rcases hg.2 nb hm with e | e
    · exact h2 e
    · exact h3 e.symm
  · rcases List.mem_cons.1 (hp.mem_iff.1 hb) with rfl | hb
    · exact .inr (.inr rfl)
    · rcases hg.2 b hb with e | e
      · exact .inl e
      · exact .inr (.inl e)
theorem DM.shrink_blocks {D : DM α} (tb db : Nat) : (D.shrink tb).blocks db = D.blocks db ∨ (D.shrink tb).blocks db = D.blocks db ++ [tb] := by
  unfold DM.shrink
  split
  · rename_i hc
    right
    unfold DM.blocks
    have := shrunk_ge D.n 64 4 (by decide)
    simp only [tblocks_replicate tb (shrunk D.n 64 4) (by omega), hc.1, tblocks_nil]
    simp
  · exact .inl rfl
theorem DM.drop_blocks {D : DM α} {k : ByteArray} {tb db : Nat} (hnd : (D.blocks db).Nodup) (h1 : tb ∉ D.blocks db) :
    ((D.drop k tb).blocks db).Nodup ∧ ∀ b ∈ (D.drop k tb).blocks db, b ∈ D.blocks db ∨ b = tb := by
  have key : ∀ E : DM α, (E.blocks db).Sublist (D.blocks db) → ((E.shrink tb).blocks db).Nodup ∧ ∀ b ∈ (E.shrink tb).blocks db, b ∈ D.blocks db ∨ b = tb := by
    intro E hE
    have hn := hE.nodup hnd
    rcases DM.shrink_blocks (D := E) tb db with e | e
    · rw [e]; exact ⟨hn, fun b hb => .inl (hE.subset hb)⟩
    · rw [e]
      refine ⟨List.nodup_append.2 ⟨hn, by simp, fun a ha b hb => ?_⟩, fun b hb => ?_⟩
      · simp at hb; subst hb; rintro rfl; exact h1 (hE.subset ha)
      · rcases List.mem_append.1 hb with h | h
        · exact .inl (hE.subset h)
        · simp at h; exact .inr h
  unfold DM.drop
  split
  · refine key _ ?_
    unfold DM.blocks
    exact ((tabDel_blocks _ _ _ _).append (.refl _)).cons_cons _
  · split
    · refine key _ ?_
      unfold DM.blocks
      exact ((List.Sublist.refl _).append (tabDel_blocks _ _ _ _)).cons_cons _
    · exact ⟨hnd, fun b hb => .inl hb⟩
end Go.Proofs.YthmbhkgllfngmaaGreatDoor.ks
/- A dict in memory: where an entry hangs; an entry put over, an entry taken out. -/
namespace Go.Proofs.YthmbhkgllfngmaaGreatDoor.ks
open Go.ChangeShapes Go.WideShapes Go.RowKit
set_option linter.unusedVariables false
set_option linter.unusedSimpArgs false
variable {α : Type} {ty : DTy α}

def nextAt (ty : DTy α) (e : DE α) : Addr := ⟨e.b, 1 + (ty.pv e.v).length, none⟩
/-- Where a key's entry hangs, in a chain that hangs at a. -/
def hangsAt (ty : DTy α) (k : ByteArray) : List (DE α) → Addr → Option Addr
  | [], _ => none
  | e :: r, a => if e.k = k then some a else hangsAt ty k r (nextAt ty e)
def linkAt (ty : DTy α) (seed tb : Nat) (t : Tab α) (k : ByteArray) : Option Addr := (t[slotOf seed t.length k]?).bind (fun l => hangsAt ty k l ⟨tb, slotOf seed t.length k, none⟩)
def DM.linkOf (ty : DTy α) (D : DM α) (k : ByteArray) : Option Addr := (linkAt ty D.seed D.ob D.old k).or (linkAt ty D.seed D.yb D.young k)

theorem hangsAt_none {k : ByteArray} : ∀ {l : List (DE α)} {a : Addr}, hangsAt ty k l a = none ↔ chainFind l k = none
  | [], a => by simp [hangsAt, chainFind]
  | e :: r, a => by
    unfold hangsAt chainFind
    rw [List.find?_cons]
    by_cases h : e.k = k
    · simp [h]
    · simp only [h, if_false, decide_false]
      exact hangsAt_none
theorem linkAt_none {seed tb : Nat} {t : Tab α} {k : ByteArray} : linkAt ty seed tb t k = none ↔ tabFind seed t k = none := by
  unfold linkAt tabFind
  cases t[slotOf seed t.length k]? with
  | none => simp
  | some l => exact hangsAt_none
theorem linkAt_isSome {seed tb : Nat} {t : Tab α} {k : ByteArray} : (linkAt ty seed tb t k).isSome = (tabFind seed t k).isSome := by
  cases h : linkAt ty seed tb t k with
  | none => rw [linkAt_none.1 h]; rfl
  | some a =>
    cases h2 : tabFind seed t k with
    | none => rw [linkAt_none.2 h2] at h; cases h
    | some e => rfl
/-- What hangs at a key's place. -/
theorem hangsAt_some {k : ByteArray} : ∀ {l : List (DE α)} {a p : Addr}, hangsAt ty k l a = some p →
    ∃ pre e r, l = pre ++ e :: r ∧ e.k = k ∧ (∀ x ∈ pre, x.k ≠ k) ∧ chainFind l k = some e ∧ ((pre = [] ∧ p = a) ∨ ∃ pre' q, pre = pre' ++ [q] ∧ p = nextAt ty q)
  | [], a, p, h => by simp [hangsAt] at h
  | e :: r, a, p, h => by
    unfold hangsAt at h
    by_cases hk : e.k = k
    · rw [if_pos hk] at h
      obtain rfl := Option.some.inj h
      exact ⟨[], e, r, rfl, hk, fun x hx => by simp at hx, by unfold chainFind; rw [List.find?_cons]; simp [hk], .inl ⟨rfl, rfl⟩⟩
    · rw [if_neg hk] at h
      obtain ⟨pre, x, r', rfl, hx, hpre, hfind, hp⟩ := hangsAt_some h
      refine ⟨e :: pre, x, r', rfl, hx, fun y hy => ?_, ?_, .inr ?_⟩
      · rcases List.mem_cons.1 hy with rfl | hy
        · exact hk
        · exact hpre y hy
      · unfold chainFind at hfind ⊢
        rw [List.find?_cons]; simp only [hk, decide_false]; exact hfind
      · rcases hp with ⟨rfl, rfl⟩ | ⟨pre', q, rfl, rfl⟩
        · exact ⟨[], e, rfl, rfl⟩
        · exact ⟨e :: pre', q, rfl, rfl⟩
theorem chainPut_pre {k : ByteArray} {v : α} {e : DE α} {r : List (DE α)} (hk : e.k = k) : ∀ {pre : List (DE α)}, (∀ x ∈ pre, x.k ≠ k) → chainPut (pre ++ e :: r) k v = pre ++ { e with v := v } :: r
  | [], _ => by unfold chainPut; simp [hk]
  | x :: pre, h => by
    rw [List.cons_append]; unfold chainPut
    rw [if_neg (h x (by simp)), chainPut_pre hk (fun y hy => h y (by simp [hy]))]; rfl
theorem chainDel_pre {k : ByteArray} {e : DE α} {r : List (DE α)} (hk : e.k = k) : ∀ {pre : List (DE α)}, (∀ x ∈ pre, x.k ≠ k) → chainDel (pre ++ e :: r) k = pre ++ r
  | [], _ => by unfold chainDel; simp [hk]
  | x :: pre, h => by
    rw [List.cons_append]; unfold chainDel
    rw [if_neg (h x (by simp)), chainDel_pre hk (fun y hy => h y (by simp [hy]))]; rfl

theorem chainOk.tail {w : World} : ∀ {pre l : List (DE α)}, chainOk ty w (pre ++ l) → chainOk ty w l
  | [], l, h => h
  | x :: pre, l, h => chainOk.tail h.2
theorem chainOk.get {w : World} {e : DE α} {r : List (DE α)} : ∀ {pre : List (DE α)}, chainOk ty w (pre ++ e :: r) → w.heap[e.b]? = some (eObj ty e (ptr r))
  | [], h => h.1
  | x :: pre, h => chainOk.get h.2
theorem ptr_append {a b : DE α} {r s : List (DE α)} (h : a.b = b.b) : ∀ pre : List (DE α), ptr (pre ++ a :: r) = ptr (pre ++ b :: s)
  | [] => by simp [ptr, h]
  | x :: pre => rfl
theorem chain_put {w : World} {e : DE α} {r : List (DE α)} {v : α} {x y : Value} (h1 : ty.pv e.v = [x]) (h2 : ty.pv v = [y]) : ∀ {pre : List (DE α)}, chainOk ty w (pre ++ e :: r) → ((pre ++ e :: r).map (fun e => e.b)).Nodup →
    chainOk ty (w.setCell ⟨e.b, 1, none⟩ y) (pre ++ { e with v := v } :: r)
  | [], h, hn => by
    rw [List.nil_append, List.map_cons, List.nodup_cons] at hn
    refine ⟨?_, h.2.keep (fun z hz => set_other _ (fun e2 => hn.1 (List.mem_map.2 ⟨z, hz, e2⟩)))⟩
    have := h.1
    unfold eObj at this ⊢
    rw [h1] at this
    rw [h2]
    show (w.setCell ⟨e.b, 1, none⟩ y).heap[e.b]? = _
    rw [set_same this]
    rfl
  | z :: pre, h, hn => by
    rw [List.cons_append, List.map_cons, List.nodup_cons] at hn
    refine ⟨?_, chain_put h1 h2 h.2 hn.2⟩
    have hne : z.b ≠ e.b := fun e2 => hn.1 (List.mem_map.2 ⟨e, by simp, e2.symm⟩)
    rw [set_other _ hne, h.1]
    show some (eObj ty z (ptr (pre ++ e :: r))) = some (eObj ty z (ptr (pre ++ { e with v := v } :: r)))
    rw [ptr_append (a := e) (b := { e with v := v }) rfl]
theorem chain_del {w : World} {q e : DE α} {r : List (DE α)} : ∀ {pre : List (DE α)}, chainOk ty w (pre ++ q :: e :: r) → ((pre ++ q :: e :: r).map (fun e => e.b)).Nodup →
    chainOk ty (w.setCell (nextAt ty q) (ptr r)) (pre ++ q :: r)
  | [], h, hn => by
    rw [List.nil_append, List.map_cons, List.nodup_cons] at hn
    refine ⟨next_set h.1 _, h.2.2.keep (fun z hz => set_other _ (fun e2 => hn.1 (List.mem_map.2 ⟨z, by simp [hz], e2⟩)))⟩
  | z :: pre, h, hn => by
    rw [List.cons_append, List.map_cons, List.nodup_cons] at hn
    refine ⟨?_, chain_del h.2 hn.2⟩
    have hne : z.b ≠ q.b := fun e2 => hn.1 (List.mem_map.2 ⟨q, by simp, e2.symm⟩)
    rw [set_other (b := z.b) _ hne, h.1]
    show some (eObj ty z (ptr (pre ++ q :: e :: r))) = some (eObj ty z (ptr (pre ++ q :: r)))
    rw [ptr_append (a := q) (b := q) rfl]
theorem ptr_same {l m : List (DE α)} (h : l.map (fun e => e.b) = m.map (fun e => e.b)) : ptr l = ptr m := by
  cases l with
  | nil => cases m with
    | nil => rfl
    | cons y m => simp at h
  | cons x l => cases m with
    | nil => simp at h
    | cons y m => simp at h; simp [ptr, h.1]

theorem nodup_chain {tb : Nat} {t : Tab α} {l : List (DE α)} (hn : (tblocks tb t).Nodup) (hl : l ∈ t) : (l.map (fun e => e.b)).Nodup := by
  have h2 : (t.flatten.map (fun e => e.b)).Nodup := (List.nodup_append.1 hn).2.1
  exact ((List.sublist_flatten_of_mem hl).map _).nodup h2
theorem tb_fresh {tb : Nat} {t : Tab α} (hn : (tblocks tb t).Nodup) (ht : t ≠ []) : ∀ e ∈ t.flatten, e.b ≠ tb := by
  rw [tblocks_ne ht, List.nodup_cons] at hn
  exact fun e he e2 => hn.1 (List.mem_map.2 ⟨e, he, e2⟩)
theorem other_chain {tb : Nat} {t : Tab α} {i j : Nat} {l m : List (DE α)} (hn : (tblocks tb t).Nodup) (hi : t[i]? = some l) (hj : t[j]? = some m) (hij : i ≠ j) : ∀ e ∈ l, ∀ x ∈ m, e.b ≠ x.b := by
  have h2 : (t.flatten.map (fun e => e.b)).Nodup := (List.nodup_append.1 hn).2.1
  have hp := (flatten_split t i l hi).map (fun e : DE α => e.b)
  have h3 := hp.nodup_iff.1 h2
  rw [List.map_append, List.nodup_append] at h3
  intro e he x hx
  refine h3.2.2 _ (List.mem_map.2 ⟨e, he, rfl⟩) _ (List.mem_map.2 ⟨x, List.mem_flatten.2 ⟨m, ?_, hx⟩, rfl⟩)
  by_cases hlt : j < i
  · exact List.mem_of_getElem? (i := j) (by rw [List.getElem?_eraseIdx, if_pos hlt]; exact hj)
  · exact List.mem_of_getElem? (i := j - 1) (by rw [List.getElem?_eraseIdx, if_neg (by omega), show j - 1 + 1 = j by omega]; exact hj)

theorem modify_set {β : Type} (t : List β) (i : Nat) (f : β → β) (x : β) (h : t[i]? = some x) : t.modify i f = t.set i (f x) := by
  apply List.ext_getElem?
  intro j
  rw [List.getElem?_modify, List.getElem?_set]
  by_cases hj : i = j
  · rw [← hj, h]; simp [(List.getElem?_eq_some_iff.1 h).1]
  · simp [hj]

/-- What lies under a key is put over. -/
theorem TabIs.put {w : World} {tb seed : Nat} {t : Tab α} (h : TabIs ty w tb t) (hn : (tblocks tb t).Nodup) {k : ByteArray} {e : DE α} (hf : tabFind seed t k = some e) {v : α} {x y : Value} (h1 : ty.pv e.v = [x]) (h2 : ty.pv v = [y]) :
    TabIs ty (w.setCell ⟨e.b, 1, none⟩ y) tb (tabPut seed t k v) := by
  unfold tabFind at hf
  cases hl : t[slotOf seed t.length k]? with
  | none => rw [hl] at hf; cases hf
  | some l =>
    rw [hl] at hf
    simp only [Option.bind_some] at hf
    have hml := List.mem_of_getElem? hl
    obtain ⟨he, hek⟩ := chainFind_some hf
    have ht : t ≠ [] := by rintro rfl; simp at hl
    have hfr := tb_fresh hn ht
    have hne : tb ≠ e.b := fun e2 => hfr e (List.mem_flatten.2 ⟨l, hml, he⟩) e2.symm
    unfold tabPut
    rw [modify_set _ _ _ _ hl]
    have hex : ∃ p, hangsAt ty k l ⟨tb, slotOf seed t.length k, none⟩ = some p := by
      cases hh : hangsAt ty k l ⟨tb, slotOf seed t.length k, none⟩ with
      | none => rw [hangsAt_none.1 hh] at hf; cases hf
      | some p => exact ⟨p, rfl⟩
    obtain ⟨p, hp⟩ := hex
    obtain ⟨pre, e', r, rfl, hk', hpre, hf', _⟩ := hangsAt_some hp
    rw [hf'] at hf
    obtain rfl := Option.some.inj hf
    rw [chainPut_pre hk' hpre]
    refine ⟨fun _ => ?_, fun m hm => ?_⟩
    · rw [set_other _ hne, h.row ht]
      congr 3
      apply List.ext_getElem?
      intro j
      rw [List.getElem?_map, List.getElem?_map, List.getElem?_set]
      by_cases hj : slotOf seed t.length k = j
      · rw [← hj, hl, if_pos rfl, if_pos (List.getElem?_eq_some_iff.1 hl).1]
        simp only [Option.map_some]
        rw [ptr_append (a := e') (b := { e' with v := v }) rfl]
      · rw [if_neg hj]
    · rcases List.mem_iff_getElem?.1 hm with ⟨j, hj⟩
      rw [List.getElem?_set] at hj
      by_cases hij : slotOf seed t.length k = j
      · rw [if_pos hij] at hj
        split at hj
        · obtain rfl := Option.some.inj hj
          exact chain_put h1 h2 (h.ch _ hml) (nodup_chain hn hml)
        · cases hj
      · rw [if_neg hij] at hj
        exact (h.ch _ (List.mem_of_getElem? hj)).keep (fun z hz => set_other _ (other_chain hn hj hl (fun e2 => hij e2.symm) z hz e' (by simp)))
/-- A key's entry is taken out: what hung behind it hangs in its place. -/
theorem TabIs.del {w : World} {tb seed : Nat} {t : Tab α} (h : TabIs ty w tb t) (hn : (tblocks tb t).Nodup) {k : ByteArray} {p : Addr} (hp : linkAt ty seed tb t k = some p) :
    ∃ e r, tabFind seed t k = some e ∧ w.heap[e.b]? = some (eObj ty e (ptr r)) ∧ w.cell? p = some (ptr (e :: r)) ∧ w.frozen? p = false ∧ p.block ∈ tblocks tb t ∧ e.b ∈ tblocks tb t ∧ TabIs ty (w.setCell p (ptr r)) tb (tabDel seed t k) := by
  unfold linkAt at hp
  cases hl : t[slotOf seed t.length k]? with
  | none => rw [hl] at hp; cases hp
  | some l =>
    rw [hl] at hp
    simp only [Option.bind_some] at hp
    have hml := List.mem_of_getElem? hl
    obtain ⟨pre, e, r, rfl, hk, hpre, hf, hpa⟩ := hangsAt_some hp
    have ht : t ≠ [] := by rintro rfl; simp at hl
    have hfr := tb_fresh hn ht
    have hch := h.ch _ hml
    have htf : tabFind seed t k = some e := by unfold tabFind; rw [hl]; exact hf
    unfold tabDel
    rw [modify_set _ _ _ _ hl, chainDel_pre hk hpre]
    refine ⟨e, r, htf, hch.get, ?_⟩
    rcases hpa with ⟨rfl, rfl⟩ | ⟨pre', q, rfl, rfl⟩
    · refine ⟨h.cell hl, h.free ht _, tb_mem ht, mem_tblocks hml (by simp), ?_⟩
      exact h.setHead (List.getElem?_eq_some_iff.1 hl).1 r hch.2 (fun x hx => hfr x (List.mem_flatten.2 ⟨_, hml, by simp [hx]⟩)) hfr
    · have hq : w.heap[q.b]? = some (eObj ty q (ptr (e :: r))) := by
        have h2 := hch
        rw [List.append_assoc] at h2
        exact chainOk.get h2
      refine ⟨next_cell hq, efree hq _, mem_tblocks hml (by simp), mem_tblocks hml (by simp), ?_⟩
      have hne : tb ≠ q.b := fun e2 => hfr q (List.mem_flatten.2 ⟨_, hml, by simp⟩) e2.symm
      refine ⟨fun _ => ?_, fun m hm => ?_⟩
      · rw [set_other (b := tb) _ hne, h.row ht]
        congr 3
        apply List.ext_getElem?
        intro j
        rw [List.getElem?_map, List.getElem?_map, List.getElem?_set]
        by_cases hj : slotOf seed t.length k = j
        · rw [← hj, hl, if_pos rfl, if_pos (List.getElem?_eq_some_iff.1 hl).1]
          simp only [Option.map_some]
          rw [List.append_assoc, List.append_assoc]
          exact congrArg some (ptr_append (a := q) (b := q) rfl pre')
        · rw [if_neg hj]
      · rcases List.mem_iff_getElem?.1 hm with ⟨j, hj⟩
        rw [List.getElem?_set] at hj
        by_cases hij : slotOf seed t.length k = j
        · rw [if_pos hij] at hj
          split at hj
          · obtain rfl := Option.some.inj hj
            have h2 := hch
            rw [List.append_assoc] at h2
            have h3 := nodup_chain hn hml
            rw [List.append_assoc] at h3
            rw [List.append_assoc]
            exact chain_del h2 h3
          · cases hj
        · rw [if_neg hij] at hj
          exact (h.ch _ (List.mem_of_getElem? hj)).keep (fun z hz => set_other _ (other_chain hn hj hl (fun e2 => hij e2.symm) z hz q (by simp)))
/-- The same, where nothing is stored: what a place tells. -/
theorem TabIs.at {w : World} {tb seed : Nat} {t : Tab α} (h : TabIs ty w tb t) (hn : (tblocks tb t).Nodup) {k : ByteArray} {p : Addr} (hp : linkAt ty seed tb t k = some p) :
    ∃ e r, tabFind seed t k = some e ∧ w.heap[e.b]? = some (eObj ty e (ptr r)) ∧ w.cell? p = some (ptr (e :: r)) ∧ p.block ∈ tblocks tb t ∧ e.b ∈ tblocks tb t := by
  obtain ⟨e, r, h1, h2, h3, _, h4, h5, _⟩ := h.del hn hp
  exact ⟨e, r, h1, h2, h3, h4, h5⟩
end Go.Proofs.YthmbhkgllfngmaaGreatDoor.ks
/- A dict in memory: while a bucket is moved. -/
namespace Go.Proofs.YthmbhkgllfngmaaGreatDoor.ks
open Go.ChangeShapes Go.WideShapes Go.RowKit
set_option linter.unusedVariables false
set_option linter.unusedSimpArgs false
variable {α : Type} {ty : DTy α}
def bofs (l : List (DE α)) : List Nat := l.map (fun e => e.b)
theorem tabv_len {t s : Tab α} (h : t.length = s.length) (tb : Nat) : tabv tb t = tabv tb s := by
  unfold tabv
  by_cases ht : t = []
  · subst ht
    have : s = [] := List.eq_nil_of_length_eq_zero h.symm
    rw [this]
  · have hs : s ≠ [] := by rintro rfl; exact ht (List.eq_nil_of_length_eq_zero h)
    rw [if_neg ht, if_neg hs, h]
/-- The chain c of the old table's bucket at cur: pre is moved, suf is not. -/
structure Mid (ty : DTy α) (w1 w : World) (D : DM α) (c pre suf : List (DE α)) : Prop where
  eq : c = pre ++ suf
  y : TabIs ty w D.yb (pre.foldl (hang D.seed) D.young)
  ch : chainOk ty w suf
  k : Keeps (bofs c ++ [D.yb]) w1 w
section
variable {w1 w w2 : World} {db : Nat} {D : DM α} {c pre r : List (DE α)} {e : DE α}
theorem old_mem (hc : D.old[D.cur]? = some c) {x : DE α} (hx : x ∈ c) : x.b ∈ tblocks D.ob D.old := mem_tblocks (List.mem_of_getElem? hc) hx
theorem mid_start (h : DictIs ty w1 db D) (hc : D.old[D.cur]? = some c) : Mid ty w1 w1 D c [] c := ⟨rfl, h.hy, h.ho.ch c (List.mem_of_getElem? hc), Keeps.refl _ _⟩
theorem yb_mem (hy : D.young ≠ []) : D.yb ∈ tblocks D.yb D.young := tb_mem hy
theorem old_young (h : DictIs ty w1 db D) {b : Nat} (h1 : b ∈ tblocks D.ob D.old) : b ∉ tblocks D.yb D.young := by
  have := (List.nodup_append.1 (List.nodup_cons.1 h.nd).2).2.2
  exact fun h2 => this b h1 b h2 rfl
theorem db_not (h : DictIs ty w1 db D) : db ∉ tblocks D.ob D.old ∧ db ∉ tblocks D.yb D.young := by
  have := (List.nodup_cons.1 h.nd).1
  exact ⟨fun h1 => this (List.mem_append_left _ h1), fun h1 => this (List.mem_append_right _ h1)⟩
theorem c_nodup (h : DictIs ty w1 db D) (hc : D.old[D.cur]? = some c) : (bofs c).Nodup := nodup_chain (nd_old h.nd) (List.mem_of_getElem? hc)
theorem mid_blocks (h : DictIs ty w1 db D) (hy : D.young ≠ []) (hc : D.old[D.cur]? = some c) (m : Mid ty w1 w D c pre (e :: r)) :
    (e.b :: tblocks D.yb (pre.foldl (hang D.seed) D.young)).Nodup ∧ (∀ x ∈ r, x.b ≠ e.b ∧ x.b ≠ D.yb) ∧ pre.foldl (hang D.seed) D.young ≠ [] := by
  have hyn := hangs_ne D.seed pre D.young hy
  have hp : (tblocks D.yb (pre.foldl (hang D.seed) D.young)).Perm (bofs pre ++ tblocks D.yb D.young) := tb_perm hy hyn (hangs_flatten D.seed pre D.young hy)
  have hcn := c_nodup h hc
  rw [m.eq] at hcn
  unfold bofs at hcn
  rw [List.map_append, List.map_cons, List.nodup_append, List.nodup_cons] at hcn
  obtain ⟨n1, ⟨n2, n3⟩, n4⟩ := hcn
  have hec : e ∈ c := by rw [m.eq]; simp
  refine ⟨List.nodup_cons.2 ⟨fun hm => ?_, hp.nodup_iff.2 (List.nodup_append.2 ⟨n1, nd_young h.nd, fun a ha b hb => ?_⟩)⟩, fun x hx => ⟨fun e2 => n2 (List.mem_map.2 ⟨x, hx, e2⟩), fun e2 => ?_⟩, hyn⟩
  · rcases List.mem_append.1 (hp.mem_iff.1 hm) with h1 | h1
    · exact n4 _ h1 _ (List.mem_cons_self ..) rfl
    · exact old_young h (old_mem hc hec) h1
  · rintro rfl
    obtain ⟨x, hx, rfl⟩ := List.mem_map.1 ha
    exact old_young h (old_mem hc (by rw [m.eq]; simp [hx])) hb
  · have hxc : x ∈ c := by rw [m.eq]; simp [hx]
    exact old_young h (old_mem hc hxc) (e2 ▸ yb_mem hy)
theorem mid_hang (h : DictIs ty w1 db D) (hy : D.young ≠ []) (hc : D.old[D.cur]? = some c) (m : Mid ty w1 w D c pre (e :: r))
    (ht : TabIs ty w2 D.yb (hang D.seed (pre.foldl (hang D.seed) D.young) e)) (hk : Keeps [e.b, D.yb] w w2) : Mid ty w1 w2 D c (pre ++ [e]) r := by
  obtain ⟨_, hr, _⟩ := mid_blocks h hy hc m
  refine ⟨by rw [m.eq]; simp, by rw [List.foldl_append, List.foldl_cons, List.foldl_nil]; exact ht, m.ch.2.keep (fun x hx => ?_), m.k.trans (hk.mono (fun b hb => ?_))⟩
  · refine hk.block _ (m.ch.2.lt x hx) (fun hm => ?_)
    simp at hm
    rcases hm with e2 | e2
    · exact (hr x hx).1 e2
    · exact (hr x hx).2 e2
  · simp at hb
    rcases hb with rfl | rfl
    · exact List.mem_append_left _ (List.mem_map.2 ⟨e, by rw [m.eq]; simp, rfl⟩)
    · simp
/-- In the midst of it: the dict's own cells, the old table's row. -/
theorem mid_head (h : DictIs ty w1 db D) (hy : D.young ≠ []) (hc : D.old[D.cur]? = some c) {suf : List (DE α)} (m : Mid ty w1 w D c pre suf) : w.heap[db]? = some (dObj ty D) := by
  refine m.k.get h.hd (fun hm => ?_)
  rcases List.mem_append.1 hm with h1 | h1
  · obtain ⟨x, hx, e2⟩ := List.mem_map.1 h1
    exact (db_not h).1 (e2 ▸ old_mem hc hx)
  · simp at h1; exact (db_not h).2 (h1 ▸ yb_mem hy)
theorem mid_row (h : DictIs ty w1 db D) (hy : D.young ≠ []) (hc : D.old[D.cur]? = some c) {suf : List (DE α)} (m : Mid ty w1 w D c pre suf) : w.heap[D.ob]? = some (.cells (D.old.map ptr).toArray ty.p (0, 0)) := by
  have hon : D.old ≠ [] := by intro e; rw [e] at hc; simp at hc
  refine m.k.get (h.ho.row hon) (fun hm => ?_)
  rcases List.mem_append.1 hm with h1 | h1
  · obtain ⟨x, hx, e2⟩ := List.mem_map.1 h1
    exact tb_fresh (nd_old h.nd) hon x (List.mem_flatten.2 ⟨c, List.mem_of_getElem? hc, hx⟩) e2
  · simp at h1; exact old_young h (tb_mem hon) (h1 ▸ yb_mem hy)
theorem mid_end (h : DictIs ty w1 db D) (hwf : D.WF) (hy : D.young ≠ []) (hc : D.old[D.cur]? = some c) (hcn : c ≠ []) (m : Mid ty w1 w D c c []) (hsk : skip D.old 10 D.cur = D.cur) :
    DictIs ty ((w.setCell ⟨D.ob, D.cur, none⟩ (.pointer none)).setCell ⟨db, 3, none⟩ (.int .i64 ((D.cur + 1 : Nat) : Int))) db D.moved ∧
    Keeps (D.blocks db) w1 ((w.setCell ⟨D.ob, D.cur, none⟩ (.pointer none)).setCell ⟨db, 3, none⟩ (.int .i64 ((D.cur + 1 : Nat) : Int))) := by
  have hon : D.old ≠ [] := by intro e; rw [e] at hc; simp at hc
  have hlt := (List.getElem?_eq_some_iff.1 hc).1
  have hmv : D.moved = { D with old := D.old.set D.cur [], young := c.foldl (hang D.seed) D.young, cur := D.cur + 1 } := by
    cases c with
    | nil => exact absurd rfl hcn
    | cons e l =>
      have := DM.moved_cons (D := D) (e := e) (l := l) (by rw [hsk]; exact hc)
      rw [this, hsk]
  have hrow := mid_row h hy hc m
  have hhd := mid_head h hy hc m
  have hdo : db ≠ D.ob := fun e2 => (db_not h).1 (e2 ▸ tb_mem hon)
  have hyo : ∀ b, b ∈ tblocks D.yb D.moved.young → b ≠ D.ob ∧ b ≠ db := by
    intro b hb
    rw [hmv] at hb
    have hyn := hangs_ne D.seed c D.young hy
    have hp : (tblocks D.yb (c.foldl (hang D.seed) D.young)).Perm (bofs c ++ tblocks D.yb D.young) := tb_perm hy hyn (hangs_flatten D.seed c D.young hy)
    rcases List.mem_append.1 (hp.mem_iff.1 hb) with h1 | h1
    · obtain ⟨x, hx, rfl⟩ := List.mem_map.1 h1
      exact ⟨tb_fresh (nd_old h.nd) hon x (List.mem_flatten.2 ⟨c, List.mem_of_getElem? hc, hx⟩), fun e2 => (db_not h).1 (e2 ▸ old_mem hc hx)⟩
    · exact ⟨fun e2 => old_young h (tb_mem hon) (e2 ▸ h1), fun e2 => (db_not h).2 (e2 ▸ h1)⟩
  have hother : ∀ l ∈ D.old.set D.cur [], chainOk ty w l ∧ ∀ x ∈ l, x.b ≠ D.ob ∧ x.b ≠ db := by
    intro l hl
    rcases List.mem_iff_getElem?.1 hl with ⟨j, hj⟩
    rw [List.getElem?_set] at hj
    by_cases hij : D.cur = j
    · rw [if_pos hij] at hj
      obtain rfl : [] = l := by
        rw [if_pos hlt] at hj
        exact Option.some.inj hj
      exact ⟨trivial, fun x hx => by simp at hx⟩
    · rw [if_neg hij] at hj
      have hlm := List.mem_of_getElem? hj
      refine ⟨(h.ho.ch l hlm).keep (fun x hx => ?_), fun x hx => ⟨tb_fresh (nd_old h.nd) hon x (List.mem_flatten.2 ⟨l, hlm, hx⟩), fun e2 => (db_not h).1 (e2 ▸ mem_tblocks hlm hx)⟩⟩
      refine m.k.block _ ((h.ho.ch l hlm).lt x hx) (fun hm => ?_)
      rcases List.mem_append.1 hm with h1 | h1
      · obtain ⟨z, hz, e2⟩ := List.mem_map.1 h1
        exact other_chain (nd_old h.nd) hj hc (fun e3 => hij e3.symm) x hx z hz e2.symm
      · simp at h1; exact old_young h (mem_tblocks hlm hx) (h1 ▸ yb_mem hy)
  obtain ⟨hbp, hmy⟩ := DM.moved_blocks hwf hy db
  refine ⟨⟨?_, ⟨fun _ => ?_, fun l hl => ?_⟩, ?_, hbp.nodup_iff.2 h.nd, ?_, ?_, ?_, ?_, ?_⟩, ?_⟩
  · have h1 : (w.setCell ⟨D.ob, D.cur, none⟩ (.pointer none)).heap[db]? = some (dObj ty D) := by rw [set_other _ hdo]; exact hhd
    rw [hmv]
    unfold dObj at h1 ⊢
    rw [set_same h1]
    simp only
    rw [tabv_len (t := D.old.set D.cur []) (s := D.old) (by simp), tabv_len (t := c.foldl (hang D.seed) D.young) (s := D.young) (hangs_length _ _ _)]
    rfl
  · rw [hmv]
    simp only
    rw [set_other (b := D.ob) _ (fun e2 => hdo e2.symm), set_same hrow]
    congr 2
    apply Array.ext_getElem?
    intro j
    rw [Array.getElem?_setIfInBounds, List.getElem?_toArray, List.getElem?_toArray, List.getElem?_map, List.getElem?_map, List.getElem?_set]
    by_cases hj : D.cur = j
    · rw [← hj]; simp [hlt, ptr]
    · simp [hj]
  · rw [hmv] at hl
    obtain ⟨h1, h2⟩ := hother l hl
    exact h1.keep (fun x hx => by rw [set_other (b := x.b) _ (h2 x hx).2, set_other (b := x.b) _ (h2 x hx).1])
  · have hyy : TabIs ty w D.yb D.moved.young := by rw [hmv]; exact m.y
    have hyb : D.moved.yb = D.yb := by rw [hmv]
    rw [hyb]
    exact hyy.keep (fun b hb => by rw [set_other (b := b) _ (hyo b hb).2, set_other (b := b) _ (hyo b hb).1])
  · rw [hmv]; exact h.sd
  · intro x hx
    exact h.ks x ((DM.moved_facts hwf hy).2.2.2.1.mem_iff.1 hx)
  · rw [(DM.moved_facts hwf hy).2.1]; exact h.bo
  · rw [(DM.moved_facts hwf hy).2.2.1]; exact h.by_
  · rw [(DM.moved_facts hwf hy).2.2.2.2.2.2.2.1]; exact h.bn
  · refine ((m.k.mono (fun b hb => ?_)).setCell (p := ⟨D.ob, D.cur, none⟩) (.inl ?_) _).setCell (p := ⟨db, 3, none⟩) (.inl (by simp [DM.blocks])) _
    · rcases List.mem_append.1 hb with h1 | h1
      · obtain ⟨z, hz, rfl⟩ := List.mem_map.1 h1
        exact List.mem_cons_of_mem _ (List.mem_append_left _ (old_mem hc hz))
      · simp at h1; subst h1
        exact List.mem_cons_of_mem _ (List.mem_append_right _ (yb_mem hy))
    · exact List.mem_cons_of_mem _ (List.mem_append_left _ (tb_mem hon))
/-- The dict's count of emptied buckets is stored. -/
theorem cur_set (h : DictIs ty w db D) (j : Nat) : DictIs ty (w.setCell ⟨db, 3, none⟩ (.int .i64 (j : Int))) db { D with cur := j } := by
  refine ⟨?_, h.ho.keep (fun b hb => set_other _ (fun e2 => (db_not h).1 (by have e3 : b = db := e2; rw [← e3]; exact hb))), h.hy.keep (fun b hb => set_other _ (fun e2 => (db_not h).2 (by have e3 : b = db := e2; rw [← e3]; exact hb))), h.nd, h.sd, h.ks, h.bo, h.by_, h.bn⟩
  have := h.hd
  unfold dObj at this ⊢
  rw [set_same this]
  rfl
/-- The young table is the old one now. -/
theorem turn_set (h : DictIs ty w db D) (hy : D.young ≠ []) :
    DictIs ty (((w.setCell ⟨db, 1, none⟩ (tabv D.yb D.young)).setCell ⟨db, 2, none⟩ (.slice none 0 0)).setCell ⟨db, 3, none⟩ (.int .i64 0)) db { D with ob := D.yb, old := D.young, yb := 0, young := [], cur := 0 } := by
  have hk : ∀ b ∈ tblocks D.yb D.young, (((w.setCell ⟨db, 1, none⟩ (tabv D.yb D.young)).setCell ⟨db, 2, none⟩ (.slice none 0 0)).setCell ⟨db, 3, none⟩ (.int .i64 0)).heap[b]? = w.heap[b]? := by
    intro b hb
    have hne : b ≠ db := fun e2 => (db_not h).2 (e2 ▸ hb)
    rw [set_other (b := b) _ hne, set_other (b := b) _ hne, set_other (b := b) _ hne]
  refine ⟨?_, h.hy.keep hk, TabIs.nil _ _, ?_, h.sd, fun x hx => h.ks x ?_, h.by_, by simp, h.bn⟩
  · have := h.hd
    unfold dObj at this ⊢
    rw [set_same (set_same (set_same this 1 _) 2 _) 3 _]
    rfl
  · have := h.nd
    unfold DM.blocks at this ⊢
    simp only [tblocks_nil, List.append_nil]
    rw [List.nodup_cons, List.nodup_append] at this
    rw [List.nodup_cons]
    exact ⟨fun hm => this.1 (List.mem_append_right _ hm), this.2.2.1⟩
  · unfold DM.all at hx ⊢
    simp only [List.flatten_nil, List.append_nil] at hx
    exact List.mem_append_right _ hx
end
end Go.Proofs.YthmbhkgllfngmaaGreatDoor.ks
