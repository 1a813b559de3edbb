/- keyspace: Put. -/
import Derived.Test.YthmbhkgllfngmaaGreatDoorKsA
import Derived.WalkKit
import Derived.Test.YthmbhkgllfngmaaGreatDoorKsC
import Derived.Maps.OwnSet
import Derived.StringKeys
import Derived.StillTailTactics
import Derived.Deep.AppendLies
import Derived.Deep.CutBlock
import Derived.Deep.DeepCutAuto
/- A space as plain data: keys, what they hold, deadlines; what its functions make of it. No program in sight. -/
namespace Go.Proofs.YthmbhkgllfngmaaGreatDoor.ks
set_option linter.unusedVariables false
set_option linter.unusedSimpArgs false

/-- What a value is: a text (some), or another thing; whether it is empty; what it costs. -/
structure Val where
  txt : Option ByteArray
  empty : Bool
  cost : Int
def Val.text (s : ByteArray) : Val := ⟨some s, false, s.size⟩
/-- An entry: its value's block, the value, what it costs, the stamp, the deadline. -/
structure EntD where
  vb : Nat
  val : Val
  cost : Int
  stamp : Int
  dl : Int
structure SS where
  seed : Nat
  most : Int
  policy : Int
  samples : Int
  now : Int
  uses : Int
  used : Int
  mb : Nat
  main : DM Nat
  lb : Nat
  late : DM Nat
  ents : Nat → EntD
  tb : Nat
  touched : List ByteArray
  sv : Value
  steps : List (Int × ByteArray)
def upd (g : Nat → EntD) (b : Nat) (e : EntD) : Nat → EntD := fun x => if x = b then e else g x
theorem upd_same (g : Nat → EntD) (b : Nat) (e : EntD) : upd g b e b = e := if_pos rfl
theorem upd_other (g : Nat → EntD) {b x : Nat} (e : EntD) (h : x ≠ b) : upd g b e x = g x := if_neg h

namespace SS
/-- What holds of a space at every time. -/
structure Inv (S : SS) : Prop where
  mw : S.main.WF
  lw : S.late.WF
  lt : ∀ k, S.late.look k = (S.main.look k).filter (fun b => decide (0 < (S.ents b).dl))
  vinj : (S.main.all.map (fun e => e.v)).Nodup
  dl : ∀ e ∈ S.main.all, 0 ≤ (S.ents e.v).dl ∧ (S.ents e.v).dl ≤ 9007199254740992
  now : 0 ≤ S.now ∧ S.now ≤ 9007199254740992
/-- What a key holds, if it is not past. -/
def live (S : SS) (b : Nat) : Option (Val × Int) := if 0 < (S.ents b).dl ∧ (S.ents b).dl ≤ S.now then none else some ((S.ents b).val, (S.ents b).dl)
def al (S : SS) (k : ByteArray) : Option (Val × Int) := (S.main.look k).bind S.live

/-- Behind a step of the main table. -/
def stepped (S : SS) : SS := { S with main := S.main.step }
theorem stepped_inv {S : SS} (h : S.Inv) : S.stepped.Inv ∧ (∀ k, S.stepped.al k = S.al k) ∧ (∀ k, S.stepped.main.look k = S.main.look k) := by
  obtain ⟨w, p, _, _⟩ := DM.step_facts h.mw
  refine ⟨⟨w, h.lw, fun k => ?_, ?_, fun e he => h.dl e (p.mem_iff.1 he), h.now⟩, fun k => ?_, fun k => DM.step_look h.mw k⟩
  · show S.late.look k = (S.main.step.look k).filter _
    rw [DM.step_look h.mw]; exact h.lt k
  · exact (p.map _).nodup_iff.2 h.vinj
  · show (S.main.step.look k).bind _ = _
    rw [DM.step_look h.mw]; rfl

/-- A key's block: the keys that share it are one. -/
theorem Inv.key_of {S : SS} (h : S.Inv) {k q : ByteArray} {b : Nat} (h1 : S.main.look k = some b) (h2 : S.main.look q = some b) : k = q := by
  obtain ⟨e, he, rfl, rfl⟩ := DM.look_some h1
  obtain ⟨x, hx, rfl, hv⟩ := DM.look_some h2
  have key : ∀ {l : List (DE Nat)}, (l.map (fun e => e.v)).Nodup → ∀ a ∈ l, ∀ c ∈ l, a.v = c.v → a = c := by
    intro l
    induction l with
    | nil => intro _ a ha; simp at ha
    | cons y r ih =>
      intro hn a ha c hc hac
      rw [List.map_cons, List.nodup_cons] at hn
      rcases List.mem_cons.1 ha with e1 | ha2
      · rcases List.mem_cons.1 hc with e2 | hc2
        · rw [e1, e2]
        · exact absurd (List.mem_map.2 ⟨c, hc2, by rw [← e1]; exact hac.symm⟩) hn.1
      · rcases List.mem_cons.1 hc with e2 | hc2
        · exact absurd (List.mem_map.2 ⟨a, ha2, by rw [← e2]; exact hac⟩) hn.1
        · exact ih hn.2 a ha2 c hc2 hac
  rw [key h.vinj e he x hx hv.symm]

/-- A stored key goes. (f: the numbers of new blocks; u: what all cost then.) -/
def gone (S : SS) (k : ByteArray) (b : Nat) (f : Nat → Nat) (u : Int) : SS :=
  { S with used := u, main := S.main.del k (f 0), late := if 0 < (S.ents b).dl then S.late.del k (f 1) else S.late, touched := S.touched ++ [k] }

theorem del_all {D : DM Nat} (h : D.WF) (k : ByteArray) (tb : Nat) : (D.del k tb).all.Perm (D.all.filter (notK k)) := by
  obtain ⟨w, p, _, _⟩ := DM.step_facts h
  by_cases hf : ∃ e ∈ D.step.all, e.k = k
  · have := (DM.drop_found w tb hf).2.1
    unfold DM.del
    rw [this]
    exact p.filter _
  · have hf' : ∀ e ∈ D.step.all, e.k ≠ k := fun e he e2 => hf ⟨e, he, e2⟩
    unfold DM.del
    rw [DM.drop_none w tb hf']
    have : D.all.filter (notK k) = D.all := filter_other (fun e he => hf' e (p.mem_iff.2 he))
    rw [this]; exact p
theorem gone_inv {S : SS} (h : S.Inv) {k : ByteArray} {b : Nat} (hb : S.main.look k = some b) (f : Nat → Nat) (u : Int) :
    (S.gone k b f u).Inv ∧ (∀ q, (S.gone k b f u).al q = if q = k then none else S.al q) ∧ (∀ q, (S.gone k b f u).main.look q = if q = k then none else S.main.look q) := by
  obtain ⟨mw, ml⟩ := DM.del_look h.mw k (f 0)
  obtain ⟨lw, ll⟩ := DM.del_look h.lw k (f 1)
  have hp := del_all h.mw k (f 0)
  refine ⟨⟨mw, ?_, fun q => ?_, ?_, fun e he => ?_, h.now⟩, fun q => ?_, ml⟩
  · show (if _ then _ else _ : DM Nat).WF
    split
    · exact lw
    · exact h.lw
  · show (if _ then _ else _ : DM Nat).look q = ((S.main.del k (f 0)).look q).filter _
    rw [ml]
    split
    · rw [ll]
      split
      · rfl
      · exact h.lt q
    · rename_i hd
      by_cases hq : q = k
      · subst hq
        rw [if_pos rfl, h.lt, hb]
        simp only [Option.filter, hd, decide_false]; rfl
      · rw [if_neg hq]; exact h.lt q
  · exact (hp.map _).nodup_iff.2 ((List.filter_sublist.map _).nodup h.vinj)
  · exact h.dl e (List.mem_filter.1 (hp.mem_iff.1 he)).1
  · show ((S.main.del k (f 0)).look q).bind _ = _
    rw [ml]
    split
    · rfl
    · rfl

/-- A key was changed. -/
def touch (S : SS) (k : ByteArray) : SS := { S with touched := S.touched ++ [k] }
theorem touch_inv {S : SS} (h : S.Inv) (k : ByteArray) : (S.touch k).Inv ∧ ∀ q, (S.touch k).al q = S.al q := ⟨⟨h.mw, h.lw, h.lt, h.vinj, h.dl, h.now⟩, fun q => rfl⟩
/-- What a met key is: the space behind it, and its block. -/
def past (S : SS) (b : Nat) : Prop := 0 < (S.ents b).dl ∧ (S.ents b).dl ≤ S.now
def expired (S : SS) (k : ByteArray) (b : Nat) (f : Nat → Nat) (u : Int) (sv : Value) : SS := { S.gone k b f u with sv := sv, steps := S.steps ++ [(1, k)] }
theorem expired_inv {S : SS} (h : S.Inv) {k : ByteArray} {b : Nat} (hb : S.main.look k = some b) (hp : S.past b) (f : Nat → Nat) (u : Int) (sv : Value) :
    (S.expired k b f u sv).Inv ∧ (∀ q, (S.expired k b f u sv).al q = S.al q) ∧ (∀ q, (S.expired k b f u sv).main.look q = if q = k then none else S.main.look q) := by
  obtain ⟨i, a, l⟩ := gone_inv h hb f u
  refine ⟨⟨i.mw, i.lw, i.lt, i.vinj, i.dl, i.now⟩, fun q => ?_, l⟩
  refine (a q).trans ?_
  split
  · rename_i hq
    subst hq
    unfold al live
    rw [hb]
    simp only [Option.bind_some]
    exact (if_pos (show 0 < (S.ents b).dl ∧ (S.ents b).dl ≤ S.now from hp)).symm
  · rfl

/-- A key is put over with a value under a new entry b. -/
def stored (S : SS) (k : ByteArray) (b : Nat) (e : EntD) (f : Nat → Nat) (u : Int) : SS :=
  { S with used := u, uses := e.stamp, main := S.main.set k b (f 0) (f 1), ents := upd S.ents b e }
theorem put_mem {D : DM Nat} (h : D.WF) {k : ByteArray} {b tb nb : Nat} {e : DE Nat} (he : e ∈ (D.put k b tb nb).all) : (e ∈ D.all ∧ e.k ≠ k) ∨ (e.k = k ∧ e.v = b) := by
  have hw := (DM.put_look h k b tb nb).1
  have hl := (DM.put_look h k b tb nb).2 e.k
  have := DM.look_of hw he
  by_cases hk : e.k = k
  · rw [hl, if_pos hk] at this
    exact .inr ⟨hk, (Option.some.inj this).symm⟩
  · left
    refine ⟨?_, hk⟩
    by_cases hf : ∃ e ∈ D.all, e.k = k
    · obtain ⟨_, w2, _⟩ := DM.put_found h b tb nb hf
      rw [w2] at he
      obtain ⟨x, hx, rfl⟩ := List.mem_map.1 he
      rw [rep_k] at hk
      rw [rep_other hk]; exact hx
    · have hf' : ∀ e ∈ D.all, e.k ≠ k := fun e he e2 => hf ⟨e, he, e2⟩
      obtain ⟨_, w2, _⟩ := DM.put_new h b tb nb hf'
      rcases List.mem_cons.1 (w2.mem_iff.1 he) with rfl | hx
      · exact absurd rfl hk
      · exact hx
theorem set_mem {D : DM Nat} (h : D.WF) {k : ByteArray} {b tb nb : Nat} {e : DE Nat} (he : e ∈ (D.set k b tb nb).all) : (e ∈ D.all ∧ e.k ≠ k) ∨ (e.k = k ∧ e.v = b) := by
  obtain ⟨w, p, _, _⟩ := DM.step_facts h
  rcases put_mem w he with ⟨h1, h2⟩ | h1
  · exact .inl ⟨p.mem_iff.1 h1, h2⟩
  · exact .inr h1
theorem nodup_vals {D : DM Nat} (hk : (D.all.map (fun e => e.k)).Nodup) (h : ∀ e ∈ D.all, ∀ x ∈ D.all, e.v = x.v → e.k = x.k) : (D.all.map (fun e => e.v)).Nodup := by
  have key : ∀ l : List (DE Nat), (l.map (fun e => e.k)).Nodup → (∀ e ∈ l, ∀ x ∈ l, e.v = x.v → e.k = x.k) → (l.map (fun e => e.v)).Nodup := by
    intro l
    induction l with
    | nil => intro _ _; simp
    | cons y r ih =>
      intro h1 h2
      rw [List.map_cons, List.nodup_cons] at h1
      rw [List.map_cons, List.nodup_cons]
      refine ⟨fun hm => ?_, ih h1.2 (fun e he x hx => h2 e (by simp [he]) x (by simp [hx]))⟩
      obtain ⟨x, hx, hv⟩ := List.mem_map.1 hm
      exact h1.1 (List.mem_map.2 ⟨x, hx, h2 x (by simp [hx]) y (by simp) hv⟩)
  exact key _ hk h
theorem stored_inv {S : SS} (h : S.Inv) {k : ByteArray} {b : Nat} {e : EntD} (hn : ∀ x ∈ S.main.all, x.v ≠ b) (hl : S.late.look k = none) (hd : e.dl = 0) (f : Nat → Nat) (u : Int) :
    (S.stored k b e f u).Inv ∧ (∀ q, (S.stored k b e f u).al q = if q = k then some (e.val, 0) else S.al q) ∧ (∀ q, (S.stored k b e f u).main.look q = if q = k then some b else S.main.look q) := by
  obtain ⟨mw, ml⟩ := DM.set_look h.mw k b (f 0) (f 1)
  have hne : ∀ q c, S.main.look q = some c → c ≠ b := by
    intro q c hq
    obtain ⟨x, hx, _, rfl⟩ := DM.look_some hq
    exact hn x hx
  refine ⟨⟨mw, h.lw, fun q => ?_, ?_, fun x hx => ?_, h.now⟩, fun q => ?_, ml⟩
  · show S.late.look q = ((S.main.set k b (f 0) (f 1)).look q).filter (fun c => decide (0 < (upd S.ents b e c).dl))
    rw [ml]
    split
    · rename_i hq
      subst hq
      rw [hl]
      simp only [Option.filter, upd_same, hd]; rfl
    · rw [h.lt]
      cases hq : S.main.look q with
      | none => rfl
      | some c => simp only [Option.filter, upd_other _ _ (hne q c hq)]
  · refine nodup_vals mw.keys (fun x hx y hy hv => ?_)
    rcases set_mem h.mw hx with ⟨h1, h1k⟩ | ⟨h1, h1v⟩
    · rcases set_mem h.mw hy with ⟨h2, h2k⟩ | ⟨h2, h2v⟩
      · have e1 := DM.look_of h.mw h1
        have e2 := DM.look_of h.mw h2
        rw [hv] at e1
        exact h.key_of e1 e2
      · exact absurd (hv.trans h2v) (hn x h1)
    · rcases set_mem h.mw hy with ⟨h2, h2k⟩ | ⟨h2, h2v⟩
      · exact absurd (hv.symm.trans h1v) (hn y h2)
      · rw [h1, h2]
  · rcases set_mem h.mw hx with ⟨h1, h1k⟩ | ⟨h1, h1v⟩
    · show 0 ≤ (upd S.ents b e x.v).dl ∧ (upd S.ents b e x.v).dl ≤ _
      rw [upd_other _ _ (hn x h1)]; exact h.dl x h1
    · show 0 ≤ (upd S.ents b e x.v).dl ∧ (upd S.ents b e x.v).dl ≤ _
      rw [h1v, upd_same, hd]; decide
  · show ((S.main.set k b (f 0) (f 1)).look q).bind _ = _
    rw [ml]
    split
    · simp only [Option.bind_some, live]
      rw [show (S.stored k b e f u).ents b = e from upd_same _ _ _, hd, if_neg (by omega)]
    · unfold al
      cases hq : S.main.look q with
      | none => rfl
      | some c =>
        simp only [Option.bind_some, live]
        rw [show (S.stored k b e f u).ents c = S.ents c from upd_other _ _ (hne q c hq)]
        rfl

/-- A key is taken off the table of deadlines. -/
def early (S : SS) (k : ByteArray) (b : Nat) (f : Nat → Nat) (u : Int) : SS := { S with used := u, late := if 0 < (S.ents b).dl then S.late.del k (f 2) else S.late }
/-- A key's deadline. -/
def timed (S : SS) (k : ByteArray) (b : Nat) (at_ : Int) (f : Nat → Nat) (u : Int) : SS :=
  { S with used := u, ents := upd S.ents b { S.ents b with dl := at_ }, late := S.late.set k b (f 0) (f 1) }
theorem timed_inv {S : SS} (h : S.Inv) {k : ByteArray} {b : Nat} (hb : S.main.look k = some b) {at_ : Int} (h0 : S.now < at_) (h1 : at_ ≤ 9007199254740992) (f : Nat → Nat) (u : Int) :
    (S.timed k b at_ f u).Inv ∧ (∀ q, (S.timed k b at_ f u).al q = if q = k then some ((S.ents b).val, at_) else S.al q) := by
  obtain ⟨lw, ll⟩ := DM.set_look h.lw k b (f 0) (f 1)
  have hne : ∀ q c, S.main.look q = some c → q ≠ k → c ≠ b := by
    rintro q c hq hqk rfl
    exact hqk (h.key_of hq hb)
  have hn := h.now
  refine ⟨⟨h.mw, lw, fun q => ?_, h.vinj, fun x hx => ?_, h.now⟩, fun q => ?_⟩
  · show (S.late.set k b (f 0) (f 1)).look q = (S.main.look q).filter (fun c => decide (0 < (upd S.ents b { S.ents b with dl := at_ } c).dl))
    rw [ll]
    split
    · rename_i hq
      subst hq
      rw [hb]
      simp only [Option.filter, upd_same]
      rw [show decide (0 < at_) = true from decide_eq_true (by omega)]; rfl
    · rename_i hq
      rw [h.lt]
      cases hc : S.main.look q with
      | none => rfl
      | some c => simp only [Option.filter, upd_other _ _ (hne q c hc hq)]
  · show 0 ≤ (upd S.ents b { S.ents b with dl := at_ } x.v).dl ∧ (upd S.ents b { S.ents b with dl := at_ } x.v).dl ≤ _
    by_cases hx2 : x.v = b
    · rw [hx2, upd_same]; exact ⟨by show 0 ≤ at_; omega, h1⟩
    · rw [upd_other _ _ hx2]; exact h.dl x hx
  · show (S.main.look q).bind _ = _
    split
    · rename_i hq
      subst hq
      rw [hb]
      simp only [Option.bind_some, live]
      rw [show (S.timed q b at_ f u).ents b = { S.ents b with dl := at_ } from upd_same _ _ _, if_neg (by show ¬ (0 < at_ ∧ at_ ≤ S.now); omega)]
    · rename_i hq
      unfold al
      cases hc : S.main.look q with
      | none => rfl
      | some c =>
        simp only [Option.bind_some, live]
        rw [show (S.timed k b at_ f u).ents c = S.ents c from upd_other _ _ (hne q c hc hq)]
        rfl
/-- A stored key is taken off the table of deadlines and put over. -/
theorem over_inv {S : SS} (h : S.Inv) {k : ByteArray} {b0 b : Nat} (hb : S.main.look k = some b0) {e : EntD} (hn : ∀ x ∈ S.main.all, x.v ≠ b) (hd : e.dl = 0) (f : Nat → Nat) (u u2 : Int) :
    ((S.early k b0 f u).stored k b e f u2).Inv ∧ (∀ q, ((S.early k b0 f u).stored k b e f u2).al q = if q = k then some (e.val, 0) else S.al q) := by
  obtain ⟨lw, ll⟩ := DM.del_look h.lw k (f 2)
  obtain ⟨mw, ml⟩ := DM.set_look h.mw k b (f 0) (f 1)
  have hlate : ∀ q, (S.early k b0 f u).late.look q = if q = k then none else S.late.look q := by
    intro q
    show (if _ then _ else _ : DM Nat).look q = _
    split
    · exact ll q
    · rename_i hd2
      split
      · rename_i hq
        subst hq
        rw [h.lt, hb]
        simp only [Option.filter, hd2, decide_false]; rfl
      · rfl
  have hlw : (S.early k b0 f u).late.WF := by
    show (if _ then _ else _ : DM Nat).WF
    split
    · exact lw
    · exact h.lw
  have hne : ∀ q c, S.main.look q = some c → c ≠ b := by
    intro q c hq
    obtain ⟨x, hx, _, rfl⟩ := DM.look_some hq
    exact hn x hx
  refine ⟨⟨mw, hlw, fun q => ?_, ?_, fun x hx => ?_, h.now⟩, fun q => ?_⟩
  · show (S.early k b0 f u).late.look q = ((S.main.set k b (f 0) (f 1)).look q).filter (fun c => decide (0 < (upd S.ents b e c).dl))
    rw [ml, hlate]
    split
    · simp only [Option.filter, upd_same, hd]; rfl
    · rw [h.lt]
      cases hq : S.main.look q with
      | none => rfl
      | some c => simp only [Option.filter, upd_other _ _ (hne q c hq)]
  · refine nodup_vals mw.keys (fun x hx y hy hv => ?_)
    rcases set_mem h.mw hx with ⟨h1, h1k⟩ | ⟨h1, h1v⟩
    · rcases set_mem h.mw hy with ⟨h2, h2k⟩ | ⟨h2, h2v⟩
      · have e1 := DM.look_of h.mw h1
        have e2 := DM.look_of h.mw h2
        rw [hv] at e1
        exact h.key_of e1 e2
      · exact absurd (hv.trans h2v) (hn x h1)
    · rcases set_mem h.mw hy with ⟨h2, h2k⟩ | ⟨h2, h2v⟩
      · exact absurd (hv.symm.trans h1v) (hn y h2)
      · rw [h1, h2]
  · rcases set_mem h.mw hx with ⟨h1, h1k⟩ | ⟨h1, h1v⟩
    · show 0 ≤ (upd S.ents b e x.v).dl ∧ (upd S.ents b e x.v).dl ≤ _
      rw [upd_other _ _ (hn x h1)]; exact h.dl x h1
    · show 0 ≤ (upd S.ents b e x.v).dl ∧ (upd S.ents b e x.v).dl ≤ _
      rw [h1v, upd_same, hd]; decide
  · show ((S.main.set k b (f 0) (f 1)).look q).bind _ = _
    rw [ml]
    split
    · simp only [Option.bind_some, live]
      rw [show ((S.early k b0 f u).stored k b e f u2).ents b = e from upd_same _ _ _, hd, if_neg (by omega)]
    · unfold al
      cases hq : S.main.look q with
      | none => rfl
      | some c =>
        simp only [Option.bind_some, live]
        rw [show ((S.early k b0 f u).stored k b e f u2).ents c = S.ents c from upd_other _ _ (hne q c hq)]
        rfl
end SS
end Go.Proofs.YthmbhkgllfngmaaGreatDoor.ks
/- A space in memory, and what each small step leaves of it. -/
namespace Go.Proofs.YthmbhkgllfngmaaGreatDoor.ks
open Go.ChangeShapes Go.WideShapes Go.RowKit
set_option linter.unusedVariables false
set_option linter.unusedSimpArgs false

/-- A value in memory: a text. -/
def ValIs (w : World) (b : Nat) (v : Val) : Prop := ∃ s : ByteArray, v = Val.text s ∧ s.size ≤ 1048576 ∧ w.heap[b]? = some (.cells #[.iface 143 (.string s)] 147 (0, 0))
structure EntIs (w : World) (b : Nat) (e : EntD) : Prop where
  c : w.heap[b]? = some (.cells #[dp e.vb, .int .i64 e.cost, .int .u64 e.stamp, .int .i64 e.dl] 68 (0, 0))
  v : ValIs w e.vb e.val
  k : e.cost = e.val.cost
def touchD (l : List ByteArray) : DataW Unit := l.foldl (fun D k => D.put (.string k.data.toList) (.agg [])) (.map [])
def stepV (x : Int × ByteArray) : List Value := [.int .i64 x.1, .string x.2]
def grp (S : SS) (sp : Nat) : Nat → List Nat
  | 0 => [sp]
  | 1 => [S.tb]
  | 2 => S.main.blocks S.mb
  | 3 => S.late.blocks S.lb
  | 4 => S.main.all.map (fun e => e.v)
  | 5 => S.main.all.map (fun e => (S.ents e.v).vb)
  | 6 => S.sv.ownBlock.toList
  | _ => []
def Apart (G : Nat → List Nat) : Prop := ∀ i j b, b ∈ G i → b ∈ G j → i = j
def foot (S : SS) (sp : Nat) : List Nat := grp S sp 0 ++ (grp S sp 1 ++ (grp S sp 2 ++ (grp S sp 3 ++ (grp S sp 4 ++ (grp S sp 5 ++ grp S sp 6)))))
theorem mem_foot {S : SS} {sp b : Nat} : b ∈ foot S sp ↔ ∃ i, b ∈ grp S sp i := by
  unfold foot
  simp only [List.mem_append]
  constructor
  · rintro (h | h | h | h | h | h | h)
    · exact ⟨0, h⟩
    · exact ⟨1, h⟩
    · exact ⟨2, h⟩
    · exact ⟨3, h⟩
    · exact ⟨4, h⟩
    · exact ⟨5, h⟩
    · exact ⟨6, h⟩
  · rintro ⟨i, h⟩
    match i, h with
    | 0, h => exact .inl h
    | 1, h => exact .inr (.inl h)
    | 2, h => exact .inr (.inr (.inl h))
    | 3, h => exact .inr (.inr (.inr (.inl h)))
    | 4, h => exact .inr (.inr (.inr (.inr (.inl h))))
    | 5, h => exact .inr (.inr (.inr (.inr (.inr (.inl h)))))
    | 6, h => exact .inr (.inr (.inr (.inr (.inr (.inr h)))))
    | n + 7, h => simp [grp] at h
def spObj (S : SS) : Obj := .cells #[.int .u64 S.seed, .int .i64 S.most, .int .i64 S.policy, .int .i64 S.samples, .int .i64 S.now, .int .u64 S.uses, .int .i64 S.used, dp S.mb, dp S.lb, .map (some S.tb), S.sv] 63 (0, 0)
structure MemIs (w : World) (sp : Nat) (S : SS) : Prop where
  hd : w.heap[sp]? = some (spObj S)
  m : DictIs dty w S.mb S.main
  l : DictIs dty w S.lb S.late
  e : ∀ x ∈ S.main.all, EntIs w x.v (S.ents x.v)
  t : w.ownsMap Tryz.prog 9 unitElem S.tb S.touched.length (touchD S.touched)
  s : w.ownsRow 0 161 2 S.sv S.steps.length (S.steps.flatMap stepV)
  ap : Apart (grp S sp)
  ks : ∀ x ∈ S.main.all, x.k.size ≤ 1048576
theorem MemIs.lt {w : World} {sp : Nat} {S : SS} (h : MemIs w sp S) : ∀ i b, b ∈ grp S sp i → b < w.heap.size := by
  intro i b hb
  match i, hb with
  | 0, hb => simp [grp] at hb; subst hb; exact hlt h.hd
  | 1, hb => simp [grp] at hb; subst hb; exact h.t.lt
  | 2, hb => exact h.m.lt b hb
  | 3, hb => exact h.l.lt b hb
  | 4, hb =>
    obtain ⟨x, hx, rfl⟩ := List.mem_map.1 hb
    exact hlt (h.e x hx).c
  | 5, hb =>
    obtain ⟨x, hx, rfl⟩ := List.mem_map.1 hb
    obtain ⟨s, _, _, hv⟩ := (h.e x hx).v
    exact hlt hv
  | 6, hb =>
    simp only [grp, Option.mem_toList] at hb
    exact (h.s.lt b hb).2
  | n + 7, hb => simp [grp] at hb
theorem MemIs.flt {w : World} {sp : Nat} {S : SS} (h : MemIs w sp S) : ∀ b, b ∈ foot S sp → b < w.heap.size := fun b hb => by
  obtain ⟨i, hi⟩ := mem_foot.1 hb
  exact h.lt i b hi

theorem ValIs.keep {w w' : World} {b : Nat} {v : Val} (h : ValIs w b v) (hk : w'.heap[b]? = w.heap[b]?) : ValIs w' b v := by
  obtain ⟨s, h1, h2, h3⟩ := h
  exact ⟨s, h1, h2, hk.trans h3⟩
theorem EntIs.keep {w w' : World} {b : Nat} {e : EntD} (h : EntIs w b e) (h1 : w'.heap[b]? = w.heap[b]?) (h2 : w'.heap[e.vb]? = w.heap[e.vb]?) : EntIs w' b e := ⟨h1.trans h.c, h.v.keep h2, h.k⟩
theorem owns_keep {w w' : World} {P : Program} {k : TypeId} {R : Value → Option (DataW Unit × List MemPlace)} {b n : Nat} {D : DataW Unit} (h : w.ownsMap P k R b n D) (hk : w'.heap[b]? = w.heap[b]?) : w'.ownsMap P k R b n D := by
  obtain ⟨es, clock, hb, r⟩ := h
  exact ⟨es, clock, hk.trans hb, r⟩
theorem row_keep {w w' : World} {base : Nat} {e : TypeId} {size : Nat} {v : Value} {n : Nat} {xs : List Value} (h : w.ownsRow base e size v n xs) (hk : ∀ b, v.ownBlock = some b → w'.heap[b]? = w.heap[b]?) : w'.ownsRow base e size v n xs := by
  refine ⟨h.1, ?_⟩
  rcases h.2 with h2 | ⟨g, cap, cur, rfl, hb, hg, r⟩
  · exact .inl h2
  · exact .inr ⟨g, cap, cur, rfl, hb, (hk g rfl).trans hg, r⟩
/-- Memory that is the space's own is as it was. -/
theorem MemIs.keep {w w' : World} {sp : Nat} {S : SS} (h : MemIs w sp S) (hk : ∀ b ∈ foot S sp, w'.heap[b]? = w.heap[b]?) : MemIs w' sp S := by
  have hg : ∀ i b, b ∈ grp S sp i → w'.heap[b]? = w.heap[b]? := fun i b hb => hk b (mem_foot.2 ⟨i, hb⟩)
  refine ⟨(hg 0 sp (by simp [grp])).trans h.hd, h.m.keep (hg 2), h.l.keep (hg 3), fun x hx => (h.e x hx).keep (hg 4 _ (List.mem_map.2 ⟨x, hx, rfl⟩)) (hg 5 _ (List.mem_map.2 ⟨x, hx, rfl⟩)), owns_keep h.t (hg 1 _ (by simp [grp])), row_keep h.s (fun b hb => hg 6 b (by simp [grp, hb])), h.ap, h.ks⟩
theorem MemIs.drewN {w : World} {sp : Nat} {S : SS} (h : MemIs w sp S) (n : Nat) : MemIs (w.drewN n) sp S := h.keep (fun _ _ => rfl)

/-- From one space to the next: what is not its own is as it was; its new blocks are new. -/
structure Next (sp : Nat) (w : World) (S : SS) (w' : World) (S' : SS) : Prop where
  k : Keeps (foot S sp) w w'
  b : ∀ b ∈ foot S' sp, b ∈ foot S sp ∨ w.heap.size ≤ b
theorem Next.refl (sp : Nat) (w : World) (S : SS) : Next sp w S w S := ⟨Keeps.refl _ _, fun b hb => .inl hb⟩
theorem Next.trans {sp : Nat} {w w1 w2 : World} {S S1 S2 : SS} (h : Next sp w S w1 S1) (h2 : Next sp w1 S1 w2 S2) : Next sp w S w2 S2 :=
  ⟨h.k.step h2.k h.b, fun b hb => by
    rcases h2.b b hb with h3 | h3
    · exact h.b b h3
    · right; have := h.k.size; omega⟩
theorem Next.drewN {sp : Nat} {w w1 : World} {S S1 : SS} (h : Next sp w S w1 S1) (n : Nat) : Next sp w S (w1.drewN n) S1 := ⟨h.k.drewN n, h.b⟩
theorem apart_next {G G' : Nat → List Nat} {N : Nat} (h : Apart G) (hlt : ∀ i b, b ∈ G i → b < N) (hs : ∀ i b, b ∈ G' i → b ∈ G i ∨ N ≤ b) (hf : ∀ i j b, N ≤ b → b ∈ G' i → b ∈ G' j → i = j) : Apart G' := by
  intro i j b hi hj
  rcases hs i b hi with h1 | h1
  · rcases hs j b hj with h2 | h2
    · exact h i j b h1 h2
    · have := hlt i b h1; omega
  · exact hf i j b h1 hi hj
theorem ne_of_grp {S : SS} {sp : Nat} (h : Apart (grp S sp)) {i j a b : Nat} (ha : a ∈ grp S sp i) (hb : b ∈ grp S sp j) (hij : i ≠ j) : a ≠ b := fun e => hij (h i j b (e ▸ ha) hb)

section
variable {w w' : World} {sp : Nat} {S : SS}
/-- A store into the space's own cells (now, uses, used). -/
theorem mem_cell (h : MemIs w sp S) (o : Nat) (v : Value) (S' : SS) (hh : spObj S' = .cells (#[.int .u64 S.seed, .int .i64 S.most, .int .i64 S.policy, .int .i64 S.samples, .int .i64 S.now, .int .u64 S.uses, .int .i64 S.used, dp S.mb, dp S.lb, .map (some S.tb), S.sv].setIfInBounds o v) 63 (0, 0))
    (h1 : S'.mb = S.mb) (h2 : S'.main = S.main) (h3 : S'.lb = S.lb) (h4 : S'.late = S.late) (h5 : S'.ents = S.ents) (h6 : S'.tb = S.tb) (h7 : S'.touched = S.touched) (h8 : S'.sv = S.sv) (h9 : S'.steps = S.steps) :
    MemIs (w.setCell ⟨sp, o, none⟩ v) sp S' ∧ Next sp w S (w.setCell ⟨sp, o, none⟩ v) S' := by
  have hg : grp S' sp = grp S sp := by
    funext i
    match i with
    | 0 => rfl
    | 1 => simp [grp, h6]
    | 2 => simp [grp, h1, h2]
    | 3 => simp [grp, h3, h4]
    | 4 => simp [grp, h2]
    | 5 => simp [grp, h2, h5]
    | 6 => simp [grp, h8]
    | n + 7 => rfl
  have hk : ∀ i b, i ≠ 0 → b ∈ grp S sp i → (w.setCell ⟨sp, o, none⟩ v).heap[b]? = w.heap[b]? := fun i b hi hb => set_other _ (ne_of_grp h.ap hb (show sp ∈ grp S sp 0 by simp [grp]) hi)
  refine ⟨⟨?_, ?_, ?_, ?_, ?_, ?_, ?_, ?_⟩, ⟨(Keeps.refl _ w).setCell (p := ⟨sp, o, none⟩) (.inl (mem_foot.2 ⟨0, by simp [grp]⟩)) _, fun b hb => .inl ?_⟩⟩
  · have := h.hd
    unfold spObj at this
    rw [set_same this, hh]
  · rw [h1, h2]; exact h.m.keep (hk 2 · (by decide))
  · rw [h3, h4]; exact h.l.keep (hk 3 · (by decide))
  · rw [h2, h5]; exact fun x hx => (h.e x hx).keep (hk 4 _ (by decide) (List.mem_map.2 ⟨x, hx, rfl⟩)) (hk 5 _ (by decide) (List.mem_map.2 ⟨x, hx, rfl⟩))
  · rw [h6, h7]; exact owns_keep h.t (hk 1 _ (by decide) (by simp [grp]))
  · rw [h8, h9]; exact row_keep h.s (fun b hb => hk 6 b (by decide) (by simp [grp, hb]))
  · rw [hg]; exact h.ap
  · rw [h2]; exact h.ks
  · rw [mem_foot, hg] at hb; exact mem_foot.2 hb
theorem mem_used (h : MemIs w sp S) (u : Int) : MemIs (w.setCell ⟨sp, 6, none⟩ (.int .i64 u)) sp { S with used := u } ∧ Next sp w S (w.setCell ⟨sp, 6, none⟩ (.int .i64 u)) { S with used := u } :=
  mem_cell h 6 _ { S with used := u } rfl rfl rfl rfl rfl rfl rfl rfl rfl rfl
theorem mem_uses (h : MemIs w sp S) (u : Int) : MemIs (w.setCell ⟨sp, 5, none⟩ (.int .u64 u)) sp { S with uses := u } ∧ Next sp w S (w.setCell ⟨sp, 5, none⟩ (.int .u64 u)) { S with uses := u } :=
  mem_cell h 5 _ { S with uses := u } rfl rfl rfl rfl rfl rfl rfl rfl rfl rfl
theorem mem_now (h : MemIs w sp S) (u : Int) : MemIs (w.setCell ⟨sp, 4, none⟩ (.int .i64 u)) sp { S with now := u } ∧ Next sp w S (w.setCell ⟨sp, 4, none⟩ (.int .i64 u)) { S with now := u } :=
  mem_cell h 4 _ { S with now := u } rfl rfl rfl rfl rfl rfl rfl rfl rfl rfl
/-- The main table is another one, whose entries are among those that were. -/
theorem mem_main (h : MemIs w sp S) {M : DM Nat} (hm : DictIs dty w' S.mb M) (hk : Keeps (S.main.blocks S.mb) w w') (hb : ∀ x ∈ M.blocks S.mb, x ∈ S.main.blocks S.mb ∨ w.heap.size ≤ x)
    (hs : ∀ x ∈ M.all, ∃ y ∈ S.main.all, x.k = y.k ∧ x.v = y.v) : MemIs w' sp { S with main := M } ∧ Next sp w S w' { S with main := M } := by
  have hg : ∀ i b, i ≠ 2 → b ∈ grp S sp i → w'.heap[b]? = w.heap[b]? := fun i b hi hb2 => hk.block b (h.lt i b hb2) (fun hm2 => hi (h.ap i 2 b hb2 hm2))
  have hin : ∀ i b, b ∈ grp { S with main := M } sp i → b ∈ grp S sp i ∨ w.heap.size ≤ b ∧ i = 2 := by
    intro i b hb2
    match i, hb2 with
    | 0, hb2 => exact .inl hb2
    | 1, hb2 => exact .inl hb2
    | 2, hb2 => rcases hb b hb2 with h1 | h1; exact .inl h1; exact .inr ⟨h1, rfl⟩
    | 3, hb2 => exact .inl hb2
    | 4, hb2 =>
      obtain ⟨x, hx, rfl⟩ := List.mem_map.1 hb2
      obtain ⟨y, hy, _, hv⟩ := hs x hx
      exact .inl (List.mem_map.2 ⟨y, hy, hv.symm⟩)
    | 5, hb2 =>
      obtain ⟨x, hx, rfl⟩ := List.mem_map.1 hb2
      obtain ⟨y, hy, _, hv⟩ := hs x hx
      exact .inl (List.mem_map.2 ⟨y, hy, by show (S.ents y.v).vb = (S.ents x.v).vb; rw [hv]⟩)
    | 6, hb2 => exact .inl hb2
    | n + 7, hb2 => simp [grp] at hb2
  refine ⟨⟨(hg 0 sp (by decide) (by simp [grp])).trans h.hd, hm, h.l.keep (hg 3 · (by decide)), fun x hx => ?_, owns_keep h.t (hg 1 _ (by decide) (by simp [grp])), row_keep h.s (fun b hb2 => hg 6 b (by decide) (by simp [grp, hb2])), ?_, fun x hx => ?_⟩, ⟨hk.mono (fun b hb2 => mem_foot.2 ⟨2, hb2⟩), fun b hb2 => ?_⟩⟩
  · obtain ⟨y, hy, _, hv⟩ := hs x hx
    rw [hv]
    exact (h.e y hy).keep (hg 4 _ (by decide) (List.mem_map.2 ⟨y, hy, rfl⟩)) (hg 5 _ (by decide) (List.mem_map.2 ⟨y, hy, rfl⟩))
  · exact apart_next h.ap h.lt (fun i b hb2 => (hin i b hb2).imp id (·.1)) (fun i j b hN hi hj => by
      rcases hin i b hi with h1 | h1
      · have := h.lt i b h1; omega
      · rcases hin j b hj with h2 | h2
        · have := h.lt j b h2; omega
        · rw [h1.2, h2.2])
  · obtain ⟨y, hy, hkk, _⟩ := hs x hx
    rw [hkk]; exact h.ks y hy
  · obtain ⟨i, hi⟩ := mem_foot.1 hb2
    rcases hin i b hi with h1 | h1
    · exact .inl (mem_foot.2 ⟨i, h1⟩)
    · exact .inr h1.1
/-- The table of deadlines is another one. -/
theorem mem_late (h : MemIs w sp S) {M : DM Nat} (hm : DictIs dty w' S.lb M) (hk : Keeps (S.late.blocks S.lb) w w') (hb : ∀ x ∈ M.blocks S.lb, x ∈ S.late.blocks S.lb ∨ w.heap.size ≤ x) :
    MemIs w' sp { S with late := M } ∧ Next sp w S w' { S with late := M } := by
  have hg : ∀ i b, i ≠ 3 → b ∈ grp S sp i → w'.heap[b]? = w.heap[b]? := fun i b hi hb2 => hk.block b (h.lt i b hb2) (fun hm2 => hi (h.ap i 3 b hb2 hm2))
  have hin : ∀ i b, b ∈ grp { S with late := M } sp i → b ∈ grp S sp i ∨ w.heap.size ≤ b ∧ i = 3 := by
    intro i b hb2
    match i, hb2 with
    | 0, hb2 => exact .inl hb2
    | 1, hb2 => exact .inl hb2
    | 2, hb2 => exact .inl hb2
    | 3, hb2 => rcases hb b hb2 with h1 | h1; exact .inl h1; exact .inr ⟨h1, rfl⟩
    | 4, hb2 => exact .inl hb2
    | 5, hb2 => exact .inl hb2
    | 6, hb2 => exact .inl hb2
    | n + 7, hb2 => simp [grp] at hb2
  refine ⟨⟨(hg 0 sp (by decide) (by simp [grp])).trans h.hd, h.m.keep (hg 2 · (by decide)), hm, fun x hx => (h.e x hx).keep (hg 4 _ (by decide) (List.mem_map.2 ⟨x, hx, rfl⟩)) (hg 5 _ (by decide) (List.mem_map.2 ⟨x, hx, rfl⟩)), owns_keep h.t (hg 1 _ (by decide) (by simp [grp])), row_keep h.s (fun b hb2 => hg 6 b (by decide) (by simp [grp, hb2])), ?_, h.ks⟩, ⟨hk.mono (fun b hb2 => mem_foot.2 ⟨3, hb2⟩), fun b hb2 => ?_⟩⟩
  · exact apart_next h.ap h.lt (fun i b hb2 => (hin i b hb2).imp id (·.1)) (fun i j b hN hi hj => by
      rcases hin i b hi with h1 | h1
      · have := h.lt i b h1; omega
      · rcases hin j b hj with h2 | h2
        · have := h.lt j b h2; omega
        · rw [h1.2, h2.2])
  · obtain ⟨i, hi⟩ := mem_foot.1 hb2
    rcases hin i b hi with h1 | h1
    · exact .inl (mem_foot.2 ⟨i, h1⟩)
    · exact .inr h1.1
/-- A key was touched. -/
theorem mem_touch (h : MemIs w sp S) (k : ByteArray) (ht : w'.ownsMap Tryz.prog 9 unitElem S.tb (S.touched.length + 1) ((touchD S.touched).put (.string k.data.toList) (.agg []))) (hg : w.grownBy w' (some S.tb)) :
    MemIs w' sp (S.touch k) ∧ Next sp w S w' (S.touch k) := by
  have hk : ∀ i b, i ≠ 1 → b ∈ grp S sp i → w'.heap[b]? = w.heap[b]? := fun i b hi hb2 => hg.block b (h.lt i b hb2) (fun e => hi (h.ap i 1 b hb2 (by simp [grp]; exact Option.some.inj e)))
  have hgr : grp (S.touch k) sp = grp S sp := by
    funext i
    match i with
    | 0 => rfl
    | 1 => rfl
    | 2 => rfl
    | 3 => rfl
    | 4 => rfl
    | 5 => rfl
    | 6 => rfl
    | n + 7 => rfl
  refine ⟨⟨(hk 0 sp (by decide) (by simp [grp])).trans h.hd, h.m.keep (hk 2 · (by decide)), h.l.keep (hk 3 · (by decide)), fun x hx => (h.e x hx).keep (hk 4 _ (by decide) (List.mem_map.2 ⟨x, hx, rfl⟩)) (hk 5 _ (by decide) (List.mem_map.2 ⟨x, hx, rfl⟩)), ?_, row_keep h.s (fun b hb2 => hk 6 b (by decide) (by simp [grp]; exact hb2)), by rw [hgr]; exact h.ap, h.ks⟩, ⟨((Keeps.refl _ w).grown hg (fun k hk => .inl (by obtain rfl := Option.some.inj hk; exact mem_foot.2 ⟨1, by simp [grp]⟩))), fun b hb2 => .inl ?_⟩⟩
  · show w'.ownsMap _ _ _ S.tb (S.touched ++ [k]).length (touchD (S.touched ++ [k]))
    rw [List.length_append]
    unfold touchD
    rw [List.foldl_append]
    exact ht
  · rw [mem_foot, hgr] at hb2; exact mem_foot.2 hb2
end
end Go.Proofs.YthmbhkgllfngmaaGreatDoor.ks
/- A space in memory: an entry turned, an entry that is new, a step written down. -/
namespace Go.Proofs.YthmbhkgllfngmaaGreatDoor.ks
open Go.ChangeShapes Go.WideShapes Go.RowKit
set_option linter.unusedVariables false
set_option linter.unusedSimpArgs false
section
variable {w w' : World} {sp : Nat} {S : SS}
def entObj (e : EntD) : Obj := .cells #[dp e.vb, .int .i64 e.cost, .int .u64 e.stamp, .int .i64 e.dl] 68 (0, 0)
theorem EntIs.obj {w : World} {b : Nat} {e : EntD} (h : EntIs w b e) : w.heap[b]? = some (entObj e) := h.c
/-- An entry's own cells are others; its value is the same. -/
theorem mem_ent (h : MemIs w sp S) {b : Nat} (hb : b ∈ grp S sp 4) (e : EntD) (h1 : e.vb = (S.ents b).vb) (h2 : e.val = (S.ents b).val) (h3 : e.cost = (S.ents b).cost) (hk : Keeps [b] w w') (hc : w'.heap[b]? = some (entObj e)) :
    MemIs w' sp { S with ents := upd S.ents b e } ∧ Next sp w S w' { S with ents := upd S.ents b e } := by
  have hvb : ∀ x, (upd S.ents b e x).vb = (S.ents x).vb := by
    intro x
    by_cases hx : x = b
    · subst hx; rw [upd_same, h1]
    · rw [upd_other _ _ hx]
  have hgr : grp { S with ents := upd S.ents b e } sp = grp S sp := by
    funext i
    match i with
    | 0 => rfl
    | 1 => rfl
    | 2 => rfl
    | 3 => rfl
    | 4 => rfl
    | 5 => simp only [grp, hvb]
    | 6 => rfl
    | n + 7 => rfl
  have hg : ∀ i c, i ≠ 4 → c ∈ grp S sp i → w'.heap[c]? = w.heap[c]? := fun i c hi hc2 => hk.block c (h.lt i c hc2) (fun hm => by simp at hm; subst hm; exact hi (h.ap i 4 c hc2 hb))
  refine ⟨⟨(hg 0 sp (by decide) (by simp [grp])).trans h.hd, h.m.keep (hg 2 · (by decide)), h.l.keep (hg 3 · (by decide)), fun x hx => ?_, owns_keep h.t (hg 1 _ (by decide) (by simp [grp])), row_keep h.s (fun b hb2 => hg 6 b (by decide) (by simp [grp, hb2])), by rw [hgr]; exact h.ap, h.ks⟩, ⟨hk.mono (fun c hc2 => by simp at hc2; subst hc2; exact mem_foot.2 ⟨4, hb⟩), fun c hc2 => .inl ?_⟩⟩
  · by_cases hxb : x.v = b
    · rw [hxb]
      show EntIs w' b (upd S.ents b e b)
      rw [upd_same]
      have he := h.e x hx
      rw [hxb] at he
      refine ⟨hc, ?_, by rw [h3, h2]; exact he.k⟩
      rw [h1, h2]
      exact he.v.keep (hg 5 _ (by decide) (List.mem_map.2 ⟨x, hx, by show (S.ents x.v).vb = _; rw [hxb]⟩))
    · show EntIs w' x.v (upd S.ents b e x.v)
      rw [upd_other _ _ hxb]
      exact (h.e x hx).keep (hk.block _ (h.lt 4 _ (List.mem_map.2 ⟨x, hx, rfl⟩)) (by simpa using hxb)) (hg 5 _ (by decide) (List.mem_map.2 ⟨x, hx, rfl⟩))
  · rw [mem_foot, hgr] at hc2; exact mem_foot.2 hc2
/-- A key is put over with an entry that is new. -/
theorem mem_set (h : MemIs w sp S) (hwf : S.main.WF) {k : ByteArray} {b tb nb : Nat} {e : EntD} (hks : k.size ≤ 1048576) (hb : b ∉ foot S sp) (hv : e.vb ∉ foot S sp) (hbv : e.vb ≠ b) (he : EntIs w b e)
    (hm : DictIs dty w' S.mb (S.main.set k b tb nb)) (hk : Keeps (S.main.blocks S.mb) w w') (hbl : ∀ x ∈ (S.main.set k b tb nb).blocks S.mb, x ∈ S.main.blocks S.mb ∨ w.heap.size ≤ x) :
    MemIs w' sp { S with main := S.main.set k b tb nb, ents := upd S.ents b e } ∧ Keeps (foot S sp) w w' ∧ (∀ c ∈ foot { S with main := S.main.set k b tb nb, ents := upd S.ents b e } sp, c ∈ foot S sp ∨ w.heap.size ≤ c ∨ c = b ∨ c = e.vb) := by
  have hvn : ∀ x ∈ S.main.all, x.v ≠ b := fun x hx e2 => hb (mem_foot.2 ⟨4, List.mem_map.2 ⟨x, hx, e2⟩⟩)
  have hblt : b < w.heap.size := hlt he.c
  have hvlt : e.vb < w.heap.size := by obtain ⟨s, _, _, h3⟩ := he.v; exact hlt h3
  have hg : ∀ i c, i ≠ 2 → c ∈ grp S sp i → w'.heap[c]? = w.heap[c]? := fun i c hi hc => hk.block c (h.lt i c hc) (fun hm2 => hi (h.ap i 2 c hc hm2))
  have hkb : w'.heap[b]? = w.heap[b]? := hk.block b hblt (fun hm2 => hb (mem_foot.2 ⟨2, hm2⟩))
  have hkv : w'.heap[e.vb]? = w.heap[e.vb]? := hk.block _ hvlt (fun hm2 => hv (mem_foot.2 ⟨2, hm2⟩))
  have hin : ∀ i c, c ∈ grp { S with main := S.main.set k b tb nb, ents := upd S.ents b e } sp i → c ∈ grp S sp i ∨ (w.heap.size ≤ c ∧ i = 2) ∨ (c = b ∧ i = 4) ∨ (c = e.vb ∧ i = 5) := by
    intro i c hc
    match i, hc with
    | 0, hc => exact .inl hc
    | 1, hc => exact .inl hc
    | 2, hc => rcases hbl c hc with h1 | h1; exact .inl h1; exact .inr (.inl ⟨h1, rfl⟩)
    | 3, hc => exact .inl hc
    | 4, hc =>
      obtain ⟨x, hx, rfl⟩ := List.mem_map.1 hc
      rcases SS.set_mem hwf hx with ⟨h1, _⟩ | ⟨_, h1⟩
      · exact .inl (List.mem_map.2 ⟨x, h1, rfl⟩)
      · exact .inr (.inr (.inl ⟨h1, rfl⟩))
    | 5, hc =>
      obtain ⟨x, hx, rfl⟩ := List.mem_map.1 hc
      rcases SS.set_mem hwf hx with ⟨h1, _⟩ | ⟨_, h1⟩
      · exact .inl (List.mem_map.2 ⟨x, h1, by show (S.ents x.v).vb = (upd S.ents b e x.v).vb; rw [upd_other _ _ (hvn x h1)]⟩)
      · exact .inr (.inr (.inr ⟨by show (upd S.ents b e x.v).vb = e.vb; rw [h1, upd_same], rfl⟩))
    | 6, hc => exact .inl hc
    | n + 7, hc => simp [grp] at hc
  have hbg : ∀ i, b ∉ grp S sp i := fun i hi => hb (mem_foot.2 ⟨i, hi⟩)
  have hvg : ∀ i, e.vb ∉ grp S sp i := fun i hi => hv (mem_foot.2 ⟨i, hi⟩)
  refine ⟨⟨(hg 0 sp (by decide) (by simp [grp])).trans h.hd, hm, h.l.keep (hg 3 · (by decide)), fun x hx => ?_, owns_keep h.t (hg 1 _ (by decide) (by simp [grp])), row_keep h.s (fun b hb2 => hg 6 b (by decide) (by simp [grp, hb2])), ?_, fun x hx => ?_⟩, hk.mono (fun c hc => mem_foot.2 ⟨2, hc⟩), fun c hc => ?_⟩
  · show EntIs w' x.v (upd S.ents b e x.v)
    rcases SS.set_mem hwf hx with ⟨h1, _⟩ | ⟨_, h1⟩
    · rw [upd_other _ _ (hvn x h1)]
      exact (h.e x h1).keep (hg 4 _ (by decide) (List.mem_map.2 ⟨x, h1, rfl⟩)) (hg 5 _ (by decide) (List.mem_map.2 ⟨x, h1, rfl⟩))
    · rw [h1, upd_same]
      exact he.keep hkb hkv
  · intro i j c hi hj
    rcases hin i c hi with h1 | ⟨h1, rfl⟩ | ⟨rfl, rfl⟩ | ⟨rfl, rfl⟩
    · rcases hin j c hj with h2 | ⟨h2, rfl⟩ | ⟨rfl, rfl⟩ | ⟨rfl, rfl⟩
      · exact h.ap i j c h1 h2
      · have := h.lt i c h1; omega
      · exact absurd h1 (hbg i)
      · exact absurd h1 (hvg i)
    · rcases hin j c hj with h2 | ⟨h2, rfl⟩ | ⟨rfl, rfl⟩ | ⟨rfl, rfl⟩
      · have := h.lt j c h2; omega
      · rfl
      · omega
      · omega
    · rcases hin j c hj with h2 | ⟨h2, rfl⟩ | ⟨h2, rfl⟩ | ⟨h2, rfl⟩
      · exact absurd h2 (hbg j)
      · omega
      · rfl
      · exact absurd h2.symm hbv
    · rcases hin j _ hj with h2 | ⟨h2, rfl⟩ | ⟨h2, rfl⟩ | ⟨h2, rfl⟩
      · exact absurd h2 (hvg j)
      · omega
      · exact absurd h2 hbv
      · rfl
  · rcases SS.set_mem hwf hx with ⟨h1, _⟩ | ⟨h1, _⟩
    · exact h.ks x h1
    · rw [h1]; exact hks
  · obtain ⟨i, hi⟩ := mem_foot.1 hc
    rcases hin i c hi with h1 | ⟨h1, rfl⟩ | ⟨rfl, rfl⟩ | ⟨rfl, rfl⟩
    · exact .inl (mem_foot.2 ⟨i, h1⟩)
    · exact .inr (.inl h1)
    · exact .inr (.inr (.inl rfl))
    · exact .inr (.inr (.inr rfl))
/-- A step is written down; its slice is stored. -/
theorem mem_steps (h : MemIs w sp S) {x : Int × ByteArray} {v : Value} (hs : w'.ownsRow 0 161 2 v (S.steps.length + 1) (S.steps.flatMap stepV ++ stepV x)) (hg : w.grownBy w' S.sv.ownBlock) (hn : ∀ b, v.ownBlock = some b → S.sv.ownBlock = some b ∨ w.heap.size ≤ b) :
    MemIs (w'.setCell ⟨sp, 10, none⟩ v) sp { S with sv := v, steps := S.steps ++ [x] } ∧ Next sp w S (w'.setCell ⟨sp, 10, none⟩ v) { S with sv := v, steps := S.steps ++ [x] } := by
  have hrow : ∀ c, some c = S.sv.ownBlock → c ∈ grp S sp 6 := fun c hc => by simp [grp, ← hc]
  have hk : ∀ i c, i ≠ 6 → c ∈ grp S sp i → w'.heap[c]? = w.heap[c]? := fun i c hi hc => hg.block c (h.lt i c hc) (fun e => hi (h.ap i 6 c hc (hrow c e)))
  have hsp : ∀ i c, i ≠ 0 → c ∈ grp S sp i → c ≠ sp := fun i c hi hc => ne_of_grp h.ap hc (show sp ∈ grp S sp 0 by simp [grp]) hi
  have hkk : ∀ i c, i ≠ 6 → i ≠ 0 → c ∈ grp S sp i → (w'.setCell ⟨sp, 10, none⟩ v).heap[c]? = w.heap[c]? := fun i c h6 h0 hc => (set_other (b := c) _ (hsp i c h0 hc)).trans (hk i c h6 hc)
  have hin : ∀ i c, c ∈ grp { S with sv := v, steps := S.steps ++ [x] } sp i → c ∈ grp S sp i ∨ (w.heap.size ≤ c ∧ i = 6) := by
    intro i c hc
    match i, hc with
    | 0, hc => exact .inl hc
    | 1, hc => exact .inl hc
    | 2, hc => exact .inl hc
    | 3, hc => exact .inl hc
    | 4, hc => exact .inl hc
    | 5, hc => exact .inl hc
    | 6, hc =>
      simp only [grp, Option.mem_toList] at hc
      rcases hn c hc with h1 | h1
      · exact .inl (hrow c h1.symm)
      · exact .inr ⟨h1, rfl⟩
    | n + 7, hc => simp [grp] at hc
  refine ⟨⟨?_, h.m.keep (hkk 2 · (by decide) (by decide)), h.l.keep (hkk 3 · (by decide) (by decide)), fun y hy => (h.e y hy).keep (hkk 4 _ (by decide) (by decide) (List.mem_map.2 ⟨y, hy, rfl⟩)) (hkk 5 _ (by decide) (by decide) (List.mem_map.2 ⟨y, hy, rfl⟩)), owns_keep h.t (hkk 1 _ (by decide) (by decide) (by simp [grp])), ?_, ?_, h.ks⟩, ⟨?_, fun c hc => ?_⟩⟩
  · have := (hk 0 sp (by decide) (by simp [grp])).trans h.hd
    unfold spObj at this ⊢
    rw [set_same this]
    rfl
  · have h2 : (w'.setCell ⟨sp, 10, none⟩ v).ownsRow 0 161 2 v (S.steps.length + 1) (S.steps.flatMap stepV ++ stepV x) := by
      refine row_keep hs (fun c hc => set_other (b := c) _ ?_)
      rcases hn c hc with h1 | h1
      · exact hsp 6 c (by decide) (hrow c h1.symm)
      · have := hlt h.hd
        show c ≠ sp
        omega
    rw [show (S.steps ++ [x]).length = S.steps.length + 1 by simp, show (S.steps ++ [x]).flatMap stepV = S.steps.flatMap stepV ++ stepV x by simp]
    exact h2
  · exact apart_next h.ap h.lt (fun i c hc => (hin i c hc).imp id (·.1)) (fun i j c hN hi hj => by
      rcases hin i c hi with h1 | h1
      · have := h.lt i c h1; omega
      · rcases hin j c hj with h2 | h2
        · have := h.lt j c h2; omega
        · rw [h1.2, h2.2])
  · exact ((Keeps.refl _ w).grown hg (fun c hc => .inl (mem_foot.2 ⟨6, hrow c hc.symm⟩))).setCell (p := ⟨sp, 10, none⟩) (.inl (mem_foot.2 ⟨0, by simp [grp]⟩)) _
  · obtain ⟨i, hi⟩ := mem_foot.1 hc
    rcases hin i c hi with h1 | ⟨h1, _⟩
    · exact .inl (mem_foot.2 ⟨i, h1⟩)
    · exact .inr h1
end
end Go.Proofs.YthmbhkgllfngmaaGreatDoor.ks
/- keyspace: costs, past, touch, use, goes. -/
namespace Go.Proofs.YthmbhkgllfngmaaGreatDoor.ks
open Go.ChangeShapes Go.WideShapes Go.RowKit
set_option linter.unusedVariables false
set_option linter.unusedSimpArgs false
def costOf (e : EntD) (k : ByteArray) : Int := 48 + k.size + e.cost + (if 0 < e.dl then 16 else 0)
theorem ent_cost {w : World} {b : Nat} {e : EntD} (h : EntIs w b e) : 0 ≤ e.cost ∧ e.cost ≤ 1125899906842624 := by
  obtain ⟨s, h1, h2, _⟩ := h.v
  rw [h.k, h1]
  unfold Val.text
  simp only
  omega
theorem ent_cells {w : World} {b : Nat} {e : EntD} (h : EntIs w b e) :
    w.cell? ⟨b, 0, none⟩ = some (dp e.vb) ∧ w.cell? ⟨b, 1, none⟩ = some (.int .i64 e.cost) ∧ w.cell? ⟨b, 2, none⟩ = some (.int .u64 e.stamp) ∧ w.cell? ⟨b, 3, none⟩ = some (.int .i64 e.dl) := by
  have := h.c
  exact ⟨by rw [cell_at this]; rfl, by rw [cell_at this]; rfl, by rw [cell_at this]; rfl, by rw [cell_at this]; rfl⟩
set_option maxHeartbeats 400000 in
theorem costsC (b : Nat) (e : EntD) (k : ByteArray) (w : World) (h : EntIs w b e) (hk : k.size ≤ 1048576) :
    Calls Tryz.prog 21 #[dp b, .string k] w fun r w' => r = .returned (.int .i64 (costOf e k)) ∧ w' = w := by
  obtain ⟨c0, c1, c2, c3⟩ := ent_cells h
  obtain ⟨b1, b2⟩ := ent_cost h
  clear h c0 c2
  by_cases hd : 0 < e.dl
  · have HC := khid (show costOf e k = 48 + k.size + e.cost + 16 by unfold costOf; rw [if_pos hd])
    generalize e.cost = c at *
    generalize e.dl = d at *
    unfold dp
    go_enter Tryz.func21, Tryz.ntmps21
    go_wp2
    go_ret
    exact ⟨by rw [HC.out]; rfl, rfl⟩
  · have HC := khid (show costOf e k = 48 + k.size + e.cost by unfold costOf; rw [if_neg hd]; omega)
    generalize e.cost = c at *
    generalize e.dl = d at *
    unfold dp
    go_enter Tryz.func21, Tryz.ntmps21
    go_wp2
    go_ret
    exact ⟨by rw [HC.out]; rfl, rfl⟩
def pastB (at_ now : Int) : Bool := decide (0 < at_) && decide (at_ ≤ now)
set_option maxHeartbeats 400000 in
theorem pastC (sp : Nat) (at_ now : Int) (w : World) (h : w.cell? ⟨sp, 4, none⟩ = some (.int .i64 now)) :
    Calls Tryz.prog 64 #[dp sp, .int .i64 at_] w fun r w' => r = .returned (.bool (pastB at_ now)) ∧ w' = w := by
  unfold dp pastB
  by_cases h0 : 0 < at_
  · rw [show decide (0 < at_) = true by simpa using h0, Bool.true_and]
    go_enter Tryz.func64, Tryz.ntmps64
    go_wp2_with fail
    go_ret
    exact ⟨rfl, rfl⟩
  · have hd : decide (0 < at_) = false := by simpa using h0
    rw [hd, Bool.false_and]
    go_enter Tryz.func64, Tryz.ntmps64
    go_wp2_with fail
    go_ret
    exact ⟨rfl, rfl⟩
set_option maxRecDepth 100000 in
set_option maxHeartbeats 400000 in
theorem touchC (sp : Nat) (S : SS) (k : ByteArray) (w : World) (h : MemIs w sp S) (hk : k.size ≤ 1048576) (hn : S.touched.length < 4611686018427387904) :
    Calls Tryz.prog 23 #[dp sp, .string k] w fun r w' => r = .returned (.tuple #[]) ∧ MemIs w' sp (S.touch k) ∧ Next sp w S w' (S.touch k) := by
  have c9 : w.cell? ⟨sp, 9, none⟩ = some (.map (some S.tb)) := by rw [cell_at h.hd]; rfl
  have H := khid h
  have HK := khid hk
  have hn2 : S.touched.length < maxLen := by unfold maxLen; omega
  have HN := khid hn2
  have hkey := Go.WideMaps.keyOf_string_mk (P := Tryz.prog) (k := 9) Tryz.underlying9 (s := k) (by unfold maxLen; omega)
  have HKEY := khid hkey
  have hkd := Go.Maps.string_keyed (P := Tryz.prog) (k := 9) Tryz.underlying9
  have HKD := khid hkd
  clear h hk hn hn2 hkey hkd
  unfold dp
  go_enter Tryz.func23, Tryz.ntmps23
  go_wp2_with (at_mapUpdate; go_loud (refine wpList_mapUpdate_own _ rfl _ _ _ 60 rfl 9 120 HKD.out Tryz.underlying60 unitElem S.tb S.touched.length (touchD S.touched) rfl H.out.t HN.out _ _ _ rfl rfl HKEY.out (.agg []) [] unitElem_mk ?_); intro w1 hown1 hgrow1; have HO := khid hown1; have HG := khid hgrow1; clear hown1 hgrow1)
  go_end0
  exact ⟨rfl, mem_touch H.out k HO.out HG.out⟩
set_option maxHeartbeats 400000 in
theorem useC (sp b : Nat) (S : SS) (w : World) (h : MemIs w sp S) (hb : b ∈ grp S sp 4) :
    Calls Tryz.prog 91 #[dp sp, dp b] w fun r w' => r = .returned (.tuple #[]) ∧
      MemIs w' sp { S with uses := IntKind.u64.wrap (S.uses + 1), ents := upd S.ents b { S.ents b with stamp := IntKind.u64.wrap (S.uses + 1) } } ∧
      Next sp w S w' { S with uses := IntKind.u64.wrap (S.uses + 1), ents := upd S.ents b { S.ents b with stamp := IntKind.u64.wrap (S.uses + 1) } } := by
  have c5 : w.cell? ⟨sp, 5, none⟩ = some (.int .u64 S.uses) := by rw [cell_at h.hd]; rfl
  have f5 : w.frozen? ⟨sp, 5, none⟩ = false := free_at h.hd 5
  obtain ⟨x, hx, hxb⟩ := List.mem_map.1 hb
  have he := h.e x hx
  rw [hxb] at he
  have fe : w.frozen? ⟨b, 2, none⟩ = false := free_at he.c 2
  obtain ⟨_, _, c2, _⟩ := ent_cells he
  have hne : b ≠ sp := ne_of_grp h.ap hb (show sp ∈ grp S sp 0 by simp [grp]) (by decide)
  obtain ⟨u, hu⟩ : ∃ u, u = IntKind.u64.wrap (S.uses + 1) := ⟨_, rfl⟩
  obtain ⟨m1, n1⟩ := mem_uses h u
  have hb1 : b ∈ grp { S with uses := u } sp 4 := hb
  obtain ⟨m2, n2⟩ := mem_ent (w' := (w.setCell ⟨sp, 5, none⟩ (.int .u64 u)).setCell ⟨b, 2, none⟩ (.int .u64 u)) m1 hb1 { S.ents b with stamp := u } rfl rfl rfl ((Keeps.refl _ _).setCell (p := ⟨b, 2, none⟩) (.inl (by simp)) _) (by
    have := (set_other (w := w) (b := b) (a := ⟨sp, 5, none⟩) (.int .u64 u) hne).trans he.c
    rw [set_same this]
    rfl)
  have M2 := khid m2
  have N2 := khid (n1.trans n2)
  rw [hu] at M2 N2
  clear m1 m2 n1 n2 he hx h hu
  unfold dp
  go_enter Tryz.func91, Tryz.ntmps91
  go_wp2
  go_end0
  exact ⟨rfl, M2.out, N2.out⟩
end Go.Proofs.YthmbhkgllfngmaaGreatDoor.ks
/- keyspace: goes, expires, met. -/
namespace Go.Proofs.YthmbhkgllfngmaaGreatDoor.ks
open Go.ChangeShapes Go.WideShapes Go.RowKit
set_option linter.unusedVariables false
set_option linter.unusedSimpArgs false
theorem look_mem {S : SS} {k : ByteArray} {b : Nat} (hb : S.main.look k = some b) (sp : Nat) : ∃ x ∈ S.main.all, x.k = k ∧ x.v = b ∧ b ∈ grp S sp 4 := by
  obtain ⟨x, hx, hk, hv⟩ := DM.look_some hb
  exact ⟨x, hx, hk, hv, List.mem_map.2 ⟨x, hx, hv⟩⟩
theorem ent_of {w : World} {sp : Nat} {S : SS} (h : MemIs w sp S) {b : Nat} (hb : b ∈ grp S sp 4) : EntIs w b (S.ents b) := by
  obtain ⟨x, hx, hv⟩ := List.mem_map.1 hb
  have := h.e x hx
  rwa [hv] at this
theorem del_sub {D : DM Nat} (h : D.WF) (k : ByteArray) (tb : Nat) : ∀ x ∈ (D.del k tb).all, ∃ y ∈ D.all, x.k = y.k ∧ x.v = y.v := fun x hx =>
  ⟨x, (List.mem_filter.1 ((SS.del_all h k tb).mem_iff.1 hx)).1, rfl, rfl⟩
theorem ent_main {w w' : World} {sp : Nat} {S : SS} (h : MemIs w sp S) {b : Nat} (hb : b ∈ grp S sp 4) (hk : Keeps (S.main.blocks S.mb) w w') : EntIs w' b (S.ents b) := by
  obtain ⟨x, hx, hv⟩ := List.mem_map.1 hb
  have h5 : (S.ents b).vb ∈ grp S sp 5 := List.mem_map.2 ⟨x, hx, by rw [hv]⟩
  exact (ent_of h hb).keep (hk.block b (h.lt 4 b hb) (fun hm => absurd (h.ap 4 2 b hb hm) (by decide))) (hk.block _ (h.lt 5 _ h5) (fun hm => absurd (h.ap 5 2 _ h5 hm) (by decide)))
def f2 (a b : Nat) : Nat → Nat := fun i => if i = 0 then a else b
theorem gone_eq {S : SS} {k : ByteArray} {b : Nat} (a c : Nat) (u : Int) :
    SS.touch { S with used := u, main := S.main.del k a, late := if 0 < (S.ents b).dl then S.late.del k c else S.late } k = S.gone k b (f2 a c) u := rfl
set_option maxRecDepth 100000 in
set_option maxHeartbeats 1000000 in
theorem goesC (sp : Nat) (S : SS) (k : ByteArray) (b : Nat) (w : World) (h : MemIs w sp S) (inv : S.Inv) (hb : S.main.look k = some b) (hn : S.touched.length < 4611686018427387904) :
    Calls Tryz.prog 20 #[dp sp, .string k, dp b] w fun r w' => r = .returned (.tuple #[]) ∧ ∃ f u, MemIs w' sp (S.gone k b f u) ∧ Next sp w S w' (S.gone k b f u) := by
  obtain ⟨x, hx, hxk, hxv, hb4⟩ := look_mem hb sp
  have hks : k.size ≤ 1048576 := by rw [← hxk]; exact h.ks x hx
  have hkm : k.size ≤ maxLen := by unfold maxLen; omega
  have he := ent_of h hb4
  have c6 : w.cell? ⟨sp, 6, none⟩ = some (.int .i64 S.used) := by rw [cell_at h.hd]; rfl
  have f6 : w.frozen? ⟨sp, 6, none⟩ = false := free_at h.hd 6
  have H := khid h
  have HI := khid inv
  have HE := khid he
  have HKS := khid hks
  have HKM := khid hkm
  have HB := khid hb
  have HB4 := khid hb4
  have HN := khid hn
  clear h inv he hks hkm hx hxk hxv hb hb4 hn
  unfold dp
  go_enter Tryz.func20, Tryz.ntmps20
  go_wp2_with fail
  go_still_tail 10, (by kernel_rfl)
  still_call (costsC b _ k _ (EntIs.keep HE.out rfl rfl) HKS.out)
  repeat still_step
  refine wpStill_nil ?_
  go_upto_region 1 with (fail)
  obtain ⟨u, hu⟩ : ∃ u, u = wrap64 (S.used - costOf (S.ents b) k) := ⟨_, rfl⟩
  rw [← hu]
  obtain ⟨W1, hW1⟩ : ∃ W1, W1 = (w.setCell ⟨sp, 6, none⟩ (.int .i64 u)).drew := ⟨_, rfl⟩
  obtain ⟨m1, n1⟩ := mem_used H.out u
  have M1 : Hid (MemIs W1 sp { S with used := u }) := khid (by rw [hW1]; exact m1.drewN 1)
  have N1 : Hid (Next sp w S W1 { S with used := u }) := khid (by rw [hW1]; exact n1.drewN 1)
  rw [← hW1]
  clear hW1 hu m1 n1 c6 f6
  have c7 : W1.cell? ⟨sp, 7, none⟩ = some (dp S.mb) := by rw [cell_at M1.out.hd]; rfl
  unfold dp at c7
  go_wp2_with fail
  refine (delC S.mb S.main k _ HI.out.mw M1.out.m HKM.out).mono ?_
  rintro r W2 ⟨bb, tb, rfl, hd2, hk2, hb2⟩
  obtain ⟨m2, n2⟩ := mem_main M1.out hd2 hk2 (fun x hx => by
    rcases hb2 x hx with h1 | h1
    · exact .inl h1
    · exact .inr h1) (del_sub HI.out.mw k tb)
  have M2 := khid m2
  have N2 := khid (N1.out.trans n2)
  have he2 : EntIs W2 b (S.ents b) := ent_main M1.out HB4.out hk2
  obtain ⟨_, _, _, c3⟩ := ent_cells he2
  have c8 : W2.cell? ⟨sp, 8, none⟩ = some (dp S.lb) := by rw [cell_at m2.hd]; rfl
  clear hd2 hk2 hb2 m2 n2 he2 c7
  unfold dp at c8
  have hlw : S.late.WF := HI.out.lw
  have HLW := khid hlw
  clear hlw
  generalize hdl : (S.ents b).dl = dl at c3
  have HDL := khid hdl
  clear hdl
  by_cases hd : 0 < dl
  · go_wp2_with fail
    refine (delC S.lb S.late k _ HLW.out M2.out.l HKM.out).mono ?_
    rintro r W3 ⟨bb2, tb2, rfl, hd3, hk3, hb3⟩
    obtain ⟨m3, n3⟩ := mem_late M2.out hd3 hk3 hb3
    have M3 := khid m3
    have N3 := khid (N2.out.trans n3)
    clear hd3 hk3 hb3 m3 n3 c3 c8
    go_wp2_with fail
    refine (touchC sp _ k _ M3.out HKS.out HN.out).mono ?_
    rintro r W4 ⟨rfl, m4, n4⟩
    have hfin : SS.touch { S with used := u, main := S.main.del k tb, late := S.late.del k tb2 } k = S.gone k b (f2 tb tb2) u := by
      rw [← gone_eq, if_pos (by rw [HDL.out]; exact hd)]
    have M4 : Hid (MemIs W4 sp (S.gone k b (f2 tb tb2) u)) := khid (by rw [← hfin]; exact m4)
    have N4 : Hid (Next sp w S W4 (S.gone k b (f2 tb tb2) u)) := khid (by rw [← hfin]; exact N3.out.trans n4)
    clear m4 n4 hfin
    go_wp2_with fail
    go_end0
    exact ⟨rfl, _, _, M4.out, N4.out⟩
  · go_wp2_with fail
    refine (touchC sp _ k _ M2.out HKS.out HN.out).mono ?_
    rintro r W4 ⟨rfl, m4, n4⟩
    have hfin : SS.touch { S with used := u, main := S.main.del k tb } k = S.gone k b (f2 tb 0) u := by
      rw [← gone_eq, if_neg (by rw [HDL.out]; omega)]
    have M4 : Hid (MemIs W4 sp (S.gone k b (f2 tb 0) u)) := khid (by rw [← hfin]; exact m4)
    have N4 : Hid (Next sp w S W4 (S.gone k b (f2 tb 0) u)) := khid (by rw [← hfin]; exact N2.out.trans n4)
    clear m4 n4 hfin
    go_wp2_with fail
    go_end0
    exact ⟨rfl, _, _, M4.out, N4.out⟩
end Go.Proofs.YthmbhkgllfngmaaGreatDoor.ks
/- keyspace: expires, met, Look, Delete, Deadline. -/
namespace Go.Proofs.YthmbhkgllfngmaaGreatDoor.ks
open Go.ChangeShapes Go.WideShapes Go.RowKit
set_option linter.unusedVariables false
set_option linter.unusedSimpArgs false
/-- The cells of a block that has just been made. -/
theorem cells_new (W : World) (cs : List Value) (t : TypeId) : ∀ (j : Nat) (u : Value), cs[j]? = some u → (W.alloc (.cells cs.toArray t)).cell? ((⟨W.heap.size, 0, none⟩ : Addr).add j) = some u := by
  intro j u hu
  have hadd : (⟨W.heap.size, 0, none⟩ : Addr).add j = ⟨W.heap.size, j, none⟩ := by unfold Addr.add; split <;> simp_all
  rw [hadd]
  unfold World.cell?
  rw [show (W.alloc (.cells cs.toArray t)).heap[W.heap.size]? = some _ from heap_alloc_new W _]
  simpa using hu
theorem grown_alloc {W w2 : World} {o : Obj} {row : Option Nat} (h : (W.alloc o).grownBy w2 row) : W.grownBy w2 row :=
  ⟨h.os, h.tape, h.output, by have := h.size; simp at this; omega, fun k hk hr => (h.block k (by simp; omega) hr).trans (Below.heap_alloc _ _ _ hk)⟩
theorem info_step : (Tryz.prog.info? 161).map (fun i => (i.zero, i.size, i.bytes)) = some (some (.agg #[.int .i64 0, .string ByteArray.empty]), 2, 24) := by kernel_rfl
set_option maxRecDepth 100000 in
set_option maxHeartbeats 1000000 in
theorem expiresC (sp : Nat) (S : SS) (k : ByteArray) (b : Nat) (w : World) (h : MemIs w sp S) (inv : S.Inv) (hb : S.main.look k = some b) (hn : S.touched.length < 4611686018427387904) (hs : S.steps.length < 4398046511104) :
    Calls Tryz.prog 65 #[dp sp, .string k, dp b] w fun r w' => r = .returned (.tuple #[]) ∧ ∃ f u sv, MemIs w' sp (S.expired k b f u sv) ∧ Next sp w S w' (S.expired k b f u sv) := by
  obtain ⟨i9, hi9, hz9, hs9, hb9⟩ := info_parts info_step
  have HG := khid (goesC sp S k b w h inv hb hn)
  have HS := khid hs
  clear h inv hb hn hs
  unfold dp
  go_enter Tryz.func65, Tryz.ntmps65
  go_wp2_with fail
  refine HG.out.mono ?_
  rintro r W1 ⟨rfl, f, u, m1, n1⟩
  have M1 := khid m1
  have N1 := khid n1
  have hrow : W1.ownsRow 0 161 2 S.sv S.steps.length (S.steps.flatMap stepV) := m1.s
  have c10 : W1.cell? ⟨sp, 10, none⟩ = some S.sv := by rw [cell_at m1.hd]; rfl
  have hsp : sp < W1.heap.size := hlt m1.hd
  have hsv : ∀ b, S.sv.ownBlock = some b → b ≠ sp := fun b hb => ne_of_grp m1.ap (show b ∈ grp (S.gone k _ f u) sp 6 by simp [grp]; exact hb) (show sp ∈ grp (S.gone k _ f u) sp 0 by simp [grp]) (by decide)
  have hfz : ∀ w2, W1.grownBy w2 S.sv.ownBlock → w2.frozen? ⟨sp, 10, none⟩ = false ∧ (∃ v, w2.cell? ⟨sp, 10, none⟩ = some v) := by
    intro w2 hg
    have := (hg.block sp hsp (fun e => hsv sp e.symm rfl)).trans m1.hd
    exact ⟨free_at this 10, _, by rw [cell_at this]; rfl⟩
  have HROW := khid hrow
  have HFZ := khid hfz
  clear m1 n1 hrow hsv hfz
  generalize hsve : S.sv = sv at c10
  have HSV := khid hsve
  rw [hsve] at HROW HFZ
  clear hsve
  have hc1 := cells_new W1 [.int .i64 1, .string k] 161
  have hc2 : ∀ u ∈ [Value.int .i64 1, Value.string k], u.oneCell' = true := by intro u hu; simp at hu; rcases hu with rfl | rfl <;> rfl
  have hc3 : S.steps.length + 1 ≤ maxLen := by have := HS.out; unfold maxLen; omega
  have hc4 : (S.steps.length + 1) * 24 ≤ 140737488355328 := by have := HS.out; omega
  have HC1 := khid hc1
  have HC2 := khid hc2
  have HC3 := khid hc3
  have HC4 := khid hc4
  have HC5 := fun o : Obj => khid (show (W1.alloc o).heap.size = W1.heap.size + 1 by simp)
  clear hc1 hc2 hc3 hc4
  go_wp2_with (at_builtin; refine wpList_append_lies _ rfl _ _ 61 rfl 0 161 i9 (.agg #[.int .i64 0, .string ByteArray.empty]) 2 24 Tryz.underlying61 hi9 hz9 hs9 hb9 rfl (by decide) sv S.steps.length (S.steps.flatMap stepV) rfl (HROW.out.alloc _) ⟨W1.heap.size, 0, none⟩ 1 1 [.int .i64 1, .string k] rfl rfl HC1.out HC2.out (by decide) HC3.out HC4.out (Nat.zero_le _) (W1.heap.size + 1) (HC5 _).out ?_; intro g cap w2 ho hg hgb hgl; have HO := khid ho; have hg2 := grown_alloc hg; have HG2 := khid hg2; obtain ⟨fz, cv, cc⟩ := HFZ.out w2 hg2; have HGB := khid hgb; clear ho hg hgb hgl hg2)
  go_end0
  refine ⟨rfl, f, u, .slice (some ⟨g, 0, none⟩) (S.steps.length + 1) cap, ?_⟩
  have hst : (S.gone k b f u).sv = sv := HSV.out
  have := mem_steps (x := (1, k)) M1.out (v := .slice (some ⟨g, 0, none⟩) (S.steps.length + 1) cap) HO.out (by rw [hst]; exact HG2.out) (fun c hc => by
    obtain rfl : g = c := by simpa [Value.ownBlock] using hc
    rw [hst]
    rcases HGB.out with h1 | h1
    · exact .inl h1
    · right; omega)
  exact ⟨this.1, N1.out.trans this.2⟩
end Go.Proofs.YthmbhkgllfngmaaGreatDoor.ks
/- A space as plain data: what met, Put, Delete, SetDeadline make of it. -/
namespace Go.Proofs.YthmbhkgllfngmaaGreatDoor.ks
set_option linter.unusedVariables false
set_option linter.unusedSimpArgs false
/-- What met makes of a space, and the entry that it tells. -/
def MetR (S : SS) (k : ByteArray) (S' : SS) (o : Option Nat) : Prop :=
  (S.main.look k = none ∧ o = none ∧ S' = S.stepped) ∨
  (∃ b f u sv, S.main.look k = some b ∧ S.past b ∧ o = none ∧ S' = S.stepped.expired k b f u sv) ∨
  (∃ b, S.main.look k = some b ∧ ¬ S.past b ∧ o = some b ∧ S' = S.stepped)
/-- What Delete makes of it. -/
def DelR (S : SS) (k : ByteArray) (S' : SS) (o : Option Nat) : Prop :=
  ∃ S1, MetR S k S1 o ∧ ((o = none ∧ S' = S1) ∨ ∃ b f u, o = some b ∧ S' = S1.gone k b f u)
def w64 (x : Int) : Int := IntKind.u64.wrap (x + 1)
/-- What SetDeadline makes of it. -/
def DlR (S : SS) (k : ByteArray) (at_ : Int) (S' : SS) (r : Bool) : Prop :=
  ∃ S1 o, MetR S k S1 o ∧ ((r = false ∧ (o = none ∨ 9007199254740992 < at_) ∧ S' = S1) ∨ (r = true ∧ at_ ≤ 9007199254740992 ∧ at_ ≤ S.now ∧ ∃ b f u, o = some b ∧ S' = S1.gone k b f u) ∨ (r = true ∧ at_ ≤ 9007199254740992 ∧ S.now < at_ ∧ ∃ b f u, o = some b ∧ S' = (S1.timed k b at_ f u).touch k))
/-- A new entry. -/
def newEnt (S : SS) (vb : Nat) (v : Val) : EntD := ⟨vb, v, v.cost, w64 S.uses, 0⟩
/-- What Put makes of it, if nothing is too long. -/
def PutR (S : SS) (k : ByteArray) (vb : Nat) (v : Val) (S' : SS) : Prop :=
  ∃ S1 o, MetR S k S1 o ∧ ((v.empty = true ∧ ((o = none ∧ S' = S1) ∨ ∃ b f u, o = some b ∧ S' = S1.gone k b f u)) ∨
    (v.empty = false ∧ ((o = none ∧ ∃ b f u, (∀ x ∈ S1.main.all, x.v ≠ b) ∧ S' = (S1.stored k b (newEnt S1 vb v) f u).touch k) ∨ (∃ b0 b f u u2, o = some b0 ∧ (∀ x ∈ S1.main.all, x.v ≠ b) ∧ S' = ((S1.early k b0 f u).stored k b (newEnt S1 vb v) f u2).touch k))))
/-- Room for so many calls. -/
structure Room (S : SS) (n : Nat) : Prop where
  t : S.touched.length + n ≤ 4611686018427387000
  s : S.steps.length + n ≤ 4398046511000
  m : S.main.n + n ≤ 8796093022000
  l : S.late.n + n ≤ 8796093022000
theorem Room.mono {S : SS} {n m : Nat} (h : Room S n) (hm : m ≤ n) : Room S m := ⟨by have := h.t; omega, by have := h.s; omega, by have := h.m; omega, by have := h.l; omega⟩

theorem del_n {D : DM Nat} (h : D.WF) (k : ByteArray) (tb : Nat) : (D.del k tb).n ≤ D.n := by
  obtain ⟨w, _, _, hn⟩ := DM.step_facts h
  unfold DM.del
  rw [← hn]
  by_cases hf : ∃ e ∈ D.step.all, e.k = k
  · have := (DM.drop_found w tb hf).2.2; omega
  · rw [DM.drop_none w tb (fun e he e2 => hf ⟨e, he, e2⟩)]; exact Nat.le_refl _
theorem set_n {D : DM Nat} (h : D.WF) (k : ByteArray) (v tb nb : Nat) : (D.set k v tb nb).n ≤ D.n + 1 := by
  obtain ⟨w, _, _, hn⟩ := DM.step_facts h
  unfold DM.set
  rw [← hn]
  by_cases hf : ∃ e ∈ D.step.all, e.k = k
  · have := (DM.put_found w v tb nb hf).2.2; omega
  · have := (DM.put_new w v tb nb (fun e he e2 => hf ⟨e, he, e2⟩)).2.2; omega
namespace SS
/-- What no call turns. -/
structure Same (S S' : SS) : Prop where
  seed : S'.seed = S.seed
  most : S'.most = S.most
  policy : S'.policy = S.policy
  samples : S'.samples = S.samples
  now : S'.now = S.now
theorem Same.refl (S : SS) : Same S S := ⟨rfl, rfl, rfl, rfl, rfl⟩
theorem Same.trans {A B C : SS} (h : Same A B) (k : Same B C) : Same A C := ⟨k.seed.trans h.seed, k.most.trans h.most, k.policy.trans h.policy, k.samples.trans h.samples, k.now.trans h.now⟩
theorem gone_room {S : SS} (inv : S.Inv) {k : ByteArray} {b : Nat} {f : Nat → Nat} {u : Int} {n : Nat} (h : Room S (n + 1)) : Room (S.gone k b f u) n := by
  refine ⟨?_, by have := h.s; show S.steps.length + n ≤ _; omega, ?_, ?_⟩
  · show (S.touched ++ [k]).length + n ≤ _
    rw [List.length_append]; have := h.t; simp; omega
  · have := del_n inv.mw k (f 0); have h2 := h.m; show (S.main.del k (f 0)).n + n ≤ _; omega
  · show (if _ then _ else _ : DM Nat).n + n ≤ _
    have := del_n inv.lw k (f 1); have h2 := h.l
    split <;> omega
end SS
theorem met_room {S S' : SS} {k : ByteArray} {o : Option Nat} (inv : S.Inv) (h : MetR S k S' o) {n : Nat} (hr : Room S (n + 1)) : Room S' n := by
  have hst : Room S.stepped (n + 1) := ⟨hr.t, hr.s, by rw [show S.stepped.main.n = S.main.n from (DM.step_facts inv.mw).2.2.2]; exact hr.m, hr.l⟩
  obtain ⟨si, _, _⟩ := SS.stepped_inv inv
  rcases h with ⟨_, _, rfl⟩ | ⟨b, f, u, sv, _, _, _, rfl⟩ | ⟨b, _, _, _, rfl⟩
  · exact hst.mono (by omega)
  · have hg := SS.gone_room si (k := k) (b := b) (f := f) (u := u) hst
    refine ⟨hg.t, ?_, hg.m, hg.l⟩
    show (S.stepped.steps ++ [(1, k)]).length + n ≤ _
    rw [List.length_append]; have := hst.s; simp; omega
  · exact hst.mono (by omega)
/-- What is known of a space behind met. -/
structure MetF (S : SS) (k : ByteArray) (S' : SS) (o : Option Nat) : Prop where
  inv : S'.Inv
  al : ∀ q, S'.al q = S.al q
  same : SS.Same S S'
  none : o = none → S.al k = none ∧ S'.main.look k = none
  some : ∀ b, o = some b → S'.main.look k = some b ∧ S.al k = some ((S'.ents b).val, (S'.ents b).dl)
theorem met_facts {S S' : SS} {k : ByteArray} {o : Option Nat} (inv : S.Inv) (h : MetR S k S' o) : MetF S k S' o := by
  obtain ⟨si, sa, sl⟩ := SS.stepped_inv inv
  rcases h with ⟨h1, rfl, rfl⟩ | ⟨b, f, u, sv, h1, h2, rfl, rfl⟩ | ⟨b, h1, h2, rfl, rfl⟩
  · exact ⟨si, sa, ⟨rfl, rfl, rfl, rfl, rfl⟩, fun _ => ⟨by unfold SS.al; rw [h1]; rfl, by rw [sl]; exact h1⟩, fun b hb => by cases hb⟩
  · obtain ⟨ei, ea, el⟩ := SS.expired_inv si (show S.stepped.main.look k = some b by rw [sl]; exact h1) (show S.stepped.past b from h2) f u sv
    refine ⟨ei, fun q => (ea q).trans (sa q), ⟨rfl, rfl, rfl, rfl, rfl⟩, fun _ => ⟨?_, ?_⟩, fun b hb => by cases hb⟩
    · unfold SS.al SS.live
      rw [h1]
      exact if_pos h2
    · rw [el, if_pos rfl]
  · refine ⟨si, sa, ⟨rfl, rfl, rfl, rfl, rfl⟩, (fun hb => by cases hb), fun c hc => ?_⟩
    obtain rfl := Option.some.inj hc
    refine ⟨by rw [sl]; exact h1, ?_⟩
    unfold SS.al SS.live
    rw [h1]
    exact if_neg h2
/-- What is known behind Delete. -/
structure ChgF (S S' : SS) (k : ByteArray) (x : Option (Val × Int)) : Prop where
  inv : S'.Inv
  al : ∀ q, S'.al q = if q = k then x else S.al q
  same : SS.Same S S'
theorem del_facts {S S' : SS} {k : ByteArray} {o : Option Nat} (inv : S.Inv) (h : DelR S k S' o) : ChgF S S' k none ∧ (o = none ↔ S.al k = none) := by
  obtain ⟨S1, hm, h⟩ := h
  have mf := met_facts inv hm
  rcases h with ⟨rfl, rfl⟩ | ⟨b, f, u, rfl, rfl⟩
  · refine ⟨⟨mf.inv, fun q => ?_, mf.same⟩, ⟨fun _ => (mf.none rfl).1, fun _ => rfl⟩⟩
    rw [mf.al]
    split
    · rename_i hq; rw [hq]; exact (mf.none rfl).1
    · rfl
  · obtain ⟨h1, h2⟩ := mf.some b rfl
    obtain ⟨gi, ga, _⟩ := SS.gone_inv mf.inv h1 f u
    refine ⟨⟨gi, fun q => ?_, ⟨mf.same.seed, mf.same.most, mf.same.policy, mf.same.samples, mf.same.now⟩⟩, ⟨fun hb => (by cases hb), fun hb => by rw [h2] at hb; cases hb⟩⟩
    rw [ga, mf.al]
theorem dl_facts {S S' : SS} {k : ByteArray} {at_ : Int} {r : Bool} (inv : S.Inv) (h : DlR S k at_ S' r) :
    match S.al k with
    | none => ChgF S S' k none ∧ r = false
    | some (v, d) => if 9007199254740992 < at_ then ChgF S S' k (some (v, d)) ∧ r = false else if at_ ≤ S.now then ChgF S S' k none ∧ r = true else ChgF S S' k (some (v, at_)) ∧ r = true := by
  obtain ⟨S1, o, hm, h⟩ := h
  have mf := met_facts inv hm
  have hnow := mf.same.now
  cases o with
  | none =>
    have hk := (mf.none rfl).1
    rcases h with ⟨rfl, _, rfl⟩ | ⟨_, _, _, b, f, u, hb, _⟩ | ⟨_, _, _, b, f, u, hb, _⟩
    · rw [hk]
      refine ⟨⟨mf.inv, fun q => ?_, mf.same⟩, rfl⟩
      rw [mf.al]
      split
      · rename_i hq; rw [hq]; exact hk
      · rfl
    · cases hb
    · cases hb
  | some b =>
    obtain ⟨h1, h2⟩ := mf.some b rfl
    rw [h2]
    rcases h with ⟨rfl, h3, rfl⟩ | ⟨rfl, h3, h4, b', f, u, hb, rfl⟩ | ⟨rfl, h3, h4, b', f, u, hb, rfl⟩
    · have h3 : 9007199254740992 < at_ := by rcases h3 with h3 | h3; cases h3; exact h3
      simp only [h3, if_true]
      refine ⟨⟨mf.inv, fun q => ?_, mf.same⟩, trivial⟩
      rw [mf.al]
      split
      · rename_i hq; rw [hq]; exact h2
      · rfl
    · obtain rfl := Option.some.inj hb
      simp only [show ¬ (9007199254740992 < at_) by omega, h4, if_true, if_false]
      obtain ⟨gi, ga, _⟩ := SS.gone_inv mf.inv h1 f u
      exact ⟨⟨gi, fun q => by rw [ga, mf.al], ⟨mf.same.seed, mf.same.most, mf.same.policy, mf.same.samples, mf.same.now⟩⟩, trivial⟩
    · obtain rfl := Option.some.inj hb
      simp only [show ¬ (9007199254740992 < at_) by omega, show ¬ (at_ ≤ S.now) by omega, if_false]
      obtain ⟨ti, ta⟩ := SS.timed_inv mf.inv h1 (at_ := at_) (by rw [hnow]; exact h4) h3 f u
      obtain ⟨ti2, ta2⟩ := SS.touch_inv ti k
      exact ⟨⟨ti2, fun q => by rw [ta2, ta, mf.al], ⟨mf.same.seed, mf.same.most, mf.same.policy, mf.same.samples, mf.same.now⟩⟩, trivial⟩
theorem put_facts {S S' : SS} {k : ByteArray} {vb : Nat} {v : Val} (inv : S.Inv) (h : PutR S k vb v S') : ChgF S S' k (if v.empty then none else some (v, 0)) := by
  obtain ⟨S1, o, hm, h⟩ := h
  have mf := met_facts inv hm
  have hS : ∀ X : SS, SS.Same S1 X → SS.Same S X := fun X hX => mf.same.trans hX
  rcases h with ⟨he, h⟩ | ⟨he, h⟩
  · rw [he]
    exact (del_facts inv ⟨S1, hm, h⟩).1
  · rw [he]
    rcases h with ⟨rfl, b, f, u, hb, rfl⟩ | ⟨b0, b, f, u, u2, rfl, hb, rfl⟩
    · have hl : S1.late.look k = none := by rw [mf.inv.lt, (mf.none rfl).2]; rfl
      obtain ⟨ti, ta, _⟩ := SS.stored_inv mf.inv (e := newEnt S1 vb v) hb hl rfl f u
      obtain ⟨ti2, ta2⟩ := SS.touch_inv ti k
      exact ⟨ti2, fun q => by rw [ta2, ta, mf.al]; rfl, hS _ ⟨rfl, rfl, rfl, rfl, rfl⟩⟩
    · obtain ⟨h1, h2⟩ := mf.some b0 rfl
      obtain ⟨ti, ta⟩ := SS.over_inv mf.inv h1 (e := newEnt S1 vb v) hb rfl f u u2
      obtain ⟨ti2, ta2⟩ := SS.touch_inv ti k
      exact ⟨ti2, fun q => by rw [ta2, ta, mf.al]; rfl, hS _ ⟨rfl, rfl, rfl, rfl, rfl⟩⟩
theorem put_room {S S' : SS} {k : ByteArray} {vb : Nat} {v : Val} (inv : S.Inv) (h : PutR S k vb v S') {n : Nat} (hr : Room S (n + 2)) : Room S' n := by
  obtain ⟨S1, o, hm, h⟩ := h
  have mf := met_facts inv hm
  have h1 := met_room inv hm hr
  rcases h with ⟨he, ⟨rfl, rfl⟩ | ⟨b, f, u, rfl, rfl⟩⟩ | ⟨he, h⟩
  · exact h1.mono (by omega)
  · exact SS.gone_room mf.inv h1
  · rcases h with ⟨rfl, b, f, u, hb, rfl⟩ | ⟨b0, b, f, u, u2, rfl, hb, rfl⟩
    · refine ⟨?_, by have := h1.s; show S1.steps.length + n ≤ _; omega, ?_, by have := h1.l; show S1.late.n + n ≤ _; omega⟩
      · show (S1.touched ++ [k]).length + n ≤ _
        rw [List.length_append]; have := h1.t; simp; omega
      · have := set_n mf.inv.mw k b (f 0) (f 1); have h2 := h1.m; show (S1.main.set k b (f 0) (f 1)).n + n ≤ _; omega
    · refine ⟨?_, by have := h1.s; show S1.steps.length + n ≤ _; omega, ?_, ?_⟩
      · show (S1.touched ++ [k]).length + n ≤ _
        rw [List.length_append]; have := h1.t; simp; omega
      · have := set_n mf.inv.mw k b (f 0) (f 1); have h2 := h1.m; show (S1.main.set k b (f 0) (f 1)).n + n ≤ _; omega
      · show (if _ then _ else _ : DM Nat).n + n ≤ _
        have := del_n mf.inv.lw k (f 2); have h2 := h1.l
        split <;> omega
theorem dl_room {S S' : SS} {k : ByteArray} {at_ : Int} {r : Bool} (inv : S.Inv) (h : DlR S k at_ S' r) {n : Nat} (hr : Room S (n + 2)) : Room S' n := by
  obtain ⟨S1, o, hm, h⟩ := h
  have mf := met_facts inv hm
  have h1 := met_room inv hm hr
  rcases h with ⟨rfl, _, rfl⟩ | ⟨rfl, _, _, b', f, u, hb, rfl⟩ | ⟨rfl, _, _, b', f, u, hb, rfl⟩
  · exact h1.mono (by omega)
  · exact SS.gone_room mf.inv h1
  · refine ⟨?_, by have := h1.s; show S1.steps.length + n ≤ _; omega, by have := h1.m; show S1.main.n + n ≤ _; omega, ?_⟩
    · show (S1.touched ++ [k]).length + n ≤ _
      rw [List.length_append]; have := h1.t; simp; omega
    · have := set_n mf.inv.lw k b' (f 0) (f 1); have h2 := h1.l; show (S1.late.set k b' (f 0) (f 1)).n + n ≤ _; omega
theorem del_room {S S' : SS} {k : ByteArray} {o : Option Nat} (inv : S.Inv) (h : DelR S k S' o) {n : Nat} (hr : Room S (n + 2)) : Room S' n := by
  obtain ⟨S1, hm, h⟩ := h
  have mf := met_facts inv hm
  have h1 := met_room inv hm hr
  rcases h with ⟨rfl, rfl⟩ | ⟨b, f, u, rfl, rfl⟩
  · exact h1.mono (by omega)
  · exact SS.gone_room mf.inv h1
end Go.Proofs.YthmbhkgllfngmaaGreatDoor.ks
/- keyspace: met. -/
namespace Go.Proofs.YthmbhkgllfngmaaGreatDoor.ks
open Go.ChangeShapes Go.WideShapes Go.RowKit
set_option linter.unusedVariables false
set_option linter.unusedSimpArgs false
def metV (o : Option Nat) : Value := match o with | some b => .tuple #[dp b, .bool true] | none => .tuple #[.pointer none, .bool false]
theorem step_look2 {S : SS} (inv : S.Inv) (k : ByteArray) : (S.main.step.find k).map (fun e => e.v) = S.main.look k := by
  rw [← DM.step_look inv.mw, DM.look_find (DM.step_facts inv.mw).1]
theorem past_iff {S : SS} {b : Nat} : pastB (S.ents b).dl S.now = true ↔ S.past b := by unfold pastB SS.past; simp
set_option maxRecDepth 100000 in
set_option maxHeartbeats 1000000 in
theorem metC (sp : Nat) (S : SS) (k : ByteArray) (w : World) (h : MemIs w sp S) (inv : S.Inv) (hk : k.size ≤ maxLen) (hr : Room S 1) :
    Calls Tryz.prog 19 #[dp sp, .string k] w fun r w' => ∃ S' o, r = .returned (metV o) ∧ MetR S k S' o ∧ MemIs w' sp S' ∧ Next sp w S w' S' := by
  have c7 : w.cell? ⟨sp, 7, none⟩ = some (dp S.mb) := by rw [cell_at h.hd]; rfl
  have H := khid h
  have HI := khid inv
  have HK := khid hk
  have HR := khid hr
  have HL := khid (step_look2 inv k)
  clear h inv hk hr
  unfold dp at c7 ⊢
  go_enter Tryz.func19, Tryz.ntmps19
  go_wp2_with fail
  refine (getC S.mb S.main k _ HI.out.mw H.out.m HK.out).mono ?_
  rintro r W1 ⟨rfl, hd1, hk1⟩
  obtain ⟨xb, hxb⟩ := DM.step_blocks HI.out.mw S.mb
  obtain ⟨m1, n1⟩ := mem_main H.out hd1 hk1 (fun x hx => .inl ((sub_nodup_of hxb H.out.m.nd).2 x hx)) (fun x hx => ⟨x, (DM.step_facts HI.out.mw).2.1.mem_iff.1 hx, rfl, rfl⟩)
  have M1 : Hid (MemIs W1 sp S.stepped) := khid m1
  have N1 : Hid (Next sp w S W1 S.stepped) := khid n1
  clear hd1 hk1 hxb m1 n1 c7
  obtain ⟨si, sa, sl⟩ := SS.stepped_inv HI.out
  have HSI := khid si
  have HSL := khid sl
  clear si sa sl
  cases hf : S.main.step.find k with
  | none =>
    have hnone : S.main.look k = none := by rw [← HL.out, hf]; rfl
    have HN := khid hnone
    clear hf hnone
    unfold getV
    go_wp2_with fail
    go_ret2
    exact ⟨S.stepped, none, rfl, .inl ⟨HN.out, rfl, rfl⟩, M1.out, N1.out⟩
  | some e =>
    have hsome : S.main.look k = some e.v := by rw [← HL.out, hf]; rfl
    rw [show getV (some e) = .tuple #[dp e.v, .bool true] from rfl]
    generalize e.v = b at hsome ⊢
    have HSM := khid hsome
    obtain ⟨x, hx, _, _, hb4⟩ := look_mem (S := S.stepped) (show S.stepped.main.look k = some b by rw [HSL.out]; exact hsome) sp
    obtain ⟨_, _, _, c3⟩ := ent_cells (ent_of M1.out hb4)
    have c4 : W1.cell? ⟨sp, 4, none⟩ = some (.int .i64 S.now) := by rw [cell_at M1.out.hd]; rfl
    have HC4 := khid c4
    obtain ⟨p, hp⟩ : ∃ p, p = pastB (S.ents b).dl S.now := ⟨_, rfl⟩
    have hpi : p = true ↔ S.past b := by rw [hp]; exact past_iff
    have HPI := khid hpi
    have HPC := khid (show Calls Tryz.prog 64 #[dp sp, .int .i64 (S.ents b).dl] W1 fun r w' => r = .returned (.bool p) ∧ W1 = w' by
      rw [hp]; exact (pastC sp _ S.now _ HC4.out).mono fun _ _ ⟨a, b⟩ => ⟨a, b.symm⟩)
    have HEX := khid (expiresC sp S.stepped k b W1 M1.out HSI.out (by rw [HSL.out]; exact hsome) (by have := HR.out.t; show S.touched.length < _; omega) (by have := HR.out.s; show S.steps.length < _; omega))
    change W1.cell? ⟨b, 3, none⟩ = some (.int .i64 (S.ents b).dl) at c3
    clear hf hsome hx hb4 hp hpi c4
    unfold dp
    cases p with
    | false =>
      have hnp : ¬ S.past b := fun hc => by cases HPI.out.2 hc
      have HNP := khid hnp
      clear hnp
      go_wp2_with fail
      refine HPC.out.mono ?_
      rintro r w' ⟨rfl, rfl⟩
      go_wp2_with fail
      go_ret2
      exact ⟨S.stepped, some b, rfl, .inr (.inr ⟨b, HSM.out, HNP.out, rfl, rfl⟩), M1.out, N1.out⟩
    | true =>
      have hnp : S.past b := HPI.out.1 rfl
      have HNP := khid hnp
      clear hnp
      go_wp2_with fail
      refine HPC.out.mono ?_
      rintro r w' ⟨rfl, rfl⟩
      go_wp2_with fail
      refine HEX.out.mono ?_
      rintro r W2 ⟨rfl, f, u, sv, m2, n2⟩
      have M2 := khid m2
      have N2 := khid n2
      clear m2 n2 c3
      go_wp2_with fail
      go_ret2
      exact ⟨_, none, rfl, .inr (.inl ⟨b, f, u, sv, HSM.out, HNP.out, rfl, rfl⟩), M2.out, N1.out.trans N2.out⟩
end Go.Proofs.YthmbhkgllfngmaaGreatDoor.ks
/- value: a text. -/
namespace Go.Proofs.YthmbhkgllfngmaaGreatDoor.ks
open Go.ChangeShapes Go.WideShapes Go.RowKit
set_option linter.unusedVariables false
set_option linter.unusedSimpArgs false
def textObj (s : ByteArray) : Obj := .cells #[.iface 143 (.string s)] 147 (0, 0)
set_option maxHeartbeats 400000 in
theorem textC (s : ByteArray) (w : World) :
    Calls Tryz.prog 47 #[.string s] w fun r w' => r = .returned (dp w.heap.size) ∧ w' = w.alloc (textObj s) := by
  unfold dp textObj
  go_enter Tryz.func47, Tryz.ntmps47
  go_wp2
  go_ret
  exact ⟨rfl, rfl⟩
set_option maxHeartbeats 400000 in
theorem inC (b : Nat) (v : Value) (w : World) (h : w.cell? ⟨b, 0, none⟩ = some v) :
    Calls Tryz.prog 128 #[dp b] w fun r w' => r = .returned v ∧ w = w' := by
  unfold dp
  go_enter Tryz.func128, Tryz.ntmps128
  go_wp2
  go_ret
  exact ⟨rfl, rfl⟩
/-- The text that AsText tells. -/
def Val.asText (v : Val) : Value := match v.txt with | some s => .tuple #[.string s, .bool true] | none => .tuple #[.string ByteArray.empty, .bool false]
theorem assert_text (s : ByteArray) (w : World) : (Instr.typeAssert (.iface 143 (.string s)) 145 143 true).run Tryz.prog w = .ok (.tuple #[.string s, .bool true]) w := by kernel_rfl
set_option maxRecDepth 100000 in
set_option maxHeartbeats 400000 in
theorem asTextC (b : Nat) (v : Val) (w : World) (h : ValIs w b v) :
    Calls Tryz.prog 88 #[dp b] w fun r w' => r = .returned v.asText ∧ w = w' := by
  obtain ⟨s, rfl, hs, hc⟩ := h
  rw [show (Val.text s).asText = .tuple #[.string s, .bool true] from rfl]
  have hc0 : w.cell? ⟨b, 0, none⟩ = some (.iface 143 (.string s)) := by rw [cell_at hc]; rfl
  have HC := khid hc0
  have ha := fun w : World => assert_text s w
  clear hc hc0
  unfold dp
  go_enter Tryz.func88, Tryz.ntmps88
  go_wp2_with fail
  refine (inC b _ _ HC.out).mono ?_
  rintro r w' ⟨rfl, rfl⟩
  go_wp2_with fail
  go_ret2
  exact ⟨rfl, rfl⟩
set_option maxHeartbeats 400000 in
theorem textEmptyC (s : ByteArray) (w : World) : Calls Tryz.prog 316 #[.string s] w fun r w' => r = .returned (.bool false) ∧ w' = w := by
  go_enter Tryz.func316, Tryz.ntmps316
  go_wp2
  go_ret
  exact ⟨rfl, rfl⟩
set_option maxHeartbeats 400000 in
theorem textCostC (s : ByteArray) (w : World) (hs : s.size ≤ 1048576) : Calls Tryz.prog 315 #[.string s] w fun r w' => r = .returned (.int .i64 s.size) ∧ w' = w := by
  go_enter Tryz.func315, Tryz.ntmps315
  go_wp2
  go_ret
  exact ⟨rfl, rfl⟩
theorem method_empty (s : ByteArray) (w : World) : (method 505 143 (.string s) "pantry/value.empty").run Tryz.prog w = .ok (316, .string s) w := by kernel_rfl
theorem method_cost (s : ByteArray) (w : World) : (method 505 143 (.string s) "Cost").run Tryz.prog w = .ok (315, .string s) w := by kernel_rfl
set_option maxRecDepth 100000 in
set_option maxHeartbeats 400000 in
theorem emptyC (b : Nat) (v : Val) (w : World) (h : ValIs w b v) :
    Calls Tryz.prog 89 #[dp b] w fun r w' => r = .returned (.bool v.empty) ∧ w = w' := by
  obtain ⟨s, rfl, hs, hc⟩ := h
  rw [show (Val.text s).empty = false from rfl]
  have hc0 : w.cell? ⟨b, 0, none⟩ = some (.iface 143 (.string s)) := by rw [cell_at hc]; rfl
  clear hc
  have hm := method_empty s w
  unfold dp
  go_enter Tryz.func89, Tryz.ntmps89
  go_wp2_with fail
  refine (textEmptyC s _).mono ?_
  rintro r w' ⟨rfl, rfl⟩
  go_wp2_with fail
  go_ret
  exact ⟨rfl, rfl⟩
set_option maxRecDepth 100000 in
set_option maxHeartbeats 400000 in
theorem costC (b : Nat) (v : Val) (w : World) (h : ValIs w b v) :
    Calls Tryz.prog 90 #[dp b] w fun r w' => r = .returned (.int .i64 v.cost) ∧ w = w' := by
  obtain ⟨s, rfl, hs, hc⟩ := h
  rw [show (Val.text s).cost = s.size from rfl]
  have hc0 : w.cell? ⟨b, 0, none⟩ = some (.iface 143 (.string s)) := by rw [cell_at hc]; rfl
  clear hc
  have hm := method_cost s w
  have HS := khid hs
  clear hs
  unfold dp
  go_enter Tryz.func90, Tryz.ntmps90
  go_wp2_with fail
  refine (textCostC s _ HS.out).mono ?_
  rintro r w' ⟨rfl, rfl⟩
  go_wp2_with fail
  go_ret
  exact ⟨rfl, rfl⟩
end Go.Proofs.YthmbhkgllfngmaaGreatDoor.ks
/- keyspace: Look, Delete, Deadline, SetDeadline. -/
namespace Go.Proofs.YthmbhkgllfngmaaGreatDoor.ks
open Go.ChangeShapes Go.WideShapes Go.RowKit
set_option linter.unusedVariables false
set_option linter.unusedSimpArgs false
def lookV (S : SS) (o : Option Nat) : Value := match o with | some b => .tuple #[dp (S.ents b).vb, .bool true] | none => .tuple #[.pointer none, .bool false]
theorem met_ent {w' : World} {sp : Nat} {S S' : SS} {k : ByteArray} {b : Nat} (inv : S.Inv) (h : MetR S k S' (some b)) (hm : MemIs w' sp S') : EntIs w' b (S'.ents b) ∧ b ∈ grp S' sp 4 := by
  obtain ⟨x, _, _, _, hb4⟩ := look_mem ((met_facts inv h).some b rfl).1 sp
  exact ⟨ent_of hm hb4, hb4⟩
set_option maxHeartbeats 400000 in
theorem lookC (sp : Nat) (S : SS) (k : ByteArray) (w : World) (h : MemIs w sp S) (inv : S.Inv) (hk : k.size ≤ maxLen) (hr : Room S 1) :
    Calls Tryz.prog 87 #[dp sp, .string k] w fun r w' => ∃ S' o, r = .returned (lookV S' o) ∧ MetR S k S' o ∧ MemIs w' sp S' ∧ Next sp w S w' S' := by
  have HM := khid (metC sp S k w h inv hk hr)
  have HI := khid inv
  clear h inv hk hr
  unfold dp
  go_enter Tryz.func87, Tryz.ntmps87
  go_wp2_with fail
  refine HM.out.mono ?_
  rintro r w1 ⟨S1, o, rfl, hm, m1, n1⟩
  have HR := khid hm
  have M1 := khid m1
  have N1 := khid n1
  cases o with
  | none =>
    clear hm m1 n1
    unfold metV
    go_wp2_with fail
    go_ret2
    exact ⟨S1, none, rfl, HR.out, M1.out, N1.out⟩
  | some b =>
    obtain ⟨c0, _, _, _⟩ := ent_cells (met_ent HI.out hm m1).1
    clear hm m1 n1
    unfold metV
    unfold dp at c0 ⊢
    go_wp2_with fail
    go_ret2
    exact ⟨S1, some b, rfl, HR.out, M1.out, N1.out⟩
set_option maxHeartbeats 400000 in
theorem deleteC (sp : Nat) (S : SS) (k : ByteArray) (w : World) (h : MemIs w sp S) (inv : S.Inv) (hk : k.size ≤ maxLen) (hr : Room S 2) :
    Calls Tryz.prog 51 #[dp sp, .string k] w fun r w' => ∃ S' o, r = .returned (.bool o.isSome) ∧ DelR S k S' o ∧ MemIs w' sp S' ∧ Next sp w S w' S' := by
  have HM := khid (metC sp S k w h inv hk (hr.mono (by omega)))
  have HI := khid inv
  have HRO := khid hr
  clear h inv hk hr
  unfold dp
  go_enter Tryz.func51, Tryz.ntmps51
  go_wp2_with fail
  refine HM.out.mono ?_
  rintro r w1 ⟨S1, o, rfl, hm, m1, n1⟩
  have HR := khid hm
  have M1 := khid m1
  have N1 := khid n1
  cases o with
  | none =>
    clear hm m1 n1
    unfold metV
    go_wp2_with fail
    go_ret
    exact ⟨S1, none, rfl, ⟨S1, HR.out, .inl ⟨rfl, rfl⟩⟩, M1.out, N1.out⟩
  | some b =>
    have mf := met_facts HI.out hm
    have HG := khid (goesC sp S1 k b w1 m1 mf.inv (mf.some b rfl).1 (by have := (met_room HI.out hm (n := 1) HRO.out).t; omega))
    clear hm m1 n1 mf
    unfold metV dp
    go_wp2_with fail
    refine HG.out.mono ?_
    rintro r w2 ⟨rfl, f, u, m2, n2⟩
    have M2 := khid m2
    have N2 := khid n2
    clear m2 n2
    go_wp2_with fail
    go_ret
    exact ⟨_, some b, rfl, ⟨S1, HR.out, .inr ⟨b, f, u, rfl, rfl⟩⟩, M2.out, N1.out.trans N2.out⟩
def dlV (S : SS) (o : Option Nat) : Value := match o with
  | some b => if (S.ents b).dl = 0 then .tuple #[.int .i64 0, .bool false] else .tuple #[.int .i64 (S.ents b).dl, .bool true]
  | none => .tuple #[.int .i64 0, .bool false]
set_option maxHeartbeats 400000 in
theorem deadlineC (sp : Nat) (S : SS) (k : ByteArray) (w : World) (h : MemIs w sp S) (inv : S.Inv) (hk : k.size ≤ maxLen) (hr : Room S 1) :
    Calls Tryz.prog 14 #[dp sp, .string k] w fun r w' => ∃ S' o, r = .returned (dlV S' o) ∧ MetR S k S' o ∧ MemIs w' sp S' ∧ Next sp w S w' S' := by
  have HM := khid (metC sp S k w h inv hk hr)
  have HI := khid inv
  clear h inv hk hr
  unfold dp
  go_enter Tryz.func14, Tryz.ntmps14
  go_wp2_with fail
  refine HM.out.mono ?_
  rintro r w1 ⟨S1, o, rfl, hm, m1, n1⟩
  have HR := khid hm
  have M1 := khid m1
  have N1 := khid n1
  cases o with
  | none =>
    clear hm m1 n1
    unfold metV
    go_wp2_with fail
    go_ret2
    exact ⟨S1, none, rfl, HR.out, M1.out, N1.out⟩
  | some b =>
    obtain ⟨_, _, _, c3⟩ := ent_cells (met_ent HI.out hm m1).1
    clear hm m1 n1
    unfold metV
    unfold dp
    generalize hd : (S1.ents b).dl = d at c3
    have HD := khid hd
    clear hd
    by_cases h0 : d = 0
    · subst h0
      go_wp2_with fail
      go_ret2
      exact ⟨S1, some b, by unfold dlV; simp only; rw [if_pos HD.out]; rfl, HR.out, M1.out, N1.out⟩
    · have hne : (d == 0) = false := by simpa using h0
      go_wp2_with fail
      go_ret2
      exact ⟨S1, some b, by unfold dlV; simp only; rw [if_neg (by rw [HD.out]; exact h0), HD.out]; rfl, HR.out, M1.out, N1.out⟩
end Go.Proofs.YthmbhkgllfngmaaGreatDoor.ks
/- keyspace: SetDeadline, Put. -/
namespace Go.Proofs.YthmbhkgllfngmaaGreatDoor.ks
open Go.ChangeShapes Go.WideShapes Go.RowKit
set_option linter.unusedVariables false
set_option linter.unusedSimpArgs false
theorem used_step {w : World} {sp : Nat} {S : SS} (h : MemIs w sp S) (u : Int) : ∀ W1 : World, W1 = (w.setCell ⟨sp, 6, none⟩ (.int .i64 u)).drew → MemIs W1 sp { S with used := u } ∧ Next sp w S W1 { S with used := u } := by
  rintro W1 rfl
  obtain ⟨m1, n1⟩ := mem_used h u
  exact ⟨m1.drewN 1, n1.drewN 1⟩
theorem dl_step {w : World} {sp : Nat} {S : SS} (h : MemIs w sp S) {b : Nat} (hb : b ∈ grp S sp 4) (d : Int) : ∀ W1 : World, W1 = w.setCell ⟨b, 3, none⟩ (.int .i64 d) →
    MemIs W1 sp { S with ents := upd S.ents b { S.ents b with dl := d } } ∧ Next sp w S W1 { S with ents := upd S.ents b { S.ents b with dl := d } } := by
  rintro W1 rfl
  exact mem_ent h hb { S.ents b with dl := d } rfl rfl rfl ((Keeps.refl _ _).setCell (p := ⟨b, 3, none⟩) (.inl (by simp)) _) (by
    have := (ent_of h hb).c
    rw [set_same this]
    rfl)
theorem sp_facts {w : World} {sp : Nat} {S : SS} (h : MemIs w sp S) : w.cell? ⟨sp, 6, none⟩ = some (.int .i64 S.used) ∧ w.frozen? ⟨sp, 6, none⟩ = false ∧ w.cell? ⟨sp, 7, none⟩ = some (dp S.mb) ∧ w.cell? ⟨sp, 8, none⟩ = some (dp S.lb) :=
  ⟨by rw [cell_at h.hd]; rfl, free_at h.hd 6, by rw [cell_at h.hd]; rfl, by rw [cell_at h.hd]; rfl⟩
theorem timed_eq {S : SS} {k : ByteArray} {b : Nat} {at_ : Int} (tb nb : Nat) (u : Int) :
    SS.touch { S with used := u, ents := upd S.ents b { S.ents b with dl := at_ }, late := S.late.set k b tb nb } k = (S.timed k b at_ (f2 tb nb) u).touch k := rfl
set_option maxRecDepth 100000 in
set_option maxHeartbeats 2000000 in
theorem setDlC (sp : Nat) (S : SS) (k : ByteArray) (at_ : Int) (w : World) (h : MemIs w sp S) (inv : S.Inv) (hk : k.size ≤ maxLen) (hr : Room S 2) :
    Calls Tryz.prog 8 #[dp sp, .string k, .int .i64 at_] w fun r w' => ∃ S' b, r = .returned (.bool b) ∧ DlR S k at_ S' b ∧ MemIs w' sp S' ∧ Next sp w S w' S' := by
  have HM := khid (metC sp S k w h inv hk (hr.mono (by omega)))
  have HI := khid inv
  have HRO := khid hr
  have HKM := khid hk
  have hnow := inv.now
  clear h inv hk hr
  unfold dp
  go_enter Tryz.func8, Tryz.ntmps8
  go_wp2_with fail
  refine HM.out.mono ?_
  rintro r w1 ⟨S1, o, rfl, hm, m1, n1⟩
  have HR := khid hm
  have M1 := khid m1
  have N1 := khid n1
  have mf := met_facts HI.out hm
  have MF := khid mf
  cases o with
  | none =>
    clear hm m1 n1 mf
    unfold metV
    go_wp2_with fail
    go_ret
    exact ⟨S1, false, rfl, ⟨S1, none, HR.out, .inl ⟨rfl, .inl rfl, rfl⟩⟩, M1.out, N1.out⟩
  | some b =>
    obtain ⟨he, hb4⟩ := met_ent HI.out hm m1
    have c4 : w1.cell? ⟨sp, 4, none⟩ = some (.int .i64 S.now) := by rw [cell_at m1.hd]; simp [mf.same.now]
    have hrm := met_room HI.out hm (n := 1) HRO.out
    have HRM := khid hrm
    obtain ⟨x, hx, hxk, _⟩ := look_mem (mf.some b rfl).1 sp
    have hks : k.size ≤ 1048576 := by rw [← hxk]; exact m1.ks x hx
    have HKS := khid hks
    have HE := khid he
    have HB4 := khid hb4
    generalize hnw : S.now = now at c4 hnow
    have HNW := khid hnw
    clear hm mf he hb4 hrm hx hxk hks hnw
    by_cases hmx : 9007199254740992 < at_
    · clear m1 n1
      unfold metV dp
      go_wp2_with fail
      go_ret
      exact ⟨S1, false, rfl, ⟨S1, some b, HR.out, .inl ⟨rfl, .inr hmx, rfl⟩⟩, M1.out, N1.out⟩
    · by_cases hle : at_ ≤ now
      · have HG := khid (goesC sp S1 k b w1 m1 MF.out.inv (MF.out.some b rfl).1 (by have := HRM.out.t; omega))
        clear m1 n1
        unfold metV dp
        go_wp2_with fail
        refine HG.out.mono ?_
        rintro r w2 ⟨rfl, f, u, m2, n2⟩
        have M2 := khid m2
        have N2 := khid n2
        clear m2 n2
        go_wp2_with fail
        go_ret
        exact ⟨_, true, rfl, ⟨S1, some b, HR.out, .inr (.inl ⟨rfl, by omega, by rw [HNW.out]; exact hle, b, f, u, rfl, rfl⟩)⟩, M2.out, N1.out.trans N2.out⟩
      · have c6 : w1.cell? ⟨sp, 6, none⟩ = some (.int .i64 S1.used) := by rw [cell_at m1.hd]; rfl
        have f6 : w1.frozen? ⟨sp, 6, none⟩ = false := free_at m1.hd 6
        clear m1 n1
        unfold metV dp
        go_upto_region 7 with (fail)
        go_still_tail 10, (by kernel_rfl)
        still_call (costsC b _ k _ (EntIs.keep HE.out rfl rfl) HKS.out)
        repeat still_step
        refine wpStill_nil ?_
        go_upto_region 8 with (fail)
        obtain ⟨u, hu⟩ : ∃ u, u = wrap64 (S1.used - costOf (S1.ents b) k) := ⟨_, rfl⟩
        rw [← hu]
        obtain ⟨W2, hW2⟩ : ∃ W2, W2 = (w1.setCell ⟨sp, 6, none⟩ (.int .i64 u)).drew := ⟨_, rfl⟩
        obtain ⟨m2, n2⟩ := used_step M1.out u W2 hW2
        rw [← hW2]
        have hb2 : b ∈ grp { S1 with used := u } sp 4 := HB4.out
        have HB2 := khid hb2
        have M2 := khid m2
        have N2 := khid (N1.out.trans n2)
        have hcc := (ent_of m2 hb2).c
        have f3 : W2.frozen? ⟨b, 3, none⟩ = false := free_at hcc 3
        have c3 : W2.cell? ⟨b, 3, none⟩ = some (.int .i64 (S1.ents b).dl) := by rw [cell_at hcc]; rfl
        clear hu hW2 m2 n2 c6 f6 c4 hcc hb2
        go_upto_region 9 with (fail)
        obtain ⟨W3, hW3⟩ : ∃ W3, W3 = W2.setCell ⟨b, 3, none⟩ (.int .i64 at_) := ⟨_, rfl⟩
        obtain ⟨m3, n3⟩ := dl_step M2.out HB2.out at_ W3 hW3
        rw [← hW3]
        have hb3 : b ∈ grp { S1 with used := u, ents := upd S1.ents b { S1.ents b with dl := at_ } } sp 4 := HB4.out
        have M3 := khid m3
        have N3 := khid (N2.out.trans n3)
        have he3 := ent_of m3 hb3
        have HE3 := khid he3
        obtain ⟨c6, f6, _, _⟩ := sp_facts m3
        simp only at c6
        clear hW3 m3 n3 f3 c3 hb3 he3
        go_still_tail 10, (by kernel_rfl)
        still_call (costsC b _ k _ (EntIs.keep HE3.out rfl rfl) HKS.out)
        repeat still_step
        refine wpStill_nil ?_
        go_upto_region 10 with (fail)
        obtain ⟨u2, hu2⟩ : ∃ u2, u2 = wrap64 (u + costOf (upd S1.ents b { S1.ents b with dl := at_ } b) k) := ⟨_, rfl⟩
        rw [← hu2]
        obtain ⟨W4, hW4⟩ : ∃ W4, W4 = (W3.setCell ⟨sp, 6, none⟩ (.int .i64 u2)).drew := ⟨_, rfl⟩
        obtain ⟨m4, n4⟩ := used_step M3.out u2 W4 hW4
        rw [← hW4]
        have M4 := khid m4
        have N4 := khid (N3.out.trans n4)
        obtain ⟨_, _, _, c8⟩ := sp_facts m4
        clear hu2 hW4 m4 n4 c6 f6
        unfold dp at c8
        go_wp2_with fail
        refine (setC S1.lb S1.late k b _ MF.out.inv.lw M4.out.l HKM.out (by have := HRM.out.l; omega)).mono ?_
        rintro r W5 ⟨bb, tb, nb, rfl, hd5, hk5, hb5⟩
        obtain ⟨m5, n5⟩ := mem_late M4.out hd5 hk5 hb5
        have M5 := khid m5
        have N5 := khid (N4.out.trans n5)
        clear hd5 hk5 hb5 m5 n5 c8
        go_wp2_with fail
        refine (touchC sp _ k _ M5.out HKS.out (by have := HRM.out.t; show S1.touched.length < _; omega)).mono ?_
        rintro r W6 ⟨rfl, m6, n6⟩
        have M6 : Hid (MemIs W6 sp ((S1.timed k b at_ (f2 tb nb) u2).touch k)) := khid m6
        have N6 : Hid (Next sp w S W6 ((S1.timed k b at_ (f2 tb nb) u2).touch k)) := khid (N5.out.trans n6)
        clear m6 n6
        go_wp2_with fail
        go_ret
        exact ⟨_, true, rfl, ⟨S1, some b, HR.out, .inr (.inr ⟨rfl, by omega, by rw [HNW.out]; omega, b, f2 tb nb, u2, rfl, rfl⟩)⟩, M6.out, N6.out⟩
end Go.Proofs.YthmbhkgllfngmaaGreatDoor.ks
/- keyspace: Put. -/
namespace Go.Proofs.YthmbhkgllfngmaaGreatDoor.ks
open Go.ChangeShapes Go.WideShapes Go.RowKit
set_option linter.unusedVariables false
set_option linter.unusedSimpArgs false
def f3 (a b c : Nat) : Nat → Nat := fun i => if i = 0 then a else if i = 1 then b else c
theorem upd_upd (g : Nat → EntD) (b : Nat) (e e2 : EntD) : upd (upd g b e) b e2 = upd g b e2 := by
  funext x
  unfold upd
  split <;> rfl
/-- Behind Put: the value is the space's own. -/
structure NextV (sp vb : Nat) (w : World) (S : SS) (w' : World) (S' : SS) : Prop where
  k : Keeps (vb :: foot S sp) w w'
  b : ∀ b ∈ foot S' sp, b ∈ foot S sp ∨ w.heap.size ≤ b ∨ b = vb
/-- What Put makes of the entry that was met. -/
def EarlyR (S1 : SS) (k : ByteArray) (o : Option Nat) (S2 : SS) : Prop := (o = none ∧ S2 = S1) ∨ ∃ b0 tb u, o = some b0 ∧ S2 = S1.early k b0 (f3 0 0 tb) u
theorem early_same {S1 S2 : SS} {k : ByteArray} {o : Option Nat} (h : EarlyR S1 k o S2) : S2.main = S1.main ∧ S2.uses = S1.uses ∧ S2.touched = S1.touched := by
  rcases h with ⟨_, rfl⟩ | ⟨b0, tb, u, _, rfl⟩ <;> exact ⟨rfl, rfl, rfl⟩
/-- The relation that Put ends in. -/
theorem put_end {S S1 S2 : SS} {k : ByteArray} {vb : Nat} {s : ByteArray} {o : Option Nat} (hm : MetR S k S1 o) (he : EarlyR S1 k o S2) {b tb nb : Nat} {u : Int} (hb : ∀ x ∈ S2.main.all, x.v ≠ b) :
    PutR S k vb (Val.text s) ((SS.touch { S2 with main := S2.main.set k b tb nb, used := u, uses := w64 S2.uses, ents := upd S2.ents b ⟨vb, Val.text s, s.size, w64 S2.uses, 0⟩ }) k) := by
  refine ⟨S1, o, hm, .inr ⟨rfl, ?_⟩⟩
  rcases he with ⟨rfl, rfl⟩ | ⟨b0, tb2, u1, rfl, rfl⟩
  · exact .inl ⟨rfl, b, f3 tb nb 0, u, hb, rfl⟩
  · exact .inr ⟨b0, b, f3 tb nb tb2, u1, u, rfl, hb, rfl⟩
theorem ent_alloc {w : World} {vb : Nat} {v : Val} (h : ValIs w vb v) : EntIs (w.alloc (entObj ⟨vb, v, v.cost, 0, 0⟩)) w.heap.size ⟨vb, v, v.cost, 0, 0⟩ := by
  have hl : vb < w.heap.size := by obtain ⟨s, _, _, h3⟩ := h; exact hlt h3
  exact ⟨alloc_new w _, h.keep (Below.heap_alloc _ _ _ hl), rfl⟩
set_option maxRecDepth 100000 in
set_option maxHeartbeats 2000000 in
theorem putC (sp : Nat) (S : SS) (k : ByteArray) (vb : Nat) (s : ByteArray) (w : World) (h : MemIs w sp S) (inv : S.Inv) (hk : k.size ≤ 1048576) (hv : ValIs w vb (Val.text s)) (hs : s.size ≤ 1048576) (hvb : vb ∉ foot S sp) (hr : Room S 2) :
    Calls Tryz.prog 46 #[dp sp, .string k, dp vb] w fun r w' => ∃ S', r = .returned (.int .i64 0) ∧ PutR S k vb (Val.text s) S' ∧ MemIs w' sp S' ∧ NextV sp vb w S w' S' := by
  have hkm : k.size ≤ maxLen := by unfold maxLen; omega
  have HM := khid (metC sp S k w h inv hkm (hr.mono (by omega)))
  have HAT := khid (asTextC vb _ w hv)
  have HV := khid hv
  have HVB := khid hvb
  have HI := khid inv
  have HRO := khid hr
  have HKM := khid hkm
  have HVL := khid (show vb < w.heap.size by obtain ⟨s, _, _, h3⟩ := hv; exact hlt h3)
  clear h inv hr hkm hv hvb
  unfold dp
  go_enter Tryz.func46, Tryz.ntmps46
  go_wp2_with fail
  refine HAT.out.mono ?_
  rintro r w' ⟨rfl, rfl⟩
  rw [show (Val.text s).asText = .tuple #[.string s, .bool true] from rfl]
  go_upto_region 4 with (fail)
  go_cut [27] (fun t wx => t = .bool false ∧ w = wx)
  case first => as_aux_lemma =>
    by_cases hlt2 : k.size < s.size
    all_goals
      go_wp2_with fail
      go_meet
      exact ⟨by simp; omega, rfl⟩
  case rest =>
    obtain ⟨rfl, rfl⟩ := hcut
    go_wp2_with fail
    refine HM.out.mono ?_
    rintro r w1 ⟨S1, o, rfl, hm, m1, n1⟩
    have HR := khid hm
    have M1 := khid m1
    have N1 := khid n1
    have MF := khid (met_facts HI.out hm)
    have HRM := khid (met_room HI.out hm (n := 1) HRO.out)
    have hv1 : ValIs w1 vb (Val.text s) := HV.out.keep (n1.k.block vb HVL.out HVB.out)
    have HV1 := khid hv1
    have hvb1 : vb ∉ foot S1 sp := fun hm2 => by
      rcases n1.b vb hm2 with h1 | h1
      · exact HVB.out h1
      · have := HVL.out; omega
    have HVB1 := khid hvb1
    have HVL1 := khid (show vb < w1.heap.size by have := HVL.out; have := n1.k.size; omega)
    have HEM := khid (emptyC vb _ w1 hv1)
    clear hm m1 n1 hv1 hvb1 HM HAT
    obtain ⟨ob, obt, hob⟩ : ∃ (ob : Value) (obt : Bool), metV o = .tuple #[ob, .bool obt] := by
      cases o with
      | none => exact ⟨_, _, rfl⟩
      | some b => exact ⟨_, _, rfl⟩
    rw [hob]
    have HOB := khid hob
    clear hob
    go_wp2_with fail
    refine HEM.out.mono ?_
    rintro r w' ⟨rfl, rfl⟩
    rw [show (Val.text s).empty = false from rfl]
    go_upto_if 41 with (fail)
    go_cut [] (fun wx => ∃ S2, Hid (MemIs wx sp S2 ∧ Next sp w1 S1 wx S2 ∧ EarlyR S1 k o S2))
    case first => as_aux_lemma =>
      cases o with
      | none =>
        obtain ⟨rfl, rfl⟩ : ob = .pointer none ∧ obt = false := by
          have := HOB.out; unfold metV at this; simp at this; exact ⟨this.1.symm, this.2⟩
        go_wp2_with fail
        go_meet
        exact ⟨S1, khid ⟨M1.out, Next.refl _ _ _, .inl ⟨rfl, rfl⟩⟩⟩
      | some b0 =>
        obtain ⟨rfl, rfl⟩ : ob = dp b0 ∧ obt = true := by
          have := HOB.out; unfold metV at this; simp at this; exact ⟨this.1.symm, this.2⟩
        obtain ⟨he, hb4⟩ := met_ent HI.out HR.out M1.out
        have HE := khid he
        have HB4 := khid hb4
        obtain ⟨c6, f6, _, _⟩ := sp_facts M1.out
        clear he hb4
        unfold dp
        go_upto_region 12 with (fail)
        go_still_tail 10, (by kernel_rfl)
        still_call (costsC b0 _ k _ (EntIs.keep HE.out rfl rfl) hk)
        repeat still_step
        refine wpStill_nil ?_
        go_upto_region 13 with (fail)
        obtain ⟨u, hu⟩ : ∃ u, u = wrap64 (S1.used - costOf (S1.ents b0) k) := ⟨_, rfl⟩
        rw [← hu]
        obtain ⟨W2, hW2⟩ : ∃ W2, W2 = (w1.setCell ⟨sp, 6, none⟩ (.int .i64 u)).drew := ⟨_, rfl⟩
        obtain ⟨m2, n2⟩ := used_step M1.out u W2 hW2
        rw [← hW2]
        have M2 := khid m2
        have N2 := khid n2
        obtain ⟨_, _, _, c3⟩ := ent_cells (ent_of m2 (b := b0) HB4.out)
        obtain ⟨_, _, _, c8⟩ := sp_facts m2
        clear hu hW2 m2 n2 c6 f6
        change W2.cell? ⟨b0, 3, none⟩ = some (.int .i64 (S1.ents b0).dl) at c3
        change W2.cell? ⟨sp, 8, none⟩ = some (dp S1.lb) at c8
        unfold dp at c8
        generalize hdl : (S1.ents b0).dl = dl at c3
        have HDL := khid hdl
        clear hdl
        by_cases hd : 0 < dl
        · go_wp2_with fail
          refine (delC S1.lb S1.late k _ MF.out.inv.lw M2.out.l HKM.out).mono ?_
          rintro r W3 ⟨bb2, tb2, rfl, hd3, hk3, hb3⟩
          obtain ⟨m3, n3⟩ := mem_late M2.out hd3 hk3 hb3
          have M3 := khid m3
          have N3 := khid (N2.out.trans n3)
          clear hd3 hk3 hb3 m3 n3 c3 c8
          go_wp2_with fail
          go_meet
          have he : S1.early k b0 (f3 0 0 tb2) u = { S1 with used := u, late := S1.late.del k tb2 } := by
            unfold SS.early
            rw [if_pos (by rw [HDL.out]; exact hd)]
            rfl
          exact ⟨S1.early k b0 (f3 0 0 tb2) u, khid ⟨by rw [he]; exact M3.out, by rw [he]; exact N3.out, .inr ⟨b0, tb2, u, rfl, rfl⟩⟩⟩
        · go_wp2_with fail
          go_meet
          have he : S1.early k b0 (f3 0 0 0) u = { S1 with used := u } := by
            unfold SS.early
            rw [if_neg (by rw [HDL.out]; omega)]
          exact ⟨S1.early k b0 (f3 0 0 0) u, khid ⟨by rw [he]; exact M2.out, by rw [he]; exact N2.out, .inr ⟨b0, 0, u, rfl, rfl⟩⟩⟩
    case rest =>
      obtain ⟨S2, HC⟩ := hcut
      obtain ⟨e1, e2, e3⟩ := early_same HC.out.2.2
      have M2 := khid HC.out.1
      have N2 := khid (N1.out.trans HC.out.2.1)
      have HW2 := khid (show S2.main.WF by rw [e1]; exact MF.out.inv.mw)
      have HMN := khid (show S2.main.n + 1 ≤ 8796093022000 by rw [e1]; exact HRM.out.m)
      have HTN := khid (show S2.touched.length + 1 ≤ 4611686018427387000 by rw [e3]; exact HRM.out.t)
      have hv2 : ValIs wc vb (Val.text s) := HV.out.keep (N2.out.k.block vb HVL.out HVB.out)
      have HV2 := khid hv2
      have hvb2 : vb ∉ foot S2 sp := fun hm2 => by
        rcases N2.out.b vb hm2 with h1 | h1
        · exact HVB.out h1
        · have := HVL.out; omega
      have HVB2 := khid hvb2
      have HCO := khid (costC vb _ wc hv2)
      have hwl : w.heap.size ≤ wc.heap.size := N2.out.k.size
      clear e1 e2 e3 hv2 hvb2
      go_wp2_with fail
      refine HCO.out.mono ?_
      rintro r w' ⟨rfl, rfl⟩
      rw [show (Val.text s).cost = s.size from rfl]
      go_upto_region 16 with (fail)
      obtain ⟨W3, hW3⟩ : ∃ W3, W3 = wc.alloc (entObj ⟨vb, Val.text s, s.size, 0, 0⟩) := ⟨_, rfl⟩
      have HW3 := khid hW3
      have hent : EntIs W3 wc.heap.size ⟨vb, Val.text s, s.size, 0, 0⟩ := by rw [hW3]; exact ent_alloc HV2.out
      have m3 : MemIs W3 sp S2 := by rw [hW3]; exact M2.out.keep (fun b hb => Below.heap_alloc _ _ _ (M2.out.flt b hb))
      have k3 : Keeps [] wc W3 := by rw [hW3]; exact (Keeps.refl _ _).alloc _
      have hbn : wc.heap.size ∉ foot S2 sp := fun hm2 => by have := M2.out.flt _ hm2; omega
      have hvl2 : vb ≠ wc.heap.size := by have := HVL.out; omega
      unfold entObj dp at hW3
      simp only at hW3
      rw [← hW3]
      have hB0 : w.heap.size ≤ wc.heap.size := hwl
      generalize hBB : wc.heap.size = B at hent hbn hvl2 hB0 ⊢
      have HENT := khid hent
      have M3 := khid m3
      have K3 := khid k3
      have HBN := khid hbn
      have HVL2 := khid hvl2
      obtain ⟨_, _, c7, _⟩ := sp_facts m3
      have HBB := khid hBB
      clear hW3 hent m3 k3 hbn hvl2 hBB hwl
      unfold dp at c7
      go_wp2_with fail
      refine (setC S2.mb S2.main k B _ HW2.out M3.out.m HKM.out (by have := HMN.out; omega)).mono ?_
      rintro r W4 ⟨bb, tb, nb, rfl, hd4, hk4, hb4⟩
      obtain ⟨m4, n4, b4⟩ := mem_set M3.out HW2.out hk HBN.out HVB2.out HVL2.out HENT.out hd4 hk4 hb4
      have hB4 : B ∈ grp { S2 with main := S2.main.set k B tb nb, ents := upd S2.ents B ⟨vb, Val.text s, s.size, 0, 0⟩ } sp 4 := by
        have hl := (DM.set_look HW2.out k B tb nb).2 k
        rw [if_pos rfl] at hl
        obtain ⟨x, hx, _, hxv⟩ := DM.look_some hl
        exact List.mem_map.2 ⟨x, hx, hxv⟩
      have M4 := khid m4
      have HB4 := khid hB4
      have he4 := ent_of m4 hB4
      have HE4 := khid he4
      have K4 : Hid (Keeps (foot S sp) w W4) := khid ((N2.out.k.step (K3.out) (by simp)).step n4 (fun b hb => by
        rcases N2.out.b b hb with h1 | h1
        · exact .inl h1
        · exact .inr h1))
      have B4 : Hid (∀ c ∈ foot { S2 with main := S2.main.set k B tb nb, ents := upd S2.ents B ⟨vb, Val.text s, s.size, 0, 0⟩ } sp, c ∈ foot S sp ∨ w.heap.size ≤ c ∨ c = vb) := khid (fun c hc => by
        rcases b4 c hc with h1 | h1 | h1 | h1
        · rcases N2.out.b c h1 with h2 | h2
          · exact .inl h2
          · exact .inr (.inl h2)
        · right; left; have := N2.out.k.size; have := K3.out.size; omega
        · right; left; rw [h1]; exact hB0
        · exact .inr (.inr h1))
      obtain ⟨c6, f6, _, _⟩ := sp_facts m4
      simp only at c6
      clear hd4 hk4 hb4 m4 n4 b4 hB4 he4 c7
      go_upto_region 17 with (fail)
      go_still_tail 10, (by kernel_rfl)
      still_call (costsC B _ k _ (EntIs.keep HE4.out rfl rfl) hk)
      repeat still_step
      refine wpStill_nil ?_
      go_upto_region 18 with (fail)
      obtain ⟨u, hu⟩ : ∃ u, u = wrap64 (S2.used + costOf (upd S2.ents B ⟨vb, Val.text s, s.size, 0, 0⟩ B) k) := ⟨_, rfl⟩
      rw [← hu]
      obtain ⟨W5, hW5⟩ : ∃ W5, W5 = (W4.setCell ⟨sp, 6, none⟩ (.int .i64 u)).drew := ⟨_, rfl⟩
      obtain ⟨m5, n5⟩ := used_step M4.out u W5 hW5
      rw [← hW5]
      have M5 := khid m5
      have N5 := khid n5
      clear hu hW5 m5 n5 c6 f6
      go_wp2_with fail
      refine (useC sp B _ _ M5.out (by exact HB4.out)).mono ?_
      rintro r W6 ⟨rfl, m6, n6⟩
      have M6 := khid m6
      have N6 := khid (N5.out.trans n6)
      clear m6 n6
      go_wp2_with fail
      refine (touchC sp _ k _ M6.out hk (by have := HTN.out; show S2.touched.length < _; omega)).mono ?_
      rintro r W7 ⟨rfl, m7, n7⟩
      have hfin := put_end (s := s) (vb := vb) (b := B) (tb := tb) (nb := nb) (u := u) HR.out HC.out.2.2 (fun x hx e2 => HBN.out (mem_foot.2 ⟨4, List.mem_map.2 ⟨x, hx, e2⟩⟩))
      have HF := khid hfin
      have n67 := N6.out.trans n7
      rw [show upd (upd S2.ents B ⟨vb, Val.text s, s.size, 0, 0⟩) B { (upd S2.ents B ⟨vb, Val.text s, s.size, 0, 0⟩) B with stamp := IntKind.u64.wrap (S2.uses + 1) } = upd S2.ents B ⟨vb, Val.text s, s.size, w64 S2.uses, 0⟩ by rw [upd_upd, upd_same]; rfl] at m7 n67
      have M7 := khid m7
      have N7 := khid n67
      clear m7 n7 n67 hfin
      go_wp2_with fail
      go_ret
      refine ⟨_, rfl, HF.out, M7.out, ⟨(K4.out.mono (fun b hb => List.mem_cons_of_mem _ hb)).step N7.out.k (fun b hb => ?_), fun b hb => ?_⟩⟩
      · rcases B4.out b hb with h1 | h1 | h1
        · exact .inl (List.mem_cons_of_mem _ h1)
        · exact .inr h1
        · rw [h1]; exact .inl (List.mem_cons_self ..)
      · rcases N7.out.b b hb with h1 | h1
        · exact B4.out b h1
        · right; left; have := K4.out.size; omega
end Go.Proofs.YthmbhkgllfngmaaGreatDoor.ks
