/- ontexts: set, without options, and with KEEPTTL. (Printed by mkO16.py.) -/
import Derived.Test.YthmbhkgllfngmaaGreatDoorKsH
import Derived.Lib.ParseIntBTie
import Derived.Lib.ItoaLen
/- ontexts: count. (Printed by mkO9.py.) -/
namespace Go.Proofs.YthmbhkgllfngmaaGreatDoor.ks
open Go.ChangeShapes Go.WideShapes Go.RowKit
set_option linter.unusedVariables false
set_option linter.unusedSimpArgs false
def txOver : ByteArray := ⟨#[69, 82, 82, 32, 105, 116, 32, 119, 111, 117, 108, 100, 32, 98, 101, 32, 111, 117, 116, 32, 111, 102, 32, 114, 97, 110, 103, 101]⟩
theorem flat_over : Flat txOver := ⟨by decide +kernel, by decide +kernel, by decide +kernel, by decide +kernel⟩
theorem intV_bd (s : ByteArray) : -9223372036854775808 ≤ (intV s).1 ∧ (intV s).1 ≤ 9223372036854775807 := by
  unfold intV
  cases h : Lib.parseIntB 64 s.data.toList with
  | ok v =>
    have hb := Lib.parseIntB_bounds h
    simp only
    split
    · simp only; omega
    · simp
  | range => simp
  | _ => simp
theorem itoaS_le (n : Int) (h : -9223372036854775808 ≤ n ∧ n ≤ 9223372036854775807) : (itoaS n).size ≤ 1048576 := by
  have := Lib.itoa_length_le n h.1 h.2
  show (Lib.itoa n).toArray.size ≤ _
  simp
  omega
/-- What count comes to: a sum, or what is wrong. -/
def countE (ok there : Bool) (t : ByteArray) (BY : Int → Int → Int × Int) (st : Int) : Sum Int ByteArray :=
  if ok = false then .inr txKind else if there = true ∧ (intV t).2 ≠ 0 then .inr txInt
  else if (BY (if there = true then (intV t).1 else 0) st).2 ≠ 0 then .inr txOver else .inl (BY (if there = true then (intV t).1 else 0) st).1
/-- What a command that counts leaves. -/
def CountPost (N : Nat) (ws : List ByteArray) (k : ByteArray) (S1 : SS) (e : Sum Int ByteArray) (r : Ending) (w' : World) (S' : SS) : Prop := match e with
  | .inr tx => r = .returned (resV 2 tx 0 (.slice none 0 0) (.slice none 0 0)) ∧ S' = S1
  | .inl sum => ∃ eff, r = .returned (resV 3 ByteArray.empty sum (.slice none 0 0) eff) ∧ EffAt N w' eff [ws] ∧ OverR S1 k (itoaS sum) S'
theorem eff_shape {N : Nat} {w : World} {v : Value} {l : List ByteArray} (h : EffAt N w v [l]) : ∃ g c, v = .slice (some ⟨g, 0, none⟩) 1 c := by
  obtain ⟨xs, h1, h2⟩ := h
  match xs, h2 with
  | [x], _ =>
    rcases h1.2 with ⟨_, h3⟩ | ⟨g, c, cur, rfl, _⟩
    · cases h3
    · exact ⟨g, c, rfl⟩
  | _ :: _ :: _, h2 => exact h2.2.elim
theorem lookT_le {w : World} {sp : Nat} {S0 S : SS} {n : Nat} {k : ByteArray} {o : Option Nat} {inv : S0.Inv} (ha : At w sp S n) (hm : MetR S0 k S o) : (lookT S o).size ≤ 281474976710656 := by
  cases o with
  | none => show ByteArray.empty.size ≤ _; decide
  | some b =>
    obtain ⟨he, _⟩ := met_ent inv hm ha.mem
    obtain ⟨s, hv, hs, _⟩ := he.v
    show (((S.ents b).val.txt).getD ByteArray.empty).size ≤ _
    rw [hv]
    show s.size ≤ _
    omega
theorem head_cell {w : World} {N g cp m : Nat} {xs : List Int} {x : Int} {y : Int} {ys : List Int} (h : w.ownsRow N 2 1 (.slice (some ⟨g, 0, none⟩) m cp) m (xs.map (Value.int .i64) ++ [Value.int .i64 x])) (hx : xs ++ [x] = y :: ys) : w.cell? ⟨g, 0, none⟩ = some (.int .i64 y) := by
  have := h.cells (g := g) rfl 0 (.int .i64 y) (by
    rw [show xs.map (Value.int .i64) ++ [Value.int .i64 x] = (xs ++ [x]).map (Value.int .i64) by simp, hx]; rfl)
  rwa [show (⟨g, 0, none⟩ : Addr).add 0 = ⟨g, 0, none⟩ from rfl] at this
set_option maxRecDepth 8000 in
set_option maxHeartbeats 4000000 in
theorem countC (cb sp wb off cap : Nat) (ws : List ByteArray) (key text : ByteArray) (there : Bool) (S : SS) (n : Nat) (f : Nat) (k : ByteArray) (w : World)
    (HE : ∀ args w, (callFunc f args).run Tryz.prog w = .ok (.enter f args) w)
    (ha : At w sp S (n + 6)) (h : CmdIs w cb sp (.slice (some ⟨wb, off, none⟩) ws.length cap) key text there) (hw : Words w sp cb wb off cap S ws) (hn : 2 ≤ ws.length) (h1 : ws[1]? = some k) (BY : Int → Int → Int × Int) (xs : List Int) (hxs : numsOf (ws.drop 2) = some xs) (st : Int) (ys : List Int) (hst : xs ++ [1] = st :: ys) (hstb : -9223372036854775808 ≤ st ∧ st ≤ 9223372036854775807)
    (hby : ∀ (a b : Int) (W : World), -9223372036854775808 ≤ a ∧ a ≤ 9223372036854775807 → -9223372036854775808 ≤ b ∧ b ≤ 9223372036854775807 →
      Calls Tryz.prog f #[.int .i64 a, .int .i64 b] W fun r w' => r = .returned (.tuple #[.int .i64 (BY a b).1, .int .i64 (BY a b).2]) ∧ W = w') (hbb : ∀ a b : Int, -9223372036854775808 ≤ a ∧ a ≤ 9223372036854775807 → -9223372036854775808 ≤ b ∧ b ≤ 9223372036854775807 → -9223372036854775808 ≤ (BY a b).1 ∧ (BY a b).1 ≤ 9223372036854775807) :
    Calls Tryz.prog 59 #[dp cb, .func (.func f) #[] #[]] w fun r w' => ∃ S1 o S', MetR S k S1 o ∧ CountPost w.heap.size ws k S1 (countE (lookOk S1 o) o.isSome (lookT S1 o) BY st) r w' S' ∧ At w' sp S' n ∧ CmdIs w' cb sp (.slice (some ⟨wb, off, none⟩) ws.length cap) k (lookT S1 o) o.isSome ∧ NextC cb sp w S w' S' := by
  obtain ⟨i9, hi9, hz9, hs9, hb9⟩ := info_parts info_i64
  have hks : k.size ≤ maxLen := by have := hw.s k (List.mem_of_getElem? h1); unfold maxLen; omega
  have hks2 := hw.s k (List.mem_of_getElem? h1)
  have F0 := khid (Fr.start ha h hw)
  have HXS := khid hxs
  have HST := khid hst
  have HSTB := khid hstb
  have HBY := khid hby
  have HBB := khid hbb
  have H1 := khid h1
  have HKS := khid hks
  have HXL := khid (show xs.length + 1 ≤ maxLen ∧ (xs.length + 1) * 8 ≤ 140737488355328 from by
    have h3 : xs.length ≤ (ws.drop 2).length := by
      have key : ∀ (l : List ByteArray) (ys : List Int), numsOf l = some ys → ys.length ≤ l.length := by
        intro l
        induction l with
        | nil => intro ys hy; simp [numsOf] at hy; subst hy; simp
        | cons a r ih =>
          intro ys hy
          simp only [numsOf] at hy
          split at hy
          · cases hr : numsOf r with
            | none => rw [hr] at hy; cases hy
            | some zs => rw [hr] at hy; simp at hy; subst hy; have := ih zs hr; simp; omega
          · cases hy
      exact key _ _ hxs
    have h4 := hw.n.2
    rw [List.length_drop] at h3
    unfold maxLen; omega)
  obtain ⟨hcap, hcap2⟩ := hw.cap
  unfold maxLen at hcap2
  have HN2 := khid hn
  clear ha h hw hxs hst hstb hby hbb h1 hks
  unfold dp
  go_enter Tryz.func59, Tryz.ntmps59
  go_wp2_with fail
  obtain ⟨W0, hW0⟩ : ∃ W0, W0 = w.alloc (.cells zero5 51) := ⟨_, rfl⟩
  have hW0' := hW0
  unfold zero5 at hW0'
  rw [show ByteArray.empty = ⟨#[]⟩ from rfl] at hW0'
  rw [← hW0']
  rw [← hW0] at F0
  clear hW0 hW0'
  refine (numsC cb sp wb off cap ws key text there 2 W0 F0.out.cmd F0.out.wd.at_ (by have := F0.out.wd.n.2; omega) F0.out.wd.cap HN2.out F0.out.wd.s F0.out.at_.env F0.out.at_.hz).mono ?_
  rintro r w1 ⟨hnp, k1⟩
  rw [HXS.out] at hnp
  obtain ⟨v, rfl, hrow⟩ := hnp
  have HK01 := khid k1
  have HROW1 := khid (row_keep (w' := w1) hrow (fun b hb => rfl))
  have HSZ1 := khid (show W0.heap.size ≤ w1.heap.size from k1.size)
  have HC1 := khid (cells_new w1 [.int .i64 1] 2)
  have HC2 := khid (show ∀ u ∈ [Value.int .i64 1], u.oneCell' = true by intro u hu; simp at hu; rw [hu]; rfl)
  clear k1 hrow
  go_wp2_with (at_builtin; refine wpList_append_lies _ rfl _ _ 87 rfl W0.heap.size 2 i9 (.int .i64 0) 1 8 Tryz.underlying87 hi9 hz9 hs9 hb9 rfl (by decide) v xs.length (xs.map (Value.int .i64)) rfl (HROW1.out.alloc _) ⟨w1.heap.size, 0, none⟩ 1 1 [.int .i64 1] rfl rfl HC1.out HC2.out (by decide) HXL.out.1 HXL.out.2 (by have := HSZ1.out; simp; omega) (w1.heap.size + 1) (by simp) ?_; intro g cp w2 ho hg hgb hgl; have HO := khid ho; have HG := khid hg; have HGB := khid hgb; clear ho hg hgb hgl; have K2 := khid (((((HK01.out).alloc _).grown HG.out (fun c hc => .inr (HROW1.out.lt c hc).1)) : Keeps [] W0 w2)); have F2 := khid (F0.out.keeps K2.out); obtain ⟨_, d1, _⟩ := cmd_cells F2.out.cmd; have e1 := F2.out.wd.at_ 1 k H1.out)
  have HG0 := khid (show W0.heap.size ≤ g from by
    rcases HGB.out with h2 | h2
    · exact (HROW1.out.lt g h2).1
    · have := HSZ1.out; omega)
  have hl2 := lookCmdC cb sp _ key text there S (n + 5) k w2 F2.out.at_ F2.out.cmd F2.out.wd.cf F2.out.wd.c20 HKS.out
  refine hl2.mono ?_
  clear hl2
  rintro r w3 ⟨S1, o, rfl, hm, a3, h3, n3⟩
  have F3 := khid (F2.out.next n3 a3 h3)
  have HM := khid hm
  have hgw : g < w2.heap.size := by rcases HO.out.2 with ⟨h2, _⟩ | ⟨g2, _, _, h2, _, h4, _⟩; cases h2; cases h2; exact hlt h4
  have hrow3 := row_keep (w' := w3) HO.out (fun b hb => n3.k.block b (HO.out.lt b hb).2 (by
    have h5 := (HO.out.lt b hb).1
    have h6 := F0.out.at_.mem.flt
    have h7 := F0.out.cl
    have h8 := F0.out.rl
    have h9 := hlt F0.out.rb_
    simp
    exact ⟨by omega, fun hm2 => by have := h6 b hm2; omega⟩))
  have HR3 := khid (show ∀ W : World, W.heap[g]? = w3.heap[g]? → W.cell? ⟨g, 0, none⟩ = some (.int .i64 st) from fun W hk => head_cell (row_keep hrow3 (fun b hb => by obtain rfl : g = b := (by simpa [Value.ownBlock] using hb); exact hk)) HST.out)
  have HG3 := khid (show g < w3.heap.size from Nat.lt_of_lt_of_le hgw n3.k.size)
  obtain ⟨q0, q1, q2, q3, q4⟩ := cmd_cells F3.out.cmd
  clear hm a3 h3 n3 hrow3 hgw d1 e1
  obtain ⟨ok, hok⟩ : ∃ ok, ok = lookOk S1 o := ⟨_, rfl⟩
  rw [← hok]
  have HOK := khid hok
  obtain ⟨tt, htt⟩ : ∃ tt, tt = lookT S1 o := ⟨_, rfl⟩
  rw [← htt] at q3
  have HTT := khid htt
  obtain ⟨th, hth⟩ : ∃ th, th = o.isSome := ⟨_, rfl⟩
  rw [← hth] at q4
  have HTH := khid hth
  have htsz : tt.size ≤ 281474976710656 := by
    rw [htt]
    exact lookT_le (inv := F2.out.at_.inv) F3.out.at_ HM.out
  have HTSZ := khid htsz
  clear hok htt hth q0 q1 q2 htsz
  cases ok with
  | false =>
    have HFL := khid (failsC txKind w3 F3.out.at_.env F3.out.at_.hz flat_kind)
    clear q3 q4
    unfold txKind at HFL
    go_wp2_with fail
    refine HFL.out.mono ?_
    rintro r w5 ⟨rfl, k5⟩
    have F5 := khid (F3.out.keeps k5)
    obtain ⟨⟨z0, z1, z2, z3, z4⟩, y0, y1, y2, y3, y4⟩ := F5.out.res
    clear k5
    unfold resV
    go_wp2_with fail
    refine bodyPost_ret (v := resV 2 txKind 0 (.slice none 0 0) (.slice none 0 0)) (by simp [results, Tryz.results59, go_sem]; go_simp; try rfl) rfl ?_
    have hfin := F5.out.fin (.int .i64 2) (.string txKind) (.int .i64 0) (.slice none 0 0) (.slice none 0 0)
    unfold five txKind at hfin
    refine ⟨S1, o, S1, HM.out, ?_, hfin.1.mono (by omega), hfin.2.1, hfin.2.2⟩
    rw [← HOK.out]
    exact ⟨rfl, rfl⟩
  | true =>
    cases th with
    | true =>
      have HI := khid (intC tt w3 F3.out.at_.env HTSZ.out)
      have hib := intV_bd tt
      obtain ⟨x, hx⟩ : ∃ x, x = (intV tt).1 := ⟨_, rfl⟩
      rw [← hx] at HI hib
      have HX := khid hx
      have HIB := khid hib
      clear hx hib
      by_cases he : (intV tt).2 = 0
      · have HE0 := khid he
        rw [he] at HI
        clear he
        go_wp2_with fail
        refine HI.out.mono ?_
        rintro r w4 ⟨rfl, k4⟩
        have F4 := khid (F3.out.keeps k4)
        have hst4 := HR3.out w4 (k4.block g HG3.out (by simp))
        clear k4 q3 q4
        have HB := khid (HBY.out x st w4 HIB.out HSTB.out)
        obtain ⟨sm, hsm⟩ : ∃ sm, sm = (BY x st).1 := ⟨_, rfl⟩
        have hsb : -9223372036854775808 ≤ sm ∧ sm ≤ 9223372036854775807 := by rw [hsm]; exact HBB.out _ _ HIB.out HSTB.out
        have HSB := khid hsb
        rw [← hsm] at HB
        have HSM := khid hsm
        clear hsm hsb
        by_cases hb : (BY x st).2 = 0
        · have HBE := khid hb
          rw [hb] at HB
          clear hb
          go_wp2_with fail
          refine HB.out.mono ?_
          rintro r w' ⟨rfl, rfl⟩
          go_wp2_with fail
          refine (textNC sm w4 HSB.out F4.out.at_.env).mono ?_
          rintro r w5 ⟨rfl, k5⟩
          have F5 := khid (F4.out.keeps k5)
          clear k5
          go_wp2_with fail
          refine (overC cb sp _ _ _ _ S1 n (itoaS sm) w5 F5.out.at_ F5.out.cmd F5.out.wd.cf hks2 (itoaS_le sm HSB.out)).mono ?_
          rintro r w6 ⟨S2, rfl, hov, a6, n6⟩
          have F6 := khid (F5.out.step n6 a6)
          have HOV := khid hov
          clear hov a6 n6 hst4
          go_wp2_with fail
          refine (repIntC sm w6).mono ?_
          rintro r w7 ⟨rfl, k7⟩
          have F7 := khid (F6.out.keeps k7)
          clear k7
          unfold repV
          go_wp2_with fail
          refine (didC cb sp wb off cap ws _ _ _ 3 sm ByteArray.empty none 0 0 w7 F7.out.cmd (by have := F7.out.wd.n.2; omega) F7.out.wd.at_ F7.out.wd.n.1).mono ?_
          rintro r w8 ⟨eff, rfl, heff, k8⟩
          have F8 := khid (F7.out.keeps k8)
          obtain ⟨⟨z0, z1, z2, z3, z4⟩, y0, y1, y2, y3, y4⟩ := F8.out.res
          obtain ⟨xs8, ⟨_, hx8⟩, _⟩ := id heff
          have HEFF := khid heff
          have h78 := khid (show w.heap.size < w7.heap.size from Nat.lt_of_le_of_lt (Nat.le_refl _) (hlt F7.out.rb_))
          have he8 : ∃ ge ce, eff = .slice (some ⟨ge, 0, none⟩) 1 ce := eff_shape heff
          obtain ⟨ge, ce, rfl⟩ := he8
          clear k8 heff hx8
          unfold resV
          go_wp2_with fail
          refine bodyPost_ret (v := resV 3 ByteArray.empty sm (.slice none 0 0) (.slice (some ⟨ge, 0, none⟩) 1 ce)) (by simp [results, Tryz.results59, go_sem]; go_simp; try rfl) rfl ?_
          have hfin := F8.out.fin (.int .i64 3) (.string ByteArray.empty) (.int .i64 sm) (.slice none 0 0) (.slice (some ⟨ge, 0, none⟩) 1 ce)
          have hef := Fr.eff (W := w8) (rb := w.heap.size) (v0 := .int .i64 3) (v1 := .string ByteArray.empty) (v2 := .int .i64 sm) (v3 := .slice none 0 0) (v4 := .slice (some ⟨ge, 0, none⟩) 1 ce) HEFF.out h78.out
          unfold five at hfin hef
          refine ⟨S1, o, S2, HM.out, ?_, hfin.1, hfin.2.1, hfin.2.2⟩
          rw [← HOK.out, ← HTH.out, ← HTT.out]
          unfold countE CountPost
          rw [if_neg (by simp), if_neg (by rintro ⟨_, h2⟩; exact h2 HE0.out), if_neg (by first | simpa using HBE.out | (rw [if_pos rfl, ← HX.out]; simp [HBE.out]))]
          rw [if_pos rfl, ← HX.out, ← HSM.out]
          exact ⟨_, rfl, eff_mono (by have := h78.out; omega) hef, HOV.out⟩
        · have HBE := khid hb
          have hne : ((BY x st).2 == 0) = false := by simpa using hb
          have hne2 : ((BY x st).2 != 0) = true := by simpa using hb
          clear hb
          go_wp2_with fail
          refine HB.out.mono ?_
          rintro r w' ⟨rfl, rfl⟩
          have HFL := khid (failsC txOver w4 F4.out.at_.env F4.out.at_.hz flat_over)
          clear hst4
          unfold txOver at HFL
          go_wp2_with fail
          refine HFL.out.mono ?_
          rintro r w5 ⟨rfl, k5⟩
          have F5 := khid (F4.out.keeps k5)
          obtain ⟨⟨z0, z1, z2, z3, z4⟩, y0, y1, y2, y3, y4⟩ := F5.out.res
          clear k5
          unfold resV
          go_wp2_with fail
          refine bodyPost_ret (v := resV 2 txOver 0 (.slice none 0 0) (.slice none 0 0)) (by simp [results, Tryz.results59, go_sem]; go_simp; try rfl) rfl ?_
          have hfin := F5.out.fin (.int .i64 2) (.string txOver) (.int .i64 0) (.slice none 0 0) (.slice none 0 0)
          unfold five txOver at hfin
          refine ⟨S1, o, S1, HM.out, ?_, hfin.1.mono (by omega), hfin.2.1, hfin.2.2⟩
          rw [← HOK.out, ← HTH.out, ← HTT.out]
          unfold countE CountPost
          rw [if_neg (by simp), if_neg (by rintro ⟨_, h2⟩; exact h2 HE0.out), if_pos (by first | simpa using HBE.out | (rw [if_pos rfl, ← HX.out]; exact HBE.out))]
          exact ⟨rfl, rfl⟩
      · have HE0 := khid he
        have hne : ((intV tt).2 == 0) = false := by simpa using he
        have hne2 : ((intV tt).2 != 0) = true := by simpa using he
        clear he
        go_wp2_with fail
        refine HI.out.mono ?_
        rintro r w4 ⟨rfl, k4⟩
        have F4 := khid (F3.out.keeps k4)
        clear k4 q3 q4
        have HFL := khid (failsC txInt w4 F4.out.at_.env F4.out.at_.hz flat_int)
        unfold txInt at HFL
        go_wp2_with fail
        refine HFL.out.mono ?_
        rintro r w5 ⟨rfl, k5⟩
        have F5 := khid (F4.out.keeps k5)
        obtain ⟨⟨z0, z1, z2, z3, z4⟩, y0, y1, y2, y3, y4⟩ := F5.out.res
        clear k5
        unfold resV
        go_wp2_with fail
        refine bodyPost_ret (v := resV 2 txInt 0 (.slice none 0 0) (.slice none 0 0)) (by simp [results, Tryz.results59, go_sem]; go_simp; try rfl) rfl ?_
        have hfin := F5.out.fin (.int .i64 2) (.string txInt) (.int .i64 0) (.slice none 0 0) (.slice none 0 0)
        unfold five txInt at hfin
        refine ⟨S1, o, S1, HM.out, ?_, hfin.1.mono (by omega), hfin.2.1, hfin.2.2⟩
        rw [← HOK.out, ← HTH.out, ← HTT.out]
        unfold countE CountPost
        rw [if_neg (by simp), if_pos ⟨rfl, HE0.out⟩]
        exact ⟨rfl, rfl⟩
    | false =>
      have F4 := F3
      have w4r : ∃ w4, w4 = w3 := ⟨_, rfl⟩
      have hst4 := HR3.out w3 rfl
      clear q3
      have HB := khid (HBY.out 0 st w3 ⟨by decide, by decide⟩ HSTB.out)
      obtain ⟨sm, hsm⟩ : ∃ sm, sm = (BY 0 st).1 := ⟨_, rfl⟩
      have hsb : -9223372036854775808 ≤ sm ∧ sm ≤ 9223372036854775807 := by rw [hsm]; exact HBB.out _ _ ⟨by decide, by decide⟩ HSTB.out
      have HSB := khid hsb
      rw [← hsm] at HB
      have HSM := khid hsm
      clear hsm hsb
      by_cases hb : (BY 0 st).2 = 0
      · have HBE := khid hb
        rw [hb] at HB
        clear hb
        go_wp2_with fail
        refine HB.out.mono ?_
        rintro r w' ⟨rfl, rfl⟩
        go_wp2_with fail
        refine (textNC sm w3 HSB.out F4.out.at_.env).mono ?_
        rintro r w5 ⟨rfl, k5⟩
        have F5 := khid (F4.out.keeps k5)
        clear k5
        go_wp2_with fail
        refine (overC cb sp _ _ _ _ S1 n (itoaS sm) w5 F5.out.at_ F5.out.cmd F5.out.wd.cf hks2 (itoaS_le sm HSB.out)).mono ?_
        rintro r w6 ⟨S2, rfl, hov, a6, n6⟩
        have F6 := khid (F5.out.step n6 a6)
        have HOV := khid hov
        clear hov a6 n6 hst4
        go_wp2_with fail
        refine (repIntC sm w6).mono ?_
        rintro r w7 ⟨rfl, k7⟩
        have F7 := khid (F6.out.keeps k7)
        clear k7
        unfold repV
        go_wp2_with fail
        refine (didC cb sp wb off cap ws _ _ _ 3 sm ByteArray.empty none 0 0 w7 F7.out.cmd (by have := F7.out.wd.n.2; omega) F7.out.wd.at_ F7.out.wd.n.1).mono ?_
        rintro r w8 ⟨eff, rfl, heff, k8⟩
        have F8 := khid (F7.out.keeps k8)
        obtain ⟨⟨z0, z1, z2, z3, z4⟩, y0, y1, y2, y3, y4⟩ := F8.out.res
        obtain ⟨xs8, ⟨_, hx8⟩, _⟩ := id heff
        have HEFF := khid heff
        have h78 := khid (show w.heap.size < w7.heap.size from Nat.lt_of_le_of_lt (Nat.le_refl _) (hlt F7.out.rb_))
        have he8 : ∃ ge ce, eff = .slice (some ⟨ge, 0, none⟩) 1 ce := eff_shape heff
        obtain ⟨ge, ce, rfl⟩ := he8
        clear k8 heff hx8
        unfold resV
        go_wp2_with fail
        refine bodyPost_ret (v := resV 3 ByteArray.empty sm (.slice none 0 0) (.slice (some ⟨ge, 0, none⟩) 1 ce)) (by simp [results, Tryz.results59, go_sem]; go_simp; try rfl) rfl ?_
        have hfin := F8.out.fin (.int .i64 3) (.string ByteArray.empty) (.int .i64 sm) (.slice none 0 0) (.slice (some ⟨ge, 0, none⟩) 1 ce)
        have hef := Fr.eff (W := w8) (rb := w.heap.size) (v0 := .int .i64 3) (v1 := .string ByteArray.empty) (v2 := .int .i64 sm) (v3 := .slice none 0 0) (v4 := .slice (some ⟨ge, 0, none⟩) 1 ce) HEFF.out h78.out
        unfold five at hfin hef
        refine ⟨S1, o, S2, HM.out, ?_, hfin.1, hfin.2.1, hfin.2.2⟩
        rw [← HOK.out, ← HTH.out, ← HTT.out]
        unfold countE CountPost
        rw [if_neg (by simp), if_neg (by simp), if_neg (by first | simpa using HBE.out | (rw [if_neg (by simp)]; simp [HBE.out]))]
        rw [if_neg (by simp), ← HSM.out]
        exact ⟨_, rfl, eff_mono (by have := h78.out; omega) hef, HOV.out⟩
      · have HBE := khid hb
        have hne : ((BY 0 st).2 == 0) = false := by simpa using hb
        have hne2 : ((BY 0 st).2 != 0) = true := by simpa using hb
        clear hb
        go_wp2_with fail
        refine HB.out.mono ?_
        rintro r w' ⟨rfl, rfl⟩
        have HFL := khid (failsC txOver w3 F4.out.at_.env F4.out.at_.hz flat_over)
        clear hst4
        unfold txOver at HFL
        go_wp2_with fail
        refine HFL.out.mono ?_
        rintro r w5 ⟨rfl, k5⟩
        have F5 := khid (F4.out.keeps k5)
        obtain ⟨⟨z0, z1, z2, z3, z4⟩, y0, y1, y2, y3, y4⟩ := F5.out.res
        clear k5
        unfold resV
        go_wp2_with fail
        refine bodyPost_ret (v := resV 2 txOver 0 (.slice none 0 0) (.slice none 0 0)) (by simp [results, Tryz.results59, go_sem]; go_simp; try rfl) rfl ?_
        have hfin := F5.out.fin (.int .i64 2) (.string txOver) (.int .i64 0) (.slice none 0 0) (.slice none 0 0)
        unfold five txOver at hfin
        refine ⟨S1, o, S1, HM.out, ?_, hfin.1.mono (by omega), hfin.2.1, hfin.2.2⟩
        rw [← HOK.out, ← HTH.out, ← HTT.out]
        unfold countE CountPost
        rw [if_neg (by simp), if_neg (by simp), if_pos (by first | simpa using HBE.out | (rw [if_neg (by simp)]; exact HBE.out))]
        exact ⟨rfl, rfl⟩
end Go.Proofs.YthmbhkgllfngmaaGreatDoor.ks
/- ontexts: patched (its reply is how long the text is then). -/
namespace Go.Proofs.YthmbhkgllfngmaaGreatDoor.ks
open Go.ChangeShapes Go.WideShapes Go.RowKit
set_option linter.unusedVariables false
set_option linter.unusedSimpArgs false
def txLong : ByteArray := ⟨#[69, 82, 82, 32, 116, 111, 111, 32, 108, 111, 110, 103]⟩
theorem flat_long : Flat txLong := ⟨by decide +kernel, by decide +kernel, by decide +kernel, by decide +kernel⟩
/-- What patched comes to: a text, or what is wrong. -/
def patchE (ok there : Bool) (t : ByteArray) (C : ByteArray → Bool → ByteArray × Int) : Sum ByteArray ByteArray :=
  if ok = false then .inr txKind else if (C t there).2 ≠ 0 then .inr txLong else .inl (C t there).1
/-- What a command that patches leaves. -/
def PatchPost (N : Nat) (ws : List ByteArray) (k : ByteArray) (S1 : SS) (V : ByteArray → Int) (e : Sum ByteArray ByteArray) (r : Ending) (w' : World) (S' : SS) : Prop := match e with
  | .inr tx => r = .returned (resV 2 tx 0 (.slice none 0 0) (.slice none 0 0)) ∧ S' = S1
  | .inl t => ∃ eff, r = .returned (resV 3 ByteArray.empty (V t) (.slice none 0 0) eff) ∧ EffAt N w' eff [ws] ∧ OverR S1 k t S'
set_option maxRecDepth 8000 in
set_option maxHeartbeats 4000000 in
theorem patchedC (cb sp wb off cap : Nat) (ws : List ByteArray) (key text : ByteArray) (there : Bool) (S : SS) (n : Nat) (f : Nat) (lb : Array Value) (k : ByteArray) (w : World)
    (HE : ∀ args w, (callFunc f args).run Tryz.prog w = .ok (.enter f args) w)
    (ha : At w sp S (n + 6)) (h : CmdIs w cb sp (.slice (some ⟨wb, off, none⟩) ws.length cap) key text there) (hw : Words w sp cb wb off cap S ws) (hn : 2 ≤ ws.length) (h1 : ws[1]? = some k) (C : ByteArray → Bool → ByteArray × Int)
    (hch : ∀ (W : World) (S' : SS) (t : ByteArray) (b : Bool), At W sp S' (n + 5) → CmdIs W cb sp (.slice (some ⟨wb, off, none⟩) ws.length cap) k t b → NextC cb sp w S W S' → t.size ≤ 281474976710656 →
      Calls Tryz.prog f lb W fun r w' => r = .returned (.tuple #[.string (C t b).1, .int .i64 (C t b).2]) ∧ Keeps [] W w') (hcs : ∀ t b, (C t b).2 = 0 → (C t b).1.size ≤ 1048576) :
    Calls Tryz.prog 54 #[dp cb, .func (.func f) #[] lb, .nilFunc] w fun r w' => ∃ S1 o S', MetR S k S1 o ∧ PatchPost w.heap.size ws k S1 (fun t => t.size) (patchE (lookOk S1 o) o.isSome (lookT S1 o) C) r w' S' ∧ At w' sp S' n ∧ CmdIs w' cb sp (.slice (some ⟨wb, off, none⟩) ws.length cap) k (lookT S1 o) o.isSome ∧ NextC cb sp w S w' S' := by
  have hks : k.size ≤ maxLen := by have := hw.s k (List.mem_of_getElem? h1); unfold maxLen; omega
  have hks2 := hw.s k (List.mem_of_getElem? h1)
  have F0 := khid (Fr.start ha h hw)
  have HCH := khid hch
  have HCS := khid hcs
  have H1 := khid h1
  have HKS := khid hks
  obtain ⟨hcap, hcap2⟩ := hw.cap
  unfold maxLen at hcap2
  have HN2 := khid hn
  have hnf : ∀ W : World, (binOp .neq 88 .nilFunc .nilFunc).run Tryz.prog W = .ok (.bool false) W := fun W => by kernel_rfl
  clear ha h hw hch hcs h1 hks
  unfold dp
  go_enter Tryz.func54, Tryz.ntmps54
  obtain ⟨W0, hW0⟩ : ∃ W0, W0 = w.alloc (.cells zero5 51) := ⟨_, rfl⟩
  rw [← hW0] at F0
  have hW0' := hW0
  unfold zero5 at hW0'
  rw [show ByteArray.empty = ⟨#[]⟩ from rfl] at hW0'
  have HW0' := khid hW0'.symm
  obtain ⟨_, d1, _⟩ := cmd_cells F0.out.cmd
  have e1 := F0.out.wd.at_ 1 k H1.out
  rw [hW0'] at d1 e1
  clear hW0 hW0'
  go_wp2_with fail
  rw [HW0'.out]
  clear d1 e1
  have hl2 := lookCmdC cb sp _ key text there S (n + 5) k W0 F0.out.at_ F0.out.cmd F0.out.wd.cf F0.out.wd.c20 HKS.out
  refine hl2.mono ?_
  clear hl2
  rintro r w3 ⟨S1, o, rfl, hm, a3, h3, n3⟩
  have F3 := khid (F0.out.next n3 a3 h3)
  have HM := khid hm
  clear hm a3 h3
  have HN3 := khid n3
  clear n3
  obtain ⟨ok, hok⟩ : ∃ ok, ok = lookOk S1 o := ⟨_, rfl⟩
  rw [← hok]
  have HOK := khid hok
  obtain ⟨tt, htt⟩ : ∃ tt, tt = lookT S1 o := ⟨_, rfl⟩
  have HTT := khid htt
  obtain ⟨th, hth⟩ : ∃ th, th = o.isSome := ⟨_, rfl⟩
  have HTH := khid hth
  have htsz : tt.size ≤ 281474976710656 := by
    rw [htt]
    exact lookT_le (inv := F0.out.at_.inv) F3.out.at_ HM.out
  have HTSZ := khid htsz
  have HC := HCH.out w3 S1 tt th F3.out.at_ (by rw [htt, hth]; exact F3.out.cmd) F3.out.nx htsz
  have HC := khid HC
  clear hok htt hth htsz
  cases ok with
  | false =>
    have HFL := khid (failsC txKind w3 F3.out.at_.env F3.out.at_.hz flat_kind)
    unfold txKind at HFL
    go_wp2_with fail
    refine HFL.out.mono ?_
    rintro r w5 ⟨rfl, k5⟩
    have F5 := khid (F3.out.keeps k5)
    obtain ⟨⟨z0, z1, z2, z3, z4⟩, y0, y1, y2, y3, y4⟩ := F5.out.res
    clear k5
    unfold resV
    go_wp2_with fail
    refine bodyPost_ret (v := resV 2 txKind 0 (.slice none 0 0) (.slice none 0 0)) (by simp [results, Tryz.results54, go_sem]; go_simp; try rfl) rfl ?_
    have hfin := F5.out.fin (.int .i64 2) (.string txKind) (.int .i64 0) (.slice none 0 0) (.slice none 0 0)
    unfold five txKind at hfin
    refine ⟨S1, o, S1, HM.out, ?_, hfin.1.mono (by omega), hfin.2.1, hfin.2.2⟩
    rw [← HOK.out]
    exact ⟨rfl, rfl⟩
  | true =>
    obtain ⟨c2, hc2⟩ : ∃ c2, c2 = (C tt th).2 := ⟨_, rfl⟩
    obtain ⟨nt, hnt⟩ : ∃ nt, nt = (C tt th).1 := ⟨_, rfl⟩
    rw [← hc2, ← hnt] at HC
    have HC2 := khid hc2
    have HNT := khid hnt
    clear hc2 hnt
    by_cases hb : c2 = 0
    · have HNS := khid (show nt.size ≤ 1048576 by rw [HNT.out]; exact HCS.out _ _ (by rw [← HC2.out]; exact hb))
      have HBE := khid hb
      subst hb
      go_wp2_with fail
      refine HC.out.mono ?_
      rintro r w4 ⟨rfl, k4⟩
      have F4 := khid (F3.out.keeps k4)
      clear k4
      go_wp2_with fail
      refine (overC cb sp _ _ _ _ S1 n nt w4 F4.out.at_ F4.out.cmd F4.out.wd.cf hks2 HNS.out).mono ?_
      rintro r w6 ⟨S2, rfl, hov, a6, n6⟩
      have F6 := khid (F4.out.step n6 a6)
      have HOV := khid hov
      clear hov a6 n6
      go_wp2_with fail
      refine (sizeC nt w6 (by have := HNS.out; omega)).mono ?_
      rintro r w7 ⟨rfl, k7⟩
      have F7 := khid (F6.out.keeps k7)
      clear k7
      unfold repV
      go_wp2_with fail
      refine (didC cb sp wb off cap ws _ _ _ 3 nt.size ByteArray.empty none 0 0 w7 F7.out.cmd (by have := F7.out.wd.n.2; omega) F7.out.wd.at_ F7.out.wd.n.1).mono ?_
      rintro r w8 ⟨eff, rfl, heff, k8⟩
      have F8 := khid (F7.out.keeps k8)
      obtain ⟨⟨z0, z1, z2, z3, z4⟩, y0, y1, y2, y3, y4⟩ := F8.out.res
      have HEFF := khid heff
      have h78 := khid (show w.heap.size < w7.heap.size from Nat.lt_of_le_of_lt (Nat.le_refl _) (hlt F7.out.rb_))
      obtain ⟨ge, ce, rfl⟩ := eff_shape heff
      clear k8 heff
      unfold resV
      go_wp2_with fail
      refine bodyPost_ret (v := resV 3 ByteArray.empty nt.size (.slice none 0 0) (.slice (some ⟨ge, 0, none⟩) 1 ce)) (by simp [results, Tryz.results54, go_sem]; go_simp; try rfl) rfl ?_
      have hfin := F8.out.fin (.int .i64 3) (.string ByteArray.empty) (.int .i64 nt.size) (.slice none 0 0) (.slice (some ⟨ge, 0, none⟩) 1 ce)
      have hef := Fr.eff (W := w8) (rb := w.heap.size) (v0 := .int .i64 3) (v1 := .string ByteArray.empty) (v2 := .int .i64 nt.size) (v3 := .slice none 0 0) (v4 := .slice (some ⟨ge, 0, none⟩) 1 ce) HEFF.out h78.out
      unfold five at hfin hef
      refine ⟨S1, o, S2, HM.out, ?_, hfin.1, hfin.2.1, hfin.2.2⟩
      rw [← HOK.out, ← HTH.out, ← HTT.out]
      unfold patchE PatchPost
      rw [if_neg (by simp), if_neg (by rw [← HC2.out]; simp), ← HNT.out]
      exact ⟨_, rfl, eff_mono (by have := h78.out; omega) hef, HOV.out⟩
    · have hne : (c2 == 0) = false := by simpa using hb
      have hne2 : (c2 != 0) = true := by simpa using hb
      have HBE := khid hb
      clear hb
      go_wp2_with fail
      refine HC.out.mono ?_
      rintro r w4 ⟨rfl, k4⟩
      have F4 := khid (F3.out.keeps k4)
      clear k4
      have HFL := khid (failsC txLong w4 F4.out.at_.env F4.out.at_.hz flat_long)
      unfold txLong at HFL
      go_wp2_with fail
      refine HFL.out.mono ?_
      rintro r w5 ⟨rfl, k5⟩
      have F5 := khid (F4.out.keeps k5)
      obtain ⟨⟨z0, z1, z2, z3, z4⟩, y0, y1, y2, y3, y4⟩ := F5.out.res
      clear k5
      unfold resV
      go_wp2_with fail
      refine bodyPost_ret (v := resV 2 txLong 0 (.slice none 0 0) (.slice none 0 0)) (by simp [results, Tryz.results54, go_sem]; go_simp; try rfl) rfl ?_
      have hfin := F5.out.fin (.int .i64 2) (.string txLong) (.int .i64 0) (.slice none 0 0) (.slice none 0 0)
      unfold five txLong at hfin
      refine ⟨S1, o, S1, HM.out, ?_, hfin.1.mono (by omega), hfin.2.1, hfin.2.2⟩
      rw [← HOK.out, ← HTH.out, ← HTT.out]
      unfold patchE PatchPost
      rw [if_neg (by simp), if_pos (by rw [← HC2.out]; exact HBE.out)]
      exact ⟨rfl, rfl⟩
end Go.Proofs.YthmbhkgllfngmaaGreatDoor.ks
/- ontexts: the closures of APPEND and SETRANGE; setrange. -/
namespace Go.Proofs.YthmbhkgllfngmaaGreatDoor.ks
open Go.ChangeShapes Go.WideShapes Go.RowKit
set_option linter.unusedVariables false
set_option linter.unusedSimpArgs false
theorem joinV_ok {s v : ByteArray} (h : (joinV s v).2 = 0) : (joinV s v).1.size ≤ 1048576 := by
  unfold joinV at h ⊢
  split
  · rename_i h2; show (s ++ v).size ≤ _; rw [ByteArray.size_append]; exact h2
  · rename_i h2; rw [if_neg h2] at h; simp at h
set_option maxRecDepth 8000 in
set_option maxHeartbeats 800000 in
theorem appendF (cb sp wb off cap cx wx : Nat) (ws : List ByteArray) (key text : ByteArray) (there : Bool) (x : ByteArray) (W : World)
    (h : CmdIs W cb sp (.slice (some ⟨wb, off, none⟩) ws.length cap) key text there) (hw : WordsAt W wb off ws) (hn : 2 < ws.length) (hx : ws[2]? = some x) (hs : x.size ≤ 281474976710656) (ht : text.size ≤ 281474976710656)
    (hc : W.cell? ⟨cx, 0, none⟩ = some (dp cb)) (hv : W.cell? ⟨wx, 0, none⟩ = some (.slice (some ⟨wb, off, none⟩) ws.length cap)) :
    Calls Tryz.prog 55 #[dp cx, dp wx] W fun r w' => r = .returned (.tuple #[.string (joinV text x).1, .int .i64 (joinV text x).2]) ∧ Keeps [] W w' := by
  obtain ⟨_, _, _, c3, _⟩ := cmd_cells h
  have e2 := hw 2 x hx
  have h0 : (0 : Int) ≤ 2 := by decide
  have h1 : (2 : Int) < (ws.length : Int) := by omega
  have HJ := fun w : World => joinC text x w ht hs
  have HJJ := khid HJ
  clear h hw hx HJ
  unfold dp at hc ⊢
  go_enter Tryz.func55, Tryz.ntmps55
  go_wp2_with fail
  go_quiet ((go_at_call 56; exact Calls.quiet_of_same ((HJJ.out _).mono (fun r w' h => ⟨h.1, h.2.symm⟩))))
  go_wp2_with fail
  go_ret2
  exact ⟨rfl, (Keeps.refl _ _).drewN _⟩
theorem cell_keep1 {w w' : World} {b o : Nat} {v : Value} (k : Keeps [] w w') (h : w.cell? ⟨b, o, none⟩ = some v) : w'.cell? ⟨b, o, none⟩ = some v := cell_keep (World.block_lt_of_cell? w _ h) k h
theorem overlayV_ok {s v : ByteArray} {a : Int} (hs : s.size ≤ 1048576) (h : (overlayV s a v).2 = 0) : (overlayV s a v).1.size ≤ 1048576 := by
  unfold overlayV at h ⊢
  by_cases h1 : a < 0
  · rw [if_pos h1] at h; simp at h
  · rw [if_neg h1] at h ⊢
    by_cases h2 : v.size = 0
    · rw [if_pos h2]; exact hs
    · rw [if_neg h2] at h ⊢
      by_cases h3 : s.size > 1048576 ∨ a + v.size > 1048576
      · rw [if_pos h3] at h; simp at h
      · rw [if_neg h3]
        show (overL (filledL s (a.toNat + v.size)) a.toNat v).length ≤ _
        rw [overL_len (by rw [filledL_len]; omega), filledL_len]
        omega
set_option maxRecDepth 8000 in
set_option maxHeartbeats 800000 in
theorem overlayF (cb sp wb off cap cx ax : Nat) (ws : List ByteArray) (key text : ByteArray) (there : Bool) (x : ByteArray) (a : Int) (W : World)
    (h : CmdIs W cb sp (.slice (some ⟨wb, off, none⟩) ws.length cap) key text there) (hw : WordsAt W wb off ws) (hn : 3 < ws.length) (hx : ws[3]? = some x) (hs : x.size ≤ 281474976710656) (ht : text.size ≤ 281474976710656) (ha : -9223372036854775808 ≤ a ∧ a ≤ 9223372036854775807)
    (hc : W.cell? ⟨cx, 0, none⟩ = some (dp cb)) (hv : W.cell? ⟨ax, 0, none⟩ = some (.int .i64 a)) :
    Calls Tryz.prog 95 #[dp cx, dp ax] W fun r w' => r = .returned (.tuple #[.string (overlayV text a x).1, .int .i64 (overlayV text a x).2]) ∧ Keeps [] W w' := by
  obtain ⟨_, c1, _, c3, _⟩ := cmd_cells h
  have e2 := hw 3 x hx
  have h0 : (0 : Int) ≤ 3 := by decide
  have h1 : (3 : Int) < (ws.length : Int) := by omega
  have HJJ := khid (fun w : World => overlayC text a x w ha ht hs)
  clear h hw hx
  unfold dp at hc ⊢
  go_enter Tryz.func95, Tryz.ntmps95
  go_wp2_with fail
  go_region_held3 (fun W' => W'.cell? ⟨cx, 0, none⟩ = some (.pointer (some ⟨cb, 0, none⟩)) ∧ W'.cell? ⟨cb, 1, none⟩ = some (.slice (some ⟨wb, off, none⟩) ws.length cap) ∧ W'.cell? ⟨cb, 3, none⟩ = some (.string text) ∧ W'.cell? ⟨wb, off + 3, none⟩ = some (.string x) ∧ W'.cell? ⟨ax, 0, none⟩ = some (.int .i64 a))
    (first | (go_keep; done) | (go_split_ands; (try dsimp only); (repeat' apply And.intro) <;> first | (with_reducible exact cell_keep1 hk0 (by assumption)) | (go_keep; done) | assumption))
    ((go_at_call 96; refine (HJJ.out _).mono ?_; rintro e w1 ⟨rfl, hk0⟩))
  go_wp2_with fail
  go_ret2
  exact ⟨rfl, (Keeps.refl _ _).drew.trans hk0⟩
end Go.Proofs.YthmbhkgllfngmaaGreatDoor.ks
/- ontexts: setrange. -/
namespace Go.Proofs.YthmbhkgllfngmaaGreatDoor.ks
open Go.ChangeShapes Go.WideShapes Go.RowKit
set_option linter.unusedVariables false
set_option linter.unusedSimpArgs false
section
variable {w W W' : World} {cb sp wb off cap : Nat} {ws : List ByteArray} {key text : ByteArray} {there : Bool} {S0 S : SS} {n rb : Nat}
theorem Fr.start2 (ha : At w sp S n) (h : CmdIs w cb sp (.slice (some ⟨wb, off, none⟩) ws.length cap) key text there) (hw : Words w sp cb wb off cap S ws) (hk : Keeps [] w W) :
    Fr w (W.alloc (.cells zero5 51)) cb sp wb off cap ws key text there S S n W.heap.size :=
  have k0 : Keeps [] w (W.alloc (.cells zero5 51)) := hk.alloc _
  ⟨ha.keeps0 k0, cmd_keep h (k0.block cb (cmd_lt h) (by simp)), hw.keeps k0, NextC.keeps0 k0, fun hm => by have := ha.mem.flt _ hm; have := hk.size; omega, hk.size, alloc_new _ _, cmd_lt h, ha.hz⟩
end
theorem overlayV_ok2 {s v : ByteArray} {a : Int} (hv : v.size ≠ 0) (h : (overlayV s a v).2 = 0) : (overlayV s a v).1.size ≤ 1048576 := by
  unfold overlayV at h ⊢
  by_cases h1 : a < 0
  · rw [if_pos h1] at h; simp at h
  · rw [if_neg h1, if_neg hv] at h ⊢
    by_cases h3 : s.size > 1048576 ∨ a + v.size > 1048576
    · rw [if_pos h3] at h; simp at h
    · rw [if_neg h3]
      show (overL (filledL s (a.toNat + v.size)) a.toNat v).length ≤ _
      rw [overL_len (by rw [filledL_len]; omega), filledL_len]
      omega
theorem strE_of {s : ByteArray} (h : s.size ≠ 0) : s.toList.isEmpty = false ∧ (!s.toList.isEmpty) = true := by
  have h2 : s.toList.isEmpty = false := by
    rw [ByteArray.toList_eq, List.isEmpty_eq_false_iff]
    intro hn
    exact h (by simpa using congrArg List.length hn)
  exact ⟨h2, by rw [h2]; rfl⟩
set_option maxRecDepth 8000 in
set_option maxHeartbeats 4000000 in
theorem setrangeC (cb sp wb off cap : Nat) (ws : List ByteArray) (key text : ByteArray) (there : Bool) (S : SS) (n : Nat) (k x y : ByteArray) (w : World)
    (ha : At w sp S (n + 6)) (h : CmdIs w cb sp (.slice (some ⟨wb, off, none⟩) ws.length cap) key text there) (hw : Words w sp cb wb off cap S ws) (hn : ws.length = 4) (h1 : ws[1]? = some k) (h2 : ws[2]? = some x) (h3 : ws[3]? = some y) (a : Nat) (hx : intV x = ((a : Int), 0)) (hab : a ≤ 9223372036854775807) (hy : y.size ≠ 0) :
    Calls Tryz.prog 57 #[dp cb] w fun r w' => ∃ S1 o S', MetR S k S1 o ∧ PatchPost w.heap.size ws k S1 (fun t => t.size) (patchE (lookOk S1 o) o.isSome (lookT S1 o) (fun t _ => overlayV t a y)) r w' S' ∧ At w' sp S' n ∧ NextC cb sp w S w' S' := by
  have hf0 := Fr.start2 ha h hw ((Keeps.refl _ w).alloc (.cells #[.pointer (some ⟨cb, 0, none⟩)] 82))
  rw [World.size_alloc] at hf0
  have F0 := khid hf0
  clear hf0
  have HA0 := khid ha.mem
  have H1 := khid h1
  have H2 := khid h2
  have H3 := khid h3
  have HX := khid hx
  have HXS := khid (hw.s x (List.mem_of_getElem? h2))
  have HYS := khid (hw.s y (List.mem_of_getElem? h3))
  have HAB := khid hab
  have HN := khid hn
  obtain ⟨hcap, hcap2⟩ := hw.cap
  unfold maxLen at hcap2
  obtain ⟨z1, z2⟩ := strE_of hy
  obtain ⟨_, c1, _⟩ := cmd_cells h
  have e2 := hw.at_ 2 x h2
  have hcb : cb < w.heap.size := cmd_lt h
  have hwb : wb < w.heap.size := words_lt hw.at_ hw.n.1
  have HY := khid hy
  clear ha h hw h1 h2 h3 hx hab hy
  unfold dp
  go_enter Tryz.func57, Tryz.ntmps57
  go_wp2_with fail
  obtain ⟨W0, hW0⟩ : ∃ W0, W0 = (w.alloc (.cells #[.pointer (some ⟨cb, 0, none⟩)] 82)).alloc (.cells zero5 51) := ⟨_, rfl⟩
  rw [← hW0] at F0
  have hW0' := hW0
  unfold zero5 at hW0'
  rw [show ByteArray.empty = ⟨#[]⟩ from rfl] at hW0'
  rw [← hW0']
  have hcx : W0.heap[w.heap.size]? = some (.cells #[.pointer (some ⟨cb, 0, none⟩)] 82 (0, 0)) := by rw [hW0]; exact alloc_old _ (alloc_new _ _)
  have HCX := khid hcx
  clear hW0 hW0' hcx c1 e2
  refine (intC x W0 F0.out.at_.env (by have := HXS.out; omega)).mono ?_
  rintro r w1 ⟨rfl, k1⟩
  rw [HX.out]
  have F1 := khid (F0.out.keeps k1)
  have hcx1 := k1.get HCX.out (by simp)
  have HCX1 := khid hcx1
  obtain ⟨_, d1, _⟩ := cmd_cells F1.out.cmd
  have e3 := F1.out.wd.at_ 3 y H3.out
  have g0 : w1.cell? ⟨w.heap.size, 0, none⟩ = some (.pointer (some ⟨cb, 0, none⟩)) := by rw [cell_at hcx1]; rfl
  have hz1 : w.heap.size < w1.heap.size := hlt hcx1
  have hcb1 : cb < w1.heap.size := cmd_lt F1.out.cmd
  have hwb1 : wb < w1.heap.size := words_lt F1.out.wd.at_ F1.out.wd.n.1
  have HZ1 := khid hz1
  have HFC := khid (show w.heap.size ∉ foot S sp from fun hm => by have := F1.out.at_.mem.flt; have := F0.out.nx; have h9 := (HA0.out).flt _ hm; omega)
  clear k1 hcx1
  go_wp2_with fail
  obtain ⟨W2, hW2⟩ : ∃ W2, W2 = w1.alloc (.cells #[.int .i64 (a : Int)] 2) := ⟨_, rfl⟩
  have k2 : Keeps [] w1 W2 := by rw [hW2]; exact (Keeps.refl _ _).alloc _
  have hax : W2.cell? ⟨w1.heap.size, 0, none⟩ = some (.int .i64 (a : Int)) := by rw [hW2, cell_at (alloc_new _ _)]; rfl
  have hcx2 : W2.cell? ⟨w.heap.size, 0, none⟩ = some (.pointer (some ⟨cb, 0, none⟩)) := cell_keep1 k2 g0
  have hz2 : w1.heap.size < W2.heap.size := by rw [hW2]; simp
  have F2 := khid (F1.out.keeps k2)
  rw [← hW2]
  clear hW2 d1 e3 g0
  refine (patchedC cb sp wb off cap ws _ _ _ S n 95 #[dp w.heap.size, dp w1.heap.size] k W2 (enters_of (c := _) Tryz.func95 (by kernel_rfl) rfl) F2.out.at_ F2.out.cmd F2.out.wd (by have := HN.out; omega) H1.out (fun t _ => overlayV t a y) ?_ (fun t b h => overlayV_ok2 HY.out h)).mono ?_
  · intro W S' t b ha2 hc2 hn2 ht2
    refine overlayF cb sp wb off cap _ _ ws _ _ _ y a W hc2 (F2.out.wd.next hn2 (cmd_lt F2.out.cmd)).at_ (by have := HN.out; omega) H3.out (by have := HYS.out; omega) ht2 (by have := HAB.out; omega) ?_ ?_
    · exact cell_far hn2.k (by omega) (by simp; exact ⟨by omega, HFC.out⟩) hcx2
    · exact cell_far hn2.k hz2 (by simp; exact ⟨by omega, fun hm => by have h9 := (HA0.out).flt _ hm; omega⟩) hax
  · rintro r w3 ⟨S1, o, S2, hm, hp, a3, h3, n3⟩
    have F3 := khid (F2.out.next n3 a3 h3)
    have HM := khid hm
    obtain ⟨⟨z0, z1, z2, z3, z4⟩, y0, y1, y2, y3, y4⟩ := F3.out.res
    obtain ⟨e, he⟩ : ∃ e, e = patchE (lookOk S1 o) o.isSome (lookT S1 o) (fun t _ => overlayV t a y) := ⟨_, rfl⟩
    rw [← he] at hp
    have HEE := khid he
    clear a3 h3 n3 hm he
    cases e with
    | inr tx =>
      obtain ⟨rfl, rfl⟩ := hp
      unfold resV
      go_wp2_with fail
      refine bodyPost_ret (v := resV 2 tx 0 (.slice none 0 0) (.slice none 0 0)) (by simp [results, Tryz.results57, go_sem]; go_simp; try rfl) rfl ?_
      have hfin := F3.out.fin (.int .i64 2) (.string tx) (.int .i64 0) (.slice none 0 0) (.slice none 0 0)
      unfold five at hfin
      exact ⟨S2, o, S2, HM.out, by rw [← HEE.out]; exact ⟨rfl, rfl⟩, hfin.1, hfin.2.2⟩
    | inl t =>
      obtain ⟨eff, rfl, heff, hov⟩ := hp
      have HOV := khid hov
      have HEFF := khid heff
      obtain ⟨ge, ce, rfl⟩ := eff_shape heff
      have h78 := khid (show w.heap.size + 1 < W2.heap.size from hlt F2.out.rb_)
      clear heff hov
      unfold resV
      go_wp2_with fail
      refine bodyPost_ret (v := resV 3 ByteArray.empty t.size (.slice none 0 0) (.slice (some ⟨ge, 0, none⟩) 1 ce)) (by simp [results, Tryz.results57, go_sem]; go_simp; try rfl) rfl ?_
      have hfin := F3.out.fin (.int .i64 3) (.string ByteArray.empty) (.int .i64 t.size) (.slice none 0 0) (.slice (some ⟨ge, 0, none⟩) 1 ce)
      have hef := Fr.eff (W := w3) (rb := w.heap.size + 1) (v0 := .int .i64 3) (v1 := .string ByteArray.empty) (v2 := .int .i64 t.size) (v3 := .slice none 0 0) (v4 := .slice (some ⟨ge, 0, none⟩) 1 ce) HEFF.out h78.out
      unfold five at hfin hef
      exact ⟨S1, o, S2, HM.out, by rw [← HEE.out]; exact ⟨_, rfl, eff_mono (by have := h78.out; omega) hef, HOV.out⟩, hfin.1, hfin.2.2⟩
end Go.Proofs.YthmbhkgllfngmaaGreatDoor.ks
/- ontexts: patched, with a reply of its own. (Printed by mkO13.py out of XO10.lean.) -/
namespace Go.Proofs.YthmbhkgllfngmaaGreatDoor.ks
open Go.ChangeShapes Go.WideShapes Go.RowKit
set_option linter.unusedVariables false
set_option linter.unusedSimpArgs false
theorem Fr.keepsX {w W W' : World} {cb sp wb off cap : Nat} {ws : List ByteArray} {key text : ByteArray} {there : Bool} {S0 S : SS} {n rb x : Nat} (h : Fr w W cb sp wb off cap ws key text there S0 S n rb) (hk : Keeps [x] W W')
    (hx : x ∉ foot S sp) (h1 : x ≠ cb) (h2 : x ≠ wb) (h3 : x ≠ rb) (h20 : 20 ≤ x) (hxw : x ∈ foot S0 sp ∨ w.heap.size ≤ x) : Fr w W' cb sp wb off cap ws key text there S0 S n rb := by
  have hn : Keeps (cb :: foot S0 sp) w W' := h.nx.k.step hk (fun b hb => by
    simp at hb; subst hb
    rcases hxw with h | h
    · exact .inl (List.mem_cons_of_mem _ h)
    · exact .inr h)
  exact ⟨h.at_.keeps hk (fun b hb => by simp at hb; subst hb; exact ⟨hx, h20⟩), cmd_keep h.cmd (hk.block cb (cmd_lt h.cmd) (by simpa using h1.symm)),
    ⟨words_keep h.wd.at_ (hk.block wb (words_lt h.wd.at_ h.wd.n.1) (by simpa using h2.symm)), h.wd.f, h.wd.c, h.wd.n, h.wd.cap, h.wd.s, h.wd.cf, h.wd.c20⟩, ⟨hn, h.nx.b⟩, h.rf, h.rl, (hk.block rb (hlt h.rb_) (by simpa using h3.symm)).trans h.rb_, h.cl, h.hz⟩
theorem Fr.start3 {wO w : World} {cb sp wb off cap : Nat} {ws : List ByteArray} {key text : ByteArray} {there : Bool} {S : SS} {n : Nat} (ha : At w sp S n) (h : CmdIs w cb sp (.slice (some ⟨wb, off, none⟩) ws.length cap) key text there) (hw : Words w sp cb wb off cap S ws) (hO : Keeps [] wO w) (hcl : cb < wO.heap.size) (hz : 20 ≤ wO.heap.size) :
    Fr wO (w.alloc (.cells zero5 51)) cb sp wb off cap ws key text there S S n w.heap.size :=
  have k0 : Keeps [] w (w.alloc (.cells zero5 51)) := (Keeps.refl _ _).alloc _
  ⟨ha.keeps0 k0, cmd_keep h (k0.block cb (cmd_lt h) (by simp)), hw.keeps k0, NextC.keeps0 (hO.trans k0), fun hm => by have := ha.mem.flt _ hm; omega, hO.size, alloc_new _ _, hcl, hz⟩
/-- A step of a space, of a command's own block, and of one block more. -/
structure NextX (x cb sp : Nat) (w : World) (S : SS) (w' : World) (S' : SS) : Prop where
  k : Keeps (x :: cb :: foot S sp) w w'
  b : ∀ b ∈ foot S' sp, b ∈ foot S sp ∨ w.heap.size ≤ b
theorem NextX.ofC {x cb sp : Nat} {w w' : World} {S S' : SS} (h : NextC cb sp w S w' S') : NextX x cb sp w S w' S' := ⟨h.k.mono (fun b hb => List.mem_cons_of_mem _ hb), h.b⟩
theorem NextX.keepsX {x cb sp : Nat} {w w1 w2 : World} {S S' : SS} (h : NextX x cb sp w S w1 S') (hk : Keeps [x] w1 w2) : NextX x cb sp w S w2 S' := ⟨h.k.step hk (fun b hb => by simp at hb; subst hb; exact .inl (List.mem_cons_self ..)), h.b⟩
theorem NextX.keeps {x cb sp : Nat} {w w1 w2 : World} {S S' : SS} (h : NextX x cb sp w S w1 S') (hk : Keeps [] w1 w2) : NextX x cb sp w S w2 S' := h.keepsX (hk.mono (by simp))
theorem NextX.next {x cb sp : Nat} {w w1 w2 : World} {S S1 S2 : SS} (h : NextX x cb sp w S w1 S1) (h2 : Next sp w1 S1 w2 S2) : NextX x cb sp w S w2 S2 :=
  ⟨h.k.step h2.k (fun b hb => by
    rcases h.b b hb with h4 | h4
    · exact .inl (List.mem_cons_of_mem _ (List.mem_cons_of_mem _ h4))
    · exact .inr h4), fun b hb => by
    rcases h2.b b hb with h3 | h3
    · exact h.b b h3
    · right; have := h.k.size; omega⟩
theorem NextX.five {x cb sp : Nat} {w w1 : World} {S S' : SS} (h : NextX x cb sp w S w1 S') {rb : Nat} (hb : w.heap.size ≤ rb) (v0 v1 v2 v3 v4 : Value) : NextX x cb sp w S (five w1 rb v0 v1 v2 v3 v4) S' :=
  ⟨((((h.k.setCell (p := ⟨rb, 0, none⟩) (.inr hb) _).setCell (p := ⟨rb, 1, none⟩) (.inr hb) _).setCell (p := ⟨rb, 2, none⟩) (.inr hb) _).setCell (p := ⟨rb, 3, none⟩) (.inr hb) _).setCell (p := ⟨rb, 4, none⟩) (.inr hb) _, h.b⟩
set_option maxRecDepth 8000 in
set_option maxHeartbeats 4000000 in
theorem patched2C (cb sp wb off cap : Nat) (ws : List ByteArray) (key text : ByteArray) (there : Bool) (S : SS) (n : Nat) (f g wx : Nat) (lb lb2 : Array Value) (k : ByteArray) (wO w : World) (hO : Keeps [] wO w) (hcl : cb < wO.heap.size) (hz20 : 20 ≤ wO.heap.size)
    (HE : ∀ args w, (callFunc f args).run Tryz.prog w = .ok (.enter f args) w)
    (HG : ∀ args w, (callFunc g args).run Tryz.prog w = .ok (.enter g args) w) (hwx : wx < w.heap.size ∧ wx ∉ foot S sp ∧ wx ≠ cb ∧ wx ≠ wb ∧ wO.heap.size ≤ wx)
    (ha : At w sp S (n + 6)) (h : CmdIs w cb sp (.slice (some ⟨wb, off, none⟩) ws.length cap) key text there) (hw : Words w sp cb wb off cap S ws) (hn : 2 ≤ ws.length) (h1 : ws[1]? = some k) (C : ByteArray → Bool → ByteArray × Int) (V : ByteArray → Bool → Int)
    (hch : ∀ (W : World) (S' : SS) (t : ByteArray) (b : Bool), At W sp S' (n + 5) → CmdIs W cb sp (.slice (some ⟨wb, off, none⟩) ws.length cap) k t b → NextC cb sp w S W S' → t.size ≤ 281474976710656 →
      Calls Tryz.prog f lb W fun r w' => r = .returned (.tuple #[.string (C t b).1, .int .i64 (C t b).2]) ∧ Keeps [wx] W w' ∧ w'.cell? ⟨wx, 0, none⟩ = some (.int .i64 (V t b))) (htl : ∀ (W : World) (v : Int), W.cell? ⟨wx, 0, none⟩ = some (.int .i64 v) → Calls Tryz.prog g lb2 W fun r w' => r = .returned (repV 3 ByteArray.empty v) ∧ Keeps [] W w') (hcs : ∀ t b, (C t b).2 = 0 → (C t b).1.size ≤ 1048576) :
    Calls Tryz.prog 54 #[dp cb, .func (.func f) #[] lb, .func (.func g) #[] lb2] w fun r w' => ∃ S1 o S', MetR S k S1 o ∧ PatchPost w.heap.size ws k S1 (fun _ => V (lookT S1 o) o.isSome) (patchE (lookOk S1 o) o.isSome (lookT S1 o) C) r w' S' ∧ At w' sp S' n ∧ CmdIs w' cb sp (.slice (some ⟨wb, off, none⟩) ws.length cap) k (lookT S1 o) o.isSome ∧ NextX wx cb sp w S w' S' := by
  have hks : k.size ≤ maxLen := by have := hw.s k (List.mem_of_getElem? h1); unfold maxLen; omega
  have hks2 := hw.s k (List.mem_of_getElem? h1)
  have F0 := khid (Fr.start3 ha h hw hO hcl hz20)
  have HCH := khid hch
  have HCS := khid hcs
  have H1 := khid h1
  have HKS := khid hks
  obtain ⟨hcap, hcap2⟩ := hw.cap
  unfold maxLen at hcap2
  have HN2 := khid hn
  have hnf : ∀ W : World, (binOp .neq 88 (.func (.func g) #[] lb2) .nilFunc).run Tryz.prog W = .ok (.bool true) W := fun W => by kernel_rfl
  have HTL := khid htl
  have HWX := khid hwx
  clear ha h hw hch hcs h1 hks htl hwx
  unfold dp
  go_enter Tryz.func54, Tryz.ntmps54
  obtain ⟨W0, hW0⟩ : ∃ W0, W0 = w.alloc (.cells zero5 51) := ⟨_, rfl⟩
  rw [← hW0] at F0
  have K0 := khid (show Keeps [] w W0 by rw [hW0]; exact (Keeps.refl _ _).alloc _)
  have HRB := khid (show wx ≠ w.heap.size from by have := HWX.out.1; omega)
  have hW0' := hW0
  unfold zero5 at hW0'
  rw [show ByteArray.empty = ⟨#[]⟩ from rfl] at hW0'
  have HW0' := khid hW0'.symm
  obtain ⟨_, d1, _⟩ := cmd_cells F0.out.cmd
  have e1 := F0.out.wd.at_ 1 k H1.out
  rw [hW0'] at d1 e1
  clear hW0 hW0'
  go_wp2_with fail
  rw [HW0'.out]
  clear d1 e1
  have hl2 := lookCmdC cb sp _ key text there S (n + 5) k W0 F0.out.at_ F0.out.cmd F0.out.wd.cf F0.out.wd.c20 HKS.out
  refine hl2.mono ?_
  clear hl2
  rintro r w3 ⟨S1, o, rfl, hm, a3, h3, n3⟩
  have F3 := khid (F0.out.next n3 a3 h3)
  have HM := khid hm
  clear hm a3 h3
  have HN3 := khid n3
  have X3 := khid (NextX.ofC (x := wx) ((NextC.keeps0 K0.out).trans n3))
  clear n3
  obtain ⟨ok, hok⟩ : ∃ ok, ok = lookOk S1 o := ⟨_, rfl⟩
  rw [← hok]
  have HOK := khid hok
  obtain ⟨tt, htt⟩ : ∃ tt, tt = lookT S1 o := ⟨_, rfl⟩
  have HTT := khid htt
  obtain ⟨th, hth⟩ : ∃ th, th = o.isSome := ⟨_, rfl⟩
  have HTH := khid hth
  have htsz : tt.size ≤ 281474976710656 := by
    rw [htt]
    exact lookT_le (inv := F0.out.at_.inv) F3.out.at_ HM.out
  have HTSZ := khid htsz
  have HC := HCH.out w3 S1 tt th F3.out.at_ (by rw [htt, hth]; exact F3.out.cmd) ((NextC.keeps0 K0.out).trans HN3.out) htsz
  have HC := khid HC
  clear hok htt hth htsz
  cases ok with
  | false =>
    have HFL := khid (failsC txKind w3 F3.out.at_.env F3.out.at_.hz flat_kind)
    unfold txKind at HFL
    go_wp2_with fail
    refine HFL.out.mono ?_
    rintro r w5 ⟨rfl, k5⟩
    have F5 := khid (F3.out.keeps k5)
    have X5 := khid (X3.out.keeps k5)
    obtain ⟨⟨z0, z1, z2, z3, z4⟩, y0, y1, y2, y3, y4⟩ := F5.out.res
    clear k5
    unfold resV
    go_wp2_with fail
    refine bodyPost_ret (v := resV 2 txKind 0 (.slice none 0 0) (.slice none 0 0)) (by simp [results, Tryz.results54, go_sem]; go_simp; try rfl) rfl ?_
    have hfin := F5.out.fin (.int .i64 2) (.string txKind) (.int .i64 0) (.slice none 0 0) (.slice none 0 0)
    have hX := X5.out.five (Nat.le_refl _) (.int .i64 2) (.string txKind) (.int .i64 0) (.slice none 0 0) (.slice none 0 0)
    unfold five txKind at hX hfin
    refine ⟨S1, o, S1, HM.out, ?_, hfin.1.mono (by omega), hfin.2.1, hX⟩
    rw [← HOK.out]
    exact ⟨rfl, rfl⟩
  | true =>
    obtain ⟨c2, hc2⟩ : ∃ c2, c2 = (C tt th).2 := ⟨_, rfl⟩
    obtain ⟨nt, hnt⟩ : ∃ nt, nt = (C tt th).1 := ⟨_, rfl⟩
    rw [← hc2, ← hnt] at HC
    have HC2 := khid hc2
    have HNT := khid hnt
    clear hc2 hnt
    by_cases hb : c2 = 0
    · have HNS := khid (show nt.size ≤ 1048576 by rw [HNT.out]; exact HCS.out _ _ (by rw [← HC2.out]; exact hb))
      have HBE := khid hb
      subst hb
      go_wp2_with fail
      refine HC.out.mono ?_
      rintro r w4 ⟨rfl, k4, hv4⟩
      have hxf := ((NextC.keeps0 K0.out).trans HN3.out).fresh HWX.out.1 HWX.out.2.1
      have F4 := khid (F3.out.keepsX k4 hxf HWX.out.2.2.1 HWX.out.2.2.2.1 HRB.out (by have := HWX.out.2.2.2.2; omega) (.inr HWX.out.2.2.2.2))
      have HV4 := khid hv4
      have X4 := khid (X3.out.keepsX k4)
      have HXF := khid hxf
      clear k4 hv4 hxf
      go_wp2_with fail
      refine (overC cb sp _ _ _ _ S1 n nt w4 F4.out.at_ F4.out.cmd F4.out.wd.cf hks2 HNS.out).mono ?_
      rintro r w6 ⟨S2, rfl, hov, a6, n6⟩
      have F6 := khid (F4.out.step n6 a6)
      have X6 := khid (X4.out.next n6)
      have HOV := khid hov
      have hv6 := cell_far n6.k (World.block_lt_of_cell? w4 _ HV4.out) HXF.out HV4.out
      have HT6 := khid (HTL.out w6 _ hv6)
      clear hov a6 n6 hv6
      go_wp2_with fail
      refine HT6.out.mono ?_
      rintro r w7 ⟨rfl, k7⟩
      have F7 := khid (F6.out.keeps k7)
      have X7 := khid (X6.out.keeps k7)
      clear k7
      unfold repV
      go_wp2_with fail
      refine (didC cb sp wb off cap ws _ _ _ 3 (V tt th) ByteArray.empty none 0 0 w7 F7.out.cmd (by have := F7.out.wd.n.2; omega) F7.out.wd.at_ F7.out.wd.n.1).mono ?_
      rintro r w8 ⟨eff, rfl, heff, k8⟩
      have F8 := khid (F7.out.keeps k8)
      have X8 := khid (X7.out.keeps k8)
      obtain ⟨⟨z0, z1, z2, z3, z4⟩, y0, y1, y2, y3, y4⟩ := F8.out.res
      have HEFF := khid heff
      have h78 := khid (show w.heap.size < w7.heap.size from hlt F7.out.rb_)
      obtain ⟨ge, ce, rfl⟩ := eff_shape heff
      clear k8 heff
      unfold resV
      go_wp2_with fail
      refine bodyPost_ret (v := resV 3 ByteArray.empty (V tt th) (.slice none 0 0) (.slice (some ⟨ge, 0, none⟩) 1 ce)) (by simp [results, Tryz.results54, go_sem]; go_simp; try rfl) rfl ?_
      have hfin := F8.out.fin (.int .i64 3) (.string ByteArray.empty) (.int .i64 (V tt th)) (.slice none 0 0) (.slice (some ⟨ge, 0, none⟩) 1 ce)
      have hX := X8.out.five (Nat.le_refl _) (.int .i64 3) (.string ByteArray.empty) (.int .i64 (V tt th)) (.slice none 0 0) (.slice (some ⟨ge, 0, none⟩) 1 ce)
      have hef := Fr.eff (W := w8) (rb := w.heap.size) (v0 := .int .i64 3) (v1 := .string ByteArray.empty) (v2 := .int .i64 (V tt th)) (v3 := .slice none 0 0) (v4 := .slice (some ⟨ge, 0, none⟩) 1 ce) HEFF.out h78.out
      unfold five at hX hfin hef
      refine ⟨S1, o, S2, HM.out, ?_, hfin.1, hfin.2.1, hX⟩
      rw [← HOK.out, ← HTH.out, ← HTT.out]
      unfold patchE PatchPost
      rw [if_neg (by simp), if_neg (by rw [← HC2.out]; simp), ← HNT.out]
      exact ⟨_, rfl, eff_mono (by have := h78.out; omega) hef, HOV.out⟩
    · have hne : (c2 == 0) = false := by simpa using hb
      have hne2 : (c2 != 0) = true := by simpa using hb
      have HBE := khid hb
      clear hb
      go_wp2_with fail
      refine HC.out.mono ?_
      rintro r w4 ⟨rfl, k4, hv4⟩
      have hxf := ((NextC.keeps0 K0.out).trans HN3.out).fresh HWX.out.1 HWX.out.2.1
      have F4 := khid (F3.out.keepsX k4 hxf HWX.out.2.2.1 HWX.out.2.2.2.1 HRB.out (by have := HWX.out.2.2.2.2; omega) (.inr HWX.out.2.2.2.2))
      have HV4 := khid hv4
      have X4 := khid (X3.out.keepsX k4)
      have HXF := khid hxf
      clear k4 hv4 hxf
      have HFL := khid (failsC txLong w4 F4.out.at_.env F4.out.at_.hz flat_long)
      unfold txLong at HFL
      go_wp2_with fail
      refine HFL.out.mono ?_
      rintro r w5 ⟨rfl, k5⟩
      have F5 := khid (F4.out.keeps k5)
      have X5 := khid (X4.out.keeps k5)
      obtain ⟨⟨z0, z1, z2, z3, z4⟩, y0, y1, y2, y3, y4⟩ := F5.out.res
      clear k5
      unfold resV
      go_wp2_with fail
      refine bodyPost_ret (v := resV 2 txLong 0 (.slice none 0 0) (.slice none 0 0)) (by simp [results, Tryz.results54, go_sem]; go_simp; try rfl) rfl ?_
      have hfin := F5.out.fin (.int .i64 2) (.string txLong) (.int .i64 0) (.slice none 0 0) (.slice none 0 0)
      have hX := X5.out.five (Nat.le_refl _) (.int .i64 2) (.string txLong) (.int .i64 0) (.slice none 0 0) (.slice none 0 0)
      unfold five txLong at hX hfin
      refine ⟨S1, o, S1, HM.out, ?_, hfin.1.mono (by omega), hfin.2.1, hX⟩
      rw [← HOK.out, ← HTH.out, ← HTT.out]
      unfold patchE PatchPost
      rw [if_neg (by simp), if_pos (by rw [← HC2.out]; exact HBE.out)]
      exact ⟨rfl, rfl⟩
end Go.Proofs.YthmbhkgllfngmaaGreatDoor.ks
/- ontexts: setbit. -/
namespace Go.Proofs.YthmbhkgllfngmaaGreatDoor.ks
open Go.ChangeShapes Go.WideShapes Go.RowKit
set_option linter.unusedVariables false
set_option linter.unusedSimpArgs false
set_option maxRecDepth 8000 in
set_option maxHeartbeats 800000 in
theorem setbitF2 (wx : Nat) (v : Int) (W : World) (hv : W.cell? ⟨wx, 0, none⟩ = some (.int .i64 v)) :
    Calls Tryz.prog 99 #[dp wx] W fun r w' => r = .returned (repV 3 ByteArray.empty v) ∧ Keeps [] W w' := by
  have hl : wx < W.heap.size := World.block_lt_of_cell? W _ hv
  unfold dp
  go_enter Tryz.func99, Tryz.ntmps99
  go_wp2_with fail
  generalize hw0 : W.alloc _ = w0
  have h0 : w0.heap[W.heap.size]? = some (.cells #[.int .i64 0, .string ByteArray.empty, .int .i64 0, .slice none 0 0] 28 (0, 0)) := by rw [← hw0]; exact alloc_new _ _
  have k0 : Keeps [] W w0 := by rw [← hw0]; exact (Keeps.refl _ _).alloc _
  have K0 := khid k0
  have H0 := khid h0
  clear hw0 k0 h0
  refine (repIntC v w0).mono ?_
  rintro r w1 ⟨rfl, k1⟩
  have hx := k1.get H0.out (by simp)
  have K1 := khid (K0.out.trans k1)
  have c0 : w1.cell? ⟨W.heap.size, 0, none⟩ = some (.int .i64 0) := by rw [cell_at hx]; rfl
  have c1 : w1.cell? ⟨W.heap.size, 1, none⟩ = some (.string ByteArray.empty) := by rw [cell_at hx]; rfl
  have c2 : w1.cell? ⟨W.heap.size, 2, none⟩ = some (.int .i64 0) := by rw [cell_at hx]; rfl
  have c3 : w1.cell? ⟨W.heap.size, 3, none⟩ = some (.slice none 0 0) := by rw [cell_at hx]; rfl
  have f0 : w1.frozen? ⟨W.heap.size, 0, none⟩ = false := free_at hx 0
  have f1 : w1.frozen? ⟨W.heap.size, 1, none⟩ = false := free_at hx 1
  have f2 : w1.frozen? ⟨W.heap.size, 2, none⟩ = false := free_at hx 2
  have f3 : w1.frozen? ⟨W.heap.size, 3, none⟩ = false := free_at hx 3
  clear k1 hx
  unfold repV
  go_wp2_with fail
  refine bodyPost_ret (v := repV 3 ByteArray.empty v) (by simp [results, Tryz.results99, go_sem]; go_simp; try rfl) rfl ?_
  exact ⟨rfl, ((((K1.out).setCell (p := ⟨W.heap.size, 0, none⟩) (.inr (Nat.le_refl _)) _).setCell (p := ⟨W.heap.size, 1, none⟩) (.inr (Nat.le_refl _)) _).setCell (p := ⟨W.heap.size, 2, none⟩) (.inr (Nat.le_refl _)) _).setCell (p := ⟨W.heap.size, 3, none⟩) (.inr (Nat.le_refl _)) _⟩
theorem Fr.nextX {w W W' : World} {cb sp wb off cap : Nat} {ws : List ByteArray} {key text key2 text2 : ByteArray} {there there2 : Bool} {S0 S S2 : SS} {n m rb x : Nat} (h : Fr w W cb sp wb off cap ws key text there S0 S n rb) (hn : NextX x cb sp W S W' S2) (ha : At W' sp S2 m) (hc : CmdIs W' cb sp (.slice (some ⟨wb, off, none⟩) ws.length cap) key2 text2 there2)
    (h1 : x ≠ wb) (h2 : x ≠ rb) (h3 : w.heap.size ≤ x) : Fr w W' cb sp wb off cap ws key2 text2 there2 S0 S2 m rb := by
  have hwl := words_lt h.wd.at_ h.wd.n.1
  have fresh : ∀ b, b < W.heap.size → b ∉ foot S sp → b ∉ foot S2 sp := fun b hb hf hm => by
    rcases hn.b b hm with h4 | h4
    · exact hf h4
    · omega
  refine ⟨ha, hc, ⟨words_keep h.wd.at_ (hn.k.block wb hwl (by simp; exact ⟨fun e => h1 e.symm, h.wd.c, h.wd.f⟩)), fresh wb hwl h.wd.f, h.wd.c, h.wd.n, h.wd.cap, h.wd.s, fresh cb (cmd_lt h.cmd) h.wd.cf, h.wd.c20⟩, ⟨h.nx.k.step hn.k (fun b hb => ?_), fun b hb => ?_⟩, fresh rb (hlt h.rb_) h.rf, h.rl, (hn.k.block rb (hlt h.rb_) (by simp; exact ⟨fun e => h2 e.symm, by have := h.cl; have := h.rl; omega, h.rf⟩)).trans h.rb_, h.cl, h.hz⟩
  · rcases List.mem_cons.1 hb with h4 | h4
    · exact .inr (h4 ▸ h3)
    · rcases List.mem_cons.1 h4 with h5 | h5
      · exact .inl (h5 ▸ List.mem_cons_self ..)
      · rcases h.nx.b b h5 with h6 | h6
        · exact .inl (List.mem_cons_of_mem _ h6)
        · exact .inr h6
  · rcases hn.b b hb with h4 | h4
    · exact h.nx.b b h4
    · right; have := h.nx.k.size; omega
theorem cell_set1 {w : World} {b o a q : Nat} {v u : Value} (hne : b ≠ a) (h : w.cell? ⟨b, o, none⟩ = some v) : (w.setCell ⟨a, q, none⟩ u).cell? ⟨b, o, none⟩ = some v := by
  unfold World.cell? at h ⊢
  simp only [set_other (b := b) (a := ⟨a, q, none⟩) u hne]
  exact h
set_option maxRecDepth 8000 in
set_option maxHeartbeats 1600000 in
theorem setbitF1 (cb sp cx nx wx g m cp : Nat) (wv : Value) (key text : ByteArray) (there : Bool) (a b v0 : Int) (W : World)
    (h : CmdIs W cb sp wv key text there) (ht : text.size ≤ 281474976710656) (hm : 1 < m)
    (hc : W.cell? ⟨cx, 0, none⟩ = some (dp cb)) (hn : W.cell? ⟨nx, 0, none⟩ = some (.slice (some ⟨g, 0, none⟩) m cp)) (h0 : W.cell? ⟨g, 0, none⟩ = some (.int .i64 a)) (h1 : W.cell? ⟨g, 1, none⟩ = some (.int .i64 b))
    (hw : W.heap[wx]? = some (.cells #[.int .i64 v0] 3 (0, 0))) (n1 : cx ≠ wx) (n2 : nx ≠ wx) (n3 : cb ≠ wx) (n4 : g ≠ wx) :
    Calls Tryz.prog 97 #[dp cx, dp nx, dp wx] W fun r w' => r = .returned (.tuple #[.string (setBitV text a b).1, .int .i64 (setBitV text a b).2.2]) ∧ Keeps [wx] W w' ∧ w'.cell? ⟨wx, 0, none⟩ = some (.int .i64 (setBitV text a b).2.1) := by
  obtain ⟨_, _, _, c3, _⟩ := cmd_cells h
  have hwl := hlt hw
  have hw0 : W.cell? ⟨wx, 0, none⟩ = some (.int .i64 v0) := by rw [cell_at hw]; rfl
  have HW := khid hw
  have hz0 : (0 : Int) ≤ 0 := by decide
  have hz1 : (0 : Int) < (m : Int) := by omega
  have hz2 : (1 : Int) < (m : Int) := by omega
  have hz3 : (0 : Int) ≤ 1 := by decide
  have hz4 : 0 < m := by omega
  have HJJ := khid (fun w : World => setBitC text a b w ht)
  clear h hw
  unfold dp at hc ⊢
  go_enter Tryz.func97, Tryz.ntmps97
  go_wp2_with fail
  go_region_held3 (fun W' => W'.cell? ⟨cx, 0, none⟩ = some (.pointer (some ⟨cb, 0, none⟩)) ∧ W'.cell? ⟨nx, 0, none⟩ = some (.slice (some ⟨g, 0, none⟩) m cp) ∧ W'.cell? ⟨cb, 3, none⟩ = some (.string text) ∧ W'.cell? ⟨g, 0, none⟩ = some (.int .i64 a) ∧ W'.cell? ⟨g, 1, none⟩ = some (.int .i64 b))
    (first | (go_keep; done) | (go_split_ands; (try dsimp only); (repeat' apply And.intro) <;> first | (with_reducible exact cell_keep1 hk0 (by assumption)) | (with_reducible exact cell_set1 (by assumption) (by assumption)) | (go_keep; done) | assumption))
    ((go_at_call 98; refine (HJJ.out _).mono ?_; rintro e w1 ⟨rfl, hk0⟩; have hx1 := hk0.get (k := wx) (show W.drew.heap[wx]? = _ from HW.out) (by simp); have y0 : w1.cell? ⟨wx, 0, none⟩ = some (.int .i64 v0) := cell_at hx1 0; have y1 : w1.frozen? ⟨wx, 0, none⟩ = false := free_at hx1 0; have HX1 := khid hx1; clear hx1))
  go_wp2_with fail
  go_ret2
  refine ⟨rfl, ((((Keeps.refl _ _).drew.trans hk0).mono (by simp)).setCell (p := ⟨wx, 0, none⟩) (.inl (by simp)) _), ?_⟩
  rw [cell_at (set_same HX1.out 0 _)]
  rfl
theorem setBitV_ok {s : ByteArray} {a b : Int} (h : (setBitV s a b).2.2 = 0) : (setBitV s a b).1.size ≤ 1048576 := by
  unfold setBitV at h ⊢
  by_cases h1 : (a < 0 ∨ 1073741824 ≤ a) ∨ (b ≠ 0 ∧ b ≠ 1)
  · rw [if_pos h1] at h; simp at h
  · rw [if_neg h1] at h ⊢
    by_cases h2 : s.size > 1048576 ∨ a / 8 ≥ 1048576
    · rw [if_pos h2] at h; simp at h
    · rw [if_neg h2]
      show (setL s a.toNat (decide (b = 1))).length ≤ _
      unfold setL
      rw [List.length_set, filledL_len]
      omega
set_option maxRecDepth 8000 in
set_option maxHeartbeats 4000000 in
theorem setbitC (cb sp wb off cap : Nat) (ws : List ByteArray) (key text : ByteArray) (there : Bool) (S : SS) (n : Nat) (k : ByteArray) (w : World)
    (ha : At w sp S (n + 6)) (h : CmdIs w cb sp (.slice (some ⟨wb, off, none⟩) ws.length cap) key text there) (hw : Words w sp cb wb off cap S ws) (hn : 2 ≤ ws.length) (h1 : ws[1]? = some k) (a b : Int) (hxs : numsOf (ws.drop 2) = some [a, b]) (hab : 0 ≤ a ∧ a < 1073741824) (hbb : 0 ≤ b ∧ b ≤ 1) :
    Calls Tryz.prog 58 #[dp cb] w fun r w' => ∃ S1 o S', MetR S k S1 o ∧ PatchPost w.heap.size ws k S1 (fun _ => (setBitV (lookT S1 o) a b).2.1) (patchE (lookOk S1 o) o.isSome (lookT S1 o) (fun t _ => ((setBitV t a b).1, (setBitV t a b).2.2))) r w' S' ∧ At w' sp S' n ∧ NextC cb sp w S w' S' := by
  have hf0 := Fr.start2 ha h hw ((Keeps.refl _ w).alloc (.cells #[.pointer (some ⟨cb, 0, none⟩)] 82))
  rw [World.size_alloc] at hf0
  have F0 := khid hf0
  clear hf0
  have HA0 := khid ha.mem
  have H1 := khid h1
  have HXS := khid hxs
  have HN := khid hn
  have hcb : cb < w.heap.size := cmd_lt h
  have hwb : wb < w.heap.size := words_lt hw.at_ hw.n.1
  have HZ := khid ha.hz
  have HKS := khid (show Keeps [] w w from Keeps.refl _ _)
  obtain ⟨hab1, hab2⟩ := hab
  obtain ⟨hbb1, hbb2⟩ := hbb
  clear ha h hw h1 hxs hn
  unfold dp
  go_enter Tryz.func58, Tryz.ntmps58
  go_wp2_with fail
  obtain ⟨W0, hW0⟩ : ∃ W0, W0 = (w.alloc (.cells #[.pointer (some ⟨cb, 0, none⟩)] 82)).alloc (.cells zero5 51) := ⟨_, rfl⟩
  rw [← hW0] at F0
  have hW0' := hW0
  unfold zero5 at hW0'
  rw [show ByteArray.empty = ⟨#[]⟩ from rfl] at hW0'
  rw [← hW0']
  have hcx : W0.heap[w.heap.size]? = some (.cells #[.pointer (some ⟨cb, 0, none⟩)] 82 (0, 0)) := by rw [hW0]; exact alloc_old _ (alloc_new _ _)
  have HCX := khid hcx
  have K0 := khid (show Keeps [] w W0 by rw [hW0]; exact ((Keeps.refl _ _).alloc _).alloc _)
  clear hW0 hW0' hcx
  refine (numsC cb sp wb off cap ws key text there 2 W0 F0.out.cmd F0.out.wd.at_ (by have := F0.out.wd.n.2; omega) F0.out.wd.cap HN.out F0.out.wd.s F0.out.at_.env F0.out.at_.hz).mono ?_
  rintro r w1 ⟨hnp, k1⟩
  rw [HXS.out] at hnp
  obtain ⟨v, rfl, hrow⟩ := hnp
  obtain ⟨g, cp, rfl⟩ : ∃ g cp, v = .slice (some ⟨g, 0, none⟩) 2 cp := by
    rcases hrow.2 with ⟨_, h3⟩ | ⟨g, c, cur, rfl, _⟩
    · cases h3
    · exact ⟨g, c, rfl⟩
  have F1 := khid (F0.out.keeps k1)
  have hcx1 := k1.get HCX.out (by simp)
  have HCX1 := khid hcx1
  have e0 : w1.cell? ⟨g, 0, none⟩ = some (.int .i64 a) := hrow.cells rfl 0 _ rfl
  have e1 : w1.cell? ⟨g, 1, none⟩ = some (.int .i64 b) := hrow.cells rfl 1 _ rfl
  have hg1 := (hrow.lt g rfl).1
  have hg2 := (hrow.lt g rfl).2
  have hz1 : w.heap.size < w1.heap.size := hlt hcx1
  have g0 : w1.cell? ⟨w.heap.size, 0, none⟩ = some (.pointer (some ⟨cb, 0, none⟩)) := by rw [cell_at hcx1]; rfl
  have K1 := khid (K0.out.trans k1)
  have hzz : w.heap.size < W0.heap.size := hlt HCX.out
  clear k1 hcx1 hrow
  go_wp2_with fail
  obtain ⟨W3, hW3⟩ : ∃ W3, W3 = (w1.alloc (.cells #[.slice (some ⟨g, 0, none⟩) 2 cp] 87)).alloc (.cells #[.int .i64 0] 3) := ⟨_, rfl⟩
  have k3 : Keeps [] w1 W3 := by rw [hW3]; exact ((Keeps.refl _ _).alloc _).alloc _
  have hnx : W3.cell? ⟨w1.heap.size, 0, none⟩ = some (.slice (some ⟨g, 0, none⟩) 2 cp) := by rw [hW3, cell_at (alloc_old _ (alloc_new _ _))]; rfl
  have hwx : W3.heap[w1.heap.size + 1]? = some (.cells #[.int .i64 0] 3 (0, 0)) := by
    rw [hW3]
    have := alloc_new (w1.alloc (.cells #[.slice (some ⟨g, 0, none⟩) 2 cp] 87)) (.cells #[.int .i64 0] 3)
    rwa [World.size_alloc] at this
  have hz3 : w1.heap.size + 1 < W3.heap.size := hlt hwx
  have hcx3 := cell_keep1 k3 g0
  have e03 := cell_keep1 k3 e0
  have e13 := cell_keep1 k3 e1
  have F3 := khid (F1.out.keeps k3)
  have K3 := khid (K1.out.trans k3)
  have HFL := khid (show ∀ b, w.heap.size ≤ b → b ∉ foot S sp from fun b hb hm => by have h9 := (HA0.out).flt _ hm; omega)
  rw [← hW3]
  clear hW3 k3 e0 e1 g0
  refine (patched2C cb sp wb off cap ws _ _ _ S n 97 99 (w1.heap.size + 1) #[dp w.heap.size, dp w1.heap.size, dp (w1.heap.size + 1)] #[dp (w1.heap.size + 1)] k w W3 K3.out hcb HZ.out
    (enters_of (c := _) Tryz.func97 (by kernel_rfl) rfl) (enters_of (c := _) Tryz.func99 (by kernel_rfl) rfl) ⟨hz3, HFL.out _ (by omega), by omega, by omega, by omega⟩
    F3.out.at_ F3.out.cmd F3.out.wd HN.out H1.out (fun t _ => ((setBitV t a b).1, (setBitV t a b).2.2)) (fun t _ => (setBitV t a b).2.1) ?_ ?_ (fun t b h => setBitV_ok h)).mono ?_
  · intro W S' t bb ha2 hc2 hn2 ht2
    refine setbitF1 cb sp _ _ _ g 2 cp _ _ _ _ a b 0 W hc2 ht2 (by omega) ?_ ?_ ?_ ?_ ?_ (by omega) (by omega) (by omega) (by omega)
    · exact cell_far hn2.k (by omega) (by simp; exact ⟨by omega, HFL.out _ (by omega)⟩) hcx3
    · exact cell_far hn2.k (by omega) (by simp; exact ⟨by omega, HFL.out _ (by omega)⟩) hnx
    · exact cell_far hn2.k (by omega) (by simp; exact ⟨by omega, HFL.out _ (by omega)⟩) e03
    · exact cell_far hn2.k (by omega) (by simp; exact ⟨by omega, HFL.out _ (by omega)⟩) e13
    · exact (hn2.k.block _ hz3 (by simp; exact ⟨by omega, HFL.out _ (by omega)⟩)).trans hwx
  · intro W v hv
    exact setbitF2 _ v W hv
  · rintro r w4 ⟨S1, o, S2, hm, hp, a4, h4, n4⟩
    have F4 := khid (F3.out.nextX n4 a4 h4 (by omega) (by omega) (by omega))
    have HM := khid hm
    obtain ⟨⟨z0, z1, z2, z3, z4⟩, y0, y1, y2, y3, y4⟩ := F4.out.res
    obtain ⟨e, he⟩ : ∃ e, e = patchE (lookOk S1 o) o.isSome (lookT S1 o) (fun t _ => ((setBitV t a b).1, (setBitV t a b).2.2)) := ⟨_, rfl⟩
    rw [← he] at hp
    have HEE := khid he
    clear a4 h4 n4 hm he
    cases e with
    | inr tx =>
      obtain ⟨rfl, rfl⟩ := hp
      unfold resV
      go_wp2_with fail
      refine bodyPost_ret (v := resV 2 tx 0 (.slice none 0 0) (.slice none 0 0)) (by simp [results, Tryz.results58, go_sem]; go_simp; try rfl) rfl ?_
      have hfin := F4.out.fin (.int .i64 2) (.string tx) (.int .i64 0) (.slice none 0 0) (.slice none 0 0)
      unfold five at hfin
      exact ⟨S2, o, S2, HM.out, by rw [← HEE.out]; exact ⟨rfl, rfl⟩, hfin.1, hfin.2.2⟩
    | inl t =>
      obtain ⟨eff, rfl, heff, hov⟩ := hp
      have HOV := khid hov
      have HEFF := khid heff
      obtain ⟨ge, ce, rfl⟩ := eff_shape heff
      have h78 := khid (show w.heap.size + 1 < W3.heap.size from hlt F3.out.rb_)
      clear heff hov
      unfold resV
      go_wp2_with fail
      refine bodyPost_ret (v := resV 3 ByteArray.empty (setBitV (lookT S1 o) a b).2.1 (.slice none 0 0) (.slice (some ⟨ge, 0, none⟩) 1 ce)) (by simp [results, Tryz.results58, go_sem]; go_simp; try rfl) rfl ?_
      have hfin := F4.out.fin (.int .i64 3) (.string ByteArray.empty) (.int .i64 (setBitV (lookT S1 o) a b).2.1) (.slice none 0 0) (.slice (some ⟨ge, 0, none⟩) 1 ce)
      have hef := Fr.eff (W := w4) (rb := w.heap.size + 1) (v0 := .int .i64 3) (v1 := .string ByteArray.empty) (v2 := .int .i64 (setBitV (lookT S1 o) a b).2.1) (v3 := .slice none 0 0) (v4 := .slice (some ⟨ge, 0, none⟩) 1 ce) HEFF.out h78.out
      unfold five at hfin hef
      exact ⟨S1, o, S2, HM.out, by rw [← HEE.out]; exact ⟨_, rfl, eff_mono (by have := h78.out; omega) hef, HOV.out⟩, hfin.1, hfin.2.2⟩
end Go.Proofs.YthmbhkgllfngmaaGreatDoor.ks
/- ontexts: options of SET, without any, and with KEEPTTL alone. -/
namespace Go.Proofs.YthmbhkgllfngmaaGreatDoor.ks
open Go.ChangeShapes Go.WideShapes Go.RowKit
set_option linter.unusedVariables false
set_option linter.unusedSimpArgs false
set_option maxRecDepth 8000 in
set_option maxHeartbeats 1600000 in
theorem options0C (cb sp wb off cap : Nat) (ws : List ByteArray) (key text : ByteArray) (there : Bool) (w : World)
    (h : CmdIs w cb sp (.slice (some ⟨wb, off, none⟩) ws.length cap) key text there) (hn : ws.length = 3) (hcap : ws.length ≤ cap ∧ cap ≤ maxLen) :
    Calls Tryz.prog 83 #[dp cb] w fun r w' => r = .returned (.tuple #[.int .u8 0, .int .i64 0, .string ⟨#[]⟩]) ∧ Keeps [] w w' := by
  obtain ⟨_, c1, _⟩ := cmd_cells h
  obtain ⟨hc1, hc2⟩ := hcap
  unfold maxLen at hc2
  rw [hn] at c1 hc1
  clear h hn
  unfold dp
  by_cases hc : cap = 3
  · subst hc
    go_enter Tryz.func83, Tryz.ntmps83
    go_wp2_with fail
    go_loop [5, 6, 7] (fun a t l => a = .int .u8 0 ∧ t = .int .i64 0 ∧ ∃ p c, l = .slice p 0 c) (fun _ _ _ => 0)
    case atStart => exact ⟨rfl, rfl, _, _, rfl⟩
    case round =>
      obtain ⟨rfl, rfl, p, c, rfl⟩ := hrel
      go_wp2_with fail
      go_ret3
      exact ⟨rfl, Keeps.refl _ _⟩
  · have e1 : 3 ≠ cap := fun e => hc e.symm
    have e2 : ¬ cap - 3 = 0 := by omega
    go_enter Tryz.func83, Tryz.ntmps83
    go_wp2_with fail
    go_loop [5, 6, 7] (fun a t l => a = .int .u8 0 ∧ t = .int .i64 0 ∧ ∃ p c, l = .slice p 0 c) (fun _ _ _ => 0)
    case atStart => exact ⟨rfl, rfl, _, _, rfl⟩
    case round =>
      obtain ⟨rfl, rfl, p, c, rfl⟩ := hrel
      go_wp2_with fail
      go_ret3
      exact ⟨rfl, Keeps.refl _ _⟩
def kwKeep : ByteArray := ⟨#[75, 69, 69, 80, 84, 84, 76]⟩
set_option maxRecDepth 8000 in
set_option maxHeartbeats 4000000 in
theorem optionsKeepC (cb sp wb off cap : Nat) (ws : List ByteArray) (key text : ByteArray) (there : Bool) (x : ByteArray) (w : World)
    (h : CmdIs w cb sp (.slice (some ⟨wb, off, none⟩) ws.length cap) key text there) (hw : WordsAt w wb off ws) (hn : ws.length = 4) (hcap : ws.length ≤ cap ∧ cap ≤ maxLen) (h3 : ws[3]? = some x) (hs : x.size ≤ 1048576) (hx : upS x = kwKeep) :
    Calls Tryz.prog 83 #[dp cb] w fun r w' => r = .returned (.tuple #[.int .u8 8, .int .i64 0, .string ⟨#[]⟩]) ∧ Keeps [] w w' := by
  obtain ⟨_, c1, _⟩ := cmd_cells h
  obtain ⟨hc1, hc2⟩ := hcap
  unfold maxLen at hc2
  rw [hn] at c1 hc1
  have e3 := hw 3 x h3
  have HU := khid (fun w : World => upperC x w hs)
  rw [hx] at HU
  unfold kwKeep at HU
  obtain ⟨m, rfl⟩ : ∃ m, cap = m + 3 := ⟨cap - 3, by omega⟩
  have hm : 1 ≤ m := by omega
  have hcc : m + 3 ≤ 9223372036854775807 := by omega
  clear h hn hw h3 hx hs hc1 hc2
  unfold dp
  go_enter Tryz.func83, Tryz.ntmps83
  go_wp2_with fail
  go_loopw [5, 6, 7] (fun a t l wr => t = .int .i64 0 ∧ Hid (Keeps [] w wr) ∧ ((a = .int .u8 0 ∧ ∃ c : Nat, 1 ≤ c ∧ c ≤ 9223372036854775807 ∧ l = .slice (some ⟨wb, off + 3, none⟩) 1 c) ∨ (a = .int .u8 8 ∧ ∃ p c, l = .slice p 0 c))) (fun a _ _ _ => 8 - (intOf a).toNat)
  case atStart => exact ⟨rfl, khid (Keeps.refl _ _), .inl ⟨rfl, _, by omega, by omega, rfl⟩⟩
  case round =>
    obtain ⟨rfl, HK, ⟨rfl, c, hc1, hc2, rfl⟩ | ⟨rfl, p, c, rfl⟩⟩ := hrel
    · have e3r := cell_keep1 HK.out e3
      clear e3 c1
      by_cases hc : c = 1
      · subst hc
        go_wp2_with fail
        refine (HU.out wr).mono ?_
        rintro r w1 ⟨rfl, k1⟩
        have K1 := khid (HK.out.trans k1)
        clear k1
        go_wp2_with fail
        go_roundw
        case rel => exact ⟨rfl, K1, .inr ⟨rfl, _, _, rfl⟩⟩
        case measure => simp [intOf]; decide
      · have f1 : ¬ c - 1 = 0 := by omega
        have f2 : 1 ≠ c := fun e => hc e.symm
        go_wp2_with fail
        refine (HU.out wr).mono ?_
        rintro r w1 ⟨rfl, k1⟩
        have K1 := khid (HK.out.trans k1)
        clear k1
        go_wp2_with fail
        go_roundw
        case rel => exact ⟨rfl, K1, .inr ⟨rfl, _, _, rfl⟩⟩
        case measure => simp [intOf]; decide
    · go_wp2_with fail
      go_ret3
      exact ⟨rfl, HK.out⟩
end Go.Proofs.YthmbhkgllfngmaaGreatDoor.ks
/- ontexts: set, without options, and with KEEPTTL. (Printed by mkO16.py.) -/
namespace Go.Proofs.YthmbhkgllfngmaaGreatDoor.ks
open Go.ChangeShapes Go.WideShapes Go.RowKit
set_option linter.unusedVariables false
set_option linter.unusedSimpArgs false
def kwOK : ByteArray := ⟨#[79, 75]⟩
theorem four_facts {w : World} {b : Nat} {t : TypeId} {v0 v1 v2 v3 : Value} (h : w.heap[b]? = some (.cells #[v0, v1, v2, v3] t (0, 0))) :
    (w.cell? ⟨b, 0, none⟩ = some v0 ∧ w.cell? ⟨b, 1, none⟩ = some v1 ∧ w.cell? ⟨b, 2, none⟩ = some v2 ∧ w.cell? ⟨b, 3, none⟩ = some v3) ∧
    (w.frozen? ⟨b, 0, none⟩ = false ∧ w.frozen? ⟨b, 1, none⟩ = false ∧ w.frozen? ⟨b, 2, none⟩ = false ∧ w.frozen? ⟨b, 3, none⟩ = false) :=
  ⟨⟨by rw [cell_at h]; rfl, by rw [cell_at h]; rfl, by rw [cell_at h]; rfl, by rw [cell_at h]; rfl⟩, free_at h 0, free_at h 1, free_at h 2, free_at h 3⟩
def four (w : World) (b : Nat) (v0 v1 v2 v3 : Value) : World := (((w.setCell ⟨b, 0, none⟩ v0).setCell ⟨b, 1, none⟩ v1).setCell ⟨b, 2, none⟩ v2).setCell ⟨b, 3, none⟩ v3
theorem four_at {w : World} {b : Nat} {t : TypeId} {u0 u1 u2 u3 : Value} (h : w.heap[b]? = some (.cells #[u0, u1, u2, u3] t (0, 0))) (v0 v1 v2 v3 : Value) : (four w b v0 v1 v2 v3).heap[b]? = some (.cells #[v0, v1, v2, v3] t (0, 0)) := by
  unfold four
  rw [set_same (set_same (set_same (set_same h 0 v0) 1 v1) 2 v2) 3 v3]
  rfl
theorem four_keeps {w w1 : World} {b : Nat} (h : Keeps [] w w1) (hb : w.heap.size ≤ b) (v0 v1 v2 v3 : Value) : Keeps [] w (four w1 b v0 v1 v2 v3) :=
  (((h.setCell (p := ⟨b, 0, none⟩) (.inr hb) _).setCell (p := ⟨b, 1, none⟩) (.inr hb) _).setCell (p := ⟨b, 2, none⟩) (.inr hb) _).setCell (p := ⟨b, 3, none⟩) (.inr hb) _
def zero4 : Array Value := #[.int .i64 0, .string ByteArray.empty, .int .i64 0, .slice none 0 0]
set_option maxRecDepth 8000 in
set_option maxHeartbeats 4000000 in
theorem set0C (cb sp wb off cap : Nat) (ws : List ByteArray) (key text : ByteArray) (there : Bool) (S : SS) (n : Nat) (k t : ByteArray) (w : World)
    (ha : At w sp S (n + 6)) (h : CmdIs w cb sp (.slice (some ⟨wb, off, none⟩) ws.length cap) key text there) (hw : Words w sp cb wb off cap S ws) (h1 : ws[1]? = some k) (h2 : ws[2]? = some t) (hn : ws.length = 3) :
    Calls Tryz.prog 42 #[dp cb] w fun r w' => ∃ S1 o S' eff, MetR S k S1 o ∧ (∃ vb, PutR S1 k vb (Val.text t) S') ∧ r = .returned (resV 1 kwOK 0 (.slice none 0 0) eff) ∧ EffAt w.heap.size w' eff [ws] ∧ At w' sp S' n ∧ NextC cb sp w S w' S' := by
  have hks : k.size ≤ maxLen := by have := hw.s k (List.mem_of_getElem? h1); unfold maxLen; omega
  have hks2 := hw.s k (List.mem_of_getElem? h1)
  have hts2 := hw.s t (List.mem_of_getElem? h2)
  have F0 := khid (Fr.start ha h hw)
  have H1 := khid h1
  have H2 := khid h2
  have HKS := khid hks
  have HLEN := khid (show 2 < ws.length from (List.getElem?_eq_some_iff.1 h2).1)
  have HHZ := khid ha.hz
  obtain ⟨hcap, hcap2⟩ := hw.cap
  unfold maxLen at hcap2
  have HOP := khid (fun (W : World) (hW : CmdIs W cb sp (.slice (some ⟨wb, off, none⟩) ws.length cap) key text there) (hWW : WordsAt W wb off ws) => options0C cb sp wb off cap ws key text there W hW hn ⟨hcap, by unfold maxLen; omega⟩)
  have b1 : bits .and .u8 0 1 = 0 := by decide
  have b2 : bits .and .u8 0 2 = 0 := by decide
  have b4 : bits .and .u8 0 4 = 0 := by decide
  have b8 : bits .and .u8 0 8 = 0 := by decide
  have b16 : bits .and .u8 0 16 = 0 := by decide
  clear ha h hw h1 h2 hks
  unfold dp
  go_enter Tryz.func42, Tryz.ntmps42
  go_wp2_with fail
  obtain ⟨W0, hW0⟩ : ∃ W0, W0 = w.alloc (.cells zero5 51) := ⟨_, rfl⟩
  have hW0' := hW0
  unfold zero5 at hW0'
  rw [show ByteArray.empty = ⟨#[]⟩ from rfl] at hW0'
  rw [← hW0']
  rw [← hW0] at F0
  clear hW0 hW0'
  refine (HOP.out W0 F0.out.cmd F0.out.wd.at_).mono ?_
  rintro r w1 ⟨rfl, k1⟩
  have F1 := khid (F0.out.keeps k1)
  obtain ⟨_, d1, _⟩ := cmd_cells F1.out.cmd
  have e1 := F1.out.wd.at_ 1 k H1.out
  have e2 := F1.out.wd.at_ 2 t H2.out
  have hl2 : 2 < ws.length := HLEN.out
  clear k1
  go_wp2_with fail
  have hl := lookCmdC cb sp _ key text there S (n + 5) k w1 F1.out.at_ F1.out.cmd F1.out.wd.cf F1.out.wd.c20 HKS.out
  refine hl.mono ?_
  clear hl
  rintro r w3 ⟨S1, o, rfl, hm, a3, h3, n3⟩
  have F3 := khid (F1.out.next n3 a3 h3)
  have HM := khid hm
  obtain ⟨q0, q1, q2, q3, q4⟩ := cmd_cells F3.out.cmd
  obtain ⟨ok, hok⟩ : ∃ ok, ok = lookOk S1 o := ⟨_, rfl⟩
  rw [← hok]
  obtain ⟨tt, htt⟩ : ∃ tt, tt = lookT S1 o := ⟨_, rfl⟩
  rw [← htt] at q3
  obtain ⟨th, hth⟩ : ∃ th, th = o.isSome := ⟨_, rfl⟩
  rw [← hth] at q4
  have HCT := khid (show ∃ t2 b2, CmdIs w3 cb sp (.slice (some ⟨wb, off, none⟩) ws.length cap) k t2 b2 from ⟨_, _, F3.out.cmd⟩)
  have hcb3 : cb < w3.heap.size := cmd_lt F3.out.cmd
  clear hm a3 h3 n3 hok htt hth d1 e1 e2 q0 q1 q2
  cases ok
  all_goals cases th
  all_goals
    go_wp2_with fail
    refine (repNullC w3).mono ?_
    rintro r w4 ⟨rfl, k4⟩
    have F4 := khid (F3.out.keeps k4)
    have HK4 := khid k4
    unfold repV
    clear k4 q3 q4
    go_wp2_with fail
    refine (repSimpleC kwOK _).mono ?_
    rintro r w5 ⟨rfl, k5⟩
    have h5 := k5.get (alloc_new w4 _) (by simp)
    obtain ⟨⟨x0, x1, x2, x3⟩, g0, g1, g2, g3⟩ := four_facts h5
    have HK5 := khid (((Keeps.refl [] w4).alloc _).trans k5)
    have H5 := khid h5
    clear k5 h5
    unfold repV
    go_upto_region 13 with (fail)
    obtain ⟨RP, hRP⟩ : ∃ RP, RP = w4.heap.size := ⟨_, rfl⟩
    obtain ⟨W6, hW6⟩ : ∃ W6, W6 = four w5 RP (.int .i64 1) (.string kwOK) (.int .i64 0) (.slice none 0 0) := ⟨_, rfl⟩
    have h6 : W6.heap[RP]? = some (.cells #[.int .i64 1, .string kwOK, .int .i64 0, .slice none 0 0] 28 (0, 0)) := by rw [hW6, hRP]; exact four_at H5.out _ _ _ _
    have k46 : Keeps [] w4 W6 := by rw [hW6]; exact four_keeps HK5.out (by rw [hRP]; exact Nat.le_refl _) _ _ _ _
    have F6 := khid (F4.out.keeps k46)
    have HRPF := khid (show RP ∉ foot S1 sp from fun hm => by have := F4.out.at_.mem.flt _ hm; omega)
    have hrl6 : RP < W6.heap.size := hlt h6
    unfold four at hW6
    rw [hRP] at hW6
    rw [← hW6, ← hRP]
    have H6 := khid h6
    obtain ⟨r0, _, r2, _⟩ := cmd_cells F6.out.cmd
    have hcb6 : cb < W6.heap.size := cmd_lt F6.out.cmd
    clear hW6 h6 k46 x0 x1 x2 x3 g0 g1 g2 g3 H5 HK5 hRP
    have HPT := khid (putTextC sp S1 (n + 3) k t W6.drew (F6.out.at_.keeps0 ((Keeps.refl _ W6).drew)) hks2 hts2)
    unfold dp at r0 HPT
    have hcf6 := F6.out.wd.cf
    have HCF6 := khid hcf6
    clear hcf6
    go_wp2_with fail
    go_region_held3 (fun W => W.cell? ⟨cb, 0, none⟩ = some (.pointer (some ⟨sp, 0, none⟩)) ∧ W.cell? ⟨cb, 2, none⟩ = some (.string k)) (first | (go_keep; done) | (go_split_ands; (try dsimp only); (repeat' apply And.intro) <;> first | (with_reducible exact cell_alloc1 (by assumption)) | (go_keep; done) | assumption))
      (first | (go_at_call 47; refine (textC _ _).mono ?_; rintro e w9 ⟨rfl, rfl⟩; unfold dp) | (go_at_call 46; refine HPT.out.mono ?_; rintro e w7 ⟨S2, vb, rfl, hp, a7, n7⟩; have p0 : w7.cell? ⟨cb, 0, none⟩ = some (.pointer (some ⟨sp, 0, none⟩)) := cell_far n7.k hcb6 HCF6.out r0; have p2 : w7.cell? ⟨cb, 2, none⟩ = some (.string k) := cell_far n7.k hcb6 HCF6.out r2))
    have n7 := Next.after ((Keeps.refl _ W6).drew) n7
    have hr7 : ∃ vb, PutR S1 k vb (Val.text t) S2 := ⟨vb, hp⟩
    have a7 : At w7 sp S2 n := a7.mono (by omega)
    clear p0 p2
    have F7 := khid (F6.out.step n7 a7)
    have h7 := (n7.k.block RP hrl6 HRPF.out).trans H6.out
    obtain ⟨⟨x0, x1, x2, x3⟩, _⟩ := four_facts h7
    have HR7 := khid hr7
    clear n7 a7 h7 hr7 r0 r2
    go_wp2_with fail
    refine (didC cb sp wb off cap ws _ _ _ 1 0 kwOK none 0 0 w7 F7.out.cmd (by have := F7.out.wd.n.2; omega) F7.out.wd.at_ F7.out.wd.n.1).mono ?_
    rintro r w8 ⟨eff, rfl, heff, k8⟩
    have F8 := khid (F7.out.keeps k8)
    obtain ⟨⟨z0, z1, z2, z3, z4⟩, y0, y1, y2, y3, y4⟩ := F8.out.res
    have HEFF := khid heff
    have h78 := khid (show w.heap.size < w7.heap.size from hlt F7.out.rb_)
    obtain ⟨ge, ce, rfl⟩ := eff_shape heff
    clear k8 heff x0 x1 x2 x3
    unfold resV
    go_wp2_with fail
    refine bodyPost_ret (v := resV 1 kwOK 0 (.slice none 0 0) (.slice (some ⟨ge, 0, none⟩) 1 ce)) (by simp [results, Tryz.results42, go_sem]; go_simp; try rfl) rfl ?_
    have hfin := F8.out.fin (.int .i64 1) (.string kwOK) (.int .i64 0) (.slice none 0 0) (.slice (some ⟨ge, 0, none⟩) 1 ce)
    have hef := Fr.eff (W := w8) (rb := w.heap.size) (v0 := .int .i64 1) (v1 := .string kwOK) (v2 := .int .i64 0) (v3 := .slice none 0 0) (v4 := .slice (some ⟨ge, 0, none⟩) 1 ce) HEFF.out h78.out
    unfold five at hfin hef
    exact ⟨S1, o, S2, _, HM.out, HR7.out, rfl, eff_mono (by have := h78.out; omega) hef, hfin.1, hfin.2.2⟩
set_option maxRecDepth 8000 in
set_option maxHeartbeats 4000000 in
theorem setKeepC (cb sp wb off cap : Nat) (ws : List ByteArray) (key text : ByteArray) (there : Bool) (S : SS) (n : Nat) (k t : ByteArray) (w : World)
    (ha : At w sp S (n + 6)) (h : CmdIs w cb sp (.slice (some ⟨wb, off, none⟩) ws.length cap) key text there) (hw : Words w sp cb wb off cap S ws) (h1 : ws[1]? = some k) (h2 : ws[2]? = some t) (x : ByteArray) (h3 : ws[3]? = some x) (hx : upS x = kwKeep) (hxs : x.size ≤ 1048576) (hn : ws.length = 4) :
    Calls Tryz.prog 42 #[dp cb] w fun r w' => ∃ S1 o S' eff, MetR S k S1 o ∧ OverR S1 k t S' ∧ r = .returned (resV 1 kwOK 0 (.slice none 0 0) eff) ∧ EffAt w.heap.size w' eff [ws] ∧ At w' sp S' n ∧ NextC cb sp w S w' S' := by
  have hks : k.size ≤ maxLen := by have := hw.s k (List.mem_of_getElem? h1); unfold maxLen; omega
  have hks2 := hw.s k (List.mem_of_getElem? h1)
  have hts2 := hw.s t (List.mem_of_getElem? h2)
  have F0 := khid (Fr.start ha h hw)
  have H1 := khid h1
  have H2 := khid h2
  have HKS := khid hks
  have HLEN := khid (show 2 < ws.length from (List.getElem?_eq_some_iff.1 h2).1)
  have HHZ := khid ha.hz
  obtain ⟨hcap, hcap2⟩ := hw.cap
  unfold maxLen at hcap2
  have HOP := khid (fun (W : World) (hW : CmdIs W cb sp (.slice (some ⟨wb, off, none⟩) ws.length cap) key text there) (hWW : WordsAt W wb off ws) => optionsKeepC cb sp wb off cap ws key text there x W hW hWW hn ⟨hcap, by unfold maxLen; omega⟩ h3 hxs hx)
  have b1 : bits .and .u8 8 1 = 0 := by decide
  have b2 : bits .and .u8 8 2 = 0 := by decide
  have b4 : bits .and .u8 8 4 = 0 := by decide
  have b8 : bits .and .u8 8 8 = 8 := by decide
  have b16 : bits .and .u8 8 16 = 0 := by decide
  clear ha h hw h1 h2 hks
  unfold dp
  go_enter Tryz.func42, Tryz.ntmps42
  go_wp2_with fail
  obtain ⟨W0, hW0⟩ : ∃ W0, W0 = w.alloc (.cells zero5 51) := ⟨_, rfl⟩
  have hW0' := hW0
  unfold zero5 at hW0'
  rw [show ByteArray.empty = ⟨#[]⟩ from rfl] at hW0'
  rw [← hW0']
  rw [← hW0] at F0
  clear hW0 hW0'
  refine (HOP.out W0 F0.out.cmd F0.out.wd.at_).mono ?_
  rintro r w1 ⟨rfl, k1⟩
  have F1 := khid (F0.out.keeps k1)
  obtain ⟨_, d1, _⟩ := cmd_cells F1.out.cmd
  have e1 := F1.out.wd.at_ 1 k H1.out
  have e2 := F1.out.wd.at_ 2 t H2.out
  have hl2 : 2 < ws.length := HLEN.out
  clear k1
  go_wp2_with fail
  have hl := lookCmdC cb sp _ key text there S (n + 5) k w1 F1.out.at_ F1.out.cmd F1.out.wd.cf F1.out.wd.c20 HKS.out
  refine hl.mono ?_
  clear hl
  rintro r w3 ⟨S1, o, rfl, hm, a3, h3, n3⟩
  have F3 := khid (F1.out.next n3 a3 h3)
  have HM := khid hm
  obtain ⟨q0, q1, q2, q3, q4⟩ := cmd_cells F3.out.cmd
  obtain ⟨ok, hok⟩ : ∃ ok, ok = lookOk S1 o := ⟨_, rfl⟩
  rw [← hok]
  obtain ⟨tt, htt⟩ : ∃ tt, tt = lookT S1 o := ⟨_, rfl⟩
  rw [← htt] at q3
  obtain ⟨th, hth⟩ : ∃ th, th = o.isSome := ⟨_, rfl⟩
  rw [← hth] at q4
  have HCT := khid (show ∃ t2 b2, CmdIs w3 cb sp (.slice (some ⟨wb, off, none⟩) ws.length cap) k t2 b2 from ⟨_, _, F3.out.cmd⟩)
  have hcb3 : cb < w3.heap.size := cmd_lt F3.out.cmd
  clear hm a3 h3 n3 hok htt hth d1 e1 e2 q0 q1 q2
  cases ok
  all_goals cases th
  all_goals
    go_wp2_with fail
    refine (repNullC w3).mono ?_
    rintro r w4 ⟨rfl, k4⟩
    have F4 := khid (F3.out.keeps k4)
    have HK4 := khid k4
    unfold repV
    clear k4 q3 q4
    go_wp2_with fail
    refine (repSimpleC kwOK _).mono ?_
    rintro r w5 ⟨rfl, k5⟩
    have h5 := k5.get (alloc_new w4 _) (by simp)
    obtain ⟨⟨x0, x1, x2, x3⟩, g0, g1, g2, g3⟩ := four_facts h5
    have HK5 := khid (((Keeps.refl [] w4).alloc _).trans k5)
    have H5 := khid h5
    clear k5 h5
    unfold repV
    go_upto_region 13 with (fail)
    obtain ⟨RP, hRP⟩ : ∃ RP, RP = w4.heap.size := ⟨_, rfl⟩
    obtain ⟨W6, hW6⟩ : ∃ W6, W6 = four w5 RP (.int .i64 1) (.string kwOK) (.int .i64 0) (.slice none 0 0) := ⟨_, rfl⟩
    have h6 : W6.heap[RP]? = some (.cells #[.int .i64 1, .string kwOK, .int .i64 0, .slice none 0 0] 28 (0, 0)) := by rw [hW6, hRP]; exact four_at H5.out _ _ _ _
    have k46 : Keeps [] w4 W6 := by rw [hW6]; exact four_keeps HK5.out (by rw [hRP]; exact Nat.le_refl _) _ _ _ _
    have F6 := khid (F4.out.keeps k46)
    have HRPF := khid (show RP ∉ foot S1 sp from fun hm => by have := F4.out.at_.mem.flt _ hm; omega)
    have hrl6 : RP < W6.heap.size := hlt h6
    unfold four at hW6
    rw [hRP] at hW6
    rw [← hW6, ← hRP]
    have H6 := khid h6
    obtain ⟨r0, _, r2, _⟩ := cmd_cells F6.out.cmd
    have hcb6 : cb < W6.heap.size := cmd_lt F6.out.cmd
    clear hW6 h6 k46 x0 x1 x2 x3 g0 g1 g2 g3 H5 HK5 hRP
    clear r0 r2
    have r0 : True := trivial
    have r2 : True := trivial
    go_wp2_with fail
    refine (overC cb sp _ _ _ _ S1 n t W6 F6.out.at_ F6.out.cmd F6.out.wd.cf hks2 hts2).mono ?_
    rintro r w7 ⟨S2, rfl, hr7, a7, n7⟩
    have F7 := khid (F6.out.step n7 a7)
    have h7 := (n7.k.block RP hrl6 HRPF.out).trans H6.out
    obtain ⟨⟨x0, x1, x2, x3⟩, _⟩ := four_facts h7
    have HR7 := khid hr7
    clear n7 a7 h7 hr7 r0 r2
    go_wp2_with fail
    refine (didC cb sp wb off cap ws _ _ _ 1 0 kwOK none 0 0 w7 F7.out.cmd (by have := F7.out.wd.n.2; omega) F7.out.wd.at_ F7.out.wd.n.1).mono ?_
    rintro r w8 ⟨eff, rfl, heff, k8⟩
    have F8 := khid (F7.out.keeps k8)
    obtain ⟨⟨z0, z1, z2, z3, z4⟩, y0, y1, y2, y3, y4⟩ := F8.out.res
    have HEFF := khid heff
    have h78 := khid (show w.heap.size < w7.heap.size from hlt F7.out.rb_)
    obtain ⟨ge, ce, rfl⟩ := eff_shape heff
    clear k8 heff x0 x1 x2 x3
    unfold resV
    go_wp2_with fail
    refine bodyPost_ret (v := resV 1 kwOK 0 (.slice none 0 0) (.slice (some ⟨ge, 0, none⟩) 1 ce)) (by simp [results, Tryz.results42, go_sem]; go_simp; try rfl) rfl ?_
    have hfin := F8.out.fin (.int .i64 1) (.string kwOK) (.int .i64 0) (.slice none 0 0) (.slice (some ⟨ge, 0, none⟩) 1 ce)
    have hef := Fr.eff (W := w8) (rb := w.heap.size) (v0 := .int .i64 1) (v1 := .string kwOK) (v2 := .int .i64 0) (v3 := .slice none 0 0) (v4 := .slice (some ⟨ge, 0, none⟩) 1 ce) HEFF.out h78.out
    unfold five at hfin hef
    exact ⟨S1, o, S2, _, HM.out, HR7.out, rfl, eff_mono (by have := h78.out; omega) hef, hfin.1, hfin.2.2⟩
end Go.Proofs.YthmbhkgllfngmaaGreatDoor.ks
