/- Put together by wip/prune.py out of this claim's texts. -/
import Derived.Maps.OwnOps
import Derived.Maps.OwnSet
import Derived.Maps.Views
import Derived.Test.YtdcllbhkjcdnoaaMUndoOnce14
import Derived.Test.YtdcllbhkjcdnoaaMUndoOnce15
set_option linter.unusedVariables false
set_option linter.unusedSimpArgs false
namespace Go.Proofs.Ytdcllbhkjcdnoaa.P
open Go.RowKit Go.Proofs.Ytdcllbhkjcdnoaa Go.Proofs.Ytdcllbhkjcdnoaa.Mem Go.Proofs.YtdcllbhkjcdnoaaW.PrintWords Go.Proofs.YtdcllbhkjcdnoaaW.PrintLast Go.Proofs.YtdcllbhkjcdnoaaW.PrintMore Go.Maps
attribute [local go_sem] run_store_float
set_option maxRecDepth 100000 in
theorem zeroBo (w : World) : (zeroValue 4).run Try.prog w = .ok (.bool false) w := by kernel_rfl
set_option maxRecDepth 100000 in
theorem lawK : Keyed Try.prog 3 := int_keyed Try.underlying3
set_option maxRecDepth 100000 in
theorem bool_inv {v : Value} {z : DataW Unit × List MemPlace} (h : plainElem Try.prog 4 v = some z) : ∃ c, v = .bool c ∧ z = (.lit (.bool c), []) := by
  unfold plainElem at h
  rw [Try.underlying4] at h
  cases v with
  | bool c => simp at h; exact ⟨c, rfl, h.symm⟩
  | _ => simp at h
def Met (D : DataW Unit) (S : List Int) : Prop := IsMap D ∧ ∀ a, (Lit.int .i64 a).wf = true → D.atKey (.int .i64 a) (.lit (.bool false)) = .lit (.bool (S.contains a))
theorem met_nil : Met (.map []) [] := ⟨isMap_empty, fun a _ => rfl⟩
set_option maxRecDepth 100000 in
theorem met_put {D : DataW Unit} {S : List Int} (h : Met D S) {a : Int} (ha : (Lit.int .i64 a).wf = true) : Met (D.put (.int .i64 a) (.lit (.bool true))) (a :: S) := by
  refine ⟨h.1.put _ _, fun b hb => ?_⟩
  by_cases e : b = a
  · subst e
    rw [atKey_put_same h.1 (show WideAt.IsKeyLit (.int .i64 b) from trivial)]
    simp
  · rw [atKey_put_other (by intro h1; injection h1 with _ h1; exact e h1), h.2 b hb]
    simp [e]
set_option maxRecDepth 100000 in
theorem look_met {w : World} {b n : Nat} {D : DataW Unit} {S : List Int} (h : w.ownsMap Try.prog 3 (plainElem Try.prog 4) b n D) (hm : Met D S) {a : Int} (ha : (Lit.int .i64 a).wf = true) :
    (Instr.lookup 82 (.map (some b)) (.int .i64 a) false).run Try.prog w = .ok (.bool (S.contains a)) w := by
  obtain ⟨v, ps, hrun, hv⟩ := h.lookup lawK Try.underlying82 (zeroBo w) (plainElem_bool Try.underlying4 false) (keyOf_int_mk Try.underlying3 ha)
  obtain ⟨c, rfl, hc⟩ := bool_inv hv
  rw [hm.2 a ha] at hc
  injection hc with hc
  injection hc with hc
  injection hc with hc
  rw [hrun, hc]
theorem map_at {w w' : World} {b n : Nat} {D : DataW Unit} (h : w.ownsMap Try.prog 3 (plainElem Try.prog 4) b n D) (hb : w'.heap[b]? = w.heap[b]?) : w'.ownsMap Try.prog 3 (plainElem Try.prog 4) b n D := by
  obtain ⟨es, clock, h1, F, hs, e⟩ := h
  exact ⟨es, clock, hb.trans h1, F, hs, e⟩
theorem map_below {w w' : World} {b n : Nat} {D : DataW Unit} (h : w.ownsMap Try.prog 3 (plainElem Try.prog 4) b n D) (hb : Below w.heap.size w w') : w'.ownsMap Try.prog 3 (plainElem Try.prog 4) b n D := map_at h (hb.block b h.lt)
def chkU : List Und → List Int → Bool
  | [], _ => true
  | u :: l, S => if emptyU u = true then chkU l S else if mayUs u = true ∧ S.contains u.f1 = false then chkU l (u.f1 :: S) else false
def mayC (l : List Und) : Bool := decide (6 ≤ l.length ∧ l.length ≤ 378 ∧ l.length % 6 = 0) && chkU l []
def undo_Check.f (l0 : List Und) : Option Int := if shortU l0 ∧ l0.length ≤ 1000000 then some (if mayC l0 = true then 0 else 1) else none
theorem mayUs_no {u : Und} (h : mayUs u = true) : (Lit.int .i64 u.f1).wf = true := by
  unfold mayUs mayU at h
  have h2 := of_decide_eq_true (Bool.and_eq_true_iff.mp h).1
  obtain ⟨_, _, h3, h4, _⟩ := h2
  show (decide ((-9223372036854775808 : Int) ≤ u.f1) && decide (u.f1 ≤ 9223372036854775807)) = true
  rw [decide_eq_true (by omega), decide_eq_true (by omega)]; rfl
set_option maxRecDepth 100000 in
set_option maxHeartbeats 4000000 in
theorem undo_Check.calls (A0 : Option Addr) (c0 : Nat) (l0 : List Und) (r : Int) (w : World) (hr0 : Kd.C k32 w A0 l0.length l0) (hc0 : l0.length ≤ c0) (h : undo_Check.f l0 = some r) :
    Calls Try.prog 22 #[.slice A0 l0.length c0] w fun e w' => e = .returned (.int .i64 r) ∧ Below w.heap.size w w' := by
  unfold undo_Check.f at h
  split at h
  rotate_left
  · cases h
  rename_i hh
  obtain ⟨hs, hl⟩ := hh
  injection h with h
  have HB := Lib.hid (Below.refl w.heap.size w)
  have HR := Lib.hid hr0
  have HS := Lib.hid hs
  clear hr0 hs
  by_cases hn : 6 ≤ l0.length ∧ l0.length ≤ 378 ∧ l0.length % 6 = 0
  rotate_left
  · have hm : mayC l0 = false := by unfold mayC; rw [decide_eq_false hn, Bool.false_and]
    rw [hm] at h
    have HH := Lib.hid h
    clear h hm
    by_cases h1 : l0.length < 6
    · have d1 : decide (l0.length < 6) = true := decide_eq_true h1
      have e1 : decide ((l0.length : Int) < 6) = true := decide_eq_true (by omega)
      clear hn h1
      go_enter Try.func22, Try.ntmps22
      go_wp2
      go_ret
      exact ⟨by rw [← HH.out]; rfl, HB.out⟩
    · have d1 : decide (l0.length < 6) = false := decide_eq_false h1
      have e1 : decide ((l0.length : Int) < 6) = false := decide_eq_false (by omega)
      by_cases h2 : 378 < l0.length
      · have d2 : decide (378 < l0.length) = true := decide_eq_true h2
        have e2 : decide (378 < (l0.length : Int)) = true := decide_eq_true (by omega)
        clear hn h1 h2
        go_enter Try.func22, Try.ntmps22
        go_wp2
        go_ret
        exact ⟨by rw [← HH.out]; rfl, HB.out⟩
      · have d2 : decide (378 < l0.length) = false := decide_eq_false h2
        have e2 : decide (378 < (l0.length : Int)) = false := decide_eq_false (by omega)
        have d3 : ((l0.length : Int) % 6 != 0) = true := by rw [bne_iff_ne]; omega
        have d4 : (l0.length % 6 != 0) = true := by rw [bne_iff_ne]; omega
        have d5 : (((l0.length % 6 : Nat) : Int) != 0) = true := by rw [bne_iff_ne]; omega
        clear hn h1 h2
        go_enter Try.func22, Try.ntmps22
        go_wp2
        go_ret
        exact ⟨by rw [← HH.out]; rfl, HB.out⟩
  have hm : mayC l0 = chkU l0 [] := by unfold mayC; rw [decide_eq_true hn, Bool.true_and]
  rw [hm] at h
  have HH := Lib.hid h
  clear h hm
  have d1 : decide (l0.length < 6) = false := decide_eq_false (by omega)
  have d2 : decide (378 < l0.length) = false := decide_eq_false (by omega)
  have e1 : decide ((l0.length : Int) < 6) = false := decide_eq_false (by omega)
  have e2 : decide (378 < (l0.length : Int)) = false := decide_eq_false (by omega)
  have d3 : ((l0.length : Int) % 6 != 0) = false := by rw [bne_eq_false_iff_eq]; omega
  have d4 : (l0.length % 6 != 0) = false := by rw [bne_eq_false_iff_eq]; omega
  have d5 : (((l0.length % 6 : Nat) : Int) != 0) = false := by rw [bne_eq_false_iff_eq]; omega
  have hmm := @run_makeMap Try.prog
  have HL378 := Lib.hid hn.2.1
  clear hn
  have HM0 := Lib.hid (World.ownsMap_made (H := Unit) w Try.prog 3 (plainElem Try.prog 4))
  go_enter Try.func22, Try.ntmps22
  go_wp2
  have HB1 := Lib.hid (below_alloc HB.out (.map #[] 0))
  clear HB d1 d2 d3 d4 d5 e1 e2 hmm
  generalize w.alloc (.map #[] 0) = w1 at HM0 HB1 ⊢
  have HMB : Hid (w.heap.size ≤ w.heap.size) := Lib.hid (Nat.le_refl _)
  generalize hmb : w.heap.size = mb at HM0 HMB ⊢
  have HMB2 := Lib.hid hmb
  clear hmb
  go_loopg [6, 23] l0.length (fun k v6 v23 wr => ∃ (i n : Nat) (S : List Int) (D : DataW Unit), i ≤ l0.length ∧ k = l0.length - i ∧ v23 = .int .i64 (i : Int) ∧ Hid (n ≤ i) ∧ Hid (wr.ownsMap Try.prog 3 (plainElem Try.prog 4) mb n D) ∧ Hid (Met D S) ∧ Hid (Below mb w wr) ∧ Hid (chkU l0 [] = chkU (l0.drop i) S))
  case atStart => exact ⟨0, 0, [], _, Nat.zero_le _, rfl, rfl, Lib.hid (Nat.le_refl _), HM0, Lib.hid met_nil, Lib.hid (HMB2.out ▸ HB1.out), Lib.hid rfl⟩
  case round =>
    clear HB1 HM0
    obtain ⟨i, n, S, D, hi, rfl, rfl, HNI, HM, HMET, HB, HC⟩ := hrel
    have i0 : (0 : Int) ≤ (i : Int) := Int.natCast_nonneg _
    by_cases hlt : i < l0.length
    · have hd : decide (i < l0.length) = true := decide_eq_true hlt
      have i1 : (i : Int) < (l0.length : Int) := by omega
      obtain ⟨ad, A8, c8, e0, x0, x1, x2, x3, x4, x5, x6, x7, x8, x9, x10, x11, l8, r8⟩ := at_T32 (Kd.C_below HR.out (HMB2.out ▸ HB.out)) (i : Int) i0 i1
      have HA : Hid (l0[i]? = some (rd_T32 l0 (i : Int))) := Lib.hid (rdU_at hlt)
      rw [Int.toNat_natCast] at x0 x1 x2 x3 x4 x5 x6 x7 x8 x9 x10 x11
      subst e0
      generalize rd_T32 l0 (i : Int) = a at *
      have HSH : Hid (a.f6.f2.length ≤ 1000000) := Lib.hid (HS.out a (List.mem_of_getElem? HA.out))
      have HC8 := Lib.hid l8
      have HR8 := Lib.hid r8
      have HDR : Hid (l0.drop i = a :: l0.drop (i + 1)) := Lib.hid (by
        have h1 := HA.out
        rw [List.getElem?_eq_getElem hlt] at h1
        injection h1 with h1
        rw [List.drop_eq_getElem_cons hlt, h1])
      clear l8 r8
      have HBa := Lib.hid (below_alloc (Below.refl wr.heap.size wr) (.cells #[.int .i64 a.f0, .int .i64 a.f1, .int .i64 a.f2, .int .i64 a.f3, .int .i64 a.f4, .int .i64 a.f5, .float .f64 a.f6.f0, .bool a.f6.f1, .slice A8 a.f6.f2.length c8, .int .i64 a.f6.f3, .int .i64 a.f6.f4.f0, .int .i64 a.f6.f4.f1] 32 (0, 0)))
      have HBK := Lib.hid (blk_new wr (.cells #[.int .i64 a.f0, .int .i64 a.f1, .int .i64 a.f2, .int .i64 a.f3, .int .i64 a.f4, .int .i64 a.f5, .float .f64 a.f6.f0, .bool a.f6.f1, .slice A8 a.f6.f2.length c8, .int .i64 a.f6.f3, .int .i64 a.f6.f4.f0, .int .i64 a.f6.f4.f1] 32 (0, 0)))
      have CE1 := Lib.hid (undo_empty.calls a.f0 a.f1 a.f2 a.f3 a.f4 a.f5 a.f6.f0 a.f6.f1 A8 c8 a.f6.f2 a.f6.f3 a.f6.f4.f0 a.f6.f4.f1 (emptyU a) (wr.alloc (.cells #[.int .i64 a.f0, .int .i64 a.f1, .int .i64 a.f2, .int .i64 a.f3, .int .i64 a.f4, .int .i64 a.f5, .float .f64 a.f6.f0, .bool a.f6.f1, .slice A8 a.f6.f2.length c8, .int .i64 a.f6.f3, .int .i64 a.f6.f4.f0, .int .i64 a.f6.f4.f1] 32 (0, 0))) (Kd.C_below HR8.out HBa.out) HC8.out (empty_ev HSH.out))
      go_wp2_with fail
      refine CE1.out.mono ?_
      rintro r2 w2 ⟨rfl, hb2⟩
      have HBK2 := Lib.hid (blk_below HBK.out hb2)
      have HB2 := Lib.hid (below_step HBa.out hb2)
      have HM2 := Lib.hid (map_below HM.out HB2.out)
      have HBB2 := Lib.hid (HB.out.trans (Below.mono HB2.out (Nat.le_of_lt HM.out.lt)))
      clear hb2 HBK HBa CE1 x0 x1 x2 x3 x4 x5 x6 x7 x8 x9 x10 x11
      have HMG : Hid (wr.heap.size ≠ mb) := Lib.hid (fun e => by have := HM.out.lt; omega)
      have HR82 := Lib.hid (Kd.C_below HR8.out HB2.out)
      clear HR8
      generalize wr.heap.size = g at *
      obtain ⟨y0, y1, y2, y3, y4, y5, y6, y7, y8, y9, y10, y11⟩ := blkc_12 HBK2.out
      have HCH : Hid (chkU l0 [] = if emptyU a = true then chkU (l0.drop (i + 1)) S else if mayUs a = true ∧ S.contains a.f1 = false then chkU (l0.drop (i + 1)) (a.f1 :: S) else false) := Lib.hid (by rw [HC.out, HDR.out]; rfl)
      clear HC HDR
      have hUC : undorec_Check.f 5 a.f0 a.f1 a.f2 a.f3 a.f4 a.f5 a.f6.f0 a.f6.f1 a.f6.f2 a.f6.f3 a.f6.f4.f0 a.f6.f4.f1 = some (if mayUs a = true then 0 else 1) := uCheck_ev (by decide) HSH.out
      have CE2 := Lib.hid (undorec_Check.calls 5 a.f0 a.f1 a.f2 a.f3 a.f4 a.f5 a.f6.f0 a.f6.f1 A8 c8 a.f6.f2 a.f6.f3 a.f6.f4.f0 a.f6.f4.f1 (if mayUs a = true then 0 else 1) w2 HR82.out HC8.out hUC)
      clear hUC
      generalize hq : emptyU a = q at *
      cases q with
      | true =>
        go_wp2
        go_roundg (l0.length - (i + 1))
        case measure => omega
        case rel => exact ⟨i + 1, n, S, D, by omega, rfl, by go_num, Lib.hid (Nat.le_succ_of_le HNI.out), HM2, HMET, HBB2, Lib.hid (by rw [HCH.out]; simp)⟩
      | false =>
        clear hq
        go_wp2_with fail
        refine CE2.out.mono ?_
        rintro r3 w3 ⟨rfl, hb3⟩
        have HBK3 := Lib.hid (blk_below HBK2.out hb3)
        have HM3 := Lib.hid (map_below HM2.out hb3)
        have HBB3 := Lib.hid (HBB2.out.trans (Below.mono hb3 (Nat.le_of_lt HM2.out.lt)))
        clear hb3 HBK2 CE2 y0 y1 y2 y3 y4 y5 y6 y7 y8 y9 y10 y11 HM2 HBB2 HB2 HM HB
        obtain ⟨z0, z1, z2, z3, z4, z5, z6, z7, z8, z9, z10, z11⟩ := blkc_12 HBK3.out
        have HWF : Hid (mayUs a = true → (Lit.int .i64 a.f1).wf = true) := Lib.hid mayUs_no
        generalize hq2 : mayUs a = q2 at *
        clear hq2
        cases q2 with
        | false =>
          have HRR : Hid (r = 1) := Lib.hid (by rw [← HH.out, HCH.out]; rfl)
          simp only [Bool.false_eq_true, if_false]
          go_wp2
          go_ret
          exact ⟨by rw [HRR.out]; rfl, HMB2.out ▸ HBB3.out⟩
        | true =>
          have hwf := HWF.out rfl
          have hlk := look_met HM3.out HMET.out hwf
          have HW := Lib.hid hwf
          clear HWF hwf
          simp only [if_true]
          generalize hq3 : S.contains a.f1 = q3 at *
          cases q3 with
          | true =>
            have HRR : Hid (r = 1) := Lib.hid (by rw [← HH.out, HCH.out]; rfl)
            clear hq3
            go_wp2
            go_ret
            exact ⟨by rw [HRR.out]; rfl, HMB2.out ▸ HBB3.out⟩
          | false =>
            clear hq3
            have HNM : Hid (n < maxLen) := Lib.hid (by have := HNI.out; exact Nat.lt_of_le_of_lt (show n ≤ 1000000 by omega) (by decide))
            go_wp2_with (first | (at_mapUpdate; refine wpList_mapUpdate_own _ rfl _ _ _ 82 rfl 3 4 lawK Try.underlying82 _ mb n D rfl HM3.out HNM.out _ _ _ rfl rfl (keyOf_int_mk Try.underlying3 HW.out) (.lit (.bool true)) [] (plainElem_bool Try.underlying4 true) ?_; intro w4 hown4 hg4; have HM4 := Lib.hid hown4; have HBB4 := Lib.hid (HBB3.out.grown hg4 (Nat.le_of_lt HM3.out.lt) (fun k e => by cases e; exact Nat.le_refl _)); clear hown4 hg4))
            go_roundg (l0.length - (i + 1))
            case measure => omega
            case rel => exact ⟨i + 1, n + 1, a.f1 :: S, _, by omega, rfl, by go_num, Lib.hid (by have := HNI.out; omega), HM4, Lib.hid (met_put HMET.out HW.out), HBB4, Lib.hid (by rw [HCH.out]; rfl)⟩
    · have hd : decide (i < l0.length) = false := decide_eq_false hlt
      obtain rfl : i = l0.length := by omega
      have HRR : Hid (r = 0) := Lib.hid (by rw [← HH.out, HC.out, List.drop_eq_nil_of_le (Nat.le_refl _)]; rfl)
      go_wp2
      go_ret
      exact ⟨by rw [HRR.out]; rfl, HMB2.out ▸ HB.out⟩
end Go.Proofs.Ytdcllbhkjcdnoaa.P
