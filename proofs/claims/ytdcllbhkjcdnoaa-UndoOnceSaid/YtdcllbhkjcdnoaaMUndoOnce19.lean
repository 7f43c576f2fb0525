/- Put together by wip/prune.py out of this claim's texts. -/
import Derived.Lib.SliceRun
import Derived.Test.YtdcllbhkjcdnoaaMUndoOnce16
import Derived.Test.YtdcllbhkjcdnoaaMUndoOnce18
set_option linter.unusedVariables false
set_option linter.unusedSimpArgs false
namespace Go.Proofs.Ytdcllbhkjcdnoaa.P
open Go.RowKit Go.Proofs.Ytdcllbhkjcdnoaa Go.Proofs.Ytdcllbhkjcdnoaa.Mem Go.Proofs.YtdcllbhkjcdnoaaW.PrintWords Go.Proofs.YtdcllbhkjcdnoaaW.PrintLast Go.Proofs.YtdcllbhkjcdnoaaW.PrintMore
attribute [local go_sem] run_store_float
theorem V_rebase {α : Type} {d : Kd α} {e base b : Nat} {W : World} {ok : Nat → Prop} {v : Value} {xs : List α} (h : Kd.V d e W base ok v xs) : Kd.V d e W b ok v xs := h
def z0U : Und := ⟨0, 0, 0, 0, 0, 0, ⟨0, false, [], 0, ⟨0, 0⟩⟩⟩
def atU (l : List Und) (c : Int) : Und := if 1 ≤ c ∧ c ≤ (l.length : Int) then rd_T32 l (c - 1) else z0U
theorem copied_ev {e : Und} (h : e.f6.f2.length ≤ 1000000) : undo_copied.f e.f0 e.f1 e.f2 e.f3 e.f4 e.f5 e.f6.f0 e.f6.f1 e.f6.f2 e.f6.f3 e.f6.f4.f0 e.f6.f4.f1 = some (e.f0, e.f1, e.f2, e.f3, e.f4, e.f5, e.f6.f0, e.f6.f1, e.f6.f2, e.f6.f3, e.f6.f4.f0, e.f6.f4.f1) := by
  unfold undo_copied.f slices_Clone_float64_float64.f
  rw [if_pos h]; rfl
theorem rdU_mem {l : List Und} {i : Nat} (h : i < l.length) : rd_T32 l (i : Int) ∈ l := List.mem_of_getElem? (rdU_at h)
theorem set_rdU {l : List Und} {i : Nat} (h : i < l.length) : l.set i (rd_T32 l (i : Int)) = l := by
  apply List.ext_getElem?
  intro j
  by_cases e : i = j
  · subst e; rw [List.getElem?_set_self h, rdU_at h]
  · rw [List.getElem?_set_ne e]
theorem own_l0 {l : List Und} (hs : shortU l) (hl : l.length ≤ 1000000) : ∀ (d i k : Nat), d = l.length - i → i ≤ l.length → d + 1 ≤ k → undo_own.l0 k l (l.length : Int) (i : Int) = some l := by
  intro d
  induction d with
  | zero =>
    intro i k hd hi hk
    obtain ⟨k, rfl⟩ : ∃ m, k = m + 1 := ⟨k - 1, by omega⟩
    simp only [undo_own.l0]
    rw [if_neg (by omega)]
  | succ d ih =>
    intro i k hd hi hk
    obtain ⟨k, rfl⟩ : ∃ m, k = m + 1 := ⟨k - 1, by omega⟩
    simp only [undo_own.l0]
    rw [if_pos (by omega), if_pos (by omega), if_pos (by omega), copied_ev (hs _ (rdU_mem (by omega)))]
    simp only [Option.bind_some]
    rw [Int.toNat_natCast, show wrap64 ((i : Int) + 1) = ((i + 1 : Nat) : Int) by unfold wrap64; omega]
    have h1 := set_rdU (l := l) (i := i) (by omega)
    have h2 : ∀ e : Und, (⟨e.f0, e.f1, e.f2, e.f3, e.f4, e.f5, ⟨e.f6.f0, e.f6.f1, e.f6.f2, e.f6.f3, ⟨e.f6.f4.f0, e.f6.f4.f1⟩⟩⟩ : Und) = e := fun e => rfl
    rw [h2, h1]
    exact ih (i + 1) k (by omega) (by omega) (by omega)
theorem own_ev {k : Nat} {l : List Und} (hs : shortU l) (hl : l.length ≤ 1000000) (hk : l.length + 1 ≤ k) : undo_own.f k l = some l := by
  unfold undo_own.f slices_Clone_api_Undo_api_Undo.f
  simp only [Option.bind_some, List.nil_append]
  rw [if_pos (by rw [List.length_nil]; omega)]
  exact own_l0 hs hl _ 0 k rfl (Nat.zero_le _) (by omega)
theorem at_ev (l : List Und) (c : Int) (hl : l.length ≤ 1000000) : undo_at.f l c = some ((atU l c).f0, (atU l c).f1, (atU l c).f2, (atU l c).f3, (atU l c).f4, (atU l c).f5, (atU l c).f6.f0, (atU l c).f6.f1, (atU l c).f6.f2, (atU l c).f6.f3, (atU l c).f6.f4.f0, (atU l c).f6.f4.f1) := by
  unfold undo_at.f atU
  by_cases h : 1 ≤ c ∧ c ≤ (l.length : Int)
  · have hw : wrap64 (c - 1) = c - 1 := by unfold wrap64; omega
    rw [if_neg (by omega), if_neg (by omega), hw, if_pos (by omega), if_pos (by omega), if_pos h]
  · rw [if_neg h]
    by_cases h1 : c < 1
    · rw [if_pos h1]; rfl
    · rw [if_neg h1, if_pos (by omega)]; rfl
def undo_Drop.f (l0 : List Und) (a1 : Int) : Option (List Und × Int) :=
  if shortU l0 ∧ l0.length ≤ 1000000 then some (if mayC l0 = true then (if emptyU (atU l0 a1) = true then (l0, 3) else (l0.set (a1 - 1).toNat z0U, 0)) else ([], 1)) else none
theorem check_ev {l : List Und} (h : shortU l ∧ l.length ≤ 1000000) : undo_Check.f l = some (if mayC l = true then 0 else 1) := by
  unfold undo_Check.f; rw [if_pos h]
theorem z0U_short : z0U.f6.f2.length ≤ 1000000 := by decide
theorem atU_short {l : List Und} (hs : shortU l) (c : Int) : (atU l c).f6.f2.length ≤ 1000000 := by
  unfold atU
  split
  · rename_i h
    have h1 := rdU_mem (l := l) (i := (c - 1).toNat) (by omega)
    rw [show (((c - 1).toNat : Nat) : Int) = c - 1 by omega] at h1
    exact hs _ h1
  · exact z0U_short
set_option maxRecDepth 100000 in
set_option maxHeartbeats 4000000 in
theorem undo_Drop.calls (P0_ : Nat → Prop) (A0 : Option Addr) (c0 : Nat) (l0 : List Und) (a1 : Int) (r1 : List Und) (r2 : Int) (w : World) (hs0 : Kd.V k32 32 w w.heap.size (fun k_ => P0_ k_) (.slice A0 l0.length c0) l0) (h : undo_Drop.f l0 a1 = some (r1, r2)) :
    Calls Try.prog 16 #[.slice A0 l0.length c0, .int .i64 a1] w fun e w' => ∃ v0_ : Value, e = .returned (.tuple #[v0_, .int .i64 r2]) ∧ Kd.N k32 32 w' w.heap.size (fun k_ => (P0_ k_ ∨ w.heap.size ≤ k_)) v0_ r1 ∧ Below w.heap.size w w' := by
  unfold undo_Drop.f at h
  split at h
  rotate_left
  · cases h
  rename_i hh
  have HS := Lib.hid hh.1
  have HL := Lib.hid hh.2
  have HV := Lib.hid hs0
  injection h with h
  have HH := Lib.hid h
  have HB := Lib.hid (Below.refl w.heap.size w)
  have CK := Lib.hid (undo_Check.calls A0 c0 l0 _ w (Kd.V_reads' hs0).2.2 (Kd.V_reads' hs0).2.1 (check_ev hh))
  clear h hh hs0
  generalize hm : mayC l0 = m at *
  clear hm
  go_enter Try.func16, Try.ntmps16
  go_wp2_with fail
  refine CK.out.mono ?_
  rintro e w1 ⟨rfl, hb1⟩
  have HB1 := Lib.hid (below_step HB.out hb1)
  have HV1 := Lib.hid (Kd.V_below HV.out hb1)
  clear hb1 CK HB HV
  cases m with
  | false =>
    obtain ⟨h1, h2⟩ : r1 = [] ∧ r2 = 1 := by have := HH.out; simp at this; exact ⟨this.1, this.2.symm⟩
    have HRR := Lib.hid (And.intro h1 h2)
    clear h1 h2 HH
    simp only [Bool.false_eq_true, if_false]
    go_wp2
    go_ret2
    exact ⟨_, by rw [HRR.out.2]; rfl, by rw [HRR.out.1]; exact Kd.N_nil _ _ _ _ _, HB1.out⟩
  | true =>
    have CO := Lib.hid (undo_own.calls (l0.length + 1) P0_ A0 c0 l0 l0 w1 (V_rebase HV1.out) (own_ev HS.out HL.out (Nat.le_refl _)))
    simp only [if_true]
    go_wp2_with fail
    refine CO.out.mono ?_
    rintro e w2 ⟨v0, rfl, hn2, hb2⟩
    have HB2 := Lib.hid (below_step HB1.out hb2)
    have HV2 := Lib.hid (Kd.V_below (V_rebase (b := w1.heap.size) HV1.out) hb2)
    have HN2 := Lib.hid (Kd.N_mono (ok' := fun k_ => P0_ k_ ∨ w.heap.size ≤ k_) (Kd.N_lower hn2 (below_size HB1.out)) (fun k hk => hk.imp id (Nat.le_trans (below_size HB1.out))))
    clear hn2 hb2 CO HV1 HB1
    have CA := Lib.hid (undo_at.calls P0_ A0 c0 l0 a1 (atU l0 a1).f0 (atU l0 a1).f1 (atU l0 a1).f2 (atU l0 a1).f3 (atU l0 a1).f4 (atU l0 a1).f5 (atU l0 a1).f6.f0 (atU l0 a1).f6.f1 (atU l0 a1).f6.f2 (atU l0 a1).f6.f3 (atU l0 a1).f6.f4.f0 (atU l0 a1).f6.f4.f1 w2 (V_rebase HV2.out) (at_ev l0 a1 HL.out))
    have HSH := Lib.hid (atU_short HS.out a1)
    have HEM : Hid (emptyU (atU l0 a1) = true → False ∨ True) := Lib.hid (fun _ => .inr trivial)
    go_wp2_with fail
    refine CA.out.mono ?_
    rintro e w3 ⟨v8, rfl, hv8, hb3⟩
    have HB3 := Lib.hid (below_step HB2.out hb3)
    have HN3 := Lib.hid (Kd.N_below HN2.out hb3)
    obtain ⟨A8, c8, rfl, hl8, hf8⟩ := hv8
    have CE := Lib.hid (undo_empty.calls (atU l0 a1).f0 (atU l0 a1).f1 (atU l0 a1).f2 (atU l0 a1).f3 (atU l0 a1).f4 (atU l0 a1).f5 (atU l0 a1).f6.f0 (atU l0 a1).f6.f1 A8 c8 (atU l0 a1).f6.f2 (atU l0 a1).f6.f3 (atU l0 a1).f6.f4.f0 (atU l0 a1).f6.f4.f1 (emptyU (atU l0 a1)) w3 (Kd.F_now hf8) hl8 (empty_ev HSH.out))
    clear hb3 hf8 HB2 HN2 HV2 CA HEM
    have HAT : Hid (emptyU (atU l0 a1) = false → 1 ≤ a1 ∧ a1 ≤ (l0.length : Int)) := Lib.hid (fun h => by
      by_cases hc : 1 ≤ a1 ∧ a1 ≤ (l0.length : Int)
      · exact hc
      · exfalso
        unfold atU at h
        rw [if_neg hc] at h
        exact absurd h (by decide))
    generalize hq : emptyU (atU l0 a1) = q at *
    clear hq
    generalize atU l0 a1 = u at *
    go_wp2_with fail
    refine CE.out.mono ?_
    rintro e w4 ⟨rfl, hb4⟩
    have HB4 := Lib.hid (below_step HB3.out hb4)
    have HN4 := Lib.hid (Kd.N_below HN3.out hb4)
    clear hb4 HB3 HN3 CE
    cases q with
    | true =>
      obtain ⟨h1, h2⟩ : r1 = l0 ∧ r2 = 3 := by have := HH.out; simp at this; exact ⟨this.1.symm, this.2.symm⟩
      have HRR := Lib.hid (And.intro h1 h2)
      clear h1 h2 HH
      go_wp2
      go_ret2
      exact ⟨_, by rw [HRR.out.2]; rfl, by rw [HRR.out.1]; exact HN4.out, HB4.out⟩
    | false =>
      obtain ⟨h1, h2⟩ : r1 = l0.set (a1 - 1).toNat z0U ∧ r2 = 0 := by
        have h3 := HH.out
        simp only [if_true, Bool.false_eq_true, if_false] at h3
        injection h3 with h3 h4
        exact ⟨h3.symm, h4.symm⟩
      have HRR := Lib.hid (And.intro h1 h2)
      clear h1 h2 HH
      obtain ⟨b1, b2⟩ := HAT.out rfl
      clear HAT
      obtain ⟨i, rfl⟩ : ∃ i : Nat, a1 = (i : Int) + 1 := ⟨(a1 - 1).toNat, by omega⟩
      have hi : i < l0.length := by omega
      have hw : wrap64 (i : Int) = (i : Int) := by unfold wrap64; have := HL.out; omega
      obtain ⟨g, cap, rfl, hg0, hg1, cells, hgc⟩ := Kd.N_form HN4.out (by omega)
      have hcap := (Kd.N_reads' HN4.out).2.1
      have d1 : decide ((i : Int) ≤ (i : Int) + 1) = true := decide_eq_true (by omega)
      have d2 : decide ((i : Int) + 1 ≤ (cap : Int)) = true := decide_eq_true (by omega)
      have d3 : decide (0 ≤ (i : Int)) = true := decide_eq_true (by omega)
      have d4 : ¬ cap = i := by omega
      obtain ⟨ce, hcl, hM, hcc, hfr⟩ := Kd.N_elem HN4.out z32 (i : Int) (by omega) (by omega)
      obtain ⟨ua, uc, rfl, ul, ge⟩ := k32_openF hM
      have HP := Lib.hid (Kd.N_seg HN4.out (i : Int) (by omega) (by omega) (seg := [.int .i64 0, .int .i64 0, .int .i64 0, .int .i64 0, .int .i64 0, .int .i64 0, .float .f64 0, .bool false, .slice none 0 0, .int .i64 0, .int .i64 0, .int .i64 0]) (j := 0) hcl hcc (show 12 ≤ 12 from by decide) (x' := z0U) (okp := fun _ => False) (k32_mkF _ _ z0U (A8 := none) (c8 := 0) (Nat.le_refl _) (Kd.F_nil Kd.f64 w4 (fun _ => False))) (fun _ hk => hk.elim))
      have hclr : ∀ ty c', (Builtin.clear_ #[22] ty #[.slice (some ⟨g, i * 12, none⟩) 1 c']).run Try.prog w4 = .ok (.tuple #[]) (w4.setCells g (i * 12) [.int .i64 0, .int .i64 0, .int .i64 0, .int .i64 0, .int .i64 0, .int .i64 0, .float .f64 0, .bool false, .slice none 0 0, .int .i64 0, .int .i64 0, .int .i64 0]) := by
        intro ty c'
        have hz : ∀ w, (zeroValue 32).run Try.prog w = .ok (.agg #[.int .i64 0, .int .i64 0, .int .i64 0, .int .i64 0, .int .i64 0, .int .i64 0, .float .f64 0, .bool false, .slice none 0 0, .int .i64 0, .int .i64 0, .int .i64 0]) w := fun w => by kernel_rfl
        have hst := run_storeCells_cells (P := Try.prog) g (i * 12) [.int .i64 0, .int .i64 0, .int .i64 0, .int .i64 0, .int .i64 0, .int .i64 0, .float .f64 0, .bool false, .slice none 0 0, .int .i64 0, .int .i64 0, .int .i64 0] 0 w4 (fun j hj => by
          have h1 := hcc j
          rw [Int.toNat_natCast] at h1
          have h2 : j < 12 := hj
          rw [Nat.add_zero]
          have h3 := fun u hu => congrArg Option.isSome (h1 u hu)
          match j, h2 with
          | 0, _ => exact (h3 _ rfl).trans rfl
          | 1, _ => exact (h3 _ rfl).trans rfl
          | 2, _ => exact (h3 _ rfl).trans rfl
          | 3, _ => exact (h3 _ rfl).trans rfl
          | 4, _ => exact (h3 _ rfl).trans rfl
          | 5, _ => exact (h3 _ rfl).trans rfl
          | 6, _ => exact (h3 _ rfl).trans rfl
          | 7, _ => exact (h3 _ rfl).trans rfl
          | 8, _ => exact (h3 _ rfl).trans rfl
          | 9, _ => exact (h3 _ rfl).trans rfl
          | 10, _ => exact (h3 _ rfl).trans rfl
          | 11, _ => exact (h3 _ rfl).trans rfl) (fun j hj => by
          have h1 := hfr j
          rw [Int.toNat_natCast] at h1
          rw [Nat.add_zero]; exact h1) (by decide)
        rw [Nat.add_zero] at hst
        have hzc : (Builtin.zeroCells (Value.agg #[.int .i64 0, .int .i64 0, .int .i64 0, .int .i64 0, .int .i64 0, .int .i64 0, .float .f64 0, .bool false, .slice none 0 0, .int .i64 0, .int .i64 0, .int .i64 0]).cells 1).toList = [.int .i64 0, .int .i64 0, .int .i64 0, .int .i64 0, .int .i64 0, .int .i64 0, .float .f64 0, .bool false, .slice none 0 0, .int .i64 0, .int .i64 0, .int .i64 0] := by first | kernel_rfl | (simp [Builtin.zeroCells, Value.cells, List.range, List.range.loop]) | decide
        simp only [Builtin.clear_]
        simp [run_underlying Try.underlying22, hz, hzc, hst]
      rw [Int.toNat_natCast] at HP
      go_wp2
      go_ret2
      have hr : r1 = l0.set i z0U := by rw [HRR.out.1, show ((i : Int) + 1 - 1).toNat = i by omega]
      exact ⟨_, by rw [HRR.out.2]; rfl, hr ▸ HP.out.1, HB4.out.grown HP.out.2 (below_size HB4.out) (fun k e => by cases e; exact hg0)⟩
end Go.Proofs.Ytdcllbhkjcdnoaa.P
