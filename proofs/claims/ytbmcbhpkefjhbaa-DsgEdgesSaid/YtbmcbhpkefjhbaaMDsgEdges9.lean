/- Put together by wip/prune.py out of this claim's texts. -/
import Derived.BigQuiet
import Derived.ChangeKeysEq
import Derived.Deep.QuietTactic
import Derived.Test.YtbmcbhpkefjhbaaMDsgEdges6
import Derived.Test.YtbmcbhpkefjhbaaMDsgEdges8
set_option linter.unusedVariables false
set_option linter.unusedSimpArgs false
namespace Go.Proofs.Ytbmcbhpkefjhbaa.P
open Go.RowKit Go.Proofs.Ytbmcbhpkefjhbaa Go.Proofs.Ytbmcbhpkefjhbaa.Mem Go.Proofs.YtbmcbhpkefjhbaaW.PrintWords Go.Proofs.YtbmcbhpkefjhbaaW.PrintLast Go.Proofs.YtbmcbhpkefjhbaaW.PrintMore
abbrev SPr := S33
def eqP : List SPr → List SPr → Bool
  | [], [] => true
  | a :: l, b :: m => (a.f0 == b.f0 && a.f1 == b.f1) && eqP l m
  | _, _ => false
theorem eqP_self : ∀ l : List SPr, eqP l l = true
  | [] => rfl
  | a :: l => by unfold eqP; rw [eqP_self l, beq_self_eq_true, beq_self_eq_true]; rfl
theorem eqP_len : ∀ (l m : List SPr), l.length ≠ m.length → eqP l m = false
  | [], [], h => absurd rfl h
  | [], _ :: _, _ => rfl
  | _ :: _, [], _ => rfl
  | a :: l, b :: m, h => by unfold eqP; rw [eqP_len l m (by simpa using h), Bool.and_false]
theorem rdP_drop {l : List SPr} {i : Nat} (h : i < l.length) : l.drop i = rd_T33 l (i : Int) :: l.drop (i + 1) := by
  rw [List.drop_eq_getElem_cons h]
  congr 1
  unfold rd_T33
  rw [Int.toNat_natCast, List.getD_eq_getElem?_getD, List.getElem?_eq_getElem h]; rfl
set_option maxRecDepth 100000 in
theorem neq_pr (a b : SPr) (w : World) : (binOp BinOp.neq 33 (.agg #[.int .i64 a.f0, .int .i64 a.f1]) (.agg #[.int .i64 b.f0, .int .i64 b.f1])).run Try.prog w = .ok (.bool (!(a.f0 == b.f0 && a.f1 == b.f1))) w := by
  have hh : (Op.equal 33 (.agg #[.int .i64 a.f0, .int .i64 a.f1]) (.agg #[.int .i64 b.f0, .int .i64 b.f1])).run Try.prog w = .ok (a.f0 == b.f0 && a.f1 == b.f1) w := by
    show (Op.equalIn 10000 33 _ _).run Try.prog w = _
    obtain ⟨i, hi, _⟩ := Option.map_eq_some_iff.1 info3
    have hc : Try.prog.cellsOf 3 = 1 := by kernel_rfl
    rw [run_equalIn_array w 9999 _ _ Try.underlying33 hi]
    have hu := Try.underlying3
    by_cases h1 : a.f0 = b.f0 <;> by_cases h2 : a.f1 = b.f1 <;> simp [go_sem, Op.eqItems, List.range, List.range.loop, hc, hu, h1, h2]
  simp [binOp, go_sem, hh]
set_option maxHeartbeats 1000000 in
set_option maxRecDepth 100000 in
theorem Pairs_any (A0 : Option Addr) (c0 : Nat) (l : List SPr) (A1 : Option Addr) (c1 : Nat) (m : List SPr) (w : World) (hr0 : Kd.C k33 w A0 l.length l) (hr1 : Kd.C k33 w A1 m.length m) (hl : l.length ≤ 1000000) :
    Calls Try.prog 20 #[.slice A0 l.length c0, .slice A1 m.length c1] w fun e w' => e = .returned (.bool (eqP l m)) ∧ ∃ n, w' = w.drewN n := by
  by_cases hlm : l.length = m.length
  rotate_left
  · have hE : Hid (eqP l m = false) := Lib.hid (eqP_len l m hlm)
    have hd : ((l.length : Int) != (m.length : Int)) = true := bne_iff_ne.2 (by omega)
    clear hr0 hr1
    go_enter Try.func20, Try.ntmps20
    go_wp2
    go_ret
    exact ⟨ret_bool hE.out.symm, 0, rfl⟩
  have H0 := Lib.hid hr0
  have H1 := Lib.hid (hlm ▸ hr1 : Kd.C k33 w A1 l.length m)
  have HM := Lib.hid hlm
  have hd : ((l.length : Int) != (m.length : Int)) = false := bne_eq_false_iff_eq.2 (by omega)
  have hE0 : Hid (eqP l m = eqP (l.drop 0) (m.drop 0)) := Lib.hid rfl
  clear hr0 hr1 hlm
  go_enter Try.func20, Try.ntmps20
  go_wp2
  go_loopg [5] l.length (fun k v5 wr => ∃ i : Nat, i ≤ l.length ∧ k = l.length - i ∧ v5 = .int .i64 (i : Int) ∧ Hid (eqP l m = eqP (l.drop i) (m.drop i)) ∧ ∃ n, wr = w.drewN n)
  case atStart => exact ⟨0, Nat.zero_le _, rfl, rfl, hE0, 0, rfl⟩
  case round =>
    clear hE0
    obtain ⟨i, hi, rfl, rfl, HE, n, rfl⟩ := hrel
    have i0 : (0 : Int) ≤ (i : Int) := Int.natCast_nonneg _
    by_cases hlt : i < l.length
    · have hdd : decide ((i : Int) < (l.length : Int)) = true := decide_eq_true (by omega)
      have i1 : (i : Int) < (l.length : Int) := by omega
      have i2 : (i : Int) < (m.length : Int) := by have := HM.out; omega
      obtain ⟨ad0, e0, x0, x1⟩ := at_T33 H0.out (i : Int) i0 i1
      obtain ⟨ad1, e1, y0, y1⟩ := at_T33 H1.out (i : Int) i0 i1
      have HS : Hid (eqP (l.drop i) (m.drop i) = (((rd_T33 l (i : Int)).f0 == (rd_T33 m (i : Int)).f0 && (rd_T33 l (i : Int)).f1 == (rd_T33 m (i : Int)).f1) && eqP (l.drop (i + 1)) (m.drop (i + 1)))) := Lib.hid (by rw [rdP_drop hlt, rdP_drop (l := m) (by have := HM.out; omega)]; rfl)
      rw [Int.toNat_natCast] at x0 x1 y0 y1
      subst e0 e1
      generalize rd_T33 l (i : Int) = a at *
      generalize rd_T33 m (i : Int) = b at *
      have hN := fun w => neq_pr a b w
      cases hab : (a.f0 == b.f0 && a.f1 == b.f1) with
      | true =>
        rw [hab] at HS
        simp only [hab, Bool.not_true] at hN
        have HT : Hid (eqP l m = eqP (l.drop (i + 1)) (m.drop (i + 1))) := Lib.hid (by rw [HE.out, HS.out, Bool.true_and])
        clear hab HS HE
        go_wp2
        go_quiet (fail)
        go_wp2
        go_roundg (l.length - (i + 1))
        case measure => omega
        case rel => exact ⟨i + 1, by omega, rfl, by go_num, HT, by first | exact ⟨_, rfl⟩ | (rw [World.drewN_drewN]; exact ⟨_, rfl⟩)⟩
      | false =>
        rw [hab] at HS
        simp only [hab, Bool.not_false] at hN
        have HT : Hid (eqP l m = false) := Lib.hid (by rw [HE.out, HS.out, Bool.false_and])
        clear hab HS HE
        go_wp2
        go_quiet (fail)
        go_wp2
        go_ret
        exact ⟨ret_bool HT.out.symm, by first | exact ⟨_, rfl⟩ | (rw [World.drewN_drewN]; exact ⟨_, rfl⟩)⟩
    · have hdd : decide ((i : Int) < (l.length : Int)) = false := decide_eq_false (by omega)
      have hE : Hid (eqP l m = true) := Lib.hid (by rw [HE.out, List.drop_eq_nil_of_le (by omega), List.drop_eq_nil_of_le (by have := HM.out; omega)]; rfl)
      go_wp2
      go_ret
      exact ⟨ret_bool hE.out.symm, n, rfl⟩
end Go.Proofs.Ytbmcbhpkefjhbaa.P
set_option linter.unusedVariables false
set_option linter.unusedSimpArgs false
namespace Go.Proofs.Ytbmcbhpkefjhbaa.P
open Go.RowKit Go.Proofs.Ytbmcbhpkefjhbaa Go.Proofs.Ytbmcbhpkefjhbaa.Mem Go.Proofs.YtbmcbhpkefjhbaaW.PrintWords Go.Proofs.YtbmcbhpkefjhbaaW.PrintLast Go.Proofs.YtbmcbhpkefjhbaaW.PrintMore
def okEvB (l : List SEv) : Bool := l.all fun e => decide (e.f0.f2 < 18446744073709551616) && decide (e.f0.f3 < 18446744073709551616)
def okRoB (l : List SRo) : Bool := l.all fun e => decide (e.f0 < 18446744073709551616)
theorem okEvB_iff {l : List SEv} : okEvB l = true ↔ okEv l := by
  unfold okEvB okEv
  rw [List.all_eq_true]
  constructor
  · intro h e he
    have := h e he
    rw [Bool.and_eq_true, decide_eq_true_eq, decide_eq_true_eq] at this
    exact this
  · intro h e he
    rw [Bool.and_eq_true, decide_eq_true_eq, decide_eq_true_eq]
    exact h e he
theorem okRoB_iff {l : List SRo} : okRoB l = true ↔ okRo l := by
  unfold okRoB okRo
  rw [List.all_eq_true]
  constructor
  · intro h e he
    have := h e he
    rw [decide_eq_true_eq] at this
    exact this
  · intro h e he
    exact decide_eq_true (show e.f0 < 18446744073709551616 from h e he)
def dsg_Reads.f (a0_0 a0_1 : Int) (l0_2 : List SEv) (l0_3 : List SRo) (l0_4 : List Int) (a1 : Nat) : Option Bool := if l0_2.length ≤ 1000000 ∧ okEvB l0_2 = true ∧ a1 < 18446744073709551616 then some (l0_2.any (evR a1)) else none
theorem dsg_Reads.calls (a0_0 a0_1 : Int) (A0_2 : Option Addr) (c0_2 : Nat) (l0_2 : List SEv) (A0_3 : Option Addr) (c0_3 : Nat) (l0_3 : List SRo) (A0_4 : Option Addr) (c0_4 : Nat) (l0_4 : List Int) (a1 : Nat) (r : Bool) (w : World) (hr0_2 : Kd.C k89 w A0_2 l0_2.length l0_2) (hc0_2 : l0_2.length ≤ c0_2) (hr0_3 : Kd.C k124 w A0_3 l0_3.length l0_3) (hc0_3 : l0_3.length ≤ c0_3) (hr0_4 : Kd.C (Kd.int .i64) w A0_4 l0_4.length l0_4) (hc0_4 : l0_4.length ≤ c0_4) (h : dsg_Reads.f a0_0 a0_1 l0_2 l0_3 l0_4 a1 = some r) :
    Calls Try.prog 18 #[.agg #[.int .i64 a0_0, .int .i64 a0_1, .slice A0_2 l0_2.length c0_2, .slice A0_3 l0_3.length c0_3, .slice A0_4 l0_4.length c0_4], .float .f64 a1] w fun e w' => e = .returned (.bool r) ∧ Below w.heap.size w w' := by
  unfold dsg_Reads.f at h
  split at h
  · rename_i hh
    injection h with h; subst h
    exact Reads_any a0_0 a0_1 A0_2 c0_2 l0_2 A0_3 l0_3.length c0_3 A0_4 l0_4.length c0_4 a1 w hr0_2 hh.1 (okEvB_iff.1 hh.2.1) hh.2.2
  · cases h
def dsg_ahead.f (a0_0 a0_1 : Int) (l0_2 : List SEv) (l0_3 : List SRo) (l0_4 : List Int) (a1_0 a1_1 : Int) (l1_2 : List SEv) (l1_3 : List SRo) (l1_4 : List Int) (a2 a3 : Int) : Option Bool :=
  if (l0_2.length ≤ 1000000 ∧ okEvB l0_2 = true ∧ l0_3.length ≤ 1000000 ∧ okRoB l0_3 = true) ∧ (l1_2.length ≤ 1000000 ∧ okEvB l1_2 = true ∧ l1_3.length ≤ 1000000 ∧ okRoB l1_3 = true) then some (aheadB a0_1 l0_2 l0_3 a1_1 l1_2 l1_3 a2 a3) else none
theorem dsg_ahead.calls (a0_0 a0_1 : Int) (A0_2 : Option Addr) (c0_2 : Nat) (l0_2 : List SEv) (A0_3 : Option Addr) (c0_3 : Nat) (l0_3 : List SRo) (A0_4 : Option Addr) (c0_4 : Nat) (l0_4 : List Int) (a1_0 a1_1 : Int) (A1_2 : Option Addr) (c1_2 : Nat) (l1_2 : List SEv) (A1_3 : Option Addr) (c1_3 : Nat) (l1_3 : List SRo) (A1_4 : Option Addr) (c1_4 : Nat) (l1_4 : List Int) (a2 a3 : Int) (r : Bool) (w : World) (hr0_2 : Kd.C k89 w A0_2 l0_2.length l0_2) (hc0_2 : l0_2.length ≤ c0_2) (hr0_3 : Kd.C k124 w A0_3 l0_3.length l0_3) (hc0_3 : l0_3.length ≤ c0_3) (hr0_4 : Kd.C (Kd.int .i64) w A0_4 l0_4.length l0_4) (hc0_4 : l0_4.length ≤ c0_4) (hr1_2 : Kd.C k89 w A1_2 l1_2.length l1_2) (hc1_2 : l1_2.length ≤ c1_2) (hr1_3 : Kd.C k124 w A1_3 l1_3.length l1_3) (hc1_3 : l1_3.length ≤ c1_3) (hr1_4 : Kd.C (Kd.int .i64) w A1_4 l1_4.length l1_4) (hc1_4 : l1_4.length ≤ c1_4) (h : dsg_ahead.f a0_0 a0_1 l0_2 l0_3 l0_4 a1_0 a1_1 l1_2 l1_3 l1_4 a2 a3 = some r) :
    Calls Try.prog 52 #[.agg #[.int .i64 a0_0, .int .i64 a0_1, .slice A0_2 l0_2.length c0_2, .slice A0_3 l0_3.length c0_3, .slice A0_4 l0_4.length c0_4], .agg #[.int .i64 a1_0, .int .i64 a1_1, .slice A1_2 l1_2.length c1_2, .slice A1_3 l1_3.length c1_3, .slice A1_4 l1_4.length c1_4], .int .i64 a2, .int .i64 a3] w fun e w' => e = .returned (.bool r) ∧ Below w.heap.size w w' := by
  unfold dsg_ahead.f at h
  split at h
  · rename_i hh
    obtain ⟨⟨h1, h2, h3, h4⟩, g1, g2, g3, g4⟩ := hh
    injection h with h; subst h
    exact ahead_any a0_0 a0_1 A0_2 c0_2 l0_2 A0_3 c0_3 l0_3 A0_4 l0_4.length c0_4 a1_0 a1_1 A1_2 c1_2 l1_2 A1_3 c1_3 l1_3 A1_4 l1_4.length c1_4 a2 a3 w hr0_2 h1 (okEvB_iff.1 h2) hr0_3 h3 (okRoB_iff.1 h4) hr1_2 g1 (okEvB_iff.1 g2) hr1_3 g3 (okRoB_iff.1 g4)
  · cases h
def humusref26_Pairs.f (l0 l1 : List SPr) : Option Bool := if l0.length ≤ 1000000 then some (eqP l0 l1) else none
theorem humusref26_Pairs.calls (A0 : Option Addr) (c0 : Nat) (l0 : List SPr) (A1 : Option Addr) (c1 : Nat) (l1 : List SPr) (r : Bool) (w : World) (hr0 : Kd.C k33 w A0 l0.length l0) (hc0 : l0.length ≤ c0) (hr1 : Kd.C k33 w A1 l1.length l1) (hc1 : l1.length ≤ c1) (h : humusref26_Pairs.f l0 l1 = some r) :
    Calls Try.prog 20 #[.slice A0 l0.length c0, .slice A1 l1.length c1] w fun e w' => e = .returned (.bool r) ∧ Drawn0 w w' := by
  unfold humusref26_Pairs.f at h
  split at h
  · rename_i hh
    injection h with h; subst h
    refine (Pairs_any A0 c0 l0 A1 c1 l1 w hr0 hr1 hh).mono (fun e w' h => ⟨h.1, ?_⟩)
    obtain ⟨n, hn⟩ := h.2
    exact ⟨n, hn⟩
  · cases h
end Go.Proofs.Ytbmcbhpkefjhbaa.P
