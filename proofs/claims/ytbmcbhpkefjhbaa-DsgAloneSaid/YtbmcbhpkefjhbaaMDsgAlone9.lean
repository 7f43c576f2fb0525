/- Put together by wip/prune.py out of this claim's texts. -/
import Derived.BigQuiet
import Derived.ChangeKeysEq
import Derived.Deep.QuietTactic
import Derived.Test.YtbmcbhpkefjhbaaMDsgAlone3
import Derived.Test.YtbmcbhpkefjhbaaMDsgAlone6
import Derived.Test.YtbmcbhpkefjhbaaMDsgAlone8
set_option linter.unusedVariables false
set_option linter.unusedSimpArgs false
namespace Go.Proofs.Ytbmcbhpkefjhbaa.P
open Go.RowKit Go.Proofs.Ytbmcbhpkefjhbaa Go.Proofs.Ytbmcbhpkefjhbaa.Mem Go.Proofs.YtbmcbhpkefjhbaaW.PrintWords Go.Proofs.YtbmcbhpkefjhbaaW.PrintLast Go.Proofs.YtbmcbhpkefjhbaaW.PrintMore
abbrev SPr := S33
theorem rdP_drop {l : List SPr} {i : Nat} (h : i < l.length) : l.drop i = rd_T33 l (i : Int) :: l.drop (i + 1) := by
  rw [List.drop_eq_getElem_cons h]
  congr 1
  unfold rd_T33
  rw [Int.toNat_natCast, List.getD_eq_getElem?_getD, List.getElem?_eq_getElem h]; rfl
end Go.Proofs.Ytbmcbhpkefjhbaa.P
set_option linter.unusedVariables false
set_option linter.unusedSimpArgs false
namespace Go.Proofs.Ytbmcbhpkefjhbaa.P
open Go.RowKit Go.Proofs.Ytbmcbhpkefjhbaa Go.Proofs.Ytbmcbhpkefjhbaa.Mem Go.Proofs.YtbmcbhpkefjhbaaW.PrintWords Go.Proofs.YtbmcbhpkefjhbaaW.PrintLast Go.Proofs.YtbmcbhpkefjhbaaW.PrintMore
def okEvB (l : List SEv) : Bool := l.all fun e => decide (e.f0.f2 < 18446744073709551616) && decide (e.f0.f3 < 18446744073709551616)
def okRoB (l : List SRo) : Bool := l.all fun e => decide (e.f0 < 18446744073709551616)
theorem okEvB_iff {l : List SEv} : okEvB l = true ↔ okEv l := by
  unfold okEvB okEv
  rw [List.all_eq_true]
  constructor
  · intro h e he
    have := h e he
    rw [Bool.and_eq_true, decide_eq_true_eq, decide_eq_true_eq] at this
    exact this
  · intro h e he
    rw [Bool.and_eq_true, decide_eq_true_eq, decide_eq_true_eq]
    exact h e he
theorem okRoB_iff {l : List SRo} : okRoB l = true ↔ okRo l := by
  unfold okRoB okRo
  rw [List.all_eq_true]
  constructor
  · intro h e he
    have := h e he
    rw [decide_eq_true_eq] at this
    exact this
  · intro h e he
    exact decide_eq_true (show e.f0 < 18446744073709551616 from h e he)
def dsg_ahead.f (a0_0 a0_1 : Int) (l0_2 : List SEv) (l0_3 : List SRo) (l0_4 : List Int) (a1_0 a1_1 : Int) (l1_2 : List SEv) (l1_3 : List SRo) (l1_4 : List Int) (a2 a3 : Int) : Option Bool :=
  if (l0_2.length ≤ 1000000 ∧ okEvB l0_2 = true ∧ l0_3.length ≤ 1000000 ∧ okRoB l0_3 = true) ∧ (l1_2.length ≤ 1000000 ∧ okEvB l1_2 = true ∧ l1_3.length ≤ 1000000 ∧ okRoB l1_3 = true) then some (aheadB a0_1 l0_2 l0_3 a1_1 l1_2 l1_3 a2 a3) else none
theorem dsg_ahead.calls (a0_0 a0_1 : Int) (A0_2 : Option Addr) (c0_2 : Nat) (l0_2 : List SEv) (A0_3 : Option Addr) (c0_3 : Nat) (l0_3 : List SRo) (A0_4 : Option Addr) (c0_4 : Nat) (l0_4 : List Int) (a1_0 a1_1 : Int) (A1_2 : Option Addr) (c1_2 : Nat) (l1_2 : List SEv) (A1_3 : Option Addr) (c1_3 : Nat) (l1_3 : List SRo) (A1_4 : Option Addr) (c1_4 : Nat) (l1_4 : List Int) (a2 a3 : Int) (r : Bool) (w : World) (hr0_2 : Kd.C k89 w A0_2 l0_2.length l0_2) (hc0_2 : l0_2.length ≤ c0_2) (hr0_3 : Kd.C k124 w A0_3 l0_3.length l0_3) (hc0_3 : l0_3.length ≤ c0_3) (hr0_4 : Kd.C (Kd.int .i64) w A0_4 l0_4.length l0_4) (hc0_4 : l0_4.length ≤ c0_4) (hr1_2 : Kd.C k89 w A1_2 l1_2.length l1_2) (hc1_2 : l1_2.length ≤ c1_2) (hr1_3 : Kd.C k124 w A1_3 l1_3.length l1_3) (hc1_3 : l1_3.length ≤ c1_3) (hr1_4 : Kd.C (Kd.int .i64) w A1_4 l1_4.length l1_4) (hc1_4 : l1_4.length ≤ c1_4) (h : dsg_ahead.f a0_0 a0_1 l0_2 l0_3 l0_4 a1_0 a1_1 l1_2 l1_3 l1_4 a2 a3 = some r) :
    Calls Try.prog 52 #[.agg #[.int .i64 a0_0, .int .i64 a0_1, .slice A0_2 l0_2.length c0_2, .slice A0_3 l0_3.length c0_3, .slice A0_4 l0_4.length c0_4], .agg #[.int .i64 a1_0, .int .i64 a1_1, .slice A1_2 l1_2.length c1_2, .slice A1_3 l1_3.length c1_3, .slice A1_4 l1_4.length c1_4], .int .i64 a2, .int .i64 a3] w fun e w' => e = .returned (.bool r) ∧ Below w.heap.size w w' := by
  unfold dsg_ahead.f at h
  split at h
  · rename_i hh
    obtain ⟨⟨h1, h2, h3, h4⟩, g1, g2, g3, g4⟩ := hh
    injection h with h; subst h
    exact ahead_any a0_0 a0_1 A0_2 c0_2 l0_2 A0_3 c0_3 l0_3 A0_4 l0_4.length c0_4 a1_0 a1_1 A1_2 c1_2 l1_2 A1_3 c1_3 l1_3 A1_4 l1_4.length c1_4 a2 a3 w hr0_2 h1 (okEvB_iff.1 h2) hr0_3 h3 (okRoB_iff.1 h4) hr1_2 g1 (okEvB_iff.1 g2) hr1_3 g3 (okRoB_iff.1 g4)
  · cases h
end Go.Proofs.Ytbmcbhpkefjhbaa.P
