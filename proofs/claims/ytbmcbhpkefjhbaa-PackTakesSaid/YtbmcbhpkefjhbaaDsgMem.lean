/- Rows of numbers and of pairs; slices.Index, Ints. -/
import Derived.Test.YtbmcbhpkefjhbaaDsgLaw
import Derived.Test.YtbmcbhpkefjhbaaWTab
import Derived.WalkKit
import Derived.WalkLawsBesides
import Derived.Deep.LoopGhost
import Derived.Deep.QuietTactic
import Derived.BigQuiet
import Derived.Outline
import Derived.Lib.Hide
set_option linter.unusedVariables false
set_option linter.unusedSimpArgs false
namespace Go.Proofs.Ytbmcbhpkefjhbaa.Dsg
open Go.RowKit Go.Proofs.Ytbmcbhpkefjhbaa.Mem Go.Proofs.YtbmcbhpkefjhbaaW.PrintWords Go.Proofs.YtbmcbhpkefjhbaaW.PrintLast Go.Proofs.YtbmcbhpkefjhbaaW.PrintMore
theorem info64 : (Try.prog.info? 3).map (fun i => (i.zero, i.size, i.bytes)) = some (some (.int .i64 0), 1, 8) := by kernel_rfl
abbrev RdI (w : World) (A : Option Addr) (l : List Int) : Prop := Kd.C (Kd.int .i64) w A l.length l
theorem rd_gt (l : List Int) (i : Nat) : rd l (i : Int) = gt l i := by unfold rd gt; rw [Int.toNat_natCast]
set_option maxRecDepth 100000 in
theorem Index_any (A : Option Addr) (c : Nat) (l : List Int) (w : World) (hr : RdI w A l) (hl : l.length ≤ 1000000) :
    Calls Try.prog 44 #[.slice A l.length c, .int .i64 0] w fun e w' => ∃ r, e = .returned (.int .i64 r) ∧ AtZero l r ∧ ∃ n, w' = w.drewN n := by
  have HR := Lib.hid hr
  clear hr
  go_enter Try.func44, Try.ntmps44
  go_wp2
  go_loopg [8] l.length (fun k v8 wr => ∃ i : Nat, i ≤ l.length ∧ k = l.length - i ∧ v8 = .int .i64 (i : Int) ∧ Hid (∀ j < i, gt l j ≠ 0) ∧ ∃ n, wr = w.drewN n)
  case atStart => exact ⟨0, Nat.zero_le _, by omega, rfl, Lib.hid (fun j hj => absurd hj (Nat.not_lt_zero _)), 0, rfl⟩
  case round =>
    obtain ⟨i, hi, rfl, rfl, HN, n, rfl⟩ := hrel
    by_cases hlt : i < l.length
    · have hd : decide (i < l.length) = true := decide_eq_true hlt
      obtain ⟨ad, rfl, hx⟩ := Kd.at_int HR.out (i : Int) (by omega) (by omega)
      rw [Int.toNat_natCast] at hx
      have p0 : (0 : Int) ≤ (i : Int) := Int.natCast_nonneg _
      have p1 : (i : Int) < (l.length : Int) := by omega
      have hrg := Lib.hid (rd_gt l i)
      by_cases c0 : rd l (i : Int) = 0
      · rw [c0] at hx
        go_wp2
        go_ret
        exact ⟨_, rfl, .inl ⟨i, rfl, hlt, by rw [← hrg.out]; exact c0, HN.out⟩, n, rfl⟩
      · have e0 : ((0 : Int) == rd l (i : Int)) = false := beq_eq_false_iff_ne.2 (fun h => c0 h.symm)
        have HC := Lib.hid c0
        clear c0
        go_wp2
        go_roundg (l.length - (i + 1))
        case measure => omega
        case rel =>
          refine ⟨i + 1, by omega, rfl, by go_num, Lib.hid (fun j hj => ?_), n, rfl⟩
          by_cases h : j = i
          · rw [h, ← hrg.out]; exact HC.out
          · exact HN.out j (by omega)
    · have hd : decide (i < l.length) = false := decide_eq_false hlt
      obtain rfl : i = l.length := by omega
      go_wp2
      go_ret
      exact ⟨_, rfl, .inr ⟨rfl, HN.out⟩, n, rfl⟩
theorem ext_gt {l m : List Int} (h : l.length = m.length) (hx : ∀ j < l.length, gt l j = gt m j) : l = m := by
  apply List.ext_getElem h
  intro i h1 h2
  have := hx i h1
  simpa [gt, List.getD_eq_getElem?_getD, h1, h2] using this
set_option maxRecDepth 100000 in
theorem Ints_any (A : Option Addr) (c : Nat) (l : List Int) (B : Option Addr) (d : Nat) (m : List Int) (w : World) (hr : RdI w A l) (hm : RdI w B m) (hl : l.length ≤ 1000000) (hml : m.length ≤ 1000000) :
    Calls Try.prog 16 #[.slice A l.length c, .slice B m.length d] w fun e w' => e = .returned (.bool (decide (l = m))) ∧ ∃ n, w' = w.drewN n := by
  have HR := Lib.hid hr
  have HM := Lib.hid hm
  clear hr hm
  by_cases g : l.length = m.length
  · have g1 : ((l.length : Int) != (m.length : Int)) = false := by rw [bne_eq_false_iff_eq]; omega
    have HG := Lib.hid g
    clear g
    go_enter Try.func16, Try.ntmps16
    go_wp2
    go_loopg [5] l.length (fun k v5 wr => ∃ i : Nat, i ≤ l.length ∧ k = l.length - i ∧ v5 = .int .i64 (i : Int) ∧ Hid (∀ j < i, gt l j = gt m j) ∧ ∃ n, wr = w.drewN n)
    case atStart => exact ⟨0, Nat.zero_le _, by omega, rfl, Lib.hid (fun j hj => absurd hj (Nat.not_lt_zero _)), 0, rfl⟩
    case round =>
      obtain ⟨i, hi, rfl, rfl, HN, n, rfl⟩ := hrel
      by_cases hlt : i < l.length
      · have hd : decide (i < l.length) = true := decide_eq_true hlt
        have him : i < m.length := by have := HG.out; omega
        obtain ⟨ad, rfl, hx⟩ := Kd.at_int HR.out (i : Int) (by omega) (by omega)
        obtain ⟨bd, rfl, hy⟩ := Kd.at_int HM.out (i : Int) (by omega) (by omega)
        rw [Int.toNat_natCast] at hx hy
        have p0 : (0 : Int) ≤ (i : Int) := Int.natCast_nonneg _
        have p1 : (i : Int) < (l.length : Int) := by omega
        have p2 : (i : Int) < (m.length : Int) := by omega
        have hrg := Lib.hid (rd_gt l i)
        have hrm := Lib.hid (rd_gt m i)
        clear him
        by_cases c0 : rd l (i : Int) = rd m (i : Int)
        · have e0 : (rd l (i : Int) != rd m (i : Int)) = false := bne_eq_false_iff_eq.2 c0
          have HC := Lib.hid c0
          clear c0
          go_wp2_with fail
          go_quiet (fail)
          go_wp2
          go_roundg (l.length - (i + 1))
          case measure => omega
          case rel =>
            refine ⟨i + 1, by omega, rfl, by go_num, Lib.hid (fun j hj => ?_), _, rfl⟩
            by_cases h : j = i
            · rw [h, ← hrg.out, ← hrm.out]; exact HC.out
            · exact HN.out j (by omega)
        · have e0 : (rd l (i : Int) != rd m (i : Int)) = true := bne_iff_ne.2 c0
          have HC := Lib.hid c0
          clear c0
          go_wp2_with fail
          go_quiet (fail)
          go_wp2
          go_ret
          exact ⟨ret_bool (by symm; apply decide_eq_false; intro h; apply HC.out; rw [h]), _, World.drewN_drewN _ _ _⟩
      · have hd : decide (i < l.length) = false := decide_eq_false hlt
        obtain rfl : i = l.length := by omega
        go_wp2
        go_ret
        exact ⟨ret_bool (by symm; apply decide_eq_true; exact ext_gt HG.out HN.out), n, rfl⟩
  · have g1 : ((l.length : Int) != (m.length : Int)) = true := by rw [bne_iff_ne]; omega
    have HG := Lib.hid g
    clear g
    go_enter Try.func16, Try.ntmps16
    go_wp2
    go_ret
    exact ⟨ret_bool (by symm; apply decide_eq_false; intro h; apply HG.out; rw [h]), 0, rfl⟩
end Go.Proofs.Ytbmcbhpkefjhbaa.Dsg
