/- Put together by wip/prune.py out of this claim's texts. -/
import Derived.Test.YtdcllbhkjcdnoaaMRowCodes15
import Derived.Test.YtdcllbhkjcdnoaaMRowCodes16
import Derived.Test.YtdcllbhkjcdnoaaMRowCodes17
set_option linter.unusedVariables false
namespace Go.Proofs.Ytdcllbhkjcdnoaa.P
open Go.RowKit Go.Proofs.Ytdcllbhkjcdnoaa Go.Proofs.Ytdcllbhkjcdnoaa.Mem Go.Proofs.Ytdcllbhkjcdnoaa.Pac Go.Proofs.YtdcllbhkjcdnoaaW.PrintWords Go.Proofs.YtdcllbhkjcdnoaaW.PrintLast
theorem rowCodes_ev {ke : Nat} (de : Bool) (co : List Nat) (wr ce no : Int) (hx : ke < 18446744073709551616) (hc : ∀ x ∈ co, x < 18446744073709551616) : humuslaw04_RowCodes.f 300 ke de co wr ce no = some true := by
  unfold humuslaw04_RowCodes.f
  by_cases hl : co.length > 100
  · rw [if_pos (by omega), awake04_ev (by omega)]
    rfl
  rw [if_neg (by omega), row_Encode_ev (by omega) (by omega) hx hc, row_Check_ev (by omega) (by omega), May04_ev (by omega) hx (by omega)]
  simp only [Option.bind_some]
  by_cases hm : mayRow ke de co wr ce no = true
  · rw [hm]
    simp only [if_true]
    rw [if_neg (by decide), dec_row (by omega) hm hx hc]
    simp only [Option.bind_some]
    rw [if_pos trivial, Bytes04_ev (by omega) hx hc hm]
    simp only [Option.bind_some]
    have h4 := (mayRow_iff.1 hm).2.1
    rw [if_pos trivial, if_pos (by rw [rowIt_len]; unfold wrap64; omega), Same04_ev (by omega) (by omega), sameRow_self]
    simp only [Option.bind_some]
    rw [if_pos trivial, awake04_ev (by omega)]
    rfl
  · rw [(Bool.not_eq_true _).mp hm]
    simp only [Bool.false_eq_true, if_false]
    rw [if_neg (by decide), if_pos trivial, if_pos (by rw [List.length_nil]; rfl), awake04_ev (by omega)]
    rfl
theorem RowCodes_walk {w : World} (a : S30) (A : Option Addr) (c : Nat) (hc : a.f2.length ≤ c) (hr : Kd.C Kd.f64 w A a.f2.length a.f2) (ga : good_row a) :
    Calls Try.prog 6 #[.agg #[.float .f64 a.f0, .bool a.f1, .slice A a.f2.length c, .int .i64 a.f3, .int .i64 a.f4.f0, .int .i64 a.f4.f1]] w fun e w' => e = .returned (.bool true) ∧ Below w.heap.size w w' :=
  humuslaw04_RowCodes.calls 300 _ _ _ _ _ _ _ _ true w hr hc (rowCodes_ev _ _ _ _ _ ga.1 ga.2.1.1)
end Go.Proofs.Ytdcllbhkjcdnoaa.P
