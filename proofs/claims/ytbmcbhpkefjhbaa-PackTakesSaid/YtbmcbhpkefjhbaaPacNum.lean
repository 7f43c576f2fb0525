/- Layer 3: a number's bytes. -/
import Derived.Test.YtbmcbhpkefjhbaaPacWalks
set_option linter.unusedVariables false
set_option linter.unusedSimpArgs false
namespace Go.Proofs.Ytbmcbhpkefjhbaa.Pac
open Go.RowKit Go.Proofs.Ytbmcbhpkefjhbaa Go.Proofs.Ytbmcbhpkefjhbaa.Mem Go.Proofs.YtbmcbhpkefjhbaaW.PrintWords Go.Proofs.YtbmcbhpkefjhbaaW.PrintLast Go.Proofs.YtbmcbhpkefjhbaaW.PrintMore
/-- a number's bytes, the highest ahead -/
def bigs (u : Int) : Nat → List Int
  | 0 => []
  | n + 1 => (u / 2 ^ (8 * n) % 256) :: bigs u n
theorem bigs_length (u : Int) (n : Nat) : (bigs u n).length = n := by induction n with | zero => rfl | succ n ih => simp [bigs, ih]
set_option maxRecDepth 100000 in
theorem number_any (w w1 : World) (v : Value) (xs : List Int) (u : Int) (n : Nat) (hn : n ≤ 8) (hx : xs.length ≤ 1000000) (hR : Kd.R (Kd.int .u8) 5 w1 w.heap.size (fun _ => True) v xs) (hB : Below w.heap.size w w1) :
    Calls Try.prog 56 #[v, .int .u64 u, .int .i64 (n : Int)] w1 fun e w' => ∃ v', e = .returned v' ∧ Kd.R (Kd.int .u8) 5 w' w.heap.size (fun _ => True) v' (xs ++ bigs u n) ∧ Below w.heap.size w w' := by
  have HB := Lib.hid hB
  have HO := Lib.hid hR
  clear hB hR
  have n0 : (0 : Int) ≤ (n : Int) := Int.natCast_nonneg _
  have n1 : (n : Int) ≤ 8 := by omega
  go_enter Try.func56, Try.ntmps56
  go_wp2
  go_loopg [0, 7] n (fun k v0 v7 wr => ∃ (j : Nat) (pre : List Int), j ≤ n ∧ j = k ∧ v7 = .int .i64 ((j : Int) - 1) ∧ Hid (pre ++ bigs u j = bigs u n) ∧ Hid (Kd.R (Kd.int .u8) 5 wr w.heap.size (fun _ => True) v0 (xs ++ pre)) ∧ Hid (Below w.heap.size w wr))
  case atStart => exact ⟨n, [], by omega, rfl, rfl, Lib.hid rfl, Lib.hid (by rw [List.append_nil]; exact HO.out), HB⟩
  case round =>
    clear HB HO
    obtain ⟨j, pre, hj, rfl, rfl, HP, HO, HB⟩ := hrel
    have j0 : (0 : Int) ≤ (j : Int) := Int.natCast_nonneg _
    have j1 : (j : Int) ≤ 8 := by omega
    cases j with
    | zero =>
      go_wp2
      go_ret
      refine ⟨_, rfl, ?_, HB.out⟩
      have h := HP.out
      rw [show bigs u 0 = [] from rfl, List.append_nil] at h
      rw [← h]
      exact HO.out
    | succ i =>
      have d1 : decide ((0 : Int) ≤ ((i + 1 : Nat) : Int) - 1) = true := decide_eq_true (by omega)
      have HPL : Hid ((xs ++ pre).length + 1 ≤ 2000000) := Lib.hid (by
        have h := congrArg List.length HP.out
        rw [List.length_append, bigs_length, bigs_length] at h
        rw [List.length_append]; omega)
      go_wp2_with (first | ((with_reducible refine gate_builtin (b := .append) (xs := #[.tmp 14, .tmp 20]) rfl ?_); at_builtin; refine Kd.R_append (Kd.int .u8) (w0 := w) w.heap.size rfl (.tmp 14) (.tmp 20) 52 5 (.int .u8 0) 1 rfl Try.underlying52 info8 rfl (by decide) (by omega) _ (xs ++ pre) (u / 2 ^ (8 * i) % 256) [.int .u8 (u / 2 ^ (8 * i) % 256)] (fun _ => True) (fun _ => False) rfl rfl rfl (fun _ h => h.elim) (fun _ _ => trivial) HO.out (by repeat (first | (with_reducible first | exact HB.out | apply below_alloc | apply pw_below_drewN | apply below_drew1) | exact HB.out)) (below_size (by repeat (first | (with_reducible first | exact HB.out | apply below_alloc | apply pw_below_drewN | apply below_drew1) | exact HB.out))) ?aL ?_; (case aL => have := HPL.out; omega); intro v21 w21 ho hb hg hat; clear hg hat; have HO21 := Lib.hid ho; have HB := Lib.hid hb; clear ho hb))
      go_roundg i
      case measure => omega
      case rel =>
        refine ⟨i, pre ++ [u / 2 ^ (8 * i) % 256], by omega, rfl, by go_num, Lib.hid ?_, Lib.hid ?_, HB⟩
        · rw [List.append_assoc]; exact HP.out
        · rw [← List.append_assoc]; exact HO21.out
end Go.Proofs.Ytbmcbhpkefjhbaa.Pac
