/- by wip/prune.py -/
import Derived.BigQuiet
import Derived.Deep.QuietTactic
import Derived.Laws.Cover2
import Derived.Laws.FloatArith
import Derived.Lib.Hide
import Derived.Test.YtdcllbhkjcdnoaaChecked
import Derived.WalkKit
import Derived.WalkLawsBesides
import Derived.Test.YtdcllbhkjcdnoaaMUndorecDecodes4
import Derived.Test.YtdcllbhkjcdnoaaMUndorecDecodes6
namespace Go.Proofs.Ytdcllbhkjcdnoaa
open Go.RowKit
@[go_sem] theorem run_bits (x : Nat) (w : World) : (callFunc 70 #[.float .f64 x]).run Try.prog w = .ok (.value (.int .u64 (x : Int))) w := by kernel_rfl
@[go_sem] theorem run_frombits (x : Int) (w : World) : (callFunc 78 #[.int .u64 x]).run Try.prog w = .ok (.value (.float .f64 x.toNat)) w := by kernel_rfl
theorem ret_bool {a b : Bool} (h : a = b) : Ending.returned (.bool a) = .returned (.bool b) := by rw [h]
theorem ret_int {k : IntKind} {a b : Int} (h : a = b) : Ending.returned (.int k a) = .returned (.int k b) := by rw [h]
theorem neq_self (x : Nat) : (FloatKind.f64.format.order x x != some .eq) = Flt.isNaN x := by
  have h := Flt.eql_eq x x
  show (!(Ieee.double.order x x == some .eq)) = _
  rw [h]; simp
theorem IsNaN_any (x : Nat) (w : World) : Calls Try.prog 89 #[.float .f64 x] w fun e w' => e = .returned (.bool (Flt.isNaN x)) ∧ w = w' := by
  go_enter Try.func89, Try.ntmps89;go_wp2;go_ret;exact ⟨ret_bool (neq_self x), rfl⟩
theorem Same_any (x y : Nat) (w : World) : Calls Try.prog 67 #[.float .f64 x, .float .f64 y] w fun e w' => e = .returned (.bool ((x : Int) == (y : Int))) ∧ w = w' := by
  go_enter Try.func67, Try.ntmps67;go_wp2;go_ret;exact ⟨rfl, rfl⟩
theorem Value_any (x : Nat) (w : World) : Calls Try.prog 68 #[.float .f64 x] w fun e w' => e = .returned (.float .f64 (Flt.val x)) ∧ w = w' := by
  by_cases h : Flt.isNaN x = true
  · have hv : Flt.val x = Flt.NAN := by unfold Flt.val; rw [if_pos h]
    rw [hv];clear hv;go_enter Try.func68, Try.ntmps68;go_wp2_with (go_at_call 89; refine (IsNaN_any _ _).mono ?_; rintro e w' ⟨rfl, rfl⟩);go_ret;exact ⟨rfl, rfl⟩
  · have hv : Flt.val x = x := by unfold Flt.val; rw [if_neg h]
    rw [hv];clear hv
    have h' : Flt.isNaN x = false := by simpa using h
    clear h;go_enter Try.func68, Try.ntmps68;go_wp2_with (go_at_call 89; refine (IsNaN_any _ _).mono ?_; rintro e w' ⟨rfl, rfl⟩);go_ret;exact ⟨rfl, rfl⟩
theorem sv_zero (x : Nat) : (decide (Flt.sv x = Flt.sv 0)) = decide (Flt.rg x = 0) := by
  have h0 : Flt.sv 0 = 0 := by decide
  rw [h0]
  unfold Flt.sv
  by_cases h : Flt.rg x = 0
  · rw [h]; cases Flt.sg x <;> simp
  · have : (if Flt.sg x = true then -(Flt.rg x : Int) else (Flt.rg x : Int)) ≠ 0 := by split <;> omega
    simp [h, this]
theorem nan_rg (x : Nat) (h : Flt.rg x = 0) : Flt.isNaN x = false := by
  unfold Flt.isNaN; rw [h]; decide
theorem eql_zero (x : Nat) : (FloatKind.f64.format.order x 0 == some .eq) = decide (Flt.rg x = 0) := by
  have h := Flt.eql_eq x 0
  show (Ieee.double.order x 0 == some .eq) = _
  rw [h, sv_zero, show Flt.isNaN 0 = false by decide]
  by_cases hz : Flt.rg x = 0
  · rw [nan_rg x hz]; simp
  · simp [hz]
theorem Key_any (x : Nat) (w : World) : Calls Try.prog 69 #[.float .f64 x] w fun e w' => e = .returned (.float .f64 (Flt.key x)) ∧ w = w' := by
  have he := eql_zero x
  by_cases h : Flt.rg x = 0
  · have hv : Flt.key x = 0 := by unfold Flt.key; rw [if_pos h]
    rw [hv]
    have hd : (FloatKind.f64.format.order x 0 == some .eq) = true := by rw [he]; simp [h]
    clear hv he h;go_enter Try.func69, Try.ntmps69;go_wp2;go_ret;exact ⟨rfl, rfl⟩
  · have hv : Flt.key x = Flt.val x := by unfold Flt.key; rw [if_neg h]
    rw [hv]
    have hd : (FloatKind.f64.format.order x 0 == some .eq) = false := by rw [he]; simp [h]
    clear hv he h;go_enter Try.func69, Try.ntmps69;go_wp2_with (go_at_call 68; refine (Value_any _ _).mono ?_; rintro e w' ⟨rfl, rfl⟩);go_ret;exact ⟨rfl, rfl⟩
theorem Nan_any (b : Nat) (w : World) : Calls Try.prog 90 #[.int .u64 (b : Int)] w fun e w' => e = .returned (.bool (Flt.isNaN b)) ∧ w = w' := by
  have hr := Lib.hid (Flt.nan_ref b);go_enter Try.func90, Try.ntmps90;go_wp2
  · have h : (b : Int) / 4503599627370496 % 2048 = 2047 := by assumption
    go_ret
    exact ⟨ret_bool (by rw [hr.out, dt_ h]; rfl), rfl⟩
  · have h : ¬ (b : Int) / 4503599627370496 % 2048 = 2047 := by assumption
    go_ret
    exact ⟨ret_bool (by rw [hr.out, df_ h]; rfl), rfl⟩
theorem rValue_any (x : Nat) (w : World) : Calls Try.prog 72 #[.float .f64 x] w fun e w' => e = .returned (.int .u64 (Flt.val x : Int)) ∧ w = w' := by
  by_cases h : Flt.isNaN x = true
  · have hv : Flt.val x = Flt.NAN := by unfold Flt.val; rw [if_pos h]
    rw [hv];clear hv;go_enter Try.func72, Try.ntmps72;go_wp2_with (go_at_call 90; refine (Nan_any _ _).mono ?_; rintro e w' ⟨rfl, rfl⟩);go_ret;exact ⟨rfl, rfl⟩
  · have hv : Flt.val x = x := by unfold Flt.val; rw [if_neg h]
    rw [hv];clear hv
    have h' : Flt.isNaN x = false := by simpa using h
    clear h;go_enter Try.func72, Try.ntmps72;go_wp2_with (go_at_call 90; refine (Nan_any _ _).mono ?_; rintro e w' ⟨rfl, rfl⟩);go_ret;exact ⟨rfl, rfl⟩
theorem rKey_any (x : Nat) (hx : Flt.ok x) (w : World) : Calls Try.prog 71 #[.float .f64 x] w fun e w' => e = .returned (.int .u64 (Flt.key x : Int)) ∧ w = w' := by
  have hk := Flt.key_ref x hx
  by_cases h : Flt.val x = 9223372036854775808
  · rw [if_pos h] at hk
    rw [hk]
    have h1 : ((Flt.val x : Int) == 9223372036854775808) = true := by rw [h]; rfl
    clear hk h;go_enter Try.func71, Try.ntmps71;go_wp2_with (go_at_call 72; refine (rValue_any _ _).mono ?_; rintro e w' ⟨rfl, rfl⟩);go_ret;exact ⟨rfl, rfl⟩
  · rw [if_neg h] at hk
    rw [hk]
    have h1 : ((Flt.val x : Int) == 9223372036854775808) = false := by rw [beq_eq_false_iff_ne]; omega
    clear hk h;go_enter Try.func71, Try.ntmps71;go_wp2_with (go_at_call 72; refine (rValue_any _ _).mono ?_; rintro e w' ⟨rfl, rfl⟩);go_ret;exact ⟨rfl, rfl⟩
theorem rSame_any (x y : Nat) (w : World) : Calls Try.prog 44 #[.float .f64 x, .float .f64 y] w fun e w' => e = .returned (.bool ((x : Int) == (y : Int))) ∧ w = w' := by
  go_enter Try.func44, Try.ntmps44;go_wp2;go_ret;exact ⟨rfl, rfl⟩
end Go.Proofs.Ytdcllbhkjcdnoaa
namespace Go.Proofs.Ytdcllbhkjcdnoaa.P
open Go.RowKit Ytdcllbhkjcdnoaa YtdcllbhkjcdnoaaW.PrintWords YtdcllbhkjcdnoaaW.PrintLast
theorem drawn0 {w w' : World} (h : w = w') : Drawn0 w w' := ⟨0, by subst h; rfl⟩
def num_Same.f (a0 a1 : Nat) : Option Bool := some ((a0 : Int) == (a1 : Int))
theorem num_Same.calls (a0 a1 : Nat) (r : Bool) (w : World) (h : num_Same.f a0 a1 = some r) : Calls Try.prog 67 #[.float .f64 a0, .float .f64 a1] w fun e w' => e = .returned (.bool r) ∧ Drawn0 w w' := by
  injection h with h; subst h
  exact (Same_any a0 a1 w).mono (fun e w' h => ⟨h.1, drawn0 h.2⟩)
def num_Key.f (a0 : Nat) : Option Nat := some (Flt.key a0)
theorem num_Key.calls (a0 : Nat) (r : Nat) (w : World) (h : num_Key.f a0 = some r) : Calls Try.prog 69 #[.float .f64 a0] w fun e w' => e = .returned (.float .f64 r) ∧ Drawn0 w w' := by
  injection h with h; subst h
  exact (Key_any a0 w).mono (fun e w' h => ⟨h.1, drawn0 h.2⟩)
def humusref01_Same.f (a0 a1 : Nat) : Option Bool := some ((a0 : Int) == (a1 : Int))
theorem humusref01_Same.calls (a0 a1 : Nat) (r : Bool) (w : World) (h : humusref01_Same.f a0 a1 = some r) : Calls Try.prog 44 #[.float .f64 a0, .float .f64 a1] w fun e w' => e = .returned (.bool r) ∧ Drawn0 w w' := by
  injection h with h; subst h
  exact (rSame_any a0 a1 w).mono (fun e w' h => ⟨h.1, drawn0 h.2⟩)
def humusref01_Value.f (a0 : Nat) : Option Int := some (Flt.val a0 : Int)
theorem humusref01_Value.calls (a0 : Nat) (r : Int) (w : World) (h : humusref01_Value.f a0 = some r) : Calls Try.prog 72 #[.float .f64 a0] w fun e w' => e = .returned (.int .u64 r) ∧ Drawn0 w w' := by
  injection h with h; subst h
  exact (rValue_any a0 w).mono (fun e w' h => ⟨h.1, drawn0 h.2⟩)
def humusref01_Key.f (a0 : Nat) : Option Int := if a0 < 18446744073709551616 then some (Flt.key a0 : Int) else none
theorem humusref01_Key.calls (a0 : Nat) (r : Int) (w : World) (h : humusref01_Key.f a0 = some r) : Calls Try.prog 71 #[.float .f64 a0] w fun e w' => e = .returned (.int .u64 r) ∧ Drawn0 w w' := by
  unfold humusref01_Key.f at h
  split at h
  · rename_i hx
    injection h with h; subst h
    exact (rKey_any a0 hx w).mono (fun e w' h => ⟨h.1, drawn0 h.2⟩)
  · cases h
end Go.Proofs.Ytdcllbhkjcdnoaa.P
