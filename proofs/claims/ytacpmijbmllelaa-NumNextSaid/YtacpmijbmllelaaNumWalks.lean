/- The walks of package num, of its reference and of what they call in package math and cmp. -/
import Derived.Test.YtacpmijbmllelaaChecked
import Derived.Test.YtacpmijbmllelaaFlt
import Derived.WalkKit
import Derived.Laws.Cover2
import Derived.Laws.FloatArith
import Derived.WalkLawsBesides
import Derived.Deep.QuietTactic
import Derived.BigQuiet
import Derived.Lib.Hide
namespace Go.Proofs.Ytacpmijbmllelaa
open Go.RowKit
@[go_sem] theorem run_bits (x : Nat) (w : World) : (callFunc 22 #[.float .f64 x]).run Try.prog w = .ok (.value (.int .u64 (x : Int))) w := by kernel_rfl
@[go_sem] theorem run_frombits (x : Int) (w : World) : (callFunc 30 #[.int .u64 x]).run Try.prog w = .ok (.value (.float .f64 x.toNat)) w := by kernel_rfl

theorem ret_bool {a b : Bool} (h : a = b) : Ending.returned (.bool a) = .returned (.bool b) := by rw [h]
theorem ret_int {k : IntKind} {a b : Int} (h : a = b) : Ending.returned (.int k a) = .returned (.int k b) := by rw [h]
theorem ret_float {k : FloatKind} {a b : Nat} (h : a = b) : Ending.returned (.float k a) = .returned (.float k b) := by rw [h]

theorem neq_self (x : Nat) : (FloatKind.f64.format.order x x != some .eq) = Flt.isNaN x := by
  have h := Flt.eql_eq x x
  show (!(Ieee.double.order x x == some .eq)) = _
  rw [h]; simp

theorem IsNaN_any (x : Nat) (w : World) : Calls Try.prog 40 #[.float .f64 x] w fun e w' => e = .returned (.bool (Flt.isNaN x)) ∧ w = w' := by
  go_enter Try.func40, Try.ntmps40
  go_wp2
  go_ret
  exact ⟨ret_bool (neq_self x), rfl⟩

theorem Same_any (x y : Nat) (w : World) : Calls Try.prog 27 #[.float .f64 x, .float .f64 y] w fun e w' => e = .returned (.bool ((x : Int) == (y : Int))) ∧ w = w' := by
  go_enter Try.func27, Try.ntmps27
  go_wp2
  go_ret
  exact ⟨rfl, rfl⟩

theorem Value_any (x : Nat) (w : World) : Calls Try.prog 21 #[.float .f64 x] w fun e w' => e = .returned (.float .f64 (Flt.val x)) ∧ w = w' := by
  by_cases h : Flt.isNaN x = true
  · have hv : Flt.val x = Flt.NAN := by unfold Flt.val; rw [if_pos h]
    rw [hv]
    clear hv
    go_enter Try.func21, Try.ntmps21
    go_wp2_with (go_at_call 40; refine (IsNaN_any _ _).mono ?_; rintro e w' ⟨rfl, rfl⟩)
    go_ret
    exact ⟨rfl, rfl⟩
  · have hv : Flt.val x = x := by unfold Flt.val; rw [if_neg h]
    rw [hv]
    clear hv
    have h' : Flt.isNaN x = false := by simpa using h
    clear h
    go_enter Try.func21, Try.ntmps21
    go_wp2_with (go_at_call 40; refine (IsNaN_any _ _).mono ?_; rintro e w' ⟨rfl, rfl⟩)
    go_ret
    exact ⟨rfl, rfl⟩

theorem sv_zero (x : Nat) : (decide (Flt.sv x = Flt.sv 0)) = decide (Flt.rg x = 0) := by
  have h0 : Flt.sv 0 = 0 := by decide
  rw [h0]
  unfold Flt.sv
  by_cases h : Flt.rg x = 0
  · rw [h]; cases Flt.sg x <;> simp
  · have : (if Flt.sg x = true then -(Flt.rg x : Int) else (Flt.rg x : Int)) ≠ 0 := by split <;> omega
    simp [h, this]

theorem nan_rg (x : Nat) (h : Flt.rg x = 0) : Flt.isNaN x = false := by
  unfold Flt.isNaN; rw [h]; decide

theorem eql_zero (x : Nat) : (FloatKind.f64.format.order x 0 == some .eq) = decide (Flt.rg x = 0) := by
  have h := Flt.eql_eq x 0
  show (Ieee.double.order x 0 == some .eq) = _
  rw [h, sv_zero, show Flt.isNaN 0 = false by decide]
  by_cases hz : Flt.rg x = 0
  · rw [nan_rg x hz]; simp
  · simp [hz]

theorem Key_any (x : Nat) (w : World) : Calls Try.prog 20 #[.float .f64 x] w fun e w' => e = .returned (.float .f64 (Flt.key x)) ∧ w = w' := by
  have he := eql_zero x
  by_cases h : Flt.rg x = 0
  · have hv : Flt.key x = 0 := by unfold Flt.key; rw [if_pos h]
    rw [hv]
    have hd : (FloatKind.f64.format.order x 0 == some .eq) = true := by rw [he]; simp [h]
    clear hv he h
    go_enter Try.func20, Try.ntmps20
    go_wp2
    go_ret
    exact ⟨rfl, rfl⟩
  · have hv : Flt.key x = Flt.val x := by unfold Flt.key; rw [if_neg h]
    rw [hv]
    have hd : (FloatKind.f64.format.order x 0 == some .eq) = false := by rw [he]; simp [h]
    clear hv he h
    go_enter Try.func20, Try.ntmps20
    go_wp2_with (go_at_call 21; refine (Value_any _ _).mono ?_; rintro e w' ⟨rfl, rfl⟩)
    go_ret
    exact ⟨rfl, rfl⟩

theorem Nan_any (b : Nat) (w : World) : Calls Try.prog 38 #[.int .u64 (b : Int)] w fun e w' => e = .returned (.bool (Flt.isNaN b)) ∧ w = w' := by
  have hr := Lib.hid (Flt.nan_ref b)
  go_enter Try.func38, Try.ntmps38
  go_wp2
  · have h : (b : Int) / 4503599627370496 % 2048 = 2047 := by assumption
    go_ret
    exact ⟨ret_bool (by rw [hr.out, decide_eq_true h]; rfl), rfl⟩
  · have h : ¬ (b : Int) / 4503599627370496 % 2048 = 2047 := by assumption
    go_ret
    exact ⟨ret_bool (by rw [hr.out, decide_eq_false h]; rfl), rfl⟩

theorem isNaN64_any (a : Int) (w : World) : Calls Try.prog 45 #[.int .u64 a] w fun e w' => e = .returned (.bool false) ∧ w = w' := by
  go_enter Try.func45, Try.ntmps45
  go_wp2
  go_ret
  exact ⟨ret_bool (by simp), rfl⟩

def cmpI (a b : Int) : Int := if a < b then -1 else if b < a then 1 else 0
theorem cmp_any (a b : Int) (w : World) : Calls Try.prog 41 #[.int .u64 a, .int .u64 b] w fun e w' => e = .returned (.int .i64 (cmpI a b)) ∧ w = w' := by
  go_enter Try.func41, Try.ntmps41
  go_wp2_with (first | (go_at_call 45; refine (isNaN64_any _ _).mono ?_; rintro e w' ⟨rfl, rfl⟩))
  all_goals go_ret
  all_goals (refine ⟨ret_int ?_, rfl⟩; unfold cmpI; first | (rw [if_pos (by omega)]) | (rw [if_neg (by omega), if_pos (by omega)]) | (rw [if_neg (by omega), if_neg (by omega)]))

theorem Rank_any (x : Nat) (hx : Flt.ok x) (w : World) : Calls Try.prog 25 #[.float .f64 x] w fun e w' => e = .returned (.int .u64 (Flt.rank x : Int)) ∧ w = w' := by
  have ha := Flt.and_hi _ (Flt.ok_key hx)
  by_cases h : Flt.HI ≤ Flt.key x
  · rw [if_pos h] at ha
    have h1 : (bits BinOp.and IntKind.u64 (Flt.key x : Int) 9223372036854775808 != 0) = true := by rw [ha]; rfl
    have hr := Lib.hid (Flt.rank_hi h)
    have hb := Lib.hid (Flt.xor_all _ (Flt.ok_key hx))
    clear ha h
    go_enter Try.func25, Try.ntmps25
    go_wp2_with (first | (go_at_call 20; refine (Key_any _ _).mono ?_; rintro e w' ⟨rfl, rfl⟩))
    go_ret
    exact ⟨ret_int (by rw [hr.out]; exact hb.out), rfl⟩
  · rw [if_neg h] at ha
    have h1 : (bits BinOp.and IntKind.u64 (Flt.key x : Int) 9223372036854775808 != 0) = false := by rw [ha]; rfl
    have hr := Lib.hid (Flt.rank_lo h)
    have hb := Lib.hid (Flt.or_hi (Flt.key x) (by have := Flt.HI_eq; omega))
    clear ha h
    go_enter Try.func25, Try.ntmps25
    go_wp2_with (first | (go_at_call 20; refine (Key_any _ _).mono ?_; rintro e w' ⟨rfl, rfl⟩))
    go_ret
    exact ⟨ret_int (by rw [hr.out]; exact hb.out), rfl⟩

theorem rValue_any (x : Nat) (w : World) : Calls Try.prog 24 #[.float .f64 x] w fun e w' => e = .returned (.int .u64 (Flt.val x : Int)) ∧ w = w' := by
  by_cases h : Flt.isNaN x = true
  · have hv : Flt.val x = Flt.NAN := by unfold Flt.val; rw [if_pos h]
    rw [hv]
    clear hv
    go_enter Try.func24, Try.ntmps24
    go_wp2_with (go_at_call 38; refine (Nan_any _ _).mono ?_; rintro e w' ⟨rfl, rfl⟩)
    go_ret
    exact ⟨rfl, rfl⟩
  · have hv : Flt.val x = x := by unfold Flt.val; rw [if_neg h]
    rw [hv]
    clear hv
    have h' : Flt.isNaN x = false := by simpa using h
    clear h
    go_enter Try.func24, Try.ntmps24
    go_wp2_with (go_at_call 38; refine (Nan_any _ _).mono ?_; rintro e w' ⟨rfl, rfl⟩)
    go_ret
    exact ⟨rfl, rfl⟩

theorem rKey_any (x : Nat) (hx : Flt.ok x) (w : World) : Calls Try.prog 23 #[.float .f64 x] w fun e w' => e = .returned (.int .u64 (Flt.key x : Int)) ∧ w = w' := by
  have hk := Flt.key_ref x hx
  by_cases h : Flt.val x = 9223372036854775808
  · rw [if_pos h] at hk
    rw [hk]
    have h1 : ((Flt.val x : Int) == 9223372036854775808) = true := by rw [h]; rfl
    clear hk h
    go_enter Try.func23, Try.ntmps23
    go_wp2_with (go_at_call 24; refine (rValue_any _ _).mono ?_; rintro e w' ⟨rfl, rfl⟩)
    go_ret
    exact ⟨rfl, rfl⟩
  · rw [if_neg h] at hk
    rw [hk]
    have h1 : ((Flt.val x : Int) == 9223372036854775808) = false := by rw [beq_eq_false_iff_ne]; omega
    clear hk h
    go_enter Try.func23, Try.ntmps23
    go_wp2_with (go_at_call 24; refine (rValue_any _ _).mono ?_; rintro e w' ⟨rfl, rfl⟩)
    go_ret
    exact ⟨rfl, rfl⟩

theorem rRank_any (x : Nat) (hx : Flt.ok x) (w : World) : Calls Try.prog 26 #[.float .f64 x] w fun e w' => e = .returned (.int .u64 (Flt.rank x : Int)) ∧ w = w' := by
  have hk := Flt.ok_key hx
  by_cases h : Flt.HI ≤ Flt.key x
  · have h1 : decide ((9223372036854775808 : Int) ≤ (Flt.key x : Int)) = true := by have := Flt.HI_eq; exact decide_eq_true (by omega)
    have hr := Lib.hid (Flt.rank_hi h)
    have hb : Hid (IntKind.u64.wrap (18446744073709551615 - (Flt.key x : Int)) = ((18446744073709551615 - Flt.key x : Nat) : Int)) := Lib.hid (by rw [Flt.wrap_u64]; unfold Flt.ok at hk; omega)
    clear h hk
    go_enter Try.func26, Try.ntmps26
    go_wp2_with (first | (go_at_call 23; refine (rKey_any _ hx _).mono ?_; rintro e w' ⟨rfl, rfl⟩))
    go_ret
    exact ⟨ret_int (by rw [hr.out]; exact hb.out), rfl⟩
  · have h1 : decide ((9223372036854775808 : Int) ≤ (Flt.key x : Int)) = false := by have := Flt.HI_eq; exact decide_eq_false (by omega)
    have hr := Lib.hid (Flt.rank_lo h)
    have hb : Hid (IntKind.u64.wrap ((Flt.key x : Int) + 9223372036854775808) = ((Flt.key x + Flt.HI : Nat) : Int)) := Lib.hid (by rw [Flt.wrap_u64]; have := Flt.HI_eq; omega)
    clear h hk
    go_enter Try.func26, Try.ntmps26
    go_wp2_with (first | (go_at_call 23; refine (rKey_any _ hx _).mono ?_; rintro e w' ⟨rfl, rfl⟩))
    go_ret
    exact ⟨ret_int (by rw [hr.out]; exact hb.out), rfl⟩

theorem rLess_any (a b : Nat) (ha : Flt.ok a) (hb : Flt.ok b) (w : World) : Calls Try.prog 32 #[.float .f64 a, .float .f64 b] w fun e w' => e = .returned (.bool (Flt.less a b)) ∧ w = w' := by
  have hl := Lib.hid (Flt.less_ref a b ha hb)
  cases h1 : Flt.isNaN (Flt.key a)
  · cases h2 : Flt.isNaN (Flt.key b)
    · go_enter Try.func32, Try.ntmps32
      go_wp2_with (first | (go_at_call 23; refine (rKey_any _ (by assumption) _).mono ?_; rintro e w' ⟨rfl, rfl⟩) | (go_at_call 38; refine (Nan_any _ _).mono ?_; rintro e w' ⟨rfl, rfl⟩))
      go_ret
      exact ⟨ret_bool (by rw [hl.out, h1, h2]; rfl), rfl⟩
    · go_enter Try.func32, Try.ntmps32
      go_wp2_with (first | (go_at_call 23; refine (rKey_any _ (by assumption) _).mono ?_; rintro e w' ⟨rfl, rfl⟩) | (go_at_call 38; refine (Nan_any _ _).mono ?_; rintro e w' ⟨rfl, rfl⟩))
      go_ret
      exact ⟨ret_bool (by rw [hl.out, h1, h2]; rfl), rfl⟩
  · go_enter Try.func32, Try.ntmps32
    go_wp2_with (first | (go_at_call 23; refine (rKey_any _ (by assumption) _).mono ?_; rintro e w' ⟨rfl, rfl⟩) | (go_at_call 38; refine (Nan_any _ _).mono ?_; rintro e w' ⟨rfl, rfl⟩))
    go_ret
    exact ⟨ret_bool (by rw [hl.out, h1]; rfl), rfl⟩

theorem rSame_any (x y : Nat) (w : World) : Calls Try.prog 34 #[.float .f64 x, .float .f64 y] w fun e w' => e = .returned (.bool ((x : Int) == (y : Int))) ∧ w = w' := by
  go_enter Try.func34, Try.ntmps34
  go_wp2
  go_ret
  exact ⟨rfl, rfl⟩

theorem rAlike_any (x y : Nat) (hx : Flt.ok x) (hy : Flt.ok y) (w : World) : Calls Try.prog 33 #[.float .f64 x, .float .f64 y] w fun e w' => e = .returned (.bool ((Flt.key x : Int) == (Flt.key y : Int))) ∧ w = w' := by
  go_enter Try.func33, Try.ntmps33
  go_wp2_with (first | (go_at_call 23; refine (rKey_any _ (by assumption) _).mono ?_; rintro e w' ⟨rfl, rfl⟩))
  go_ret
  exact ⟨rfl, rfl⟩

theorem Compare_any (a b : Nat) (ha : Flt.ok a) (hb : Flt.ok b) (w : World) : Calls Try.prog 31 #[.float .f64 a, .float .f64 b] w fun e w' => e = .returned (.int .i64 (cmpI (Flt.rank a) (Flt.rank b))) ∧ w = w' := by
  go_enter Try.func31, Try.ntmps31
  go_wp2_with (first | (go_at_call 25; refine (Rank_any _ (by assumption) _).mono ?_; rintro e w' ⟨rfl, rfl⟩) | (go_at_call 41; refine (cmp_any _ _ _).mono ?_; rintro e w' ⟨rfl, rfl⟩))
  go_ret
  exact ⟨rfl, rfl⟩

/-- whether a key is in a range -/
def betw (x lo hi : Nat) : Bool := decide (cmpI (Flt.rank lo) (Flt.rank x) ≤ 0) && decide (cmpI (Flt.rank x) (Flt.rank hi) < 0)
theorem Between_any (x lo hi : Nat) (hx : Flt.ok x) (hl : Flt.ok lo) (hh : Flt.ok hi) (w : World) : Calls Try.prog 36 #[.float .f64 x, .float .f64 lo, .float .f64 hi] w fun e w' => e = .returned (.bool (betw x lo hi)) ∧ w = w' := by
  by_cases h1 : cmpI (Flt.rank lo) (Flt.rank x) ≤ 0
  · have hb : Hid (betw x lo hi = decide (cmpI (Flt.rank x) (Flt.rank hi) < 0)) := Lib.hid (by unfold betw; rw [decide_eq_true h1]; rfl)
    have h1' : decide (cmpI (Flt.rank lo) (Flt.rank x) ≤ 0) = true := decide_eq_true h1
    clear h1
    go_enter Try.func36, Try.ntmps36
    go_wp2_with (first | (go_at_call 31; refine (Compare_any _ _ (by assumption) (by assumption) _).mono ?_; rintro e w' ⟨rfl, rfl⟩))
    go_ret
    exact ⟨ret_bool (by rw [hb.out]), rfl⟩
  · have hb : Hid (betw x lo hi = false) := Lib.hid (by unfold betw; rw [decide_eq_false h1]; rfl)
    have h1' : decide (cmpI (Flt.rank lo) (Flt.rank x) ≤ 0) = false := decide_eq_false h1
    clear h1
    go_enter Try.func36, Try.ntmps36
    go_wp2_with (first | (go_at_call 31; refine (Compare_any _ _ (by assumption) (by assumption) _).mono ?_; rintro e w' ⟨rfl, rfl⟩))
    go_ret
    exact ⟨ret_bool (by rw [hb.out]), rfl⟩

theorem Of_any (r : Nat) (hr : Flt.ok r) (w : World) : Calls Try.prog 29 #[.int .u64 (r : Int)] w fun e w' => e = .returned (.tuple #[.float .f64 (if Flt.rank (Flt.ofw r) = r then Flt.ofw r else 0), .int .i64 (if Flt.rank (Flt.ofw r) = r then 0 else 1)]) ∧ w = w' := by
  have hok := Flt.ok_ofw hr
  have ha := Flt.and_hi r hr
  have facts : ((bits BinOp.and IntKind.u64 (r : Int) 9223372036854775808 != 0) = true ∧ bits BinOp.andNot IntKind.u64 (r : Int) 9223372036854775808 = ((Flt.ofw r : Nat) : Int)) ∨
      ((bits BinOp.and IntKind.u64 (r : Int) 9223372036854775808 != 0) = false ∧ bits BinOp.xor IntKind.u64 IntKind.u64.max (r : Int) = ((Flt.ofw r : Nat) : Int)) := by
    by_cases h : Flt.HI ≤ r
    · rw [if_pos h] at ha
      refine .inl ⟨by rw [ha]; rfl, ?_⟩
      rw [Flt.andNot_hi r hr]; unfold Flt.ofw; rw [if_pos h]
    · rw [if_neg h] at ha
      refine .inr ⟨by rw [ha]; rfl, ?_⟩
      have := Flt.xor_all r hr
      unfold Flt.ofw; rw [if_neg h]; exact this
  clear ha
  generalize Flt.ofw r = o at *
  by_cases c : Flt.rank o = r
  · rw [if_pos c, if_pos c]
    have hc : ((Flt.rank o : Int) != (r : Int)) = false := by rw [bne_eq_false_iff_eq]; omega
    clear c
    rcases facts with ⟨h1, h2⟩ | ⟨h1, h2⟩
    · go_enter Try.func29, Try.ntmps29
      go_wp2_with (first | (go_at_call 25; refine (Rank_any _ (by assumption) _).mono ?_; rintro e w' ⟨rfl, rfl⟩))
      go_ret2
      exact ⟨rfl, rfl⟩
    · go_enter Try.func29, Try.ntmps29
      go_wp2_with (first | (go_at_call 25; refine (Rank_any _ (by assumption) _).mono ?_; rintro e w' ⟨rfl, rfl⟩))
      go_ret2
      exact ⟨rfl, rfl⟩
  · rw [if_neg c, if_neg c]
    have hc : ((Flt.rank o : Int) != (r : Int)) = true := by rw [bne_iff_ne]; omega
    clear c
    rcases facts with ⟨h1, h2⟩ | ⟨h1, h2⟩
    · go_enter Try.func29, Try.ntmps29
      go_wp2_with (first | (go_at_call 25; refine (Rank_any _ (by assumption) _).mono ?_; rintro e w' ⟨rfl, rfl⟩))
      go_ret2
      exact ⟨rfl, rfl⟩
    · go_enter Try.func29, Try.ntmps29
      go_wp2_with (first | (go_at_call 25; refine (Rank_any _ (by assumption) _).mono ?_; rintro e w' ⟨rfl, rfl⟩))
      go_ret2
      exact ⟨rfl, rfl⟩

theorem nan_cut (t : Nat) : Flt.isNaN ((t % 2) * 2 ^ 63 + 9218868437227405312 + 1 + (t / 2) % (2 ^ 52 - 1)) = true := by
  unfold Flt.isNaN
  rw [Flt.rg_def]
  have := Flt.INF_eq
  have hy : t / 2 % (2 ^ 52 - 1) < 2 ^ 52 - 1 := Nat.mod_lt _ (by decide)
  generalize t / 2 % (2 ^ 52 - 1) = y at *
  rcases Nat.mod_two_eq_zero_or_one t with h | h
  · rw [h]; exact decide_eq_true (by omega)
  · rw [h]; exact decide_eq_true (by omega)
theorem run_add_nan {P : Program} (t : TypeId) (a b : Nat) (h : Ieee.double.add a b = none) (w : World) : ∃ v, Flt.isNaN v = true ∧ (binOp .add t (.float .f64 a) (.float .f64 b)).run P w = .ok (.float .f64 v) w.drew := by
  refine ⟨_, nan_cut (w.tape w.drawn (.nanBits .f64 a b)), ?_⟩
  have h' : FloatKind.f64.format.add a b = none := h
  simp only [binOp, Op.floatArith, h']
  rfl
/-- the value of a sum -/
def addv (a b : Nat) : Nat := match Ieee.double.add a b with | some r => Flt.val r | none => Flt.NAN
theorem Add_any (a b : Nat) (w : World) : Calls Try.prog 35 #[.float .f64 a, .float .f64 b] w fun e w' => e = .returned (.float .f64 (addv a b)) ∧ ∃ n, w' = w.drewN n := by
  cases h : Ieee.double.add a b with
  | some r =>
    have hr := run_float_arith (P := Try.prog) w .add 37 .f64 a b r h
    have hv : Hid (addv a b = Flt.val r) := Lib.hid (by unfold addv; rw [h])
    clear h
    go_enter Try.func35, Try.ntmps35
    go_wp2_with (first | (go_at_call 21; refine (Value_any _ _).mono ?_; rintro e w' ⟨rfl, rfl⟩))
    go_ret
    exact ⟨by rw [hv.out]; rfl, 0, rfl⟩
  | none =>
    obtain ⟨v, hn, hr⟩ := run_add_nan (P := Try.prog) 37 a b h w
    have hv : Hid (addv a b = Flt.val v) := Lib.hid (by unfold addv Flt.val; rw [h, if_pos hn])
    clear h hn
    go_enter Try.func35, Try.ntmps35
    go_wp2_with (first | (go_at_call 21; refine (Value_any _ _).mono ?_; rintro e w' ⟨rfl, rfl⟩))
    go_ret
    exact ⟨by rw [hv.out]; rfl, 1, rfl⟩

/-! ### the next key -/
theorem Inf_pos (w : World) : Calls Try.prog 44 #[.int .i64 1] w fun e w' => e = .returned (.float .f64 Flt.INF) ∧ w = w' := by
  go_enter Try.func44, Try.ntmps44
  go_wp2
  go_ret
  exact ⟨rfl, rfl⟩
theorem IsInf_pos (x : Nat) (w : World) : Calls Try.prog 42 #[.float .f64 x, .int .i64 1] w fun e w' => e = .returned (.bool (FloatKind.f64.format.order x 9218868437227405311 == some .gt)) ∧ w = w' := by
  go_enter Try.func42, Try.ntmps42
  go_wp2
  go_ret
  exact ⟨rfl, rfl⟩

theorem Copysign_one (w : World) : Calls Try.prog 48 #[.float .f64 1, .float .f64 Flt.INF] w fun e w' => e = .returned (.float .f64 1) ∧ w = w' := by
  have h1 : bits .andNot .u64 1 9223372036854775808 = 1 := by decide +kernel
  have h2 : bits .and .u64 9218868437227405312 9223372036854775808 = 0 := by decide +kernel
  have h3 : bits .or .u64 1 0 = 1 := by decide +kernel
  go_enter Try.func48, Try.ntmps48
  go_wp2
  go_ret
  exact ⟨rfl, rfl⟩

/-- the word above a key's, of numbers that are not the greatest -/
def nxt (k : Nat) : Nat := if k = 0 then 1 else if k < Flt.HI then k + 1 else k - 1
theorem cmp_facts (k : Nat) (hn : Flt.isNaN k = false) (h : k < Flt.INF ∨ (Flt.HI < k ∧ Flt.ok k)) :
    (FloatKind.f64.format.order k Flt.INF == some .eq) = false ∧ (FloatKind.f64.format.order Flt.INF k == some .gt) = true ∧
    (FloatKind.f64.format.order k 0 == some .eq) = decide (k = 0) ∧ (FloatKind.f64.format.order k 0 == some .gt) = decide (0 < k ∧ k < Flt.HI) ∧
    (FloatKind.f64.format.order k 9218868437227405311 == some .gt) = false := by
  have hH := Flt.HI_eq
  have hI := Flt.INF_eq
  have nI : Flt.isNaN Flt.INF = false := by decide
  have n0 : Flt.isNaN 0 = false := by decide
  have n1 : Flt.isNaN 9218868437227405311 = false := by decide
  have sI : Flt.sv Flt.INF = 9218868437227405312 := by decide
  have s0 : Flt.sv 0 = 0 := by decide
  have s1 : Flt.sv 9218868437227405311 = 9218868437227405311 := by decide
  have e1 := Flt.eql_eq k Flt.INF
  have e2 := Flt.gtr_eq Flt.INF k
  have e3 := Flt.eql_eq k 0
  have e4 := Flt.gtr_eq k 0
  have e5 := Flt.gtr_eq k 9218868437227405311
  have hs : (k < Flt.HI ∧ Flt.sv k = k ∧ k < Flt.INF) ∨ (Flt.HI < k ∧ Flt.sv k < 0) := by
    rcases h with h | h
    · exact .inl ⟨by omega, Flt.sv_lo (by omega), h⟩
    · exact .inr ⟨h.1, by rw [Flt.sv_hi (by omega) h.2]; omega⟩
  refine ⟨?_, ?_, ?_, ?_, ?_⟩
  · refine e1.trans ?_
    rw [hn, nI, sI]
    simp only [Bool.not_false, Bool.true_and]
    exact decide_eq_false (by omega)
  · refine e2.trans ?_
    rw [hn, nI, sI]
    simp only [Bool.not_false, Bool.true_and]
    exact decide_eq_true (by omega)
  · refine e3.trans ?_
    rw [hn, n0, s0]
    simp only [Bool.not_false, Bool.true_and]
    rw [Bool.eq_iff_iff]; simp only [decide_eq_true_eq]; omega
  · refine e4.trans ?_
    rw [hn, n0, s0]
    simp only [Bool.not_false, Bool.true_and]
    rw [Bool.eq_iff_iff]; simp only [decide_eq_true_eq]; omega
  · refine e5.trans ?_
    rw [hn, n1, s1]
    simp only [Bool.not_false, Bool.true_and]
    exact decide_eq_false (by omega)

theorem Nextafter_any (k : Nat) (hn : Flt.isNaN k = false) (h : k < Flt.INF ∨ (Flt.HI < k ∧ Flt.ok k)) (w : World) :
    Calls Try.prog 43 #[.float .f64 k, .float .f64 Flt.INF] w fun e w' => e = .returned (.float .f64 (nxt k)) ∧ w = w' := by
  obtain ⟨f1, f2, f3, f4, _⟩ := cmp_facts k hn h
  have nI : Flt.isNaN Flt.INF = false := by decide
  have hH := Flt.HI_eq
  have hI := Flt.INF_eq
  by_cases h0 : k = 0
  · subst h0
    rw [show decide ((0 : Nat) = 0) = true from rfl] at f3
    clear f4 h hH hI
    go_enter Try.func43, Try.ntmps43
    go_wp2_with (first | (go_at_call 40; refine (IsNaN_any _ _).mono ?_; rintro e w' ⟨rfl, rfl⟩) | (go_at_call 48; refine (Copysign_one _).mono ?_; rintro e w' ⟨rfl, rfl⟩))
    go_ret
    exact ⟨rfl, rfl⟩
  · rw [decide_eq_false h0] at f3
    by_cases h1 : k < Flt.HI
    · rw [decide_eq_true ⟨by omega, h1⟩] at f4
      have hx : Hid (nxt k = (IntKind.u64.wrap ((k : Int) + 1)).toNat) := Lib.hid (by unfold nxt; rw [if_neg h0, if_pos h1, Flt.wrap_u64]; omega)
      clear h hH hI h0 h1
      go_enter Try.func43, Try.ntmps43
      go_wp2_with (first | (go_at_call 40; refine (IsNaN_any _ _).mono ?_; rintro e w' ⟨rfl, rfl⟩))
      go_ret
      exact ⟨ret_float (by rw [hx.out]), rfl⟩
    · rw [decide_eq_false (by omega)] at f4
      have hx : Hid (nxt k = (IntKind.u64.wrap ((k : Int) - 1)).toNat) := Lib.hid (by
        unfold nxt; rw [if_neg h0, if_neg h1, Flt.wrap_u64]
        rcases h with h | h
        · omega
        · have := h.2; unfold Flt.ok at this; omega)
      clear h hH hI h0 h1
      go_enter Try.func43, Try.ntmps43
      go_wp2_with (first | (go_at_call 40; refine (IsNaN_any _ _).mono ?_; rintro e w' ⟨rfl, rfl⟩))
      go_ret
      exact ⟨ret_float (by rw [hx.out]), rfl⟩

/-- the next key; whether there is one -/
def nextv (x : Nat) : Nat := if Flt.isNaN x = true then 0 else if Flt.key x = Flt.INF then Flt.NAN else Flt.key (nxt (Flt.key x))
theorem Next_any (x : Nat) (hx : Flt.ok x) (w : World) : Calls Try.prog 37 #[.float .f64 x] w fun e w' => e = .returned (.tuple #[.float .f64 (nextv x), .bool (!Flt.isNaN x)]) ∧ w = w' := by
  have hk := Flt.nan_key x
  have hv : nextv x = if Flt.isNaN x = true then 0 else if Flt.key x = Flt.INF then Flt.NAN else Flt.key (nxt (Flt.key x)) := rfl
  cases hn : Flt.isNaN x
  · rw [hn] at hk hv
    have hr := Flt.key_num hn hx
    have hok := Flt.ok_key hx
    by_cases hi : Flt.key x = Flt.INF
    · have hv' : nextv x = Flt.NAN := by rw [hv, if_neg (by decide), if_pos hi]
      rw [hv', show (!false) = true from rfl]
      have hc : (FloatKind.f64.format.order (Flt.key x) 9218868437227405311 == some .gt) = true := by rw [hi]; decide
      clear hv hv' hi hr hok
      go_enter Try.func37, Try.ntmps37
      go_wp2_with (first | (go_at_call 40; refine (IsNaN_any _ _).mono ?_; rintro e w' ⟨rfl, rfl⟩) | (go_at_call 20; refine (Key_any _ _).mono ?_; rintro e w' ⟨rfl, rfl⟩) | (go_at_call 42; refine (IsInf_pos _ _).mono ?_; rintro e w' ⟨rfl, rfl⟩))
      go_ret2
      exact ⟨rfl, rfl⟩
    · have hv' : nextv x = Flt.key (nxt (Flt.key x)) := by rw [hv, if_neg (by decide), if_neg hi]
      rw [hv', show (!false) = true from rfl]
      have hrr : Flt.key x < Flt.INF ∨ (Flt.HI < Flt.key x ∧ Flt.ok (Flt.key x)) := by
        rcases hr with h | h
        · exact .inl (by omega)
        · exact .inr ⟨h.1, hok⟩
      have hc := (cmp_facts _ hk hrr).2.2.2.2
      clear hv hv' hi hr hok
      go_enter Try.func37, Try.ntmps37
      go_wp2_with (first | (go_at_call 40; refine (IsNaN_any _ _).mono ?_; rintro e w' ⟨rfl, rfl⟩) | (go_at_call 20; refine (Key_any _ _).mono ?_; rintro e w' ⟨rfl, rfl⟩) | (go_at_call 42; refine (IsInf_pos _ _).mono ?_; rintro e w' ⟨rfl, rfl⟩) | (go_at_call 44; refine (Inf_pos _).mono ?_; rintro e w' ⟨rfl, rfl⟩) | (go_at_call 43; refine (Nextafter_any _ (by assumption) (by assumption) _).mono ?_; rintro e w' ⟨rfl, rfl⟩))
      go_ret2
      exact ⟨rfl, rfl⟩
  · rw [hn] at hk hv
    rw [if_pos rfl] at hv
    rw [hv, show (!true) = false from rfl]
    clear hv
    go_enter Try.func37, Try.ntmps37
    go_wp2_with (first | (go_at_call 40; refine (IsNaN_any _ _).mono ?_; rintro e w' ⟨rfl, rfl⟩) | (go_at_call 20; refine (Key_any _ _).mono ?_; rintro e w' ⟨rfl, rfl⟩))
    go_ret2
    exact ⟨rfl, rfl⟩

theorem awake_any (w : World) : Calls Try.prog 28 #[] w fun e w' => e = .returned (.bool true) ∧ w = w' := by
  have h0 : Flt.ok 0 := by unfold Flt.ok; decide
  have h1 : Flt.rank 0 = 9223372036854775808 := by decide
  have h2 : Flt.val 4607182418800017408 = 4607182418800017408 := by decide
  go_enter Try.func28, Try.ntmps28
  go_wp2_with (first | (go_at_call 25; refine (Rank_any _ (by assumption) _).mono ?_; rintro e w' ⟨rfl, rfl⟩) | (go_at_call 21; refine (Value_any _ _).mono ?_; rintro e w' ⟨rfl, rfl⟩) | (go_at_call 27; refine (Same_any _ _ _).mono ?_; rintro e w' ⟨rfl, rfl⟩))
  go_ret
  exact ⟨rfl, rfl⟩

end Go.Proofs.Ytacpmijbmllelaa
