/- The walks of package num, of its reference and of what they call in package math and cmp. -/
import Derived.Test.YtbmcbhpkefjhbaaChecked
import Derived.Test.YtbmcbhpkefjhbaaFlt
import Derived.WalkKit
import Derived.Laws.Cover2
import Derived.Laws.FloatArith
import Derived.WalkLawsBesides
import Derived.Deep.QuietTactic
import Derived.BigQuiet
import Derived.Lib.Hide
namespace Go.Proofs.Ytbmcbhpkefjhbaa
open Go.RowKit
@[go_sem] theorem run_bits (x : Nat) (w : World) : (callFunc 57 #[.float .f64 x]).run Try.prog w = .ok (.value (.int .u64 (x : Int))) w := by kernel_rfl
@[go_sem] theorem run_frombits (x : Int) (w : World) : (callFunc 31 #[.int .u64 x]).run Try.prog w = .ok (.value (.float .f64 x.toNat)) w := by kernel_rfl

theorem ret_bool {a b : Bool} (h : a = b) : Ending.returned (.bool a) = .returned (.bool b) := by rw [h]
theorem ret_int {k : IntKind} {a b : Int} (h : a = b) : Ending.returned (.int k a) = .returned (.int k b) := by rw [h]
theorem ret_float {k : FloatKind} {a b : Nat} (h : a = b) : Ending.returned (.float k a) = .returned (.float k b) := by rw [h]

theorem neq_self (x : Nat) : (FloatKind.f64.format.order x x != some .eq) = Flt.isNaN x := by
  have h := Flt.eql_eq x x
  show (!(Ieee.double.order x x == some .eq)) = _
  rw [h]; simp

theorem IsNaN_any (x : Nat) (w : World) : Calls Try.prog 79 #[.float .f64 x] w fun e w' => e = .returned (.bool (Flt.isNaN x)) ∧ w = w' := by
  go_enter Try.func79, Try.ntmps79
  go_wp2
  go_ret
  exact ⟨ret_bool (neq_self x), rfl⟩

theorem Same_any (x y : Nat) (w : World) : Calls Try.prog 54 #[.float .f64 x, .float .f64 y] w fun e w' => e = .returned (.bool ((x : Int) == (y : Int))) ∧ w = w' := by
  go_enter Try.func54, Try.ntmps54
  go_wp2
  go_ret
  exact ⟨rfl, rfl⟩

theorem Value_any (x : Nat) (w : World) : Calls Try.prog 58 #[.float .f64 x] w fun e w' => e = .returned (.float .f64 (Flt.val x)) ∧ w = w' := by
  by_cases h : Flt.isNaN x = true
  · have hv : Flt.val x = Flt.NAN := by unfold Flt.val; rw [if_pos h]
    rw [hv]
    clear hv
    go_enter Try.func58, Try.ntmps58
    go_wp2_with (go_at_call 79; refine (IsNaN_any _ _).mono ?_; rintro e w' ⟨rfl, rfl⟩)
    go_ret
    exact ⟨rfl, rfl⟩
  · have hv : Flt.val x = x := by unfold Flt.val; rw [if_neg h]
    rw [hv]
    clear hv
    have h' : Flt.isNaN x = false := by simpa using h
    clear h
    go_enter Try.func58, Try.ntmps58
    go_wp2_with (go_at_call 79; refine (IsNaN_any _ _).mono ?_; rintro e w' ⟨rfl, rfl⟩)
    go_ret
    exact ⟨rfl, rfl⟩

theorem sv_zero (x : Nat) : (decide (Flt.sv x = Flt.sv 0)) = decide (Flt.rg x = 0) := by
  have h0 : Flt.sv 0 = 0 := by decide
  rw [h0]
  unfold Flt.sv
  by_cases h : Flt.rg x = 0
  · rw [h]; cases Flt.sg x <;> simp
  · have : (if Flt.sg x = true then -(Flt.rg x : Int) else (Flt.rg x : Int)) ≠ 0 := by split <;> omega
    simp [h, this]

theorem nan_rg (x : Nat) (h : Flt.rg x = 0) : Flt.isNaN x = false := by
  unfold Flt.isNaN; rw [h]; decide

theorem eql_zero (x : Nat) : (FloatKind.f64.format.order x 0 == some .eq) = decide (Flt.rg x = 0) := by
  have h := Flt.eql_eq x 0
  show (Ieee.double.order x 0 == some .eq) = _
  rw [h, sv_zero, show Flt.isNaN 0 = false by decide]
  by_cases hz : Flt.rg x = 0
  · rw [nan_rg x hz]; simp
  · simp [hz]

theorem Key_any (x : Nat) (w : World) : Calls Try.prog 90 #[.float .f64 x] w fun e w' => e = .returned (.float .f64 (Flt.key x)) ∧ w = w' := by
  have he := eql_zero x
  by_cases h : Flt.rg x = 0
  · have hv : Flt.key x = 0 := by unfold Flt.key; rw [if_pos h]
    rw [hv]
    have hd : (FloatKind.f64.format.order x 0 == some .eq) = true := by rw [he]; simp [h]
    clear hv he h
    go_enter Try.func90, Try.ntmps90
    go_wp2
    go_ret
    exact ⟨rfl, rfl⟩
  · have hv : Flt.key x = Flt.val x := by unfold Flt.key; rw [if_neg h]
    rw [hv]
    have hd : (FloatKind.f64.format.order x 0 == some .eq) = false := by rw [he]; simp [h]
    clear hv he h
    go_enter Try.func90, Try.ntmps90
    go_wp2_with (go_at_call 58; refine (Value_any _ _).mono ?_; rintro e w' ⟨rfl, rfl⟩)
    go_ret
    exact ⟨rfl, rfl⟩

theorem Nan_any (b : Nat) (w : World) : Calls Try.prog 61 #[.int .u64 (b : Int)] w fun e w' => e = .returned (.bool (Flt.isNaN b)) ∧ w = w' := by
  have hr := Lib.hid (Flt.nan_ref b)
  go_enter Try.func61, Try.ntmps61
  go_wp2
  · have h : (b : Int) / 4503599627370496 % 2048 = 2047 := by assumption
    go_ret
    exact ⟨ret_bool (by rw [hr.out, decide_eq_true h]; rfl), rfl⟩
  · have h : ¬ (b : Int) / 4503599627370496 % 2048 = 2047 := by assumption
    go_ret
    exact ⟨ret_bool (by rw [hr.out, decide_eq_false h]; rfl), rfl⟩

theorem isNaN64_any (a : Int) (w : World) : Calls Try.prog 89 #[.int .u64 a] w fun e w' => e = .returned (.bool false) ∧ w = w' := by
  go_enter Try.func89, Try.ntmps89
  go_wp2
  go_ret
  exact ⟨ret_bool (by simp), rfl⟩

def cmpI (a b : Int) : Int := if a < b then -1 else if b < a then 1 else 0
theorem cmp_any (a b : Int) (w : World) : Calls Try.prog 70 #[.int .u64 a, .int .u64 b] w fun e w' => e = .returned (.int .i64 (cmpI a b)) ∧ w = w' := by
  go_enter Try.func70, Try.ntmps70
  go_wp2_with (first | (go_at_call 89; refine (isNaN64_any _ _).mono ?_; rintro e w' ⟨rfl, rfl⟩))
  all_goals go_ret
  all_goals (refine ⟨ret_int ?_, rfl⟩; unfold cmpI; first | (rw [if_pos (by omega)]) | (rw [if_neg (by omega), if_pos (by omega)]) | (rw [if_neg (by omega), if_neg (by omega)]))

theorem Rank_any (x : Nat) (hx : Flt.ok x) (w : World) : Calls Try.prog 71 #[.float .f64 x] w fun e w' => e = .returned (.int .u64 (Flt.rank x : Int)) ∧ w = w' := by
  have ha := Flt.and_hi _ (Flt.ok_key hx)
  by_cases h : Flt.HI ≤ Flt.key x
  · rw [if_pos h] at ha
    have h1 : (bits BinOp.and IntKind.u64 (Flt.key x : Int) 9223372036854775808 != 0) = true := by rw [ha]; rfl
    have hr := Lib.hid (Flt.rank_hi h)
    have hb := Lib.hid (Flt.xor_all _ (Flt.ok_key hx))
    clear ha h
    go_enter Try.func71, Try.ntmps71
    go_wp2_with (first | (go_at_call 90; refine (Key_any _ _).mono ?_; rintro e w' ⟨rfl, rfl⟩))
    go_ret
    exact ⟨ret_int (by rw [hr.out]; exact hb.out), rfl⟩
  · rw [if_neg h] at ha
    have h1 : (bits BinOp.and IntKind.u64 (Flt.key x : Int) 9223372036854775808 != 0) = false := by rw [ha]; rfl
    have hr := Lib.hid (Flt.rank_lo h)
    have hb := Lib.hid (Flt.or_hi (Flt.key x) (by have := Flt.HI_eq; omega))
    clear ha h
    go_enter Try.func71, Try.ntmps71
    go_wp2_with (first | (go_at_call 90; refine (Key_any _ _).mono ?_; rintro e w' ⟨rfl, rfl⟩))
    go_ret
    exact ⟨ret_int (by rw [hr.out]; exact hb.out), rfl⟩

theorem rValue_any (x : Nat) (w : World) : Calls Try.prog 32 #[.float .f64 x] w fun e w' => e = .returned (.int .u64 (Flt.val x : Int)) ∧ w = w' := by
  by_cases h : Flt.isNaN x = true
  · have hv : Flt.val x = Flt.NAN := by unfold Flt.val; rw [if_pos h]
    rw [hv]
    clear hv
    go_enter Try.func32, Try.ntmps32
    go_wp2_with (go_at_call 61; refine (Nan_any _ _).mono ?_; rintro e w' ⟨rfl, rfl⟩)
    go_ret
    exact ⟨rfl, rfl⟩
  · have hv : Flt.val x = x := by unfold Flt.val; rw [if_neg h]
    rw [hv]
    clear hv
    have h' : Flt.isNaN x = false := by simpa using h
    clear h
    go_enter Try.func32, Try.ntmps32
    go_wp2_with (go_at_call 61; refine (Nan_any _ _).mono ?_; rintro e w' ⟨rfl, rfl⟩)
    go_ret
    exact ⟨rfl, rfl⟩

theorem rKey_any (x : Nat) (hx : Flt.ok x) (w : World) : Calls Try.prog 72 #[.float .f64 x] w fun e w' => e = .returned (.int .u64 (Flt.key x : Int)) ∧ w = w' := by
  have hk := Flt.key_ref x hx
  by_cases h : Flt.val x = 9223372036854775808
  · rw [if_pos h] at hk
    rw [hk]
    have h1 : ((Flt.val x : Int) == 9223372036854775808) = true := by rw [h]; rfl
    clear hk h
    go_enter Try.func72, Try.ntmps72
    go_wp2_with (go_at_call 32; refine (rValue_any _ _).mono ?_; rintro e w' ⟨rfl, rfl⟩)
    go_ret
    exact ⟨rfl, rfl⟩
  · rw [if_neg h] at hk
    rw [hk]
    have h1 : ((Flt.val x : Int) == 9223372036854775808) = false := by rw [beq_eq_false_iff_ne]; omega
    clear hk h
    go_enter Try.func72, Try.ntmps72
    go_wp2_with (go_at_call 32; refine (rValue_any _ _).mono ?_; rintro e w' ⟨rfl, rfl⟩)
    go_ret
    exact ⟨rfl, rfl⟩

theorem rLess_any (a b : Nat) (ha : Flt.ok a) (hb : Flt.ok b) (w : World) : Calls Try.prog 50 #[.float .f64 a, .float .f64 b] w fun e w' => e = .returned (.bool (Flt.less a b)) ∧ w = w' := by
  have hl := Lib.hid (Flt.less_ref a b ha hb)
  cases h1 : Flt.isNaN (Flt.key a)
  · cases h2 : Flt.isNaN (Flt.key b)
    · go_enter Try.func50, Try.ntmps50
      go_wp2_with (first | (go_at_call 72; refine (rKey_any _ (by assumption) _).mono ?_; rintro e w' ⟨rfl, rfl⟩) | (go_at_call 61; refine (Nan_any _ _).mono ?_; rintro e w' ⟨rfl, rfl⟩))
      go_ret
      exact ⟨ret_bool (by rw [hl.out, h1, h2]; rfl), rfl⟩
    · go_enter Try.func50, Try.ntmps50
      go_wp2_with (first | (go_at_call 72; refine (rKey_any _ (by assumption) _).mono ?_; rintro e w' ⟨rfl, rfl⟩) | (go_at_call 61; refine (Nan_any _ _).mono ?_; rintro e w' ⟨rfl, rfl⟩))
      go_ret
      exact ⟨ret_bool (by rw [hl.out, h1, h2]; rfl), rfl⟩
  · go_enter Try.func50, Try.ntmps50
    go_wp2_with (first | (go_at_call 72; refine (rKey_any _ (by assumption) _).mono ?_; rintro e w' ⟨rfl, rfl⟩) | (go_at_call 61; refine (Nan_any _ _).mono ?_; rintro e w' ⟨rfl, rfl⟩))
    go_ret
    exact ⟨ret_bool (by rw [hl.out, h1]; rfl), rfl⟩

theorem rSame_any (x y : Nat) (w : World) : Calls Try.prog 55 #[.float .f64 x, .float .f64 y] w fun e w' => e = .returned (.bool ((x : Int) == (y : Int))) ∧ w = w' := by
  go_enter Try.func55, Try.ntmps55
  go_wp2
  go_ret
  exact ⟨rfl, rfl⟩

theorem rAlike_any (x y : Nat) (hx : Flt.ok x) (hy : Flt.ok y) (w : World) : Calls Try.prog 49 #[.float .f64 x, .float .f64 y] w fun e w' => e = .returned (.bool ((Flt.key x : Int) == (Flt.key y : Int))) ∧ w = w' := by
  go_enter Try.func49, Try.ntmps49
  go_wp2_with (first | (go_at_call 72; refine (rKey_any _ (by assumption) _).mono ?_; rintro e w' ⟨rfl, rfl⟩))
  go_ret
  exact ⟨rfl, rfl⟩

theorem Compare_any (a b : Nat) (ha : Flt.ok a) (hb : Flt.ok b) (w : World) : Calls Try.prog 47 #[.float .f64 a, .float .f64 b] w fun e w' => e = .returned (.int .i64 (cmpI (Flt.rank a) (Flt.rank b))) ∧ w = w' := by
  go_enter Try.func47, Try.ntmps47
  go_wp2_with (first | (go_at_call 71; refine (Rank_any _ (by assumption) _).mono ?_; rintro e w' ⟨rfl, rfl⟩) | (go_at_call 70; refine (cmp_any _ _ _).mono ?_; rintro e w' ⟨rfl, rfl⟩))
  go_ret
  exact ⟨rfl, rfl⟩

/-- whether a key is in a range -/
def betw (x lo hi : Nat) : Bool := decide (cmpI (Flt.rank lo) (Flt.rank x) ≤ 0) && decide (cmpI (Flt.rank x) (Flt.rank hi) < 0)
theorem Between_any (x lo hi : Nat) (hx : Flt.ok x) (hl : Flt.ok lo) (hh : Flt.ok hi) (w : World) : Calls Try.prog 48 #[.float .f64 x, .float .f64 lo, .float .f64 hi] w fun e w' => e = .returned (.bool (betw x lo hi)) ∧ w = w' := by
  by_cases h1 : cmpI (Flt.rank lo) (Flt.rank x) ≤ 0
  · have hb : Hid (betw x lo hi = decide (cmpI (Flt.rank x) (Flt.rank hi) < 0)) := Lib.hid (by unfold betw; rw [decide_eq_true h1]; rfl)
    have h1' : decide (cmpI (Flt.rank lo) (Flt.rank x) ≤ 0) = true := decide_eq_true h1
    clear h1
    go_enter Try.func48, Try.ntmps48
    go_wp2_with (first | (go_at_call 47; refine (Compare_any _ _ (by assumption) (by assumption) _).mono ?_; rintro e w' ⟨rfl, rfl⟩))
    go_ret
    exact ⟨ret_bool (by rw [hb.out]), rfl⟩
  · have hb : Hid (betw x lo hi = false) := Lib.hid (by unfold betw; rw [decide_eq_false h1]; rfl)
    have h1' : decide (cmpI (Flt.rank lo) (Flt.rank x) ≤ 0) = false := decide_eq_false h1
    clear h1
    go_enter Try.func48, Try.ntmps48
    go_wp2_with (first | (go_at_call 47; refine (Compare_any _ _ (by assumption) (by assumption) _).mono ?_; rintro e w' ⟨rfl, rfl⟩))
    go_ret
    exact ⟨ret_bool (by rw [hb.out]), rfl⟩

theorem nan_cut (t : Nat) : Flt.isNaN ((t % 2) * 2 ^ 63 + 9218868437227405312 + 1 + (t / 2) % (2 ^ 52 - 1)) = true := by
  unfold Flt.isNaN
  rw [Flt.rg_def]
  have := Flt.INF_eq
  have hy : t / 2 % (2 ^ 52 - 1) < 2 ^ 52 - 1 := Nat.mod_lt _ (by decide)
  generalize t / 2 % (2 ^ 52 - 1) = y at *
  rcases Nat.mod_two_eq_zero_or_one t with h | h
  · rw [h]; exact decide_eq_true (by omega)
  · rw [h]; exact decide_eq_true (by omega)
theorem run_add_nan {P : Program} (t : TypeId) (a b : Nat) (h : Ieee.double.add a b = none) (w : World) : ∃ v, Flt.isNaN v = true ∧ (binOp .add t (.float .f64 a) (.float .f64 b)).run P w = .ok (.float .f64 v) w.drew := by
  refine ⟨_, nan_cut (w.tape w.drawn (.nanBits .f64 a b)), ?_⟩
  have h' : FloatKind.f64.format.add a b = none := h
  simp only [binOp, Op.floatArith, h']
  rfl
/-- the value of a sum -/
def addv (a b : Nat) : Nat := match Ieee.double.add a b with | some r => Flt.val r | none => Flt.NAN
/-- the word above a key's, of numbers that are not the greatest -/
def nxt (k : Nat) : Nat := if k = 0 then 1 else if k < Flt.HI then k + 1 else k - 1
theorem cmp_facts (k : Nat) (hn : Flt.isNaN k = false) (h : k < Flt.INF ∨ (Flt.HI < k ∧ Flt.ok k)) :
    (FloatKind.f64.format.order k Flt.INF == some .eq) = false ∧ (FloatKind.f64.format.order Flt.INF k == some .gt) = true ∧
    (FloatKind.f64.format.order k 0 == some .eq) = decide (k = 0) ∧ (FloatKind.f64.format.order k 0 == some .gt) = decide (0 < k ∧ k < Flt.HI) ∧
    (FloatKind.f64.format.order k 9218868437227405311 == some .gt) = false := by
  have hH := Flt.HI_eq
  have hI := Flt.INF_eq
  have nI : Flt.isNaN Flt.INF = false := by decide
  have n0 : Flt.isNaN 0 = false := by decide
  have n1 : Flt.isNaN 9218868437227405311 = false := by decide
  have sI : Flt.sv Flt.INF = 9218868437227405312 := by decide
  have s0 : Flt.sv 0 = 0 := by decide
  have s1 : Flt.sv 9218868437227405311 = 9218868437227405311 := by decide
  have e1 := Flt.eql_eq k Flt.INF
  have e2 := Flt.gtr_eq Flt.INF k
  have e3 := Flt.eql_eq k 0
  have e4 := Flt.gtr_eq k 0
  have e5 := Flt.gtr_eq k 9218868437227405311
  have hs : (k < Flt.HI ∧ Flt.sv k = k ∧ k < Flt.INF) ∨ (Flt.HI < k ∧ Flt.sv k < 0) := by
    rcases h with h | h
    · exact .inl ⟨by omega, Flt.sv_lo (by omega), h⟩
    · exact .inr ⟨h.1, by rw [Flt.sv_hi (by omega) h.2]; omega⟩
  refine ⟨?_, ?_, ?_, ?_, ?_⟩
  · refine e1.trans ?_
    rw [hn, nI, sI]
    simp only [Bool.not_false, Bool.true_and]
    exact decide_eq_false (by omega)
  · refine e2.trans ?_
    rw [hn, nI, sI]
    simp only [Bool.not_false, Bool.true_and]
    exact decide_eq_true (by omega)
  · refine e3.trans ?_
    rw [hn, n0, s0]
    simp only [Bool.not_false, Bool.true_and]
    rw [Bool.eq_iff_iff]; simp only [decide_eq_true_eq]; omega
  · refine e4.trans ?_
    rw [hn, n0, s0]
    simp only [Bool.not_false, Bool.true_and]
    rw [Bool.eq_iff_iff]; simp only [decide_eq_true_eq]; omega
  · refine e5.trans ?_
    rw [hn, n1, s1]
    simp only [Bool.not_false, Bool.true_and]
    exact decide_eq_false (by omega)

/-- the next key; whether there is one -/
def nextv (x : Nat) : Nat := if Flt.isNaN x = true then 0 else if Flt.key x = Flt.INF then Flt.NAN else Flt.key (nxt (Flt.key x))
end Go.Proofs.Ytbmcbhpkefjhbaa
