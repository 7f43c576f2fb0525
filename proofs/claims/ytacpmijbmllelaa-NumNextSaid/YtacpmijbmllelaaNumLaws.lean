/- The walks of the statements of layer 1. -/
import Derived.Test.YtacpmijbmllelaaNumWalks
import Derived.Outline
import Derived.Below
import Derived.WalkSmall
namespace Go.Proofs.Ytacpmijbmllelaa
open Go.RowKit
theorem ok_of {x : Nat} (h : (Lit.float .f64 x).wf = true) : Flt.ok x := by simpa [Lit.wf, Flt.ok] using h
theorem ok_u64 {r : Int} (h : (Lit.int .u64 r).wf = true) : ∃ n : Nat, r = (n : Int) ∧ Flt.ok n := by
  simp only [Lit.wf, Bool.and_eq_true, decide_eq_true_eq] at h
  have h1 : (0 : Int) ≤ r := h.1
  have h2 : r ≤ 18446744073709551615 := h.2
  exact ⟨r.toNat, by omega, by unfold Flt.ok; omega⟩
theorem key_same (x : Nat) : ((Flt.key x : Int) == (Flt.key (Flt.key x) : Int)) = true := by rw [Flt.key_key]; simp
theorem val_same (x : Nat) : ((Flt.val x : Int) == (Flt.val (Flt.val x) : Int)) = true := by rw [Flt.val_val]; simp

theorem NumKeys_walk (x : Nat) (hx0 : (Lit.float .f64 x).wf = true) (w : World) : Calls Try.prog 7 #[.float .f64 x] w fun e w' => e = .returned (.bool true) ∧ Below w.heap.size w w' := by
  have hx := ok_of hx0
  clear hx0
  have e1 := key_same x
  have e2 := val_same x
  have hb := Lib.hid (Below.refl w.heap.size w)
  go_enter Try.func7, Try.ntmps7
  go_wp2_with (first | (go_at_call 20; refine (Key_any _ _).mono ?_; rintro e w' ⟨rfl, rfl⟩) | (go_at_call 21; refine (Value_any _ _).mono ?_; rintro e w' ⟨rfl, rfl⟩) | (go_at_call 23; refine (rKey_any _ (by assumption) _).mono ?_; rintro e w' ⟨rfl, rfl⟩) | (go_at_call 24; refine (rValue_any _ _).mono ?_; rintro e w' ⟨rfl, rfl⟩) | (go_at_call 25; refine (Rank_any _ (by assumption) _).mono ?_; rintro e w' ⟨rfl, rfl⟩) | (go_at_call 26; refine (rRank_any _ (by assumption) _).mono ?_; rintro e w' ⟨rfl, rfl⟩) | (go_at_call 27; refine (Same_any _ _ _).mono ?_; rintro e w' ⟨rfl, rfl⟩) | (go_at_call 28; refine (awake_any _).mono ?_; rintro e w' ⟨rfl, rfl⟩))
  go_ret
  exact ⟨rfl, hb.out⟩

theorem cmpI_lt (a b : Nat) : decide (cmpI (Flt.rank a) (Flt.rank b) < 0) = Flt.less a b := by
  unfold cmpI Flt.less
  rw [Bool.eq_iff_iff]; simp only [decide_eq_true_eq]
  split
  · omega
  · split <;> omega
theorem cmpI_gt (a b : Nat) : decide (0 < cmpI (Flt.rank a) (Flt.rank b)) = Flt.less b a := by
  unfold cmpI Flt.less
  rw [Bool.eq_iff_iff]; simp only [decide_eq_true_eq]
  split
  · omega
  · split <;> omega
theorem alike_rank (a b : Nat) (ha : Flt.ok a) (hb : Flt.ok b) : ((Flt.key a : Int) == (Flt.key b : Int)) = decide (Flt.rank a = Flt.rank b) := by
  rw [Bool.eq_iff_iff]; simp only [decide_eq_true_eq, beq_iff_eq]
  constructor
  · intro h; exact Flt.rank_of_key (by omega)
  · intro h; have := Flt.rank_inj ha hb h; omega

theorem NumOrders_walk (a : Nat) (ha0 : (Lit.float .f64 a).wf = true) (b : Nat) (hb0 : (Lit.float .f64 b).wf = true) (w : World) : Calls Try.prog 9 #[.float .f64 a, .float .f64 b] w fun e w' => e = .returned (.bool true) ∧ Below w.heap.size w w' := by
  have ha := ok_of ha0
  have hb := ok_of hb0
  clear ha0 hb0
  have hB := Lib.hid (Below.refl w.heap.size w)
  have hk := alike_rank a b ha hb
  rcases Nat.lt_trichotomy (Flt.rank a) (Flt.rank b) with h | h | h
  · have c1 : cmpI (Flt.rank a) (Flt.rank b) = -1 := by unfold cmpI; rw [if_pos (by omega)]
    have c2 : Flt.less a b = true := by unfold Flt.less; exact decide_eq_true h
    have c3 : Flt.less b a = false := by unfold Flt.less; exact decide_eq_false (by omega)
    have c4 : decide (Flt.rank a < Flt.rank b) = true := decide_eq_true h
    have c5 : ((Flt.key a : Int) == (Flt.key b : Int)) = false := by rw [hk]; exact decide_eq_false (by omega)
    clear hk h
    go_enter Try.func9, Try.ntmps9
    go_wp2_with (first | (go_at_call 31; refine (Compare_any _ _ (by assumption) (by assumption) _).mono ?_; rintro e w' ⟨rfl, rfl⟩) | (go_at_call 32; refine (rLess_any _ _ (by assumption) (by assumption) _).mono ?_; rintro e w' ⟨rfl, rfl⟩) | (go_at_call 25; refine (Rank_any _ (by assumption) _).mono ?_; rintro e w' ⟨rfl, rfl⟩) | (go_at_call 33; refine (rAlike_any _ _ (by assumption) (by assumption) _).mono ?_; rintro e w' ⟨rfl, rfl⟩) | (go_at_call 27; refine (Same_any _ _ _).mono ?_; rintro e w' ⟨rfl, rfl⟩) | (go_at_call 34; refine (rSame_any _ _ _).mono ?_; rintro e w' ⟨rfl, rfl⟩) | (go_at_call 28; refine (awake_any _).mono ?_; rintro e w' ⟨rfl, rfl⟩))
    go_ret
    exact ⟨rfl, hB.out⟩
  · have c1 : cmpI (Flt.rank a) (Flt.rank b) = 0 := by unfold cmpI; rw [if_neg (by omega), if_neg (by omega)]
    have c2 : Flt.less a b = false := by unfold Flt.less; exact decide_eq_false (by omega)
    have c3 : Flt.less b a = false := by unfold Flt.less; exact decide_eq_false (by omega)
    have c4 : decide (Flt.rank a < Flt.rank b) = false := decide_eq_false (by omega)
    have c5 : ((Flt.key a : Int) == (Flt.key b : Int)) = true := by rw [hk]; exact decide_eq_true h
    clear hk h
    go_enter Try.func9, Try.ntmps9
    go_wp2_with (first | (go_at_call 31; refine (Compare_any _ _ (by assumption) (by assumption) _).mono ?_; rintro e w' ⟨rfl, rfl⟩) | (go_at_call 32; refine (rLess_any _ _ (by assumption) (by assumption) _).mono ?_; rintro e w' ⟨rfl, rfl⟩) | (go_at_call 25; refine (Rank_any _ (by assumption) _).mono ?_; rintro e w' ⟨rfl, rfl⟩) | (go_at_call 33; refine (rAlike_any _ _ (by assumption) (by assumption) _).mono ?_; rintro e w' ⟨rfl, rfl⟩) | (go_at_call 27; refine (Same_any _ _ _).mono ?_; rintro e w' ⟨rfl, rfl⟩) | (go_at_call 34; refine (rSame_any _ _ _).mono ?_; rintro e w' ⟨rfl, rfl⟩) | (go_at_call 28; refine (awake_any _).mono ?_; rintro e w' ⟨rfl, rfl⟩))
    go_ret
    exact ⟨rfl, hB.out⟩
  · have c1 : cmpI (Flt.rank a) (Flt.rank b) = 1 := by unfold cmpI; rw [if_neg (by omega), if_pos (by omega)]
    have c2 : Flt.less a b = false := by unfold Flt.less; exact decide_eq_false (by omega)
    have c3 : Flt.less b a = true := by unfold Flt.less; exact decide_eq_true h
    have c4 : decide (Flt.rank a < Flt.rank b) = false := decide_eq_false (by omega)
    have c5 : ((Flt.key a : Int) == (Flt.key b : Int)) = false := by rw [hk]; exact decide_eq_false (by omega)
    clear hk h
    go_enter Try.func9, Try.ntmps9
    go_wp2_with (first | (go_at_call 31; refine (Compare_any _ _ (by assumption) (by assumption) _).mono ?_; rintro e w' ⟨rfl, rfl⟩) | (go_at_call 32; refine (rLess_any _ _ (by assumption) (by assumption) _).mono ?_; rintro e w' ⟨rfl, rfl⟩) | (go_at_call 25; refine (Rank_any _ (by assumption) _).mono ?_; rintro e w' ⟨rfl, rfl⟩) | (go_at_call 33; refine (rAlike_any _ _ (by assumption) (by assumption) _).mono ?_; rintro e w' ⟨rfl, rfl⟩) | (go_at_call 27; refine (Same_any _ _ _).mono ?_; rintro e w' ⟨rfl, rfl⟩) | (go_at_call 34; refine (rSame_any _ _ _).mono ?_; rintro e w' ⟨rfl, rfl⟩) | (go_at_call 28; refine (awake_any _).mono ?_; rintro e w' ⟨rfl, rfl⟩))
    go_ret
    exact ⟨rfl, hB.out⟩

theorem NumRanks_walk (r0 : Int) (hr0 : (Lit.int .u64 r0).wf = true) (x : Nat) (hx0 : (Lit.float .f64 x).wf = true) (w : World) : Calls Try.prog 8 #[.int .u64 r0, .float .f64 x] w fun e w' => e = .returned (.bool true) ∧ Below w.heap.size w w' := by
  have hx := ok_of hx0
  obtain ⟨r, rfl, hr⟩ := ok_u64 hr0
  clear hx0 hr0
  have hB := Lib.hid (Below.refl w.heap.size w)
  have hrk := Flt.ok_rank hx
  have e1 := Flt.ofw_rank hx
  have e2 := Flt.rank_key x
  have hok := Flt.ok_ofw hr
  by_cases c : Flt.rank (Flt.ofw r) = r
  · have hk : Hid (Flt.ofw r = Flt.key (Flt.ofw r)) := Lib.hid (Flt.rank_same c hok)
    have c2 : ((Flt.rank (Flt.ofw r) : Int) == (r : Int)) = true := by rw [beq_iff_eq]; omega
    have c3 : ((Flt.ofw r : Int) == (Flt.key (Flt.ofw r) : Int)) = true := by rw [beq_iff_eq]; exact congrArg Int.ofNat hk.out
    clear hk
    go_enter Try.func8, Try.ntmps8
    go_wp2_with (first | (go_at_call 29; refine (Of_any _ (by assumption) _).mono ?_; rintro e w' ⟨rfl, rfl⟩) | (go_at_call 23; refine (rKey_any _ (by assumption) _).mono ?_; rintro e w' ⟨rfl, rfl⟩) | (go_at_call 25; refine (Rank_any _ (by assumption) _).mono ?_; rintro e w' ⟨rfl, rfl⟩) | (go_at_call 26; refine (rRank_any _ (by assumption) _).mono ?_; rintro e w' ⟨rfl, rfl⟩) | (go_at_call 27; refine (Same_any _ _ _).mono ?_; rintro e w' ⟨rfl, rfl⟩) | (go_at_call 28; refine (awake_any _).mono ?_; rintro e w' ⟨rfl, rfl⟩))
    go_ret
    exact ⟨rfl, hB.out⟩
  · have c2 : ((Flt.rank (Flt.ofw r) : Int) != (r : Int)) = true := by rw [bne_iff_ne]; omega
    have hH := Flt.HI_eq
    have hr' : r < 18446744073709551616 := hr
    by_cases h : Flt.HI ≤ r
    · have ho : Hid (Flt.ofw r = Flt.rg r) := Lib.hid (by unfold Flt.ofw; rw [if_pos h])
      have hz : (IntKind.u64.wrap ((r : Int) - 9223372036854775808)).toNat = Flt.ofw r := by rw [ho.out, Flt.rg_ge r h hr, Flt.wrap_u64]; omega
      have hl : decide ((r : Int) < 9223372036854775808) = false := decide_eq_false (by omega)
      clear h hH hr'
      go_enter Try.func8, Try.ntmps8
      go_wp2_with (first | (go_at_call 29; refine (Of_any _ (by assumption) _).mono ?_; rintro e w' ⟨rfl, rfl⟩) | (go_at_call 23; refine (rKey_any _ (by assumption) _).mono ?_; rintro e w' ⟨rfl, rfl⟩) | (go_at_call 25; refine (Rank_any _ (by assumption) _).mono ?_; rintro e w' ⟨rfl, rfl⟩) | (go_at_call 26; refine (rRank_any _ (by assumption) _).mono ?_; rintro e w' ⟨rfl, rfl⟩) | (go_at_call 27; refine (Same_any _ _ _).mono ?_; rintro e w' ⟨rfl, rfl⟩) | (go_at_call 28; refine (awake_any _).mono ?_; rintro e w' ⟨rfl, rfl⟩))
      go_ret
      exact ⟨rfl, hB.out⟩
    · have hz : (IntKind.u64.wrap (18446744073709551615 - (r : Int))).toNat = Flt.ofw r := by unfold Flt.ofw; rw [if_neg h, Flt.wrap_u64]; omega
      have hl : decide ((r : Int) < 9223372036854775808) = true := decide_eq_true (by omega)
      clear h hH hr'
      go_enter Try.func8, Try.ntmps8
      go_wp2_with (first | (go_at_call 29; refine (Of_any _ (by assumption) _).mono ?_; rintro e w' ⟨rfl, rfl⟩) | (go_at_call 23; refine (rKey_any _ (by assumption) _).mono ?_; rintro e w' ⟨rfl, rfl⟩) | (go_at_call 25; refine (Rank_any _ (by assumption) _).mono ?_; rintro e w' ⟨rfl, rfl⟩) | (go_at_call 26; refine (rRank_any _ (by assumption) _).mono ?_; rintro e w' ⟨rfl, rfl⟩) | (go_at_call 27; refine (Same_any _ _ _).mono ?_; rintro e w' ⟨rfl, rfl⟩) | (go_at_call 28; refine (awake_any _).mono ?_; rintro e w' ⟨rfl, rfl⟩))
      go_ret
      exact ⟨rfl, hB.out⟩

/-! ### the next key -/
theorem next_law (x : Nat) (hx : Flt.ok x) (hn : Flt.isNaN x = false) : Flt.ok (nextv x) ∧ Flt.key (nextv x) = nextv x ∧ Flt.less x (nextv x) = true ∧ ∀ y, Flt.ok y → Flt.less x y = true → Flt.less y (nextv x) = false := by
  have hH := Flt.HI_eq
  have hI := Flt.INF_eq
  have hN := Flt.NAN_eq
  have hk := Flt.key_num hn hx
  have hok := Flt.ok_key hx
  have hok' : Flt.key x < 18446744073709551616 := hok
  have hv : nextv x = if Flt.key x = Flt.INF then Flt.NAN else Flt.key (nxt (Flt.key x)) := by unfold nextv; rw [hn, if_neg (by decide)]
  have gap : ∀ y, Flt.ok y → Flt.rank y ≠ 9223372036854775807 := fun y hy => Flt.rank_gap hy
  have fin : ∀ n, Flt.ok n → nextv x = Flt.key n → Flt.rank x < Flt.rank n → (∀ y, Flt.ok y → Flt.rank x < Flt.rank y → ¬ Flt.rank y < Flt.rank n) → Flt.ok (nextv x) ∧ Flt.key (nextv x) = nextv x ∧ Flt.less x (nextv x) = true ∧ ∀ y, Flt.ok y → Flt.less x y = true → Flt.less y (nextv x) = false := by
    intro n h1 h2 h3 h4
    rw [h2]
    refine ⟨Flt.ok_key h1, Flt.key_key n, ?_, ?_⟩
    · unfold Flt.less; rw [Flt.rank_key]; exact decide_eq_true h3
    · intro y hy hl
      unfold Flt.less at hl ⊢
      rw [Flt.rank_key]
      exact decide_eq_false (h4 y hy (of_decide_eq_true hl))
  by_cases hi : Flt.key x = Flt.INF
  · rw [if_pos hi] at hv
    have hkN : Flt.key Flt.NAN = Flt.NAN := by decide
    have hr : Flt.rank x = 18442240474082181120 := by rw [Flt.rank_lo (by omega), hi, hI, hH]
    have hrN : Flt.rank Flt.NAN = 18444492273895866369 := by decide
    refine fin Flt.NAN (by unfold Flt.ok; omega) (by rw [hv, hkN]) (by omega) ?_
    intro y hy h1 h2
    cases hny : Flt.isNaN y
    · have hky := Flt.key_num hny hy
      by_cases c : Flt.HI ≤ Flt.key y
      · have := Flt.rank_hi c; omega
      · have := Flt.rank_lo c; omega
    · have := Flt.rank_nan hny; omega
  · rw [if_neg hi] at hv
    have hnx : nxt (Flt.key x) = if Flt.key x = 0 then 1 else if Flt.key x < Flt.HI then Flt.key x + 1 else Flt.key x - 1 := rfl
    have small : ∀ n, n ≤ Flt.INF → n ≠ 0 → Flt.key n = n := by
      intro n h1 h2
      have hg : Flt.rg n = n := Flt.rg_lt n (by omega)
      have hnn : Flt.isNaN n = false := by unfold Flt.isNaN; rw [hg]; exact decide_eq_false (by omega)
      unfold Flt.key Flt.val; rw [hg, if_neg h2, hnn]; rfl
    have great : ∀ n, Flt.HI < n → n ≤ Flt.HI + Flt.INF → Flt.key n = n := by
      intro n h1 h2
      have hg : Flt.rg n = n - Flt.HI := Flt.rg_ge n (by omega) (by unfold Flt.ok; omega)
      have hnn : Flt.isNaN n = false := by unfold Flt.isNaN; rw [hg]; exact decide_eq_false (by omega)
      unfold Flt.key Flt.val; rw [hg, if_neg (by omega), hnn]; rfl
    rcases hk with hk | hk
    · have hr := Flt.rank_lo (x := x) (by omega)
      have hx1 : nxt (Flt.key x) = Flt.key x + 1 := by
        rw [hnx]; by_cases z : Flt.key x = 0
        · rw [if_pos z, z]
        · rw [if_neg z, if_pos (by omega)]
      have hkn := small (Flt.key x + 1) (by omega) (by omega)
      have hrn : Flt.rank (Flt.key x + 1) = Flt.key x + 1 + Flt.HI := by rw [Flt.rank_lo (by omega), hkn]
      rw [hx1] at hv
      exact fin (Flt.key x + 1) (by unfold Flt.ok; omega) hv (by omega) (fun y _ h1 h2 => by omega)
    · have hr := Flt.rank_hi (x := x) (by omega)
      have hx1 : nxt (Flt.key x) = Flt.key x - 1 := by rw [hnx, if_neg (by omega), if_neg (by omega)]
      rw [hx1] at hv
      by_cases z : Flt.key x - 1 = Flt.HI
      · have hkn : Flt.key (Flt.key x - 1) = 0 := by rw [z]; decide
        have hrn : Flt.rank (Flt.key x - 1) = Flt.HI := by rw [Flt.rank_lo (by omega), hkn]; omega
        refine fin (Flt.key x - 1) (by unfold Flt.ok; omega) hv (by omega) ?_
        intro y hy h1 h2
        have := gap y hy
        omega
      · have hkn := great (Flt.key x - 1) (by omega) (by omega)
        have hrn : Flt.rank (Flt.key x - 1) = 18446744073709551615 - (Flt.key x - 1) := by rw [Flt.rank_hi (by omega), hkn]
        exact fin (Flt.key x - 1) (by unfold Flt.ok; omega) hv (by omega) (fun y _ h1 h2 => by omega)

theorem NumNext_walk (x : Nat) (hx0 : (Lit.float .f64 x).wf = true) (y : Nat) (hy0 : (Lit.float .f64 y).wf = true) (w : World) : Calls Try.prog 12 #[.float .f64 x, .float .f64 y] w fun e w' => e = .returned (.bool true) ∧ Below w.heap.size w w' := by
  have hx := ok_of hx0
  have hy := ok_of hy0
  clear hx0 hy0
  have hB := Lib.hid (Below.refl w.heap.size w)
  have hk := Flt.nan_key x
  cases hn : Flt.isNaN x
  · obtain ⟨n1, n2, n3, n4⟩ := next_law x hx hn
    have n5 := n4 y hy
    clear n4
    have n2' : ((nextv x : Int) != (Flt.key (nextv x) : Int)) = false := by rw [n2]; simp
    clear n2
    cases hl : Flt.less x y
    · clear n5
      go_enter Try.func12, Try.ntmps12
      go_wp2_with (first | (go_at_call 37; refine (Next_any _ (by assumption) _).mono ?_; rintro e w' ⟨rfl, rfl⟩) | (go_at_call 23; refine (rKey_any _ (by assumption) _).mono ?_; rintro e w' ⟨rfl, rfl⟩) | (go_at_call 38; refine (Nan_any _ _).mono ?_; rintro e w' ⟨rfl, rfl⟩) | (go_at_call 32; refine (rLess_any _ _ (by assumption) (by assumption) _).mono ?_; rintro e w' ⟨rfl, rfl⟩) | (go_at_call 27; refine (Same_any _ _ _).mono ?_; rintro e w' ⟨rfl, rfl⟩) | (go_at_call 28; refine (awake_any _).mono ?_; rintro e w' ⟨rfl, rfl⟩))
      go_ret
      exact ⟨rfl, hB.out⟩
    · have n6 := n5 hl
      clear n5
      go_enter Try.func12, Try.ntmps12
      go_wp2_with (first | (go_at_call 37; refine (Next_any _ (by assumption) _).mono ?_; rintro e w' ⟨rfl, rfl⟩) | (go_at_call 23; refine (rKey_any _ (by assumption) _).mono ?_; rintro e w' ⟨rfl, rfl⟩) | (go_at_call 38; refine (Nan_any _ _).mono ?_; rintro e w' ⟨rfl, rfl⟩) | (go_at_call 32; refine (rLess_any _ _ (by assumption) (by assumption) _).mono ?_; rintro e w' ⟨rfl, rfl⟩) | (go_at_call 27; refine (Same_any _ _ _).mono ?_; rintro e w' ⟨rfl, rfl⟩) | (go_at_call 28; refine (awake_any _).mono ?_; rintro e w' ⟨rfl, rfl⟩))
      go_ret
      exact ⟨rfl, hB.out⟩
  · have hv : nextv x = 0 := by unfold nextv; rw [hn, if_pos rfl]
    go_enter Try.func12, Try.ntmps12
    go_wp2_with (first | (go_at_call 37; refine (Next_any _ (by assumption) _).mono ?_; rintro e w' ⟨rfl, rfl⟩) | (go_at_call 23; refine (rKey_any _ (by assumption) _).mono ?_; rintro e w' ⟨rfl, rfl⟩) | (go_at_call 38; refine (Nan_any _ _).mono ?_; rintro e w' ⟨rfl, rfl⟩) | (go_at_call 32; refine (rLess_any _ _ (by assumption) (by assumption) _).mono ?_; rintro e w' ⟨rfl, rfl⟩) | (go_at_call 27; refine (Same_any _ _ _).mono ?_; rintro e w' ⟨rfl, rfl⟩) | (go_at_call 28; refine (awake_any _).mono ?_; rintro e w' ⟨rfl, rfl⟩))
    go_ret
    exact ⟨rfl, hB.out⟩

/-! ### sums -/
theorem betw_less (x lo hi : Nat) : betw x lo hi = (!Flt.less x lo && Flt.less x hi) := by
  unfold betw
  rw [cmpI_lt]
  congr 1
  rw [← cmpI_gt, Bool.eq_iff_iff]
  simp only [decide_eq_true_eq, Bool.not_eq_true', decide_eq_false_iff_not]
  omega
theorem addv_comm (a b : Nat) : addv a b = addv b a := by unfold addv; rw [Flt.add_comm]
theorem addv_minus (a : Nat) (ha : Flt.ok a) : addv a 9223372036854775808 = Flt.val a := by
  unfold addv
  cases h : Flt.isNaN a
  · have := Flt.add_minus a (by unfold Flt.ok at ha; omega) h
    rw [show (9223372036854775808 : Nat) = Flt.HI from rfl, this]
  · have : Ieee.double.add a 9223372036854775808 = none := by
      obtain ⟨t, e⟩ := Flt.read_nan a h
      unfold Ieee.Format.add; rw [e]; rfl
    rw [this]; unfold Flt.val; rw [if_pos h]

theorem NumSums_walk (a : Nat) (ha0 : (Lit.float .f64 a).wf = true) (b : Nat) (hb0 : (Lit.float .f64 b).wf = true) (x : Nat) (hx0 : (Lit.float .f64 x).wf = true) (w : World) : Calls Try.prog 11 #[.float .f64 a, .float .f64 b, .float .f64 x] w fun e w' => e = .returned (.bool true) ∧ Below w.heap.size w w' := by
  have ha := ok_of ha0
  have hb := ok_of hb0
  have hx := ok_of hx0
  clear ha0 hb0 hx0
  have hB := Lib.hid (Below.refl w.heap.size w)
  have e1 : ((addv a b : Int) == (addv b a : Int)) = true := by rw [addv_comm]; simp
  have e2 : ((addv a 9223372036854775808 : Int) == (Flt.val a : Int)) = true := by rw [addv_minus a ha]; simp
  have b1 : betw x a a = false := by rw [betw_less]; cases Flt.less x a <;> rfl
  cases b2 : betw x a b
  · go_enter Try.func11, Try.ntmps11
    go_wp2_with (first | (go_at_call 35; refine (Add_any _ _ _).mono ?_; rintro e w' ⟨rfl, n, rfl⟩) | (go_at_call 21; refine (Value_any _ _).mono ?_; rintro e w' ⟨rfl, rfl⟩) | (go_at_call 36; refine (Between_any _ _ _ (by assumption) (by assumption) (by assumption) _).mono ?_; rintro e w' ⟨rfl, rfl⟩) | (go_at_call 27; refine (Same_any _ _ _).mono ?_; rintro e w' ⟨rfl, rfl⟩) | (go_at_call 28; refine (awake_any _).mono ?_; rintro e w' ⟨rfl, rfl⟩))
    go_ret
    exact ⟨rfl, by repeat (first | exact hB.out | apply below_drewN)⟩
  · have b3 : betw x b a = false := by
      rw [betw_less] at b2 ⊢
      revert b2
      cases Flt.less x a <;> cases Flt.less x b <;> decide
    go_enter Try.func11, Try.ntmps11
    go_wp2_with (first | (go_at_call 35; refine (Add_any _ _ _).mono ?_; rintro e w' ⟨rfl, n, rfl⟩) | (go_at_call 21; refine (Value_any _ _).mono ?_; rintro e w' ⟨rfl, rfl⟩) | (go_at_call 36; refine (Between_any _ _ _ (by assumption) (by assumption) (by assumption) _).mono ?_; rintro e w' ⟨rfl, rfl⟩) | (go_at_call 27; refine (Same_any _ _ _).mono ?_; rintro e w' ⟨rfl, rfl⟩) | (go_at_call 28; refine (awake_any _).mono ?_; rintro e w' ⟨rfl, rfl⟩))
    go_ret
    exact ⟨rfl, by repeat (first | exact hB.out | apply below_drewN)⟩

theorem NumAdds_walk (a : Nat) (ha0 : (Lit.float .f64 a).wf = true) (b : Nat) (hb0 : (Lit.float .f64 b).wf = true) (c : Nat) (hc0 : (Lit.float .f64 c).wf = true) (w : World) : Calls Try.prog 10 #[.float .f64 a, .float .f64 b, .float .f64 c] w fun e w' => e = .returned (.bool true) ∧ Below w.heap.size w w' := by
  have ha := ok_of ha0
  have hb := ok_of hb0
  have hc := ok_of hc0
  clear ha0 hb0 hc0
  have hB := Lib.hid (Below.refl w.heap.size w)
  obtain ⟨s, ws, hr, hv, hws⟩ : ∃ s ws, (binOp .add 37 (.float .f64 a) (.float .f64 b)).run Try.prog w = .ok (.float .f64 s) ws ∧ addv a b = Flt.val s ∧ ∃ n, ws = w.drewN n := by
    cases h : Ieee.double.add a b with
    | some r => exact ⟨r, w, run_float_arith (P := Try.prog) w .add 37 .f64 a b r h, by unfold addv; rw [h], 0, rfl⟩
    | none =>
      obtain ⟨v, hn, hr⟩ := run_add_nan (P := Try.prog) 37 a b h w
      exact ⟨v, w.drew, hr, by unfold addv Flt.val; rw [h, if_pos hn], 1, rfl⟩
  obtain ⟨n, rfl⟩ := hws
  have e1 : ((addv a b : Int) == (Flt.val s : Int)) = true := by rw [hv]; simp
  clear hv
  have hbl := betw_less a b c
  cases l1 : Flt.less a b
  · cases l2 : Flt.less a c
    · rw [l1, l2] at hbl
      have hbl' : (betw a b c == false) = true := by rw [hbl]; rfl
      go_enter Try.func10, Try.ntmps10
      go_wp2_with (first | (go_at_call 35; refine (Add_any _ _ _).mono ?_; rintro e w' ⟨rfl, n, rfl⟩) | (go_at_call 24; refine (rValue_any _ _).mono ?_; rintro e w' ⟨rfl, rfl⟩) | (go_at_call 36; refine (Between_any _ _ _ (by assumption) (by assumption) (by assumption) _).mono ?_; rintro e w' ⟨rfl, rfl⟩) | (go_at_call 32; refine (rLess_any _ _ (by assumption) (by assumption) _).mono ?_; rintro e w' ⟨rfl, rfl⟩) | (go_at_call 28; refine (awake_any _).mono ?_; rintro e w' ⟨rfl, rfl⟩))
      go_ret
      exact ⟨rfl, by repeat (first | exact hB.out | apply below_drewN)⟩
    · rw [l1, l2] at hbl
      have hbl' : (betw a b c == true) = true := by rw [hbl]; rfl
      go_enter Try.func10, Try.ntmps10
      go_wp2_with (first | (go_at_call 35; refine (Add_any _ _ _).mono ?_; rintro e w' ⟨rfl, n, rfl⟩) | (go_at_call 24; refine (rValue_any _ _).mono ?_; rintro e w' ⟨rfl, rfl⟩) | (go_at_call 36; refine (Between_any _ _ _ (by assumption) (by assumption) (by assumption) _).mono ?_; rintro e w' ⟨rfl, rfl⟩) | (go_at_call 32; refine (rLess_any _ _ (by assumption) (by assumption) _).mono ?_; rintro e w' ⟨rfl, rfl⟩) | (go_at_call 28; refine (awake_any _).mono ?_; rintro e w' ⟨rfl, rfl⟩))
      go_ret
      exact ⟨rfl, by repeat (first | exact hB.out | apply below_drewN)⟩
  · rw [l1] at hbl
    have hbl' : (betw a b c == false) = true := by rw [hbl]; rfl
    go_enter Try.func10, Try.ntmps10
    go_wp2_with (first | (go_at_call 35; refine (Add_any _ _ _).mono ?_; rintro e w' ⟨rfl, n, rfl⟩) | (go_at_call 24; refine (rValue_any _ _).mono ?_; rintro e w' ⟨rfl, rfl⟩) | (go_at_call 36; refine (Between_any _ _ _ (by assumption) (by assumption) (by assumption) _).mono ?_; rintro e w' ⟨rfl, rfl⟩) | (go_at_call 32; refine (rLess_any _ _ (by assumption) (by assumption) _).mono ?_; rintro e w' ⟨rfl, rfl⟩) | (go_at_call 28; refine (awake_any _).mono ?_; rintro e w' ⟨rfl, rfl⟩))
    go_ret
    exact ⟨rfl, by repeat (first | exact hB.out | apply below_drewN)⟩

end Go.Proofs.Ytacpmijbmllelaa
