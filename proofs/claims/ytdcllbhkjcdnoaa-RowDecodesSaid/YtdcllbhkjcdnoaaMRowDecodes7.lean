/- Put together by wip/prune.py out of this claim's texts. -/
import Derived.BigQuiet
import Derived.Deep.QuietTactic
import Derived.Laws.Cover2
import Derived.Laws.FloatArith
import Derived.Lib.Hide
import Derived.Test.YtdcllbhkjcdnoaaChecked
import Derived.WalkKit
import Derived.WalkLawsBesides
import Derived.Test.YtdcllbhkjcdnoaaMRowDecodes4
import Derived.Test.YtdcllbhkjcdnoaaMRowDecodes5
import Derived.Test.YtdcllbhkjcdnoaaMRowDecodes6
namespace Go.Proofs.Ytdcllbhkjcdnoaa
open Go.RowKit
@[go_sem] theorem run_bits (x : Nat) (w : World) : (callFunc 70 #[.float .f64 x]).run Try.prog w = .ok (.value (.int .u64 (x : Int))) w := by kernel_rfl
@[go_sem] theorem run_frombits (x : Int) (w : World) : (callFunc 78 #[.int .u64 x]).run Try.prog w = .ok (.value (.float .f64 x.toNat)) w := by kernel_rfl
theorem ret_bool {a b : Bool} (h : a = b) : Ending.returned (.bool a) = .returned (.bool b) := by rw [h]
theorem ret_int {k : IntKind} {a b : Int} (h : a = b) : Ending.returned (.int k a) = .returned (.int k b) := by rw [h]
theorem neq_self (x : Nat) : (FloatKind.f64.format.order x x != some .eq) = Flt.isNaN x := by
  have h := Flt.eql_eq x x
  show (!(Ieee.double.order x x == some .eq)) = _
  rw [h]; simp
theorem IsNaN_any (x : Nat) (w : World) : Calls Try.prog 89 #[.float .f64 x] w fun e w' => e = .returned (.bool (Flt.isNaN x)) ∧ w = w' := by
  go_enter Try.func89, Try.ntmps89
  go_wp2
  go_ret
  exact ⟨ret_bool (neq_self x), rfl⟩
theorem Same_any (x y : Nat) (w : World) : Calls Try.prog 67 #[.float .f64 x, .float .f64 y] w fun e w' => e = .returned (.bool ((x : Int) == (y : Int))) ∧ w = w' := by
  go_enter Try.func67, Try.ntmps67
  go_wp2
  go_ret
  exact ⟨rfl, rfl⟩
theorem Value_any (x : Nat) (w : World) : Calls Try.prog 68 #[.float .f64 x] w fun e w' => e = .returned (.float .f64 (Flt.val x)) ∧ w = w' := by
  by_cases h : Flt.isNaN x = true
  · have hv : Flt.val x = Flt.NAN := by unfold Flt.val; rw [if_pos h]
    rw [hv]
    clear hv
    go_enter Try.func68, Try.ntmps68
    go_wp2_with (go_at_call 89; refine (IsNaN_any _ _).mono ?_; rintro e w' ⟨rfl, rfl⟩)
    go_ret
    exact ⟨rfl, rfl⟩
  · have hv : Flt.val x = x := by unfold Flt.val; rw [if_neg h]
    rw [hv]
    clear hv
    have h' : Flt.isNaN x = false := by simpa using h
    clear h
    go_enter Try.func68, Try.ntmps68
    go_wp2_with (go_at_call 89; refine (IsNaN_any _ _).mono ?_; rintro e w' ⟨rfl, rfl⟩)
    go_ret
    exact ⟨rfl, rfl⟩
theorem sv_zero (x : Nat) : (decide (Flt.sv x = Flt.sv 0)) = decide (Flt.rg x = 0) := by
  have h0 : Flt.sv 0 = 0 := by decide
  rw [h0]
  unfold Flt.sv
  by_cases h : Flt.rg x = 0
  · rw [h]; cases Flt.sg x <;> simp
  · have : (if Flt.sg x = true then -(Flt.rg x : Int) else (Flt.rg x : Int)) ≠ 0 := by split <;> omega
    simp [h, this]
theorem nan_rg (x : Nat) (h : Flt.rg x = 0) : Flt.isNaN x = false := by
  unfold Flt.isNaN; rw [h]; decide
theorem eql_zero (x : Nat) : (FloatKind.f64.format.order x 0 == some .eq) = decide (Flt.rg x = 0) := by
  have h := Flt.eql_eq x 0
  show (Ieee.double.order x 0 == some .eq) = _
  rw [h, sv_zero, show Flt.isNaN 0 = false by decide]
  by_cases hz : Flt.rg x = 0
  · rw [nan_rg x hz]; simp
  · simp [hz]
theorem Key_any (x : Nat) (w : World) : Calls Try.prog 69 #[.float .f64 x] w fun e w' => e = .returned (.float .f64 (Flt.key x)) ∧ w = w' := by
  have he := eql_zero x
  by_cases h : Flt.rg x = 0
  · have hv : Flt.key x = 0 := by unfold Flt.key; rw [if_pos h]
    rw [hv]
    have hd : (FloatKind.f64.format.order x 0 == some .eq) = true := by rw [he]; simp [h]
    clear hv he h
    go_enter Try.func69, Try.ntmps69
    go_wp2
    go_ret
    exact ⟨rfl, rfl⟩
  · have hv : Flt.key x = Flt.val x := by unfold Flt.key; rw [if_neg h]
    rw [hv]
    have hd : (FloatKind.f64.format.order x 0 == some .eq) = false := by rw [he]; simp [h]
    clear hv he h
    go_enter Try.func69, Try.ntmps69
    go_wp2_with (go_at_call 68; refine (Value_any _ _).mono ?_; rintro e w' ⟨rfl, rfl⟩)
    go_ret
    exact ⟨rfl, rfl⟩
theorem Nan_any (b : Nat) (w : World) : Calls Try.prog 90 #[.int .u64 (b : Int)] w fun e w' => e = .returned (.bool (Flt.isNaN b)) ∧ w = w' := by
  have hr := Lib.hid (Flt.nan_ref b)
  go_enter Try.func90, Try.ntmps90
  go_wp2
  · have h : (b : Int) / 4503599627370496 % 2048 = 2047 := by assumption
    go_ret
    exact ⟨ret_bool (by rw [hr.out, decide_eq_true h]; rfl), rfl⟩
  · have h : ¬ (b : Int) / 4503599627370496 % 2048 = 2047 := by assumption
    go_ret
    exact ⟨ret_bool (by rw [hr.out, decide_eq_false h]; rfl), rfl⟩
theorem rValue_any (x : Nat) (w : World) : Calls Try.prog 72 #[.float .f64 x] w fun e w' => e = .returned (.int .u64 (Flt.val x : Int)) ∧ w = w' := by
  by_cases h : Flt.isNaN x = true
  · have hv : Flt.val x = Flt.NAN := by unfold Flt.val; rw [if_pos h]
    rw [hv]
    clear hv
    go_enter Try.func72, Try.ntmps72
    go_wp2_with (go_at_call 90; refine (Nan_any _ _).mono ?_; rintro e w' ⟨rfl, rfl⟩)
    go_ret
    exact ⟨rfl, rfl⟩
  · have hv : Flt.val x = x := by unfold Flt.val; rw [if_neg h]
    rw [hv]
    clear hv
    have h' : Flt.isNaN x = false := by simpa using h
    clear h
    go_enter Try.func72, Try.ntmps72
    go_wp2_with (go_at_call 90; refine (Nan_any _ _).mono ?_; rintro e w' ⟨rfl, rfl⟩)
    go_ret
    exact ⟨rfl, rfl⟩
theorem rKey_any (x : Nat) (hx : Flt.ok x) (w : World) : Calls Try.prog 71 #[.float .f64 x] w fun e w' => e = .returned (.int .u64 (Flt.key x : Int)) ∧ w = w' := by
  have hk := Flt.key_ref x hx
  by_cases h : Flt.val x = 9223372036854775808
  · rw [if_pos h] at hk
    rw [hk]
    have h1 : ((Flt.val x : Int) == 9223372036854775808) = true := by rw [h]; rfl
    clear hk h
    go_enter Try.func71, Try.ntmps71
    go_wp2_with (go_at_call 72; refine (rValue_any _ _).mono ?_; rintro e w' ⟨rfl, rfl⟩)
    go_ret
    exact ⟨rfl, rfl⟩
  · rw [if_neg h] at hk
    rw [hk]
    have h1 : ((Flt.val x : Int) == 9223372036854775808) = false := by rw [beq_eq_false_iff_ne]; omega
    clear hk h
    go_enter Try.func71, Try.ntmps71
    go_wp2_with (go_at_call 72; refine (rValue_any _ _).mono ?_; rintro e w' ⟨rfl, rfl⟩)
    go_ret
    exact ⟨rfl, rfl⟩
theorem rSame_any (x y : Nat) (w : World) : Calls Try.prog 44 #[.float .f64 x, .float .f64 y] w fun e w' => e = .returned (.bool ((x : Int) == (y : Int))) ∧ w = w' := by
  go_enter Try.func44, Try.ntmps44
  go_wp2
  go_ret
  exact ⟨rfl, rfl⟩
end Go.Proofs.Ytdcllbhkjcdnoaa
namespace Go.Proofs.Ytdcllbhkjcdnoaa.P
open Go.RowKit Go.Proofs.Ytdcllbhkjcdnoaa Go.Proofs.YtdcllbhkjcdnoaaW.PrintWords Go.Proofs.YtdcllbhkjcdnoaaW.PrintLast
theorem drawn0 {w w' : World} (h : w = w') : Drawn0 w w' := ⟨0, by subst h; rfl⟩
def num_Same.f (a0 a1 : Nat) : Option Bool := some ((a0 : Int) == (a1 : Int))
theorem num_Same.calls (a0 a1 : Nat) (r : Bool) (w : World) (h : num_Same.f a0 a1 = some r) : Calls Try.prog 67 #[.float .f64 a0, .float .f64 a1] w fun e w' => e = .returned (.bool r) ∧ Drawn0 w w' := by
  injection h with h; subst h
  exact (Same_any a0 a1 w).mono (fun e w' h => ⟨h.1, drawn0 h.2⟩)
def num_Value.f (a0 : Nat) : Option Nat := some (Flt.val a0)
theorem num_Value.calls (a0 : Nat) (r : Nat) (w : World) (h : num_Value.f a0 = some r) : Calls Try.prog 68 #[.float .f64 a0] w fun e w' => e = .returned (.float .f64 r) ∧ Drawn0 w w' := by
  injection h with h; subst h
  exact (Value_any a0 w).mono (fun e w' h => ⟨h.1, drawn0 h.2⟩)
def num_Key.f (a0 : Nat) : Option Nat := some (Flt.key a0)
theorem num_Key.calls (a0 : Nat) (r : Nat) (w : World) (h : num_Key.f a0 = some r) : Calls Try.prog 69 #[.float .f64 a0] w fun e w' => e = .returned (.float .f64 r) ∧ Drawn0 w w' := by
  injection h with h; subst h
  exact (Key_any a0 w).mono (fun e w' h => ⟨h.1, drawn0 h.2⟩)
def humusref01_Same.f (a0 a1 : Nat) : Option Bool := some ((a0 : Int) == (a1 : Int))
theorem humusref01_Same.calls (a0 a1 : Nat) (r : Bool) (w : World) (h : humusref01_Same.f a0 a1 = some r) : Calls Try.prog 44 #[.float .f64 a0, .float .f64 a1] w fun e w' => e = .returned (.bool r) ∧ Drawn0 w w' := by
  injection h with h; subst h
  exact (rSame_any a0 a1 w).mono (fun e w' h => ⟨h.1, drawn0 h.2⟩)
def humusref01_Value.f (a0 : Nat) : Option Int := some (Flt.val a0 : Int)
theorem humusref01_Value.calls (a0 : Nat) (r : Int) (w : World) (h : humusref01_Value.f a0 = some r) : Calls Try.prog 72 #[.float .f64 a0] w fun e w' => e = .returned (.int .u64 r) ∧ Drawn0 w w' := by
  injection h with h; subst h
  exact (rValue_any a0 w).mono (fun e w' h => ⟨h.1, drawn0 h.2⟩)
def humusref01_Key.f (a0 : Nat) : Option Int := if a0 < 18446744073709551616 then some (Flt.key a0 : Int) else none
theorem humusref01_Key.calls (a0 : Nat) (r : Int) (w : World) (h : humusref01_Key.f a0 = some r) : Calls Try.prog 71 #[.float .f64 a0] w fun e w' => e = .returned (.int .u64 r) ∧ Drawn0 w w' := by
  unfold humusref01_Key.f at h
  split at h
  · rename_i hx
    injection h with h; subst h
    exact (rKey_any a0 hx w).mono (fun e w' h => ⟨h.1, drawn0 h.2⟩)
  · cases h
end Go.Proofs.Ytdcllbhkjcdnoaa.P
namespace Go.Proofs.Ytdcllbhkjcdnoaa.P
open Go.RowKit Go.Proofs.YtdcllbhkjcdnoaaW.PrintWords Go.Proofs.YtdcllbhkjcdnoaaW.PrintLast Go.Proofs.YtdcllbhkjcdnoaaW.PrintMore
attribute [local go_sem] max2_int min2_int max_two min_two max_three min_three max_four min_four   -- for this text's walks alone
attribute [local go_sem] run_store_float
set_option linter.unusedVariables false
set_option linter.unusedSimpArgs false
def humusref01_List.l0 : Nat → List Nat → List Nat → Int → Option (Bool)
  | 0,_,_,_ => none
  | k + 1,x0,x1,x5 => if x5 < (x0.length : Int) then (if 0 ≤ x5 then (if x5 < (x1.length : Int) then ((humusref01_Same.f (rdF x0 x5) (rdF x1 x5)).bind fun t208 => (if t208 = true then (humusref01_List.l0 k x0 x1 (wrap64 (x5 + 1))) else (some false))) else (none)) else (none)) else (some true)
def humusref01_List.f (k : Nat) (l0 : List Nat) (l1 : List Nat) : Option (Bool):=if (l0.length : Int) = (l1.length : Int) then (humusref01_List.l0 k l0 l1 0) else (some false)
set_option maxHeartbeats 8000000 in
set_option maxRecDepth 100000 in
theorem humusref01_List.calls (k : Nat) (A0 : Option Addr) (c0 : Nat) (l0 : List Nat) (A1 : Option Addr) (c1 : Nat) (l1 : List Nat) (r : Bool) (w : World) (hr0 : Kd.C Kd.f64 w A0 l0.length l0) (hc0 : l0.length ≤ c0) (hr1 : Kd.C Kd.f64 w A1 l1.length l1) (hc1 : l1.length ≤ c1) (h : humusref01_List.f k l0 l1 = some r) :
    Calls Try.prog 76 #[.slice A0 l0.length c0,.slice A1 l1.length c1] w fun e w' => e = .returned (.bool r) ∧ Drawn0 w w':=by
  have HR0:=Aside0.mk hr0
  have HC0:=Aside0.mk hc0
  clear hr0 hc0
  have HR1:=Aside0.mk hr1
  have HC1:=Aside0.mk hc1
  clear hr1 hc1
  have H : (if (l0.length : Int) = (l1.length : Int) then (humusref01_List.l0 k l0 l1 0) else (some false)) = some r:=h
  clear h
  by_cases c3 : (l0.length : Int) = (l1.length : Int)
  · rw [if_pos c3] at H
    have c3b0 : ((l0.length : Int) == (l1.length : Int)) = true:=beq_iff_eq.mpr c3
    have c3b1 : ((l0.length : Int) != (l1.length : Int)) = false:=bne_eq_false_iff_eq.mpr c3
    have c3b2 : (l0.length == l1.length) = true:=by first | simpa using c3 | (simp at c3 ⊢;omega)
    clear c3
    have H':=Aside0.mk H
    clear H
    go_enter Try.func76,Try.ntmps76
    go_wp2
    repeat (go_quiet (fail);try go_wp2)
    go_loopg [5] k (fun kq v5 w' => ∃ (x5_1 : Int),v5 = .int .i64 x5_1 ∧ Aside0 (humusref01_List.l0 kq l0 l1 x5_1 = some r) ∧ Aside0 (kq ≤ k) ∧ Drawn0 w w')
    case atStart => exact ⟨(0),(by first | rfl | (simp;done) | (simp [*];done)),H',⟨Nat.le_refl _⟩,by repeat (first | exact Drawn0.refl _ | apply Drawn0.step)⟩
    case round =>
      clear H'
      try clear c1
      try clear p2
      try clear c3
      try clear c3b0
      try clear c3b1
      try clear c3b2
      obtain ⟨x5_1,rfl,HA,HK1,⟨m1,rfl⟩⟩:=hrel
      cases gk with
      | zero => exact absurd HA.out (by simp [humusref01_List.l0])
      | succ k1 =>
        have H:=HA.out
        clear HA
        simp only [humusref01_List.l0] at H
        by_cases c4 : x5_1 < (l0.length : Int)
        · rw [if_pos c4] at H
          have c4b0 : decide (x5_1 < (l0.length : Int)) = true:=decide_eq_true c4
          clear c4
          by_cases c5 : 0 ≤ x5_1
          · rw [if_pos c5] at H
            have c5b0 : decide (0 ≤ x5_1) = true:=decide_eq_true c5
            clear c5
            by_cases c6 : x5_1 < (l1.length : Int)
            · rw [if_pos c6] at H
              have c6b0 : decide (x5_1 < (l1.length : Int)) = true:=decide_eq_true c6
              clear c6
              replace H:=Option.bind_eq_some_iff.mp H
              obtain ⟨t208,A70,H⟩:=H
              replace H : (if t208 = true then (humusref01_List.l0 k1 l0 l1 (wrap64 (x5_1 + 1))) else (some false)) = some r:=H
              have A7:=Aside0.mk A70
              clear A70
              by_cases c8 : t208 = true
              · subst c8
                have H1 : (humusref01_List.l0 k1 l0 l1 (wrap64 (x5_1 + 1))) = some r:=by rw [if_pos rfl] at H;exact H
                clear H
                have H:=H1
                clear H1
                have H':=Aside0.mk H
                clear H
                have p206 : 0 ≤ (x5_1 : Int):=of_decide_eq_true (by first | (with_reducible assumption) | assumption)
                have q206 : x5_1 < (l0.length : Int):=of_decide_eq_true (by first | (with_reducible assumption) | assumption)
                obtain ⟨ad206,e206,hx206_0⟩:=Kd.at_f64 HR0.out x5_1 p206 q206
                cases e206
                replace p206:=eq_true p206
                replace q206:=eq_true q206
                have p207 : 0 ≤ (x5_1 : Int):=of_decide_eq_true (by first | (with_reducible assumption) | assumption)
                have q207 : x5_1 < (l1.length : Int):=of_decide_eq_true (by first | (with_reducible assumption) | assumption)
                obtain ⟨ad207,e207,hx207_0⟩:=Kd.at_f64 HR1.out x5_1 p207 q207
                cases e207
                replace p207:=eq_true p207
                replace q207:=eq_true q207
                go_wp2_with (first | (go_at_call 44;(with_reducible refine (humusref01_Same.calls (rdF l0 x5_1) (rdF l1 x5_1) true _ A7.out).mono ?_);rintro e w' ⟨rfl,⟨nd,rfl⟩⟩;(try first | exact ⟨rfl,_,World.drewN_drewN _ _ _⟩ | exact ⟨rfl,_,Eq.trans (World.drewN_drewN _ _ _) (congrArg (World.drewN _) (Nat.add_assoc _ _ _))⟩)))
                repeat (go_quiet (first | (go_at_call 44;(with_reducible refine (humusref01_Same.calls (rdF l0 x5_1) (rdF l1 x5_1) true _ A7.out).mono ?_);rintro e w' ⟨rfl,⟨nd,rfl⟩⟩;(try first | exact ⟨rfl,_,World.drewN_drewN _ _ _⟩ | exact ⟨rfl,_,Eq.trans (World.drewN_drewN _ _ _) (congrArg (World.drewN _) (Nat.add_assoc _ _ _))⟩)));try go_wp2_with (first | (go_at_call 44;(with_reducible refine (humusref01_Same.calls (rdF l0 x5_1) (rdF l1 x5_1) true _ A7.out).mono ?_);rintro e w' ⟨rfl,⟨nd,rfl⟩⟩;(try first | exact ⟨rfl,_,World.drewN_drewN _ _ _⟩ | exact ⟨rfl,_,Eq.trans (World.drewN_drewN _ _ _) (congrArg (World.drewN _) (Nat.add_assoc _ _ _))⟩))))
                go_roundg k1
                case measure => have:=HK1.out;omega
                case rel => exact ⟨(wrap64 (x5_1 + 1)),(by first | rfl | (simp;done) | (simp [*];done)),H',⟨by have:=HK1.out;omega⟩,by repeat (first | exact Drawn0.refl _ | apply Drawn0.step)⟩
              · replace c8:=Bool.eq_false_iff.mpr c8
                subst c8
                have H1 : (some false) = some r:=by rw [if_neg (show ¬ (false = true) by decide)] at H;exact H
                clear H
                have H:=H1
                clear H1
                obtain rfl:=Option.some.inj H
                have p206 : 0 ≤ (x5_1 : Int):=of_decide_eq_true (by first | (with_reducible assumption) | assumption)
                have q206 : x5_1 < (l0.length : Int):=of_decide_eq_true (by first | (with_reducible assumption) | assumption)
                obtain ⟨ad206,e206,hx206_0⟩:=Kd.at_f64 HR0.out x5_1 p206 q206
                cases e206
                replace p206:=eq_true p206
                replace q206:=eq_true q206
                have p207 : 0 ≤ (x5_1 : Int):=of_decide_eq_true (by first | (with_reducible assumption) | assumption)
                have q207 : x5_1 < (l1.length : Int):=of_decide_eq_true (by first | (with_reducible assumption) | assumption)
                obtain ⟨ad207,e207,hx207_0⟩:=Kd.at_f64 HR1.out x5_1 p207 q207
                cases e207
                replace p207:=eq_true p207
                replace q207:=eq_true q207
                go_wp2_with (first | (go_at_call 44;(with_reducible refine (humusref01_Same.calls (rdF l0 x5_1) (rdF l1 x5_1) false _ A7.out).mono ?_);rintro e w' ⟨rfl,⟨nd,rfl⟩⟩;(try first | exact ⟨rfl,_,World.drewN_drewN _ _ _⟩ | exact ⟨rfl,_,Eq.trans (World.drewN_drewN _ _ _) (congrArg (World.drewN _) (Nat.add_assoc _ _ _))⟩)))
                repeat (go_quiet (first | (go_at_call 44;(with_reducible refine (humusref01_Same.calls (rdF l0 x5_1) (rdF l1 x5_1) false _ A7.out).mono ?_);rintro e w' ⟨rfl,⟨nd,rfl⟩⟩;(try first | exact ⟨rfl,_,World.drewN_drewN _ _ _⟩ | exact ⟨rfl,_,Eq.trans (World.drewN_drewN _ _ _) (congrArg (World.drewN _) (Nat.add_assoc _ _ _))⟩)));try go_wp2_with (first | (go_at_call 44;(with_reducible refine (humusref01_Same.calls (rdF l0 x5_1) (rdF l1 x5_1) false _ A7.out).mono ?_);rintro e w' ⟨rfl,⟨nd,rfl⟩⟩;(try first | exact ⟨rfl,_,World.drewN_drewN _ _ _⟩ | exact ⟨rfl,_,Eq.trans (World.drewN_drewN _ _ _) (congrArg (World.drewN _) (Nat.add_assoc _ _ _))⟩))))
                go_ret
                exact ⟨by first | rfl | (simp;done) | (simp [*];done),by repeat (first | exact Drawn0.refl _ | apply Drawn0.step)⟩
            · rw [if_neg c6] at H
              exact absurd H (by simp)
          · rw [if_neg c5] at H
            exact absurd H (by simp)
        · rw [if_neg c4] at H
          have c4b0 : decide (x5_1 < (l0.length : Int)) = false:=decide_eq_false c4
          clear c4
          obtain rfl:=Option.some.inj H
          go_wp2
          repeat (go_quiet (fail);try go_wp2)
          go_ret
          exact ⟨by first | rfl | (simp;done) | (simp [*];done),by repeat (first | exact Drawn0.refl _ | apply Drawn0.step)⟩
  · rw [if_neg c3] at H
    have c3b0 : ((l0.length : Int) == (l1.length : Int)) = false:=beq_eq_false_iff_ne.mpr c3
    have c3b1 : ((l0.length : Int) != (l1.length : Int)) = true:=bne_iff_ne.mpr c3
    have c3b2 : (l0.length == l1.length) = false:=by first | simpa using c3 | (simp at c3 ⊢;omega)
    obtain rfl:=Option.some.inj H
    go_enter Try.func76,Try.ntmps76
    go_wp2
    repeat (go_quiet (fail);try go_wp2)
    go_ret
    exact ⟨by first | rfl | (simp;done) | (simp [*];done),by repeat (first | exact Drawn0.refl _ | apply Drawn0.step)⟩
end Go.Proofs.Ytdcllbhkjcdnoaa.P
namespace Go.Proofs.Ytdcllbhkjcdnoaa.P
open Go.RowKit Go.Proofs.YtdcllbhkjcdnoaaW.PrintWords Go.Proofs.YtdcllbhkjcdnoaaW.PrintLast Go.Proofs.YtdcllbhkjcdnoaaW.PrintMore
attribute [local go_sem] max2_int min2_int max_two min_two max_three min_three max_four min_four   -- for this text's walks alone
attribute [local go_sem] run_store_float
set_option linter.unusedVariables false
set_option linter.unusedSimpArgs false
attribute [local go_sem high] eqA28
def humusref04_Same.f (k : Nat) (a0_0 : Nat) (a0_1 : Bool) (l0_2 : List Nat) (a0_3 : Int) (a0_4 : Int) (a0_5 : Int) (a1_0 : Nat) (a1_1 : Bool) (l1_2 : List Nat) (a1_3 : Int) (a1_4 : Int) (a1_5 : Int) : Option (Bool):=(humusref01_Same.f a0_0 a1_0).bind fun t211 => (if t211 = true then (if (a0_1 == a1_1) = true then (if a0_3 = a1_3 then (if (a0_4 == a1_4 && (a0_5 == a1_5)) = true then ((humusref01_List.f k l0_2 l1_2).bind fun t212 => (some t212)) else (some false)) else (some false)) else (some false)) else (some false))
set_option maxHeartbeats 8000000 in
set_option maxRecDepth 100000 in
theorem humusref04_Same.calls (k : Nat) (a0_0 : Nat) (a0_1 : Bool) (A0_2 : Option Addr) (c0_2 : Nat) (l0_2 : List Nat) (a0_3 : Int) (a0_4 : Int) (a0_5 : Int) (a1_0 : Nat) (a1_1 : Bool) (A1_2 : Option Addr) (c1_2 : Nat) (l1_2 : List Nat) (a1_3 : Int) (a1_4 : Int) (a1_5 : Int) (r : Bool) (w : World) (hr0_2 : Kd.C Kd.f64 w A0_2 l0_2.length l0_2) (hc0_2 : l0_2.length ≤ c0_2) (hr1_2 : Kd.C Kd.f64 w A1_2 l1_2.length l1_2) (hc1_2 : l1_2.length ≤ c1_2) (h : humusref04_Same.f k a0_0 a0_1 l0_2 a0_3 a0_4 a0_5 a1_0 a1_1 l1_2 a1_3 a1_4 a1_5 = some r) :
    Calls Try.prog 37 #[.agg #[.float .f64 a0_0,.bool a0_1,.slice A0_2 l0_2.length c0_2,.int .i64 a0_3,.int .i64 a0_4,.int .i64 a0_5],.agg #[.float .f64 a1_0,.bool a1_1,.slice A1_2 l1_2.length c1_2,.int .i64 a1_3,.int .i64 a1_4,.int .i64 a1_5]] w fun e w' => e = .returned (.bool r) ∧ Below w.heap.size w w':=by
  have hu30:=Try.underlying30
  have hu28:=Try.underlying28
  have HR0_2:=Aside0.mk hr0_2
  have HC0_2:=Aside0.mk hc0_2
  clear hr0_2 hc0_2
  have HR1_2:=Aside0.mk hr1_2
  have HC1_2:=Aside0.mk hc1_2
  clear hr1_2 hc1_2
  have HB:=Aside0.mk (Below.refl w.heap.size w)
  have H : ((humusref01_Same.f a0_0 a1_0).bind fun t211 => (if t211 = true then (if (a0_1 == a1_1) = true then (if a0_3 = a1_3 then (if (a0_4 == a1_4 && (a0_5 == a1_5)) = true then ((humusref01_List.f k l0_2 l1_2).bind fun t212 => (some t212)) else (some false)) else (some false)) else (some false)) else (some false))) = some r:=h
  clear h
  replace H:=Option.bind_eq_some_iff.mp H
  obtain ⟨t211,A30,H⟩:=H
  replace H : (if t211 = true then (if (a0_1 == a1_1) = true then (if a0_3 = a1_3 then (if (a0_4 == a1_4 && (a0_5 == a1_5)) = true then ((humusref01_List.f k l0_2 l1_2).bind fun t212 => (some t212)) else (some false)) else (some false)) else (some false)) else (some false)) = some r:=H
  have A3:=Aside0.mk A30
  clear A30
  by_cases c4 : t211 = true
  · subst c4
    have H1 : (if (a0_1 == a1_1) = true then (if a0_3 = a1_3 then (if (a0_4 == a1_4 && (a0_5 == a1_5)) = true then ((humusref01_List.f k l0_2 l1_2).bind fun t212 => (some t212)) else (some false)) else (some false)) else (some false)) = some r:=by rw [if_pos rfl] at H;exact H
    clear H
    have H:=H1
    clear H1
    by_cases c5 : (a0_1 == a1_1) = true
    · rw [if_pos c5] at H
      have c5b0 : (a0_1 == a1_1) = true:=c5
      (try (have c5b1 : decide (a0_1 = a1_1) = true:=by simpa using c5))
      (try (have c5b2 : (a0_1 == a1_1) = true:=by simpa using c5))
      clear c5
      by_cases c6 : a0_3 = a1_3
      · rw [if_pos c6] at H
        have c6b0 : (a0_3 == a1_3) = true:=beq_iff_eq.mpr c6
        have c6b1 : (a0_3 != a1_3) = false:=bne_eq_false_iff_eq.mpr c6
        clear c6
        by_cases c7 : (a0_4 == a1_4 && (a0_5 == a1_5)) = true
        · rw [if_pos c7] at H
          have c7b0 : (a0_4 == a1_4 && (a0_5 == a1_5)) = true:=c7
          (try (have c7b1 : decide (a0_4 = a1_4 && (a0_5 == a1_5)) = true:=by simpa using c7))
          (try (have c7b2 : (a0_4 == a1_4 && (a0_5 == a1_5)) = true:=by simpa using c7))
          clear c7
          replace H:=Option.bind_eq_some_iff.mp H
          obtain ⟨t212,A80,H⟩:=H
          replace H : (some t212) = some r:=H
          have A8:=Aside0.mk A80
          clear A80
          obtain rfl:=Option.some.inj H
          go_enter Try.func37,Try.ntmps37
          go_wp2_with (first | ((with_reducible refine gate_dst (N:=2) rfl ?_);refine box_event ?hg (N:=2) ?hd (cs:=#[.float .f64 a0_0,.bool a0_1,.slice A0_2 l0_2.length c0_2,.int .i64 a0_3,.int .i64 a0_4,.int .i64 a0_5]) (t:=30) ?hr ?_;(case hd => rfl);(case hg => rfl);(case hr => first | (go_simp;done) | (go_simp;rfl));intro gb209 hg w9 hbox hb;have n0_:=Aside0.mk (below_step (by repeat (first | (with_reducible first | exact HB.out | apply below_alloc | apply pw_below_drewN | apply below_drew1) | exact HB.out)) hb);have n1_:=Aside0.mk (hbox);have n2_:=Aside0.mk ((by rw [hg];exact (below_size (by repeat (first | (with_reducible first | exact HB.out | apply below_alloc | apply pw_below_drewN | apply below_drew1) | exact HB.out))) : w.heap.size ≤ gb209));have n3_:=Aside0.mk ((by rw [hg];exact (below_size (by repeat (first | (with_reducible first | exact HB.out | apply below_alloc | apply pw_below_drewN | apply below_drew1) | exact HB.out))) : w.heap.size ≤ gb209));clear HB;have HB:=n0_;have BK209:=n1_;have GW209:=n2_;have GE209:=n3_;clear n0_ n1_ n2_ n3_;clear hb hbox hg) | ((with_reducible refine gate_dst (N:=3) rfl ?_);refine box_event ?hg (N:=3) ?hd (cs:=#[.float .f64 a1_0,.bool a1_1,.slice A1_2 l1_2.length c1_2,.int .i64 a1_3,.int .i64 a1_4,.int .i64 a1_5]) (t:=30) ?hr ?_;(case hd => rfl);(case hg => rfl);(case hr => first | (go_simp;done) | (go_simp;rfl));intro gb210 hg w10 hbox hb;have n0_:=Aside0.mk (blk_below (g:=gb209) (o:=.cells #[.float .f64 a0_0,.bool a0_1,.slice A0_2 l0_2.length c0_2,.int .i64 a0_3,.int .i64 a0_4,.int .i64 a0_5] 30 (0,0)) (by (with_reducible repeat (first | refine blk_drewN ?_ _ | refine blk_drew ?_ | refine blk_alloc ?_ _));exact BK209.out) hb);have n1_:=Aside0.mk (below_step (by repeat (first | (with_reducible first | exact HB.out | apply below_alloc | apply pw_below_drewN | apply below_drew1 | refine below_set ?_ GE209.out) | exact HB.out)) hb);have n2_:=Aside0.mk (hbox);have n3_:=Aside0.mk ((by rw [hg];exact (below_size (by repeat (first | (with_reducible first | exact HB.out | apply below_alloc | apply pw_below_drewN | apply below_drew1 | refine below_set ?_ GE209.out) | exact HB.out))) : w.heap.size ≤ gb210));have n4_:=Aside0.mk ((by rw [hg];exact (below_size (by repeat (first | (with_reducible first | exact HB.out | apply below_alloc | apply pw_below_drewN | apply below_drew1 | refine below_set ?_ GE209.out) | exact HB.out))) : w.heap.size ≤ gb210));have n5_:=Aside0.mk ((by rw [hg];exact Nat.ne_of_lt (blk_lt (g:=gb209) (o:=.cells #[.float .f64 a0_0,.bool a0_1,.slice A0_2 l0_2.length c0_2,.int .i64 a0_3,.int .i64 a0_4,.int .i64 a0_5] 30 (0,0)) (by (with_reducible repeat (first | refine blk_drewN ?_ _ | refine blk_drew ?_ | refine blk_alloc ?_ _));exact BK209.out)) : gb209 ≠ gb210));have n6_:=Aside0.mk ((by rw [hg];exact Nat.ne_of_gt (blk_lt (g:=gb209) (o:=.cells #[.float .f64 a0_0,.bool a0_1,.slice A0_2 l0_2.length c0_2,.int .i64 a0_3,.int .i64 a0_4,.int .i64 a0_5] 30 (0,0)) (by (with_reducible repeat (first | refine blk_drewN ?_ _ | refine blk_drew ?_ | refine blk_alloc ?_ _));exact BK209.out)) : gb210 ≠ gb209));clear BK209;clear HB;have BK209:=n0_;have HB:=n1_;have BK210:=n2_;have GW210:=n3_;have GE210:=n4_;have NB209_210:=n5_;have NB210_209:=n6_;clear n0_ n1_ n2_ n3_ n4_ n5_ n6_;clear hb hbox hg;have hnb11:=NB209_210.out;have hnc11:=NB210_209.out;have hcz12_0 : w10.cell? ⟨gb209,0,none⟩ = some (.float .f64 a0_0):=(blk_cell BK209.out 0).trans rfl;have hcz12_1 : w10.cell? ⟨gb209,1,none⟩ = some (.bool a0_1):=(blk_cell BK209.out 1).trans rfl;have hcz12_2 : w10.cell? ⟨gb209,2,none⟩ = some (.slice A0_2 l0_2.length c0_2):=(blk_cell BK209.out 2).trans rfl;have hcz12_3 : w10.cell? ⟨gb209,3,none⟩ = some (.int .i64 a0_3):=(blk_cell BK209.out 3).trans rfl;have hcz12_4 : w10.cell? ⟨gb209,4,none⟩ = some (.int .i64 a0_4):=(blk_cell BK209.out 4).trans rfl;have hcz12_5 : w10.cell? ⟨gb209,5,none⟩ = some (.int .i64 a0_5):=(blk_cell BK209.out 5).trans rfl;have hfz12_0:=blk_frozen BK209.out 0;have hfz12_1:=blk_frozen BK209.out 1;have hfz12_2:=blk_frozen BK209.out 2;have hfz12_3:=blk_frozen BK209.out 3;have hfz12_4:=blk_frozen BK209.out 4;have hfz12_5:=blk_frozen BK209.out 5;have hcz13_0 : w10.cell? ⟨gb210,0,none⟩ = some (.float .f64 a1_0):=(blk_cell BK210.out 0).trans rfl;have hcz13_1 : w10.cell? ⟨gb210,1,none⟩ = some (.bool a1_1):=(blk_cell BK210.out 1).trans rfl;have hcz13_2 : w10.cell? ⟨gb210,2,none⟩ = some (.slice A1_2 l1_2.length c1_2):=(blk_cell BK210.out 2).trans rfl;have hcz13_3 : w10.cell? ⟨gb210,3,none⟩ = some (.int .i64 a1_3):=(blk_cell BK210.out 3).trans rfl;have hcz13_4 : w10.cell? ⟨gb210,4,none⟩ = some (.int .i64 a1_4):=(blk_cell BK210.out 4).trans rfl;have hcz13_5 : w10.cell? ⟨gb210,5,none⟩ = some (.int .i64 a1_5):=(blk_cell BK210.out 5).trans rfl;have hfz13_0:=blk_frozen BK210.out 0;have hfz13_1:=blk_frozen BK210.out 1;have hfz13_2:=blk_frozen BK210.out 2;have hfz13_3:=blk_frozen BK210.out 3;have hfz13_4:=blk_frozen BK210.out 4;have hfz13_5:=blk_frozen BK210.out 5) | ((with_reducible refine gate_callee (f:=44) rfl ?_);refine goesL_ (some 9) rfl rfl Try.func44 (by kernel_rfl) rfl #[.float .f64 a0_0,.float .f64 a1_0] rfl (by (try simp only [List.map_toArray,List.map_cons,List.map_nil]);first | done | rfl | (simp only [List.length_drop,List.length_take];rfl)) ?_;(with_reducible refine (humusref01_Same.calls a0_0 a1_0 true _ A3.out).mono ?_);rintro e w' ⟨rfl,⟨nd,rfl⟩⟩;refine ⟨_,rfl,?_⟩) | (go_at_call 76;(with_reducible refine (humusref01_List.calls k _ _ l0_2 _ _ l1_2 t212 _ ?side1 ?side2 ?side3 ?side4 A8.out).mono ?_);(case side1 => repeat (first | exact (Kd.C_below HR0_2.out (by repeat (first | (with_reducible first | exact HB.out | apply below_alloc | apply pw_below_drewN | apply below_drew1 | refine below_set ?_ GE209.out | refine below_set ?_ GE210.out) | exact HB.out))) | (with_reducible refine Kd.C_alloc ?_ _) | (with_reducible refine Kd.C_drewN ?_ _) | (with_reducible refine Kd.C_drew ?_)));(case side2 => exact HC0_2.out);(case side3 => repeat (first | exact (Kd.C_below HR1_2.out (by repeat (first | (with_reducible first | exact HB.out | apply below_alloc | apply pw_below_drewN | apply below_drew1 | refine below_set ?_ GE209.out | refine below_set ?_ GE210.out) | exact HB.out))) | (with_reducible refine Kd.C_alloc ?_ _) | (with_reducible refine Kd.C_drewN ?_ _) | (with_reducible refine Kd.C_drew ?_)));(case side4 => exact HC1_2.out);rintro e w' ⟨rfl,⟨nd,rfl⟩⟩))
          go_ret
          exact ⟨by first | rfl | (simp [errW_none,errW_some] <;> rfl) | (simp [*,errW_none,errW_some] <;> rfl),by repeat (first | (with_reducible first | exact HB.out | apply below_alloc | apply pw_below_drewN | apply below_drew1 | refine below_set ?_ GE209.out | refine below_set ?_ GE210.out) | exact HB.out)⟩
        · rw [if_neg c7] at H
          have c7b0 : (a0_4 == a1_4 && (a0_5 == a1_5)) = false:=by simpa using c7
          (try (have c7b1 : decide (a0_4 = a1_4 && (a0_5 == a1_5)) = false:=by simpa using c7))
          (try (have c7b2 : (a0_4 == a1_4 && (a0_5 == a1_5)) = false:=by simpa using c7))
          (try (have c7b3 : ¬ (a0_4 = a1_4 && (a0_5 == a1_5)):=by simpa using c7))
          clear c7
          obtain rfl:=Option.some.inj H
          go_enter Try.func37,Try.ntmps37
          go_wp2_with (first | ((with_reducible refine gate_dst (N:=2) rfl ?_);refine box_event ?hg (N:=2) ?hd (cs:=#[.float .f64 a0_0,.bool a0_1,.slice A0_2 l0_2.length c0_2,.int .i64 a0_3,.int .i64 a0_4,.int .i64 a0_5]) (t:=30) ?hr ?_;(case hd => rfl);(case hg => rfl);(case hr => first | (go_simp;done) | (go_simp;rfl));intro gb209 hg w14 hbox hb;have n0_:=Aside0.mk (below_step (by repeat (first | (with_reducible first | exact HB.out | apply below_alloc | apply pw_below_drewN | apply below_drew1) | exact HB.out)) hb);have n1_:=Aside0.mk (hbox);have n2_:=Aside0.mk ((by rw [hg];exact (below_size (by repeat (first | (with_reducible first | exact HB.out | apply below_alloc | apply pw_below_drewN | apply below_drew1) | exact HB.out))) : w.heap.size ≤ gb209));have n3_:=Aside0.mk ((by rw [hg];exact (below_size (by repeat (first | (with_reducible first | exact HB.out | apply below_alloc | apply pw_below_drewN | apply below_drew1) | exact HB.out))) : w.heap.size ≤ gb209));clear HB;have HB:=n0_;have BK209:=n1_;have GW209:=n2_;have GE209:=n3_;clear n0_ n1_ n2_ n3_;clear hb hbox hg) | ((with_reducible refine gate_dst (N:=3) rfl ?_);refine box_event ?hg (N:=3) ?hd (cs:=#[.float .f64 a1_0,.bool a1_1,.slice A1_2 l1_2.length c1_2,.int .i64 a1_3,.int .i64 a1_4,.int .i64 a1_5]) (t:=30) ?hr ?_;(case hd => rfl);(case hg => rfl);(case hr => first | (go_simp;done) | (go_simp;rfl));intro gb210 hg w15 hbox hb;have n0_:=Aside0.mk (blk_below (g:=gb209) (o:=.cells #[.float .f64 a0_0,.bool a0_1,.slice A0_2 l0_2.length c0_2,.int .i64 a0_3,.int .i64 a0_4,.int .i64 a0_5] 30 (0,0)) (by (with_reducible repeat (first | refine blk_drewN ?_ _ | refine blk_drew ?_ | refine blk_alloc ?_ _));exact BK209.out) hb);have n1_:=Aside0.mk (below_step (by repeat (first | (with_reducible first | exact HB.out | apply below_alloc | apply pw_below_drewN | apply below_drew1 | refine below_set ?_ GE209.out) | exact HB.out)) hb);have n2_:=Aside0.mk (hbox);have n3_:=Aside0.mk ((by rw [hg];exact (below_size (by repeat (first | (with_reducible first | exact HB.out | apply below_alloc | apply pw_below_drewN | apply below_drew1 | refine below_set ?_ GE209.out) | exact HB.out))) : w.heap.size ≤ gb210));have n4_:=Aside0.mk ((by rw [hg];exact (below_size (by repeat (first | (with_reducible first | exact HB.out | apply below_alloc | apply pw_below_drewN | apply below_drew1 | refine below_set ?_ GE209.out) | exact HB.out))) : w.heap.size ≤ gb210));have n5_:=Aside0.mk ((by rw [hg];exact Nat.ne_of_lt (blk_lt (g:=gb209) (o:=.cells #[.float .f64 a0_0,.bool a0_1,.slice A0_2 l0_2.length c0_2,.int .i64 a0_3,.int .i64 a0_4,.int .i64 a0_5] 30 (0,0)) (by (with_reducible repeat (first | refine blk_drewN ?_ _ | refine blk_drew ?_ | refine blk_alloc ?_ _));exact BK209.out)) : gb209 ≠ gb210));have n6_:=Aside0.mk ((by rw [hg];exact Nat.ne_of_gt (blk_lt (g:=gb209) (o:=.cells #[.float .f64 a0_0,.bool a0_1,.slice A0_2 l0_2.length c0_2,.int .i64 a0_3,.int .i64 a0_4,.int .i64 a0_5] 30 (0,0)) (by (with_reducible repeat (first | refine blk_drewN ?_ _ | refine blk_drew ?_ | refine blk_alloc ?_ _));exact BK209.out)) : gb210 ≠ gb209));clear BK209;clear HB;have BK209:=n0_;have HB:=n1_;have BK210:=n2_;have GW210:=n3_;have GE210:=n4_;have NB209_210:=n5_;have NB210_209:=n6_;clear n0_ n1_ n2_ n3_ n4_ n5_ n6_;clear hb hbox hg;have hnb16:=NB209_210.out;have hnc16:=NB210_209.out;have hcz17_0 : w15.cell? ⟨gb209,0,none⟩ = some (.float .f64 a0_0):=(blk_cell BK209.out 0).trans rfl;have hcz17_1 : w15.cell? ⟨gb209,1,none⟩ = some (.bool a0_1):=(blk_cell BK209.out 1).trans rfl;have hcz17_2 : w15.cell? ⟨gb209,2,none⟩ = some (.slice A0_2 l0_2.length c0_2):=(blk_cell BK209.out 2).trans rfl;have hcz17_3 : w15.cell? ⟨gb209,3,none⟩ = some (.int .i64 a0_3):=(blk_cell BK209.out 3).trans rfl;have hcz17_4 : w15.cell? ⟨gb209,4,none⟩ = some (.int .i64 a0_4):=(blk_cell BK209.out 4).trans rfl;have hcz17_5 : w15.cell? ⟨gb209,5,none⟩ = some (.int .i64 a0_5):=(blk_cell BK209.out 5).trans rfl;have hfz17_0:=blk_frozen BK209.out 0;have hfz17_1:=blk_frozen BK209.out 1;have hfz17_2:=blk_frozen BK209.out 2;have hfz17_3:=blk_frozen BK209.out 3;have hfz17_4:=blk_frozen BK209.out 4;have hfz17_5:=blk_frozen BK209.out 5;have hcz18_0 : w15.cell? ⟨gb210,0,none⟩ = some (.float .f64 a1_0):=(blk_cell BK210.out 0).trans rfl;have hcz18_1 : w15.cell? ⟨gb210,1,none⟩ = some (.bool a1_1):=(blk_cell BK210.out 1).trans rfl;have hcz18_2 : w15.cell? ⟨gb210,2,none⟩ = some (.slice A1_2 l1_2.length c1_2):=(blk_cell BK210.out 2).trans rfl;have hcz18_3 : w15.cell? ⟨gb210,3,none⟩ = some (.int .i64 a1_3):=(blk_cell BK210.out 3).trans rfl;have hcz18_4 : w15.cell? ⟨gb210,4,none⟩ = some (.int .i64 a1_4):=(blk_cell BK210.out 4).trans rfl;have hcz18_5 : w15.cell? ⟨gb210,5,none⟩ = some (.int .i64 a1_5):=(blk_cell BK210.out 5).trans rfl;have hfz18_0:=blk_frozen BK210.out 0;have hfz18_1:=blk_frozen BK210.out 1;have hfz18_2:=blk_frozen BK210.out 2;have hfz18_3:=blk_frozen BK210.out 3;have hfz18_4:=blk_frozen BK210.out 4;have hfz18_5:=blk_frozen BK210.out 5) | ((with_reducible refine gate_callee (f:=44) rfl ?_);refine goesL_ (some 9) rfl rfl Try.func44 (by kernel_rfl) rfl #[.float .f64 a0_0,.float .f64 a1_0] rfl (by (try simp only [List.map_toArray,List.map_cons,List.map_nil]);first | done | rfl | (simp only [List.length_drop,List.length_take];rfl)) ?_;(with_reducible refine (humusref01_Same.calls a0_0 a1_0 true _ A3.out).mono ?_);rintro e w' ⟨rfl,⟨nd,rfl⟩⟩;refine ⟨_,rfl,?_⟩))
          go_ret
          exact ⟨by first | rfl | (simp [errW_none,errW_some] <;> rfl) | (simp [*,errW_none,errW_some] <;> rfl),by repeat (first | (with_reducible first | exact HB.out | apply below_alloc | apply pw_below_drewN | apply below_drew1 | refine below_set ?_ GE209.out | refine below_set ?_ GE210.out) | exact HB.out)⟩
      · rw [if_neg c6] at H
        have c6b0 : (a0_3 == a1_3) = false:=beq_eq_false_iff_ne.mpr c6
        have c6b1 : (a0_3 != a1_3) = true:=bne_iff_ne.mpr c6
        obtain rfl:=Option.some.inj H
        go_enter Try.func37,Try.ntmps37
        go_wp2_with (first | ((with_reducible refine gate_dst (N:=2) rfl ?_);refine box_event ?hg (N:=2) ?hd (cs:=#[.float .f64 a0_0,.bool a0_1,.slice A0_2 l0_2.length c0_2,.int .i64 a0_3,.int .i64 a0_4,.int .i64 a0_5]) (t:=30) ?hr ?_;(case hd => rfl);(case hg => rfl);(case hr => first | (go_simp;done) | (go_simp;rfl));intro gb209 hg w19 hbox hb;have n0_:=Aside0.mk (below_step (by repeat (first | (with_reducible first | exact HB.out | apply below_alloc | apply pw_below_drewN | apply below_drew1) | exact HB.out)) hb);have n1_:=Aside0.mk (hbox);have n2_:=Aside0.mk ((by rw [hg];exact (below_size (by repeat (first | (with_reducible first | exact HB.out | apply below_alloc | apply pw_below_drewN | apply below_drew1) | exact HB.out))) : w.heap.size ≤ gb209));have n3_:=Aside0.mk ((by rw [hg];exact (below_size (by repeat (first | (with_reducible first | exact HB.out | apply below_alloc | apply pw_below_drewN | apply below_drew1) | exact HB.out))) : w.heap.size ≤ gb209));clear HB;have HB:=n0_;have BK209:=n1_;have GW209:=n2_;have GE209:=n3_;clear n0_ n1_ n2_ n3_;clear hb hbox hg) | ((with_reducible refine gate_dst (N:=3) rfl ?_);refine box_event ?hg (N:=3) ?hd (cs:=#[.float .f64 a1_0,.bool a1_1,.slice A1_2 l1_2.length c1_2,.int .i64 a1_3,.int .i64 a1_4,.int .i64 a1_5]) (t:=30) ?hr ?_;(case hd => rfl);(case hg => rfl);(case hr => first | (go_simp;done) | (go_simp;rfl));intro gb210 hg w20 hbox hb;have n0_:=Aside0.mk (blk_below (g:=gb209) (o:=.cells #[.float .f64 a0_0,.bool a0_1,.slice A0_2 l0_2.length c0_2,.int .i64 a0_3,.int .i64 a0_4,.int .i64 a0_5] 30 (0,0)) (by (with_reducible repeat (first | refine blk_drewN ?_ _ | refine blk_drew ?_ | refine blk_alloc ?_ _));exact BK209.out) hb);have n1_:=Aside0.mk (below_step (by repeat (first | (with_reducible first | exact HB.out | apply below_alloc | apply pw_below_drewN | apply below_drew1 | refine below_set ?_ GE209.out) | exact HB.out)) hb);have n2_:=Aside0.mk (hbox);have n3_:=Aside0.mk ((by rw [hg];exact (below_size (by repeat (first | (with_reducible first | exact HB.out | apply below_alloc | apply pw_below_drewN | apply below_drew1 | refine below_set ?_ GE209.out) | exact HB.out))) : w.heap.size ≤ gb210));have n4_:=Aside0.mk ((by rw [hg];exact (below_size (by repeat (first | (with_reducible first | exact HB.out | apply below_alloc | apply pw_below_drewN | apply below_drew1 | refine below_set ?_ GE209.out) | exact HB.out))) : w.heap.size ≤ gb210));have n5_:=Aside0.mk ((by rw [hg];exact Nat.ne_of_lt (blk_lt (g:=gb209) (o:=.cells #[.float .f64 a0_0,.bool a0_1,.slice A0_2 l0_2.length c0_2,.int .i64 a0_3,.int .i64 a0_4,.int .i64 a0_5] 30 (0,0)) (by (with_reducible repeat (first | refine blk_drewN ?_ _ | refine blk_drew ?_ | refine blk_alloc ?_ _));exact BK209.out)) : gb209 ≠ gb210));have n6_:=Aside0.mk ((by rw [hg];exact Nat.ne_of_gt (blk_lt (g:=gb209) (o:=.cells #[.float .f64 a0_0,.bool a0_1,.slice A0_2 l0_2.length c0_2,.int .i64 a0_3,.int .i64 a0_4,.int .i64 a0_5] 30 (0,0)) (by (with_reducible repeat (first | refine blk_drewN ?_ _ | refine blk_drew ?_ | refine blk_alloc ?_ _));exact BK209.out)) : gb210 ≠ gb209));clear BK209;clear HB;have BK209:=n0_;have HB:=n1_;have BK210:=n2_;have GW210:=n3_;have GE210:=n4_;have NB209_210:=n5_;have NB210_209:=n6_;clear n0_ n1_ n2_ n3_ n4_ n5_ n6_;clear hb hbox hg;have hnb21:=NB209_210.out;have hnc21:=NB210_209.out;have hcz22_0 : w20.cell? ⟨gb209,0,none⟩ = some (.float .f64 a0_0):=(blk_cell BK209.out 0).trans rfl;have hcz22_1 : w20.cell? ⟨gb209,1,none⟩ = some (.bool a0_1):=(blk_cell BK209.out 1).trans rfl;have hcz22_2 : w20.cell? ⟨gb209,2,none⟩ = some (.slice A0_2 l0_2.length c0_2):=(blk_cell BK209.out 2).trans rfl;have hcz22_3 : w20.cell? ⟨gb209,3,none⟩ = some (.int .i64 a0_3):=(blk_cell BK209.out 3).trans rfl;have hcz22_4 : w20.cell? ⟨gb209,4,none⟩ = some (.int .i64 a0_4):=(blk_cell BK209.out 4).trans rfl;have hcz22_5 : w20.cell? ⟨gb209,5,none⟩ = some (.int .i64 a0_5):=(blk_cell BK209.out 5).trans rfl;have hfz22_0:=blk_frozen BK209.out 0;have hfz22_1:=blk_frozen BK209.out 1;have hfz22_2:=blk_frozen BK209.out 2;have hfz22_3:=blk_frozen BK209.out 3;have hfz22_4:=blk_frozen BK209.out 4;have hfz22_5:=blk_frozen BK209.out 5;have hcz23_0 : w20.cell? ⟨gb210,0,none⟩ = some (.float .f64 a1_0):=(blk_cell BK210.out 0).trans rfl;have hcz23_1 : w20.cell? ⟨gb210,1,none⟩ = some (.bool a1_1):=(blk_cell BK210.out 1).trans rfl;have hcz23_2 : w20.cell? ⟨gb210,2,none⟩ = some (.slice A1_2 l1_2.length c1_2):=(blk_cell BK210.out 2).trans rfl;have hcz23_3 : w20.cell? ⟨gb210,3,none⟩ = some (.int .i64 a1_3):=(blk_cell BK210.out 3).trans rfl;have hcz23_4 : w20.cell? ⟨gb210,4,none⟩ = some (.int .i64 a1_4):=(blk_cell BK210.out 4).trans rfl;have hcz23_5 : w20.cell? ⟨gb210,5,none⟩ = some (.int .i64 a1_5):=(blk_cell BK210.out 5).trans rfl;have hfz23_0:=blk_frozen BK210.out 0;have hfz23_1:=blk_frozen BK210.out 1;have hfz23_2:=blk_frozen BK210.out 2;have hfz23_3:=blk_frozen BK210.out 3;have hfz23_4:=blk_frozen BK210.out 4;have hfz23_5:=blk_frozen BK210.out 5) | ((with_reducible refine gate_callee (f:=44) rfl ?_);refine goesL_ (some 9) rfl rfl Try.func44 (by kernel_rfl) rfl #[.float .f64 a0_0,.float .f64 a1_0] rfl (by (try simp only [List.map_toArray,List.map_cons,List.map_nil]);first | done | rfl | (simp only [List.length_drop,List.length_take];rfl)) ?_;(with_reducible refine (humusref01_Same.calls a0_0 a1_0 true _ A3.out).mono ?_);rintro e w' ⟨rfl,⟨nd,rfl⟩⟩;refine ⟨_,rfl,?_⟩))
        go_ret
        exact ⟨by first | rfl | (simp [errW_none,errW_some] <;> rfl) | (simp [*,errW_none,errW_some] <;> rfl),by repeat (first | (with_reducible first | exact HB.out | apply below_alloc | apply pw_below_drewN | apply below_drew1 | refine below_set ?_ GE209.out | refine below_set ?_ GE210.out) | exact HB.out)⟩
    · rw [if_neg c5] at H
      have c5b0 : (a0_1 == a1_1) = false:=by simpa using c5
      (try (have c5b1 : decide (a0_1 = a1_1) = false:=by simpa using c5))
      (try (have c5b2 : (a0_1 == a1_1) = false:=by simpa using c5))
      (try (have c5b3 : ¬ (a0_1 = a1_1):=by simpa using c5))
      clear c5
      obtain rfl:=Option.some.inj H
      go_enter Try.func37,Try.ntmps37
      go_wp2_with (first | ((with_reducible refine gate_dst (N:=2) rfl ?_);refine box_event ?hg (N:=2) ?hd (cs:=#[.float .f64 a0_0,.bool a0_1,.slice A0_2 l0_2.length c0_2,.int .i64 a0_3,.int .i64 a0_4,.int .i64 a0_5]) (t:=30) ?hr ?_;(case hd => rfl);(case hg => rfl);(case hr => first | (go_simp;done) | (go_simp;rfl));intro gb209 hg w24 hbox hb;have n0_:=Aside0.mk (below_step (by repeat (first | (with_reducible first | exact HB.out | apply below_alloc | apply pw_below_drewN | apply below_drew1) | exact HB.out)) hb);have n1_:=Aside0.mk (hbox);have n2_:=Aside0.mk ((by rw [hg];exact (below_size (by repeat (first | (with_reducible first | exact HB.out | apply below_alloc | apply pw_below_drewN | apply below_drew1) | exact HB.out))) : w.heap.size ≤ gb209));have n3_:=Aside0.mk ((by rw [hg];exact (below_size (by repeat (first | (with_reducible first | exact HB.out | apply below_alloc | apply pw_below_drewN | apply below_drew1) | exact HB.out))) : w.heap.size ≤ gb209));clear HB;have HB:=n0_;have BK209:=n1_;have GW209:=n2_;have GE209:=n3_;clear n0_ n1_ n2_ n3_;clear hb hbox hg) | ((with_reducible refine gate_dst (N:=3) rfl ?_);refine box_event ?hg (N:=3) ?hd (cs:=#[.float .f64 a1_0,.bool a1_1,.slice A1_2 l1_2.length c1_2,.int .i64 a1_3,.int .i64 a1_4,.int .i64 a1_5]) (t:=30) ?hr ?_;(case hd => rfl);(case hg => rfl);(case hr => first | (go_simp;done) | (go_simp;rfl));intro gb210 hg w25 hbox hb;have n0_:=Aside0.mk (blk_below (g:=gb209) (o:=.cells #[.float .f64 a0_0,.bool a0_1,.slice A0_2 l0_2.length c0_2,.int .i64 a0_3,.int .i64 a0_4,.int .i64 a0_5] 30 (0,0)) (by (with_reducible repeat (first | refine blk_drewN ?_ _ | refine blk_drew ?_ | refine blk_alloc ?_ _));exact BK209.out) hb);have n1_:=Aside0.mk (below_step (by repeat (first | (with_reducible first | exact HB.out | apply below_alloc | apply pw_below_drewN | apply below_drew1 | refine below_set ?_ GE209.out) | exact HB.out)) hb);have n2_:=Aside0.mk (hbox);have n3_:=Aside0.mk ((by rw [hg];exact (below_size (by repeat (first | (with_reducible first | exact HB.out | apply below_alloc | apply pw_below_drewN | apply below_drew1 | refine below_set ?_ GE209.out) | exact HB.out))) : w.heap.size ≤ gb210));have n4_:=Aside0.mk ((by rw [hg];exact (below_size (by repeat (first | (with_reducible first | exact HB.out | apply below_alloc | apply pw_below_drewN | apply below_drew1 | refine below_set ?_ GE209.out) | exact HB.out))) : w.heap.size ≤ gb210));have n5_:=Aside0.mk ((by rw [hg];exact Nat.ne_of_lt (blk_lt (g:=gb209) (o:=.cells #[.float .f64 a0_0,.bool a0_1,.slice A0_2 l0_2.length c0_2,.int .i64 a0_3,.int .i64 a0_4,.int .i64 a0_5] 30 (0,0)) (by (with_reducible repeat (first | refine blk_drewN ?_ _ | refine blk_drew ?_ | refine blk_alloc ?_ _));exact BK209.out)) : gb209 ≠ gb210));have n6_:=Aside0.mk ((by rw [hg];exact Nat.ne_of_gt (blk_lt (g:=gb209) (o:=.cells #[.float .f64 a0_0,.bool a0_1,.slice A0_2 l0_2.length c0_2,.int .i64 a0_3,.int .i64 a0_4,.int .i64 a0_5] 30 (0,0)) (by (with_reducible repeat (first | refine blk_drewN ?_ _ | refine blk_drew ?_ | refine blk_alloc ?_ _));exact BK209.out)) : gb210 ≠ gb209));clear BK209;clear HB;have BK209:=n0_;have HB:=n1_;have BK210:=n2_;have GW210:=n3_;have GE210:=n4_;have NB209_210:=n5_;have NB210_209:=n6_;clear n0_ n1_ n2_ n3_ n4_ n5_ n6_;clear hb hbox hg;have hnb26:=NB209_210.out;have hnc26:=NB210_209.out;have hcz27_0 : w25.cell? ⟨gb209,0,none⟩ = some (.float .f64 a0_0):=(blk_cell BK209.out 0).trans rfl;have hcz27_1 : w25.cell? ⟨gb209,1,none⟩ = some (.bool a0_1):=(blk_cell BK209.out 1).trans rfl;have hcz27_2 : w25.cell? ⟨gb209,2,none⟩ = some (.slice A0_2 l0_2.length c0_2):=(blk_cell BK209.out 2).trans rfl;have hcz27_3 : w25.cell? ⟨gb209,3,none⟩ = some (.int .i64 a0_3):=(blk_cell BK209.out 3).trans rfl;have hcz27_4 : w25.cell? ⟨gb209,4,none⟩ = some (.int .i64 a0_4):=(blk_cell BK209.out 4).trans rfl;have hcz27_5 : w25.cell? ⟨gb209,5,none⟩ = some (.int .i64 a0_5):=(blk_cell BK209.out 5).trans rfl;have hfz27_0:=blk_frozen BK209.out 0;have hfz27_1:=blk_frozen BK209.out 1;have hfz27_2:=blk_frozen BK209.out 2;have hfz27_3:=blk_frozen BK209.out 3;have hfz27_4:=blk_frozen BK209.out 4;have hfz27_5:=blk_frozen BK209.out 5;have hcz28_0 : w25.cell? ⟨gb210,0,none⟩ = some (.float .f64 a1_0):=(blk_cell BK210.out 0).trans rfl;have hcz28_1 : w25.cell? ⟨gb210,1,none⟩ = some (.bool a1_1):=(blk_cell BK210.out 1).trans rfl;have hcz28_2 : w25.cell? ⟨gb210,2,none⟩ = some (.slice A1_2 l1_2.length c1_2):=(blk_cell BK210.out 2).trans rfl;have hcz28_3 : w25.cell? ⟨gb210,3,none⟩ = some (.int .i64 a1_3):=(blk_cell BK210.out 3).trans rfl;have hcz28_4 : w25.cell? ⟨gb210,4,none⟩ = some (.int .i64 a1_4):=(blk_cell BK210.out 4).trans rfl;have hcz28_5 : w25.cell? ⟨gb210,5,none⟩ = some (.int .i64 a1_5):=(blk_cell BK210.out 5).trans rfl;have hfz28_0:=blk_frozen BK210.out 0;have hfz28_1:=blk_frozen BK210.out 1;have hfz28_2:=blk_frozen BK210.out 2;have hfz28_3:=blk_frozen BK210.out 3;have hfz28_4:=blk_frozen BK210.out 4;have hfz28_5:=blk_frozen BK210.out 5) | ((with_reducible refine gate_callee (f:=44) rfl ?_);refine goesL_ (some 9) rfl rfl Try.func44 (by kernel_rfl) rfl #[.float .f64 a0_0,.float .f64 a1_0] rfl (by (try simp only [List.map_toArray,List.map_cons,List.map_nil]);first | done | rfl | (simp only [List.length_drop,List.length_take];rfl)) ?_;(with_reducible refine (humusref01_Same.calls a0_0 a1_0 true _ A3.out).mono ?_);rintro e w' ⟨rfl,⟨nd,rfl⟩⟩;refine ⟨_,rfl,?_⟩))
      go_ret
      exact ⟨by first | rfl | (simp [errW_none,errW_some] <;> rfl) | (simp [*,errW_none,errW_some] <;> rfl),by repeat (first | (with_reducible first | exact HB.out | apply below_alloc | apply pw_below_drewN | apply below_drew1 | refine below_set ?_ GE209.out | refine below_set ?_ GE210.out) | exact HB.out)⟩
  · replace c4:=Bool.eq_false_iff.mpr c4
    subst c4
    have H1 : (some false) = some r:=by rw [if_neg (show ¬ (false = true) by decide)] at H;exact H
    clear H
    have H:=H1
    clear H1
    obtain rfl:=Option.some.inj H
    go_enter Try.func37,Try.ntmps37
    go_wp2_with (first | ((with_reducible refine gate_dst (N:=2) rfl ?_);refine box_event ?hg (N:=2) ?hd (cs:=#[.float .f64 a0_0,.bool a0_1,.slice A0_2 l0_2.length c0_2,.int .i64 a0_3,.int .i64 a0_4,.int .i64 a0_5]) (t:=30) ?hr ?_;(case hd => rfl);(case hg => rfl);(case hr => first | (go_simp;done) | (go_simp;rfl));intro gb209 hg w29 hbox hb;have n0_:=Aside0.mk (below_step (by repeat (first | (with_reducible first | exact HB.out | apply below_alloc | apply pw_below_drewN | apply below_drew1) | exact HB.out)) hb);have n1_:=Aside0.mk (hbox);have n2_:=Aside0.mk ((by rw [hg];exact (below_size (by repeat (first | (with_reducible first | exact HB.out | apply below_alloc | apply pw_below_drewN | apply below_drew1) | exact HB.out))) : w.heap.size ≤ gb209));have n3_:=Aside0.mk ((by rw [hg];exact (below_size (by repeat (first | (with_reducible first | exact HB.out | apply below_alloc | apply pw_below_drewN | apply below_drew1) | exact HB.out))) : w.heap.size ≤ gb209));clear HB;have HB:=n0_;have BK209:=n1_;have GW209:=n2_;have GE209:=n3_;clear n0_ n1_ n2_ n3_;clear hb hbox hg) | ((with_reducible refine gate_dst (N:=3) rfl ?_);refine box_event ?hg (N:=3) ?hd (cs:=#[.float .f64 a1_0,.bool a1_1,.slice A1_2 l1_2.length c1_2,.int .i64 a1_3,.int .i64 a1_4,.int .i64 a1_5]) (t:=30) ?hr ?_;(case hd => rfl);(case hg => rfl);(case hr => first | (go_simp;done) | (go_simp;rfl));intro gb210 hg w30 hbox hb;have n0_:=Aside0.mk (blk_below (g:=gb209) (o:=.cells #[.float .f64 a0_0,.bool a0_1,.slice A0_2 l0_2.length c0_2,.int .i64 a0_3,.int .i64 a0_4,.int .i64 a0_5] 30 (0,0)) (by (with_reducible repeat (first | refine blk_drewN ?_ _ | refine blk_drew ?_ | refine blk_alloc ?_ _));exact BK209.out) hb);have n1_:=Aside0.mk (below_step (by repeat (first | (with_reducible first | exact HB.out | apply below_alloc | apply pw_below_drewN | apply below_drew1 | refine below_set ?_ GE209.out) | exact HB.out)) hb);have n2_:=Aside0.mk (hbox);have n3_:=Aside0.mk ((by rw [hg];exact (below_size (by repeat (first | (with_reducible first | exact HB.out | apply below_alloc | apply pw_below_drewN | apply below_drew1 | refine below_set ?_ GE209.out) | exact HB.out))) : w.heap.size ≤ gb210));have n4_:=Aside0.mk ((by rw [hg];exact (below_size (by repeat (first | (with_reducible first | exact HB.out | apply below_alloc | apply pw_below_drewN | apply below_drew1 | refine below_set ?_ GE209.out) | exact HB.out))) : w.heap.size ≤ gb210));have n5_:=Aside0.mk ((by rw [hg];exact Nat.ne_of_lt (blk_lt (g:=gb209) (o:=.cells #[.float .f64 a0_0,.bool a0_1,.slice A0_2 l0_2.length c0_2,.int .i64 a0_3,.int .i64 a0_4,.int .i64 a0_5] 30 (0,0)) (by (with_reducible repeat (first | refine blk_drewN ?_ _ | refine blk_drew ?_ | refine blk_alloc ?_ _));exact BK209.out)) : gb209 ≠ gb210));have n6_:=Aside0.mk ((by rw [hg];exact Nat.ne_of_gt (blk_lt (g:=gb209) (o:=.cells #[.float .f64 a0_0,.bool a0_1,.slice A0_2 l0_2.length c0_2,.int .i64 a0_3,.int .i64 a0_4,.int .i64 a0_5] 30 (0,0)) (by (with_reducible repeat (first | refine blk_drewN ?_ _ | refine blk_drew ?_ | refine blk_alloc ?_ _));exact BK209.out)) : gb210 ≠ gb209));clear BK209;clear HB;have BK209:=n0_;have HB:=n1_;have BK210:=n2_;have GW210:=n3_;have GE210:=n4_;have NB209_210:=n5_;have NB210_209:=n6_;clear n0_ n1_ n2_ n3_ n4_ n5_ n6_;clear hb hbox hg;have hnb31:=NB209_210.out;have hnc31:=NB210_209.out;have hcz32_0 : w30.cell? ⟨gb209,0,none⟩ = some (.float .f64 a0_0):=(blk_cell BK209.out 0).trans rfl;have hcz32_1 : w30.cell? ⟨gb209,1,none⟩ = some (.bool a0_1):=(blk_cell BK209.out 1).trans rfl;have hcz32_2 : w30.cell? ⟨gb209,2,none⟩ = some (.slice A0_2 l0_2.length c0_2):=(blk_cell BK209.out 2).trans rfl;have hcz32_3 : w30.cell? ⟨gb209,3,none⟩ = some (.int .i64 a0_3):=(blk_cell BK209.out 3).trans rfl;have hcz32_4 : w30.cell? ⟨gb209,4,none⟩ = some (.int .i64 a0_4):=(blk_cell BK209.out 4).trans rfl;have hcz32_5 : w30.cell? ⟨gb209,5,none⟩ = some (.int .i64 a0_5):=(blk_cell BK209.out 5).trans rfl;have hfz32_0:=blk_frozen BK209.out 0;have hfz32_1:=blk_frozen BK209.out 1;have hfz32_2:=blk_frozen BK209.out 2;have hfz32_3:=blk_frozen BK209.out 3;have hfz32_4:=blk_frozen BK209.out 4;have hfz32_5:=blk_frozen BK209.out 5;have hcz33_0 : w30.cell? ⟨gb210,0,none⟩ = some (.float .f64 a1_0):=(blk_cell BK210.out 0).trans rfl;have hcz33_1 : w30.cell? ⟨gb210,1,none⟩ = some (.bool a1_1):=(blk_cell BK210.out 1).trans rfl;have hcz33_2 : w30.cell? ⟨gb210,2,none⟩ = some (.slice A1_2 l1_2.length c1_2):=(blk_cell BK210.out 2).trans rfl;have hcz33_3 : w30.cell? ⟨gb210,3,none⟩ = some (.int .i64 a1_3):=(blk_cell BK210.out 3).trans rfl;have hcz33_4 : w30.cell? ⟨gb210,4,none⟩ = some (.int .i64 a1_4):=(blk_cell BK210.out 4).trans rfl;have hcz33_5 : w30.cell? ⟨gb210,5,none⟩ = some (.int .i64 a1_5):=(blk_cell BK210.out 5).trans rfl;have hfz33_0:=blk_frozen BK210.out 0;have hfz33_1:=blk_frozen BK210.out 1;have hfz33_2:=blk_frozen BK210.out 2;have hfz33_3:=blk_frozen BK210.out 3;have hfz33_4:=blk_frozen BK210.out 4;have hfz33_5:=blk_frozen BK210.out 5) | ((with_reducible refine gate_callee (f:=44) rfl ?_);refine goesL_ (some 9) rfl rfl Try.func44 (by kernel_rfl) rfl #[.float .f64 a0_0,.float .f64 a1_0] rfl (by (try simp only [List.map_toArray,List.map_cons,List.map_nil]);first | done | rfl | (simp only [List.length_drop,List.length_take];rfl)) ?_;(with_reducible refine (humusref01_Same.calls a0_0 a1_0 false _ A3.out).mono ?_);rintro e w' ⟨rfl,⟨nd,rfl⟩⟩;refine ⟨_,rfl,?_⟩))
    go_ret
    exact ⟨by first | rfl | (simp [errW_none,errW_some] <;> rfl) | (simp [*,errW_none,errW_some] <;> rfl),by repeat (first | (with_reducible first | exact HB.out | apply below_alloc | apply pw_below_drewN | apply below_drew1 | refine below_set ?_ GE209.out | refine below_set ?_ GE210.out) | exact HB.out)⟩
end Go.Proofs.Ytdcllbhkjcdnoaa.P
