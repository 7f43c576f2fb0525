/- by wip/prune.py -/
import Derived.Test.YtbmcbhpkefjhbaaDoorMTableCodes8
import Derived.BigQuiet
import Derived.Deep.QuietTactic
import Derived.Laws.Cover2
import Derived.Laws.FloatArith
import Derived.Lib.Hide
import Derived.Test.YtbmcbhpkefjhbaaDoorChecked
import Derived.WalkKit
import Derived.WalkLawsBesides
import Derived.Test.YtbmcbhpkefjhbaaDoorMTableCodes13
namespace Go.Proofs.YtbmcbhpkefjhbaaDoor
open Go.RowKit
@[go_sem] theorem run_bits (x : Nat) (w : World) : (callFunc 50 #[.float .f64 x]).run Tryd.prog w=.ok (.value (.int .u64 (x : Int))) w:=by kernel_rfl
@[go_sem] theorem run_frombits (x : Int) (w : World) : (callFunc 45 #[.int .u64 x]).run Tryd.prog w=.ok (.value (.float .f64 x.toNat)) w:=by kernel_rfl
theorem ret_bool {a b : Bool} (h : a=b) : Ending.returned (.bool a)=.returned (.bool b):=by rw [h]
theorem ret_int {k : IntKind} {a b : Int} (h : a=b) : Ending.returned (.int k a)=.returned (.int k b):=by rw [h]
theorem neq_self (x : Nat) : (FloatKind.f64.format.order x x != some .eq)=Flt.isNaN x:=by
  have h:=Flt.eql_eq x x
  show (!(Ieee.double.order x x == some .eq))=_
  rw [h]; simp
theorem IsNaN_any (x : Nat) (w : World) : Calls Tryd.prog 69 #[.float .f64 x] w fun e w'=>e=.returned (.bool (Flt.isNaN x))∧w=w':=by
  go_enter Tryd.func69,Tryd.ntmps69;go_wp2;go_ret;exact ⟨ret_bool (neq_self x),rfl⟩
theorem Value_any (x : Nat) (w : World) : Calls Tryd.prog 51 #[.float .f64 x] w fun e w'=>e=.returned (.float .f64 (Flt.val x))∧w=w':=by
  by_cases h : Flt.isNaN x=true
  · have hv : Flt.val x=Flt.NAN:=by unfold Flt.val; rw [if_pos h]
    rw [hv];clear hv;go_enter Tryd.func51,Tryd.ntmps51;go_wp2_with (go_at_call 69; refine (IsNaN_any _ _).mono ?_; rintro e w' ⟨rfl,rfl⟩);go_ret;exact ⟨rfl,rfl⟩
  · have hv : Flt.val x=x:=by unfold Flt.val; rw [if_neg h]
    rw [hv];clear hv
    have h' : Flt.isNaN x=false:=by simpa using h
    clear h;go_enter Tryd.func51,Tryd.ntmps51;go_wp2_with (go_at_call 69; refine (IsNaN_any _ _).mono ?_; rintro e w' ⟨rfl,rfl⟩);go_ret;exact ⟨rfl,rfl⟩
theorem Nan_any (b : Nat) (w : World) : Calls Tryd.prog 77 #[.int .u64 (b : Int)] w fun e w'=>e=.returned (.bool (Flt.isNaN b))∧w=w':=by
  have hr:=Lib.hid (Flt.nan_ref b);go_enter Tryd.func77,Tryd.ntmps77;go_wp2
  · have h : (b : Int) / 4503599627370496 % 2048=2047:=by assumption
    go_ret
    exact ⟨ret_bool (by rw [hr.out,dt_ h]; rfl),rfl⟩
  · have h : ¬ (b : Int) / 4503599627370496 % 2048=2047:=by assumption
    go_ret
    exact ⟨ret_bool (by rw [hr.out,df_ h]; rfl),rfl⟩
theorem rValue_any (x : Nat) (w : World) : Calls Tryd.prog 67 #[.float .f64 x] w fun e w'=>e=.returned (.int .u64 (Flt.val x : Int))∧w=w':=by
  by_cases h : Flt.isNaN x=true
  · have hv : Flt.val x=Flt.NAN:=by unfold Flt.val; rw [if_pos h]
    rw [hv];clear hv;go_enter Tryd.func67,Tryd.ntmps67;go_wp2_with (go_at_call 77; refine (Nan_any _ _).mono ?_; rintro e w' ⟨rfl,rfl⟩);go_ret;exact ⟨rfl,rfl⟩
  · have hv : Flt.val x=x:=by unfold Flt.val; rw [if_neg h]
    rw [hv];clear hv
    have h' : Flt.isNaN x=false:=by simpa using h
    clear h;go_enter Tryd.func67,Tryd.ntmps67;go_wp2_with (go_at_call 77; refine (Nan_any _ _).mono ?_; rintro e w' ⟨rfl,rfl⟩);go_ret;exact ⟨rfl,rfl⟩
theorem rSame_any (x y : Nat) (w : World) : Calls Tryd.prog 65 #[.float .f64 x,.float .f64 y] w fun e w'=>e=.returned (.bool ((x : Int) == (y : Int)))∧w=w':=by
  go_enter Tryd.func65,Tryd.ntmps65;go_wp2;go_ret;exact ⟨rfl,rfl⟩
end Go.Proofs.YtbmcbhpkefjhbaaDoor
