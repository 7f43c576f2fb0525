/- Put together by wip/prune.py out of this claim's texts. -/
import Derived.BigQuiet
import Derived.Deep.QuietTactic
import Derived.Laws.Cover2
import Derived.Laws.FloatArith
import Derived.Lib.Hide
import Derived.Test.YtbmcbhpkefjhbaaChecked
import Derived.WalkKit
import Derived.WalkLawsBesides
import Derived.Test.YtbmcbhpkefjhbaaMDsgAlone3
import Derived.Test.YtbmcbhpkefjhbaaMDsgAlone6
import Derived.Test.YtbmcbhpkefjhbaaMDsgAlone7
namespace Go.Proofs.Ytbmcbhpkefjhbaa
open Go.RowKit
@[go_sem] theorem run_bits (x : Nat) (w : World) : (callFunc 57 #[.float .f64 x]).run Try.prog w = .ok (.value (.int .u64 (x : Int))) w := by kernel_rfl
@[go_sem] theorem run_frombits (x : Int) (w : World) : (callFunc 31 #[.int .u64 x]).run Try.prog w = .ok (.value (.float .f64 x.toNat)) w := by kernel_rfl
theorem ret_bool {a b : Bool} (h : a = b) : Ending.returned (.bool a) = .returned (.bool b) := by rw [h]
theorem ret_int {k : IntKind} {a b : Int} (h : a = b) : Ending.returned (.int k a) = .returned (.int k b) := by rw [h]
theorem neq_self (x : Nat) : (FloatKind.f64.format.order x x != some .eq) = Flt.isNaN x := by
  have h := Flt.eql_eq x x
  show (!(Ieee.double.order x x == some .eq)) = _
  rw [h]; simp
theorem IsNaN_any (x : Nat) (w : World) : Calls Try.prog 79 #[.float .f64 x] w fun e w' => e = .returned (.bool (Flt.isNaN x)) ∧ w = w' := by
  go_enter Try.func79, Try.ntmps79
  go_wp2
  go_ret
  exact ⟨ret_bool (neq_self x), rfl⟩
theorem Value_any (x : Nat) (w : World) : Calls Try.prog 58 #[.float .f64 x] w fun e w' => e = .returned (.float .f64 (Flt.val x)) ∧ w = w' := by
  by_cases h : Flt.isNaN x = true
  · have hv : Flt.val x = Flt.NAN := by unfold Flt.val; rw [if_pos h]
    rw [hv]
    clear hv
    go_enter Try.func58, Try.ntmps58
    go_wp2_with (go_at_call 79; refine (IsNaN_any _ _).mono ?_; rintro e w' ⟨rfl, rfl⟩)
    go_ret
    exact ⟨rfl, rfl⟩
  · have hv : Flt.val x = x := by unfold Flt.val; rw [if_neg h]
    rw [hv]
    clear hv
    have h' : Flt.isNaN x = false := by simpa using h
    clear h
    go_enter Try.func58, Try.ntmps58
    go_wp2_with (go_at_call 79; refine (IsNaN_any _ _).mono ?_; rintro e w' ⟨rfl, rfl⟩)
    go_ret
    exact ⟨rfl, rfl⟩
theorem sv_zero (x : Nat) : (decide (Flt.sv x = Flt.sv 0)) = decide (Flt.rg x = 0) := by
  have h0 : Flt.sv 0 = 0 := by decide
  rw [h0]
  unfold Flt.sv
  by_cases h : Flt.rg x = 0
  · rw [h]; cases Flt.sg x <;> simp
  · have : (if Flt.sg x = true then -(Flt.rg x : Int) else (Flt.rg x : Int)) ≠ 0 := by split <;> omega
    simp [h, this]
theorem nan_rg (x : Nat) (h : Flt.rg x = 0) : Flt.isNaN x = false := by
  unfold Flt.isNaN; rw [h]; decide
theorem eql_zero (x : Nat) : (FloatKind.f64.format.order x 0 == some .eq) = decide (Flt.rg x = 0) := by
  have h := Flt.eql_eq x 0
  show (Ieee.double.order x 0 == some .eq) = _
  rw [h, sv_zero, show Flt.isNaN 0 = false by decide]
  by_cases hz : Flt.rg x = 0
  · rw [nan_rg x hz]; simp
  · simp [hz]
theorem Key_any (x : Nat) (w : World) : Calls Try.prog 90 #[.float .f64 x] w fun e w' => e = .returned (.float .f64 (Flt.key x)) ∧ w = w' := by
  have he := eql_zero x
  by_cases h : Flt.rg x = 0
  · have hv : Flt.key x = 0 := by unfold Flt.key; rw [if_pos h]
    rw [hv]
    have hd : (FloatKind.f64.format.order x 0 == some .eq) = true := by rw [he]; simp [h]
    clear hv he h
    go_enter Try.func90, Try.ntmps90
    go_wp2
    go_ret
    exact ⟨rfl, rfl⟩
  · have hv : Flt.key x = Flt.val x := by unfold Flt.key; rw [if_neg h]
    rw [hv]
    have hd : (FloatKind.f64.format.order x 0 == some .eq) = false := by rw [he]; simp [h]
    clear hv he h
    go_enter Try.func90, Try.ntmps90
    go_wp2_with (go_at_call 58; refine (Value_any _ _).mono ?_; rintro e w' ⟨rfl, rfl⟩)
    go_ret
    exact ⟨rfl, rfl⟩
theorem isNaN64_any (a : Int) (w : World) : Calls Try.prog 89 #[.int .u64 a] w fun e w' => e = .returned (.bool false) ∧ w = w' := by
  go_enter Try.func89, Try.ntmps89
  go_wp2
  go_ret
  exact ⟨ret_bool (by simp), rfl⟩
def cmpI (a b : Int) : Int := if a < b then -1 else if b < a then 1 else 0
theorem cmp_any (a b : Int) (w : World) : Calls Try.prog 70 #[.int .u64 a, .int .u64 b] w fun e w' => e = .returned (.int .i64 (cmpI a b)) ∧ w = w' := by
  go_enter Try.func70, Try.ntmps70
  go_wp2_with (first | (go_at_call 89; refine (isNaN64_any _ _).mono ?_; rintro e w' ⟨rfl, rfl⟩))
  all_goals go_ret
  all_goals (refine ⟨ret_int ?_, rfl⟩; unfold cmpI; first | (rw [if_pos (by omega)]) | (rw [if_neg (by omega), if_pos (by omega)]) | (rw [if_neg (by omega), if_neg (by omega)]))
theorem Rank_any (x : Nat) (hx : Flt.ok x) (w : World) : Calls Try.prog 71 #[.float .f64 x] w fun e w' => e = .returned (.int .u64 (Flt.rank x : Int)) ∧ w = w' := by
  have ha := Flt.and_hi _ (Flt.ok_key hx)
  by_cases h : Flt.HI ≤ Flt.key x
  · rw [if_pos h] at ha
    have h1 : (bits BinOp.and IntKind.u64 (Flt.key x : Int) 9223372036854775808 != 0) = true := by rw [ha]; rfl
    have hr := Lib.hid (Flt.rank_hi h)
    have hb := Lib.hid (Flt.xor_all _ (Flt.ok_key hx))
    clear ha h
    go_enter Try.func71, Try.ntmps71
    go_wp2_with (first | (go_at_call 90; refine (Key_any _ _).mono ?_; rintro e w' ⟨rfl, rfl⟩))
    go_ret
    exact ⟨ret_int (by rw [hr.out]; exact hb.out), rfl⟩
  · rw [if_neg h] at ha
    have h1 : (bits BinOp.and IntKind.u64 (Flt.key x : Int) 9223372036854775808 != 0) = false := by rw [ha]; rfl
    have hr := Lib.hid (Flt.rank_lo h)
    have hb := Lib.hid (Flt.or_hi (Flt.key x) (by have := Flt.HI_eq; omega))
    clear ha h
    go_enter Try.func71, Try.ntmps71
    go_wp2_with (first | (go_at_call 90; refine (Key_any _ _).mono ?_; rintro e w' ⟨rfl, rfl⟩))
    go_ret
    exact ⟨ret_int (by rw [hr.out]; exact hb.out), rfl⟩
theorem Compare_any (a b : Nat) (ha : Flt.ok a) (hb : Flt.ok b) (w : World) : Calls Try.prog 47 #[.float .f64 a, .float .f64 b] w fun e w' => e = .returned (.int .i64 (cmpI (Flt.rank a) (Flt.rank b))) ∧ w = w' := by
  go_enter Try.func47, Try.ntmps47
  go_wp2_with (first | (go_at_call 71; refine (Rank_any _ (by assumption) _).mono ?_; rintro e w' ⟨rfl, rfl⟩) | (go_at_call 70; refine (cmp_any _ _ _).mono ?_; rintro e w' ⟨rfl, rfl⟩))
  go_ret
  exact ⟨rfl, rfl⟩
def betw (x lo hi : Nat) : Bool := decide (cmpI (Flt.rank lo) (Flt.rank x) ≤ 0) && decide (cmpI (Flt.rank x) (Flt.rank hi) < 0)
theorem Between_any (x lo hi : Nat) (hx : Flt.ok x) (hl : Flt.ok lo) (hh : Flt.ok hi) (w : World) : Calls Try.prog 48 #[.float .f64 x, .float .f64 lo, .float .f64 hi] w fun e w' => e = .returned (.bool (betw x lo hi)) ∧ w = w' := by
  by_cases h1 : cmpI (Flt.rank lo) (Flt.rank x) ≤ 0
  · have hb : Hid (betw x lo hi = decide (cmpI (Flt.rank x) (Flt.rank hi) < 0)) := Lib.hid (by unfold betw; rw [decide_eq_true h1]; rfl)
    have h1' : decide (cmpI (Flt.rank lo) (Flt.rank x) ≤ 0) = true := decide_eq_true h1
    clear h1
    go_enter Try.func48, Try.ntmps48
    go_wp2_with (first | (go_at_call 47; refine (Compare_any _ _ (by assumption) (by assumption) _).mono ?_; rintro e w' ⟨rfl, rfl⟩))
    go_ret
    exact ⟨ret_bool (by rw [hb.out]), rfl⟩
  · have hb : Hid (betw x lo hi = false) := Lib.hid (by unfold betw; rw [decide_eq_false h1]; rfl)
    have h1' : decide (cmpI (Flt.rank lo) (Flt.rank x) ≤ 0) = false := decide_eq_false h1
    clear h1
    go_enter Try.func48, Try.ntmps48
    go_wp2_with (first | (go_at_call 47; refine (Compare_any _ _ (by assumption) (by assumption) _).mono ?_; rintro e w' ⟨rfl, rfl⟩))
    go_ret
    exact ⟨ret_bool (by rw [hb.out]), rfl⟩
end Go.Proofs.Ytbmcbhpkefjhbaa
set_option linter.unusedVariables false
set_option linter.unusedSimpArgs false
namespace Go.Proofs.Ytbmcbhpkefjhbaa.P
open Go.RowKit Go.Proofs.Ytbmcbhpkefjhbaa Go.Proofs.Ytbmcbhpkefjhbaa.Mem Go.Proofs.YtbmcbhpkefjhbaaW.PrintWords Go.Proofs.YtbmcbhpkefjhbaaW.PrintLast Go.Proofs.YtbmcbhpkefjhbaaW.PrintMore
attribute [local go_sem] run_store_float
abbrev SEv := S89
abbrev SRo := S124
def eqK (a b : Nat) : Bool := cmpI (Flt.rank a) (Flt.rank b) == 0
def evR (key : Nat) (e : SEv) : Bool := if e.f0.f0 = 2 ∨ e.f0.f0 = 5 ∨ e.f0.f0 = 6 then eqK e.f0.f2 key else if e.f0.f0 = 3 then betw key e.f0.f2 e.f0.f3 else false
def roW (key : Nat) (r : SRo) : Bool := eqK r.f0 key
set_option maxHeartbeats 1000000 in
set_option maxRecDepth 100000 in
theorem reads1_any (g key : Nat) (hk : Flt.ok key) (e : SEv) (o2 : Flt.ok e.f0.f2) (o3 : Flt.ok e.f0.f3) (A4 : Option Addr) (c4 : Nat) (A6 : Option Addr) (c6 : Nat) (A9 : Option Addr) (c9 : Nat) (w : World) (h : w.cell? ⟨g, 0, none⟩ = some (.float .f64 key)) :
    Calls Try.prog 46 (#[.agg #[.int .i64 e.f0.f0, .int .i64 e.f0.f1, .float .f64 e.f0.f2, .float .f64 e.f0.f3, .slice A4 e.f0.f4.length c4, .int .i64 e.f0.f5, .slice A6 e.f0.f6.length c6, .int .i64 e.f1.f0, .bool e.f1.f1, .slice A9 e.f1.f2.length c9, .int .i64 e.f1.f3]] ++ #[.pointer (some ⟨g, 0, none⟩)]) w fun r w' => r = .returned (.bool (evR key e)) ∧ Below w.heap.size w w' := by
  have C := fun w => Lib.hid (Compare_any e.f0.f2 key o2 hk w)
  have B := fun w => Lib.hid (Between_any key e.f0.f2 e.f0.f3 hk o2 o3 w)
  have hE : Hid (evR key e = if e.f0.f0 = 2 ∨ e.f0.f0 = 5 ∨ e.f0.f0 = 6 then eqK e.f0.f2 key else if e.f0.f0 = 3 then betw key e.f0.f2 e.f0.f3 else false) := Lib.hid rfl
  have hQ : Hid (eqK e.f0.f2 key = (cmpI (Flt.rank e.f0.f2) (Flt.rank key) == 0)) := Lib.hid rfl
  generalize evR key e = q at *
  generalize eqK e.f0.f2 key = eq1 at *
  generalize cmpI (Flt.rank e.f0.f2) (Flt.rank key) = cm at *
  generalize betw key e.f0.f2 e.f0.f3 = bt at *
  have hb := below_alloc (Below.refl w.heap.size w) (.cells #[.int .i64 e.f0.f0, .int .i64 e.f0.f1, .float .f64 e.f0.f2, .float .f64 e.f0.f3, .slice A4 e.f0.f4.length c4, .int .i64 e.f0.f5, .slice A6 e.f0.f6.length c6, .int .i64 e.f1.f0, .bool e.f1.f1, .slice A9 e.f1.f2.length c9, .int .i64 e.f1.f3] 89 (0, 0))
  have HB := Lib.hid hb
  have hlt := World.block_lt_of_cell? w _ h
  have hy := (hb.cell hlt).trans h
  have HY := Lib.hid hy
  have HL := Lib.hid hlt
  clear hb h hy hlt
  go_enter Try.func46, Try.ntmps46
  go_wp2_with (first | (go_at_call 47; refine (C _).out.mono ?_; rintro r w4 ⟨rfl, rfl⟩) | (go_at_call 48; refine (B _).out.mono ?_; rintro r w4 ⟨rfl, rfl⟩) | ((with_reducible refine gate_dst (N := 4) rfl ?_); refine box_event ?hg (N := 4) ?hd (cs := #[.int .i64 0, .int .i64 0, .float .f64 0, .float .f64 0, .slice none 0 0, .int .i64 0, .slice none 0 0]) (t := 85) ?hr ?_; (case hd => rfl); (case hg => rfl); (case hr => first | (go_simp; done) | (go_simp; rfl)); intro gb hg w3 hbox hb3; have hne : g ≠ gb := (by rw [hg]; exact Nat.ne_of_lt (Nat.lt_of_lt_of_le HL.out HB.out.size)); have hne2 : gb ≠ g := (fun h => hne h.symm); have BK := Lib.hid hbox; have HY3 := Lib.hid ((hb3.cell (World.block_lt_of_cell? _ _ HY.out)).trans HY.out); have HB3 := Lib.hid (below_step HB.out hb3); have GE := Lib.hid (show w.heap.size ≤ gb by rw [hg]; exact HB.out.size); clear hg hb3 hbox HB HY; have hy := HY3.out; obtain ⟨hc0, hc1, hc2, hc3, hc4, hc5, hc6⟩ := blkc_7 BK.out; obtain ⟨hf0, hf1, hf2, hf3, hf4, hf5⟩ := blkz_6 BK.out; have hf6 := blk_frozen BK.out 6))
  all_goals
    go_ret
    refine ⟨ret_bool ?_, by repeat (with_reducible first | exact HB3.out | refine below_set ?_ GE.out)⟩
    have e1 := hE.out
    have e2 := hQ.out
    clear hc0 hc1 hc2 hc3 hc4 hc5 hc6 hf0 hf1 hf2 hf3 hf4 hf5 hf6
    simp only [beq_iff_eq, beq_eq_false_iff_ne] at *
    rw [e1]
    first
    | rw [if_pos (by omega), e2]
    | rw [if_neg (by omega), if_pos (by omega)]
    | rw [if_neg (by omega), if_neg (by omega)]
def okEv (l : List SEv) : Prop := ∀ e ∈ l, Flt.ok e.f0.f2 ∧ Flt.ok e.f0.f3
def okRo (l : List SRo) : Prop := ∀ e ∈ l, Flt.ok e.f0
theorem box2 (w : World) (o : Obj) (v : Value) (t : TypeId) : ((w.alloc o).alloc (.cells #[v] t (0, 0))).cell? ⟨w.heap.size + 1, 0, none⟩ = some v := by
  have h := blk_new (w.alloc o) (.cells #[v] t (0, 0))
  have e : (w.alloc o).heap.size = w.heap.size + 1 := by show (w.heap.push o).size = _; rw [Array.size_push]
  rw [e] at h
  exact blk_cell h 0
set_option maxHeartbeats 1000000 in
set_option maxRecDepth 100000 in
theorem Reads_any (tx at_ : Int) (A2 : Option Addr) (c2 : Nat) (l2 : List SEv) (A3 : Option Addr) (n3 c3 : Nat) (A4 : Option Addr) (n4 c4 : Nat) (key : Nat) (w : World) (hr : Kd.C k89 w A2 l2.length l2) (hl : l2.length ≤ 1000000) (ho : okEv l2) (hk : Flt.ok key) :
    Calls Try.prog 18 #[.agg #[.int .i64 tx, .int .i64 at_, .slice A2 l2.length c2, .slice A3 n3 c3, .slice A4 n4 c4], .float .f64 key] w fun r w' => r = .returned (.bool (l2.any (evR key))) ∧ Below w.heap.size w w' := by
  have HB := Lib.hid (below_alloc (below_alloc (Below.refl w.heap.size w) (.cells #[.int .i64 tx, .int .i64 at_, .slice A2 l2.length c2, .slice A3 n3 c3, .slice A4 n4 c4] 43 (0, 0))) (.cells #[.float .f64 key] 37 (0, 0)))
  have HC := Lib.hid (box2 w (.cells #[.int .i64 tx, .int .i64 at_, .slice A2 l2.length c2, .slice A3 n3 c3, .slice A4 n4 c4] 43 (0, 0)) (.float .f64 key) 37)
  have K : ∀ W : World, Below w.heap.size w W → W.cell? ⟨w.heap.size + 1, 0, none⟩ = some (.float .f64 key) → Hid (Calls Try.prog 45 #[.slice A2 l2.length c2, .func (.func 46) #[] #[.pointer (some ⟨w.heap.size + 1, 0, none⟩)]] W fun r w' => r = .returned (.bool (l2.any (evR key))) ∧ Below W.heap.size W w') := fun W hb h =>
    Lib.hid (ContainsFunc_V A2 c2 l2 46 #[.pointer (some ⟨w.heap.size + 1, 0, none⟩)] (evR key) W (Kd.C_below hr hb) hl (enters_ Try.func46 (by kernel_rfl) rfl) (fun e he wx A4 c4 A6 c6 A9 c9 hbx _ _ _ _ _ _ => reads1_any (w.heap.size + 1) key hk e (ho e he).1 (ho e he).2 A4 c4 A6 c6 A9 c9 wx ((hbx.cell (World.block_lt_of_cell? _ _ h)).trans h)))
  clear hr ho hk
  generalize l2.any (evR key) = q at *
  go_enter Try.func18, Try.ntmps18
  go_wp2_with (go_at_call 45; refine (K _ HB.out HC.out).out.mono ?_; rintro r w4 ⟨rfl, hb4⟩; have HB4 := Lib.hid (below_step HB.out hb4); clear hb4 K HC)
  go_ret
  exact ⟨rfl, HB4.out⟩
set_option maxHeartbeats 1000000 in
set_option maxRecDepth 100000 in
theorem writes1_any (g key : Nat) (hk : Flt.ok key) (e : SRo) (o0 : Flt.ok e.f0) (A2 : Option Addr) (c2 : Nat) (w : World) (h : w.cell? ⟨g, 0, none⟩ = some (.float .f64 key)) :
    Calls Try.prog 93 (#[.agg #[.float .f64 e.f0, .bool e.f1, .slice A2 e.f2.length c2, .int .i64 e.f3, .int .i64 e.f4.f0, .int .i64 e.f4.f1]] ++ #[.pointer (some ⟨g, 0, none⟩)]) w fun r w' => r = .returned (.bool (roW key e)) ∧ Below w.heap.size w w' := by
  have C := fun w => Lib.hid (Compare_any e.f0 key o0 hk w)
  have hQ : Hid (roW key e = (cmpI (Flt.rank e.f0) (Flt.rank key) == 0)) := Lib.hid rfl
  generalize roW key e = q at *
  generalize cmpI (Flt.rank e.f0) (Flt.rank key) = cm at *
  have hb := below_alloc (Below.refl w.heap.size w) (.cells #[.float .f64 e.f0, .bool e.f1, .slice A2 e.f2.length c2, .int .i64 e.f3, .int .i64 e.f4.f0, .int .i64 e.f4.f1] 124 (0, 0))
  have HB := Lib.hid hb
  have hy := (hb.cell (World.block_lt_of_cell? w _ h)).trans h
  clear hb h
  go_enter Try.func93, Try.ntmps93
  go_wp2_with (go_at_call 47; refine (C _).out.mono ?_; rintro r w4 ⟨rfl, rfl⟩)
  go_ret
  exact ⟨ret_bool hQ.out.symm, HB.out⟩
set_option maxHeartbeats 1000000 in
set_option maxRecDepth 100000 in
theorem writes_any (tx at_ : Int) (A2 : Option Addr) (n2 c2 : Nat) (A3 : Option Addr) (c3 : Nat) (l3 : List SRo) (A4 : Option Addr) (n4 c4 : Nat) (key : Nat) (w : World) (hr : Kd.C k124 w A3 l3.length l3) (hl : l3.length ≤ 1000000) (ho : okRo l3) (hk : Flt.ok key) :
    Calls Try.prog 75 #[.agg #[.int .i64 tx, .int .i64 at_, .slice A2 n2 c2, .slice A3 l3.length c3, .slice A4 n4 c4], .float .f64 key] w fun r w' => r = .returned (.bool (l3.any (roW key))) ∧ Below w.heap.size w w' := by
  have HB := Lib.hid (below_alloc (below_alloc (Below.refl w.heap.size w) (.cells #[.int .i64 tx, .int .i64 at_, .slice A2 n2 c2, .slice A3 l3.length c3, .slice A4 n4 c4] 43 (0, 0))) (.cells #[.float .f64 key] 37 (0, 0)))
  have HC := Lib.hid (box2 w (.cells #[.int .i64 tx, .int .i64 at_, .slice A2 n2 c2, .slice A3 l3.length c3, .slice A4 n4 c4] 43 (0, 0)) (.float .f64 key) 37)
  have K : ∀ W : World, Below w.heap.size w W → W.cell? ⟨w.heap.size + 1, 0, none⟩ = some (.float .f64 key) → Hid (Calls Try.prog 91 #[.slice A3 l3.length c3, .func (.func 93) #[] #[.pointer (some ⟨w.heap.size + 1, 0, none⟩)]] W fun r w' => r = .returned (.bool (l3.any (roW key))) ∧ Below W.heap.size W w') := fun W hb h =>
    Lib.hid (ContainsFunc_W A3 c3 l3 93 #[.pointer (some ⟨w.heap.size + 1, 0, none⟩)] (roW key) W (Kd.C_below hr hb) hl (enters_ Try.func93 (by kernel_rfl) rfl) (fun e he wx A2 c2 hbx _ _ => writes1_any (w.heap.size + 1) key hk e (ho e he) A2 c2 wx ((hbx.cell (World.block_lt_of_cell? _ _ h)).trans h)))
  clear hr ho hk
  generalize l3.any (roW key) = q at *
  go_enter Try.func75, Try.ntmps75
  go_wp2_with (go_at_call 91; refine (K _ HB.out HC.out).out.mono ?_; rintro r w4 ⟨rfl, hb4⟩; have HB4 := Lib.hid (below_step HB.out hb4); clear hb4 K HC)
  go_ret
  exact ⟨rfl, HB4.out⟩
set_option maxHeartbeats 1000000 in
set_option maxRecDepth 100000 in
theorem meets1_any (g : Nat) (f : FuncId) (cap : Array Value) (q : Nat → Bool) (e : SRo) (A2 : Option Addr) (c2 : Nat) (w : World) (he : ∀ args w, (callFunc f args).run Try.prog w = .ok (.enter f args) w)
    (hf : ∀ wx, Below w.heap.size w wx → Calls Try.prog f (#[.float .f64 e.f0] ++ cap) wx fun r w' => r = .returned (.bool (q e.f0)) ∧ Below wx.heap.size wx w') (h : w.cell? ⟨g, 0, none⟩ = some (.func (.func f) #[] cap)) :
    Calls Try.prog 92 (#[.agg #[.float .f64 e.f0, .bool e.f1, .slice A2 e.f2.length c2, .int .i64 e.f3, .int .i64 e.f4.f0, .int .i64 e.f4.f1]] ++ #[.pointer (some ⟨g, 0, none⟩)]) w fun r w' => r = .returned (.bool (q e.f0)) ∧ Below w.heap.size w w' := by
  have hb := below_alloc (Below.refl w.heap.size w) (.cells #[.float .f64 e.f0, .bool e.f1, .slice A2 e.f2.length c2, .int .i64 e.f3, .int .i64 e.f4.f0, .int .i64 e.f4.f1] 124 (0, 0))
  have HB := Lib.hid hb
  have HC := Lib.hid (hf _ hb)
  have hy := (hb.cell (World.block_lt_of_cell? w _ h)).trans h
  clear hb h hf
  go_enter Try.func92, Try.ntmps92
  go_wp2_with fail
  refine HC.out.mono ?_
  rintro r w2 ⟨rfl, hb2⟩
  have HB2 := Lib.hid (below_step HB.out hb2)
  go_wp2
  go_ret
  exact ⟨rfl, HB2.out⟩
set_option maxHeartbeats 1000000 in
set_option maxRecDepth 100000 in
theorem meets_any (tx at_ : Int) (A2 : Option Addr) (n2 c2 : Nat) (A3 : Option Addr) (c3 : Nat) (l3 : List SRo) (A4 : Option Addr) (n4 c4 : Nat) (f : FuncId) (cap : Array Value) (q : Nat → Bool) (w : World) (hr : Kd.C k124 w A3 l3.length l3) (hl : l3.length ≤ 1000000) (he : ∀ args w, (callFunc f args).run Try.prog w = .ok (.enter f args) w)
    (hf : ∀ e ∈ l3, ∀ wx, Below w.heap.size w wx → Calls Try.prog f (#[.float .f64 e.f0] ++ cap) wx fun r w' => r = .returned (.bool (q e.f0)) ∧ Below wx.heap.size wx w') :
    Calls Try.prog 73 #[.agg #[.int .i64 tx, .int .i64 at_, .slice A2 n2 c2, .slice A3 l3.length c3, .slice A4 n4 c4], .func (.func f) #[] cap] w fun r w' => r = .returned (.bool (l3.any fun r => q r.f0)) ∧ Below w.heap.size w w' := by
  have hB0 := below_alloc (below_alloc (Below.refl w.heap.size w) (.cells #[.int .i64 tx, .int .i64 at_, .slice A2 n2 c2, .slice A3 l3.length c3, .slice A4 n4 c4] 43 (0, 0))) (.cells #[.func (.func f) #[] cap] 119 (0, 0))
  have HB := Lib.hid hB0
  have HC := Lib.hid (box2 w (.cells #[.int .i64 tx, .int .i64 at_, .slice A2 n2 c2, .slice A3 l3.length c3, .slice A4 n4 c4] 43 (0, 0)) (.func (.func f) #[] cap) 119)
  have K : ∀ W : World, Below w.heap.size w W → W.cell? ⟨w.heap.size + 1, 0, none⟩ = some (.func (.func f) #[] cap) → Hid (Calls Try.prog 91 #[.slice A3 l3.length c3, .func (.func 92) #[] #[.pointer (some ⟨w.heap.size + 1, 0, none⟩)]] W fun r w' => r = .returned (.bool (l3.any fun r => q r.f0)) ∧ Below W.heap.size W w') := fun W hb h =>
    Lib.hid (ContainsFunc_W A3 c3 l3 92 #[.pointer (some ⟨w.heap.size + 1, 0, none⟩)] (fun r => q r.f0) W (Kd.C_below hr hb) hl (enters_ Try.func92 (by kernel_rfl) rfl) (fun e hm wx A2 c2 hbx _ _ => meets1_any (w.heap.size + 1) f cap q e A2 c2 wx he (fun wy hy => hf e hm wy (below_step (below_step hb hbx) hy)) ((hbx.cell (World.block_lt_of_cell? _ _ h)).trans h)))
  clear hr hf he hB0
  generalize (l3.any fun r => q r.f0) = qq at *
  go_enter Try.func73, Try.ntmps73
  go_wp2_with (go_at_call 91; refine (K _ HB.out HC.out).out.mono ?_; rintro r w4 ⟨rfl, hb4⟩; have HB4 := Lib.hid (below_step HB.out hb4); clear hb4 K HC)
  go_ret
  exact ⟨rfl, HB4.out⟩
set_option maxHeartbeats 1000000 in
set_option maxRecDepth 100000 in
theorem ahead1_any (g : Nat) (tx at_ : Int) (A2 : Option Addr) (n2 c2 : Nat) (A3 : Option Addr) (c3 : Nat) (l3 : List SRo) (A4 : Option Addr) (n4 c4 : Nat) (key : Nat) (w : World) (hr : Kd.C k124 w A3 l3.length l3) (hl : l3.length ≤ 1000000) (ho : okRo l3) (hk : Flt.ok key) (h : w.heap[g]? = some (.cells #[.int .i64 tx, .int .i64 at_, .slice A2 n2 c2, .slice A3 l3.length c3, .slice A4 n4 c4] 43 (0, 0))) :
    Calls Try.prog 74 (#[.float .f64 key] ++ #[.pointer (some ⟨g, 0, none⟩)]) w fun r w' => r = .returned (.bool (l3.any (roW key))) ∧ Below w.heap.size w w' := by
  have K := Lib.hid (writes_any tx at_ A2 n2 c2 A3 c3 l3 A4 n4 c4 key w hr hl ho hk)
  obtain ⟨h0, h1, h2, h3, h4⟩ := blkc_5 h
  clear hr hl ho hk h
  generalize l3.any (roW key) = q at *
  go_enter Try.func74, Try.ntmps74
  go_wp2_with (go_at_call 75; refine K.out.mono ?_; rintro r w4 ⟨rfl, hb4⟩; have HB4 := Lib.hid hb4; clear hb4)
  go_ret
  exact ⟨rfl, HB4.out⟩
set_option maxHeartbeats 1000000 in
set_option maxRecDepth 100000 in
theorem ahead2_any (g : Nat) (tx at_ : Int) (A2 : Option Addr) (c2 : Nat) (l2 : List SEv) (A3 : Option Addr) (n3 c3 : Nat) (A4 : Option Addr) (n4 c4 : Nat) (key : Nat) (w : World) (hr : Kd.C k89 w A2 l2.length l2) (hl : l2.length ≤ 1000000) (ho : okEv l2) (hk : Flt.ok key) (h : w.heap[g]? = some (.cells #[.int .i64 tx, .int .i64 at_, .slice A2 l2.length c2, .slice A3 n3 c3, .slice A4 n4 c4] 43 (0, 0))) :
    Calls Try.prog 76 (#[.float .f64 key] ++ #[.pointer (some ⟨g, 0, none⟩)]) w fun r w' => r = .returned (.bool (l2.any (evR key))) ∧ Below w.heap.size w w' := by
  have K := Lib.hid (Reads_any tx at_ A2 c2 l2 A3 n3 c3 A4 n4 c4 key w hr hl ho hk)
  obtain ⟨h0, h1, h2, h3, h4⟩ := blkc_5 h
  clear hr hl ho hk h
  generalize l2.any (evR key) = q at *
  go_enter Try.func76, Try.ntmps76
  go_wp2_with (go_at_call 18; refine K.out.mono ?_; rintro r w4 ⟨rfl, hb4⟩; have HB4 := Lib.hid hb4; clear hb4)
  go_ret
  exact ⟨rfl, HB4.out⟩
set_option maxHeartbeats 1000000 in
set_option maxRecDepth 100000 in
theorem ahead3_any (g : Nat) (tx at_ : Int) (A2 : Option Addr) (c2 : Nat) (l2 : List SEv) (A3 : Option Addr) (n3 c3 : Nat) (A4 : Option Addr) (n4 c4 : Nat) (key : Nat) (w : World) (hr : Kd.C k89 w A2 l2.length l2) (hl : l2.length ≤ 1000000) (ho : okEv l2) (hk : Flt.ok key) (h : w.heap[g]? = some (.cells #[.int .i64 tx, .int .i64 at_, .slice A2 l2.length c2, .slice A3 n3 c3, .slice A4 n4 c4] 43 (0, 0))) :
    Calls Try.prog 77 (#[.float .f64 key] ++ #[.pointer (some ⟨g, 0, none⟩)]) w fun r w' => r = .returned (.bool (l2.any (evR key))) ∧ Below w.heap.size w w' := by
  have K := Lib.hid (Reads_any tx at_ A2 c2 l2 A3 n3 c3 A4 n4 c4 key w hr hl ho hk)
  obtain ⟨h0, h1, h2, h3, h4⟩ := blkc_5 h
  clear hr hl ho hk h
  generalize l2.any (evR key) = q at *
  go_enter Try.func77, Try.ntmps77
  go_wp2_with (go_at_call 18; refine K.out.mono ?_; rintro r w4 ⟨rfl, hb4⟩; have HB4 := Lib.hid hb4; clear hb4)
  go_ret
  exact ⟨rfl, HB4.out⟩
end Go.Proofs.Ytbmcbhpkefjhbaa.P
set_option linter.unusedVariables false
set_option linter.unusedSimpArgs false
namespace Go.Proofs.Ytbmcbhpkefjhbaa.P
open Go.RowKit Go.Proofs.Ytbmcbhpkefjhbaa Go.Proofs.Ytbmcbhpkefjhbaa.Mem Go.Proofs.YtbmcbhpkefjhbaaW.PrintWords Go.Proofs.YtbmcbhpkefjhbaaW.PrintLast Go.Proofs.YtbmcbhpkefjhbaaW.PrintMore
attribute [local go_sem] run_store_float
def aheadB (at_ : Int) (l2 : List SEv) (l3 : List SRo) (bt_ : Int) (m2 : List SEv) (m3 : List SRo) (p q : Int) : Bool :=
  (decide (0 ≤ p) && decide (0 ≤ q) && decide (p < q) && l3.any fun r => m3.any (roW r.f0)) || (decide (0 ≤ p) && decide (p < bt_) && l3.any fun r => m2.any (evR r.f0)) || (decide (0 ≤ q) && decide (at_ ≤ q) && m3.any fun r => l2.any (evR r.f0))
set_option maxHeartbeats 4000000 in
set_option maxRecDepth 100000 in
theorem ahead_any (tx at_ : Int) (A2 : Option Addr) (c2 : Nat) (l2 : List SEv) (A3 : Option Addr) (c3 : Nat) (l3 : List SRo) (A4 : Option Addr) (n4 c4 : Nat) (ux bt_ : Int) (B2 : Option Addr) (d2 : Nat) (m2 : List SEv) (B3 : Option Addr) (d3 : Nat) (m3 : List SRo) (B4 : Option Addr) (o4 d4 : Nat) (p q : Int) (w : World)
    (ha2 : Kd.C k89 w A2 l2.length l2) (la2 : l2.length ≤ 1000000) (oa2 : okEv l2) (ha3 : Kd.C k124 w A3 l3.length l3) (la3 : l3.length ≤ 1000000) (oa3 : okRo l3)
    (hb2 : Kd.C k89 w B2 m2.length m2) (lb2 : m2.length ≤ 1000000) (ob2 : okEv m2) (hb3 : Kd.C k124 w B3 m3.length m3) (lb3 : m3.length ≤ 1000000) (ob3 : okRo m3) :
    Calls Try.prog 52 #[.agg #[.int .i64 tx, .int .i64 at_, .slice A2 l2.length c2, .slice A3 l3.length c3, .slice A4 n4 c4], .agg #[.int .i64 ux, .int .i64 bt_, .slice B2 m2.length d2, .slice B3 m3.length d3, .slice B4 o4 d4], .int .i64 p, .int .i64 q] w fun r w' => r = .returned (.bool (aheadB at_ l2 l3 bt_ m2 m3 p q)) ∧ Below w.heap.size w w' := by
  have hB0 := below_alloc (below_alloc (Below.refl w.heap.size w) (.cells #[.int .i64 tx, .int .i64 at_, .slice A2 l2.length c2, .slice A3 l3.length c3, .slice A4 n4 c4] 43 (0, 0))) (.cells #[.int .i64 ux, .int .i64 bt_, .slice B2 m2.length d2, .slice B3 m3.length d3, .slice B4 o4 d4] 43 (0, 0))
  have HB := Lib.hid hB0
  have es : (w.alloc (.cells #[.int .i64 tx, .int .i64 at_, .slice A2 l2.length c2, .slice A3 l3.length c3, .slice A4 n4 c4] 43 (0, 0))).heap.size = w.heap.size + 1 := by show (w.heap.push _).size = _; rw [Array.size_push]
  have hX := blk_new (w.alloc (.cells #[.int .i64 tx, .int .i64 at_, .slice A2 l2.length c2, .slice A3 l3.length c3, .slice A4 n4 c4] 43 (0, 0))) (.cells #[.int .i64 ux, .int .i64 bt_, .slice B2 m2.length d2, .slice B3 m3.length d3, .slice B4 o4 d4] 43 (0, 0))
  rw [es] at hX
  have HX := Lib.hid hX
  have HA := Lib.hid (blk_alloc (blk_new w (.cells #[.int .i64 tx, .int .i64 at_, .slice A2 l2.length c2, .slice A3 l3.length c3, .slice A4 n4 c4] 43 (0, 0))) (.cells #[.int .i64 ux, .int .i64 bt_, .slice B2 m2.length d2, .slice B3 m3.length d3, .slice B4 o4 d4] 43 (0, 0)))
  have K1 : ∀ W : World, Below w.heap.size w W → W.heap[w.heap.size + 1]? = some (.cells #[.int .i64 ux, .int .i64 bt_, .slice B2 m2.length d2, .slice B3 m3.length d3, .slice B4 o4 d4] 43 (0, 0)) → Hid (Calls Try.prog 73 #[.agg #[.int .i64 tx, .int .i64 at_, .slice A2 l2.length c2, .slice A3 l3.length c3, .slice A4 n4 c4], .func (.func 74) #[] #[.pointer (some ⟨w.heap.size + 1, 0, none⟩)]] W fun r w' => r = .returned (.bool (l3.any fun r => m3.any (roW r.f0))) ∧ Below W.heap.size W w') := fun W hb h =>
    Lib.hid (meets_any tx at_ A2 l2.length c2 A3 c3 l3 A4 n4 c4 74 #[.pointer (some ⟨w.heap.size + 1, 0, none⟩)] (fun k => m3.any (roW k)) W (Kd.C_below ha3 hb) la3 (enters_ Try.func74 (by kernel_rfl) rfl) (fun e hm wx hbx => ahead1_any (w.heap.size + 1) ux bt_ B2 m2.length d2 B3 d3 m3 B4 o4 d4 e.f0 wx (Kd.C_below hb3 (below_step hb hbx)) lb3 ob3 (oa3 e hm) (blk_below h hbx)))
  have K2 : ∀ W : World, Below w.heap.size w W → W.heap[w.heap.size + 1]? = some (.cells #[.int .i64 ux, .int .i64 bt_, .slice B2 m2.length d2, .slice B3 m3.length d3, .slice B4 o4 d4] 43 (0, 0)) → Hid (Calls Try.prog 73 #[.agg #[.int .i64 tx, .int .i64 at_, .slice A2 l2.length c2, .slice A3 l3.length c3, .slice A4 n4 c4], .func (.func 76) #[] #[.pointer (some ⟨w.heap.size + 1, 0, none⟩)]] W fun r w' => r = .returned (.bool (l3.any fun r => m2.any (evR r.f0))) ∧ Below W.heap.size W w') := fun W hb h =>
    Lib.hid (meets_any tx at_ A2 l2.length c2 A3 c3 l3 A4 n4 c4 76 #[.pointer (some ⟨w.heap.size + 1, 0, none⟩)] (fun k => m2.any (evR k)) W (Kd.C_below ha3 hb) la3 (enters_ Try.func76 (by kernel_rfl) rfl) (fun e hm wx hbx => ahead2_any (w.heap.size + 1) ux bt_ B2 d2 m2 B3 m3.length d3 B4 o4 d4 e.f0 wx (Kd.C_below hb2 (below_step hb hbx)) lb2 ob2 (oa3 e hm) (blk_below h hbx)))
  have K3 : ∀ W : World, Below w.heap.size w W → W.heap[w.heap.size]? = some (.cells #[.int .i64 tx, .int .i64 at_, .slice A2 l2.length c2, .slice A3 l3.length c3, .slice A4 n4 c4] 43 (0, 0)) → Hid (Calls Try.prog 73 #[.agg #[.int .i64 ux, .int .i64 bt_, .slice B2 m2.length d2, .slice B3 m3.length d3, .slice B4 o4 d4], .func (.func 77) #[] #[.pointer (some ⟨w.heap.size, 0, none⟩)]] W fun r w' => r = .returned (.bool (m3.any fun r => l2.any (evR r.f0))) ∧ Below W.heap.size W w') := fun W hb h =>
    Lib.hid (meets_any ux bt_ B2 m2.length d2 B3 d3 m3 B4 o4 d4 77 #[.pointer (some ⟨w.heap.size, 0, none⟩)] (fun k => l2.any (evR k)) W (Kd.C_below hb3 hb) lb3 (enters_ Try.func77 (by kernel_rfl) rfl) (fun e hm wx hbx => ahead3_any w.heap.size tx at_ A2 c2 l2 A3 l3.length c3 A4 n4 c4 e.f0 wx (Kd.C_below ha2 (below_step hb hbx)) la2 oa2 (ob3 e hm) (blk_below h hbx)))
  have hE : Hid (aheadB at_ l2 l3 bt_ m2 m3 p q = ((decide (0 ≤ p) && decide (0 ≤ q) && decide (p < q) && l3.any fun r => m3.any (roW r.f0)) || (decide (0 ≤ p) && decide (p < bt_) && l3.any fun r => m2.any (evR r.f0)) || (decide (0 ≤ q) && decide (at_ ≤ q) && m3.any fun r => l2.any (evR r.f0)))) := Lib.hid rfl
  clear ha2 la2 oa2 ha3 la3 oa3 hb2 lb2 ob2 hb3 lb3 ob3 hB0 es hX
  generalize (l3.any fun r => m3.any (roW r.f0)) = x1 at *
  generalize (l3.any fun r => m2.any (evR r.f0)) = x2 at *
  generalize (m3.any fun r => l2.any (evR r.f0)) = x3 at *
  generalize aheadB at_ l2 l3 bt_ m2 m3 p q = y at *
  go_enter Try.func52, Try.ntmps52
  go_wp2_with (go_at_call 73; (first | refine (K1 _ HB.out HX.out).out.mono ?_ | refine (K2 _ HB.out HX.out).out.mono ?_ | refine (K3 _ HB.out HA.out).out.mono ?_); rintro r w4 ⟨rfl, hb4⟩; have n0 := Lib.hid (below_step HB.out hb4); have n1 := Lib.hid (blk_below HX.out hb4); have n2 := Lib.hid (blk_below HA.out hb4); clear hb4 HB HX HA; have HB := n0; have HX := n1; have HA := n2; clear n0 n1 n2; obtain ⟨h0, h1, h2, h3, h4⟩ := blkc_5 HA.out; obtain ⟨g0, g1, g2, g3, g4⟩ := blkc_5 HX.out)
  all_goals
    go_ret
    refine ⟨ret_bool ?_, HB.out⟩
    have e1 := hE.out
    clear K1 K2 K3 HB HX HA hE
    (first | rw [show decide (0 ≤ p) = true from decide_eq_true (by omega)] at e1 | rw [show decide (0 ≤ p) = false from decide_eq_false (by omega)] at e1 | skip)
    (first | rw [show decide (0 ≤ q) = true from decide_eq_true (by omega)] at e1 | rw [show decide (0 ≤ q) = false from decide_eq_false (by omega)] at e1 | skip)
    (first | rw [show decide (p < q) = true from decide_eq_true (by omega)] at e1 | rw [show decide (p < q) = false from decide_eq_false (by omega)] at e1 | skip)
    (first | rw [show decide (p < bt_) = true from decide_eq_true (by omega)] at e1 | rw [show decide (p < bt_) = false from decide_eq_false (by omega)] at e1 | skip)
    (first | rw [show decide (at_ ≤ q) = true from decide_eq_true (by omega)] at e1 | rw [show decide (at_ ≤ q) = false from decide_eq_false (by omega)] at e1 | skip)
    rw [e1]
    simp [*]
end Go.Proofs.Ytbmcbhpkefjhbaa.P
