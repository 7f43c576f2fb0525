/- by wip/prune.py -/
import Derived.Test.YtdcllbhkjcdnoaaMUndorecDecodes4
import Derived.Deep.LoopGhost
import Derived.Outline
import Derived.Test.YtdcllbhkjcdnoaaMUndorecDecodes2
import Derived.Test.YtdcllbhkjcdnoaaMUndorecDecodes5
import Derived.Test.YtdcllbhkjcdnoaaMUndorecDecodes7
import Derived.Test.YtdcllbhkjcdnoaaMUndorecDecodes8
set_option linter.unusedSimpArgs false
set_option linter.unusedVariables false
namespace Go.Proofs.Ytdcllbhkjcdnoaa.P
open Go.RowKit Ytdcllbhkjcdnoaa Ytdcllbhkjcdnoaa.Mem YtdcllbhkjcdnoaaW.PrintWords YtdcllbhkjcdnoaaW.PrintLast YtdcllbhkjcdnoaaW.PrintMore
def ixOf (o : Option Nat) : Int := match o with | some i => (i : Int) | none => -1
theorem ix_ge {α : Type} (l : List α) (q : α → Bool) : decide (0 ≤ ixOf (l.findIdx? q)) = l.any q := by
  cases h : l.findIdx? q with
  | none =>
    rw [List.findIdx?_eq_none_iff] at h
    rw [show ixOf none = -1 from rfl]
    symm
    rw [show decide ((0 : Int) ≤ -1) = false from rfl, List.any_eq_false]
    intro x hx;rw [h x hx]; decide
  | some i =>
    rw [List.findIdx?_eq_some_iff_getElem] at h;obtain ⟨h1, h2, _⟩ := h
    rw [show ixOf (some i) = (i : Int) from rfl, dt_ (by omega)]
    symm
    rw [List.any_eq_true];exact ⟨_, List.getElem_mem h1, h2⟩
theorem rdF_of {l : List Nat} {i : Nat} {a : Nat} (h : l[i]? = some a) : rdF l (i : Int) = a := by
  unfold rdF rdOf
  rw [Int.toNat_natCast, List.getD_eq_getElem?_getD, h]; rfl
theorem C_at {w : World} {A : Option Addr} {l : List Nat} (h : Kd.C Kd.f64 w A l.length l) {i : Nat} {a : Nat} (hi : l[i]? = some a) : ∃ ad, A = some ad ∧ w.cell? (ad.add i) = some (.float .f64 a) := by
  have hlt := (List.getElem?_eq_some_iff.1 hi).1
  obtain ⟨ad, e, hc⟩ := Kd.at_f64 h (i : Int) (by omega) (by omega)
  rw [Int.toNat_natCast, rdF_of hi] at hc;exact ⟨ad, e, hc⟩
set_option maxRecDepth 100000 in
theorem IndexFuncF (A : Option Addr) (c : Nat) (l : List Nat) (f : FuncId) (cap : Array Value) (q : Nat → Bool) (w : World) (hr : Kd.C Kd.f64 w A l.length l) (hl : l.length ≤ 1000000)
    (he : ∀ args w, (callFunc f args).run Try.prog w = .ok (.enter f args) w)
    (hf : ∀ e ∈ l, ∀ wx, Below w.heap.size w wx → Calls Try.prog f (#[.float .f64 e] ++ cap) wx fun r w' => r = .returned (.bool (q e)) ∧ Below wx.heap.size wx w') :
    Calls Try.prog 88 #[.slice A l.length c, .func (.func f) #[] cap] w fun e w' => e = .returned (.int .i64 (ixOf (l.findIdx? q))) ∧ Below w.heap.size w w' := by
  have HB := Lib.hid (Below.refl w.heap.size w);have HR := Lib.hid hr;have HF := Lib.hid hf;clear hr hf;go_enter Try.func88, Try.ntmps88;go_wp2
  go_loopg [5, 8] l.length (fun k v5 v8 wr => ∃ i : Nat, i ≤ l.length ∧ k = l.length - i ∧ v8 = .int .i64 (i : Int) ∧ Hid (∀ (j : Nat) (e : Nat), j < i → l[j]? = some e → q e = false) ∧ Hid (Below w.heap.size w wr))
  case atStart => exact ⟨0, Nat.zero_le _, rfl, rfl, Lib.hid (fun j e h => absurd h (Nat.not_lt_zero _)), HB⟩
  case round =>
    clear HB;obtain ⟨i, hi, rfl, rfl, HN, HB⟩ := hrel;have i0 : (0 : Int) ≤ (i : Int) := Int.natCast_nonneg _
    by_cases hlt : i < l.length
    · have hd : decide (i < l.length) = true := dt_ hlt
      have i1 : (i : Int) < (l.length : Int) := by omega
      obtain ⟨a, ha⟩ : ∃ a, l[i]? = some a := ⟨_, List.getElem?_eq_getElem hlt⟩
      obtain ⟨ad, rfl, x0⟩ := C_at (Kd.C_below HR.out HB.out) ha;have HC := Lib.hid (HF.out a (List.mem_of_getElem? ha) _ HB.out);have HA := Lib.hid ha;clear ha;go_wp2_with fail;refine HC.out.mono ?_;rintro r w2 ⟨rfl, hb2⟩;have HB2 := Lib.hid (bp_ HB.out hb2)
      cases hq : q a with
      | true =>
        have hfi : l.findIdx? q = some i := by
          rw [List.findIdx?_eq_some_iff_getElem]
          refine ⟨hlt, ?_, fun j hj => ?_⟩
          · have := HA.out
            rw [List.getElem?_eq_getElem hlt] at this
            injection this with this
            rw [this]; exact hq
          · have := HN.out j (l[j]'(by omega)) hj (List.getElem?_eq_getElem (by omega))
            rw [this]; decide
        go_wp2;go_ret
        exact ⟨by rw [hfi]; rfl, HB2.out⟩
      | false =>
        have HQ := Lib.hid hq;clear hq;go_wp2;go_roundg (l.length - (i + 1))
        case measure => omega
        case rel =>
          refine ⟨i + 1, by omega, rfl, by go_num, Lib.hid (fun j e hj hje => ?_), HB2⟩
          by_cases h : j = i
          · subst h
            have := hje.symm.trans HA.out
            injection this with this
            rw [this]; exact HQ.out
          · exact HN.out j e (by omega) hje
    · have hd : decide (i < l.length) = false := df_ hlt
      obtain rfl : i = l.length := by omega
      have hfi : l.findIdx? q = none := by
        rw [List.findIdx?_eq_none_iff];intro e he;obtain ⟨j, hj⟩ := List.mem_iff_getElem?.1 he;exact HN.out j e (List.getElem?_eq_some_iff.1 hj).1 hj
      go_wp2;go_ret
      exact ⟨by rw [hfi]; rfl, HB.out⟩
theorem ContainsFuncF (A : Option Addr) (c : Nat) (l : List Nat) (f : FuncId) (cap : Array Value) (q : Nat → Bool) (w : World) (hr : Kd.C Kd.f64 w A l.length l) (hl : l.length ≤ 1000000)
    (he : ∀ args w, (callFunc f args).run Try.prog w = .ok (.enter f args) w)
    (hf : ∀ e ∈ l, ∀ wx, Below w.heap.size w wx → Calls Try.prog f (#[.float .f64 e] ++ cap) wx fun r w' => r = .returned (.bool (q e)) ∧ Below wx.heap.size wx w') :
    Calls Try.prog 65 #[.slice A l.length c, .func (.func f) #[] cap] w fun e w' => e = .returned (.bool (l.any q)) ∧ Below w.heap.size w w' := by
  have IX := Lib.hid (IndexFuncF A c l f cap q w hr hl he hf);have HG := Lib.hid (ix_ge l q);clear hr he hf
  generalize ixOf (l.findIdx? q) = z at IX HG
  go_enter Try.func65, Try.ntmps65;go_wp2_with fail;refine IX.out.mono ?_;rintro e w' ⟨rfl, hb⟩;go_wp2;go_ret;exact ⟨ret_bool HG.out, hb⟩
def badC (x : Nat) : Bool := !((x : Int) == (Flt.val x : Int))
set_option maxRecDepth 100000 in
theorem rowCheck1_any (x : Nat) (w : World) : Calls Try.prog 66 #[.float .f64 x] w fun e w' => e = .returned (.bool (badC x)) ∧ Below w.heap.size w w' := by
  have HB := Lib.hid (Below.refl w.heap.size w);go_enter Try.func66, Try.ntmps66;go_wp2_with (first | (go_at_call 68; refine (Value_any _ _).mono ?_; rintro e w' ⟨rfl, rfl⟩) | (go_at_call 67; refine (Same_any _ _ _).mono ?_; rintro e w' ⟨rfl, rfl⟩));go_ret;exact ⟨rfl, HB.out⟩
def containsFunc_row_Check_1.f (l0 : List Nat) : Option Bool := if l0.length ≤ 1000000 then some (l0.any badC) else none
theorem containsFunc_row_Check_1.calls (A0 : Option Addr) (c0 : Nat) (l0 : List Nat) (r : Bool) (w : World) (hr0 : Kd.C Kd.f64 w A0 l0.length l0) (hc0 : l0.length ≤ c0) (h : containsFunc_row_Check_1.f l0 = some r) :
    Calls Try.prog 65 #[.slice A0 l0.length c0, .func (.func 66) #[] #[]] w fun e w' => e = .returned (.bool r) ∧ Below w.heap.size w w' := by
  unfold containsFunc_row_Check_1.f at h
  split at h
  · rename_i hl
    injection h with h; subst h
    exact ContainsFuncF A0 c0 l0 66 #[] badC w hr0 hl (enters_ Try.func66 (by kernel_rfl) rfl) (fun e _ wx _ => rowCheck1_any e wx)
  · cases h
set_option maxRecDepth 100000 in
theorem EqualFuncF (A : Option Addr) (c : Nat) (l : List Nat) (B : Option Addr) (d : Nat) (m : List Nat) (w : World) (hr : Kd.C Kd.f64 w A l.length l) (hm : Kd.C Kd.f64 w B m.length m) (hl : l.length ≤ 1000000) :
    Calls Try.prog 81 #[.slice A l.length c, .slice B m.length d, .func (.func 67) #[] #[]] w fun e w' => e = .returned (.bool (decide (l = m))) ∧ Below w.heap.size w w' := by
  have HB := Lib.hid (Below.refl w.heap.size w);have HR := Lib.hid hr;have HM := Lib.hid hm;clear hr hm
  by_cases hlen : l.length = m.length
  · rw [← hlen]
    have HLN := Lib.hid hlen;clear hlen;have hE := enters_ Try.func67 (by kernel_rfl) rfl;go_enter Try.func81, Try.ntmps81;go_wp2
    go_loopg [7, 8, 9, 17] l.length (fun k v7 v8 v9 v17 wr => ∃ i : Nat, i ≤ l.length ∧ k = l.length - i ∧ v17 = .int .i64 (i : Int) ∧ Hid (∀ (j : Nat), j < i → l[j]? = m[j]?) ∧ w = wr)
    case atStart => exact ⟨0, Nat.zero_le _, rfl, rfl, Lib.hid (fun j h => absurd h (Nat.not_lt_zero _)), rfl⟩
    case round =>
      obtain ⟨i, hi, rfl, rfl, HN, rfl⟩ := hrel;have i0 : (0 : Int) ≤ (i : Int) := Int.natCast_nonneg _
      by_cases hlt : i < l.length
      · have hd : decide (i < l.length) = true := dt_ hlt
        have i1 : (i : Int) < (l.length : Int) := by omega
        have i2 : i < m.length := by have := HLN.out; omega
        obtain ⟨a, ha⟩ : ∃ a, l[i]? = some a := ⟨_, List.getElem?_eq_getElem hlt⟩
        obtain ⟨b, hb⟩ : ∃ b, m[i]? = some b := ⟨_, List.getElem?_eq_getElem i2⟩
        obtain ⟨ad, rfl, x0⟩ := C_at HR.out ha;obtain ⟨bd, rfl, y0⟩ := C_at HM.out hb;have HA := Lib.hid ha;have HBb := Lib.hid hb;clear ha hb
        by_cases hq : a = b
        · have hq' : ((a : Int) == (b : Int)) = true := by rw [hq]; exact beq_self_eq_true _
          have HQ := Lib.hid hq;clear hq;go_wp2_with (first | (go_at_call 67; refine (Same_any _ _ _).mono ?_; rintro e w' ⟨rfl, rfl⟩));go_roundg (l.length - (i + 1))
          case measure => omega
          case rel =>
            refine ⟨i + 1, by omega, rfl, by go_num, Lib.hid (fun j hj => ?_), rfl⟩
            by_cases h : j = i
            · subst h; rw [HA.out, HBb.out, HQ.out]
            · exact HN.out j (by omega)
        · have hq' : ((a : Int) == (b : Int)) = false := by rw [beq_eq_false_iff_ne]; omega
          have HQ : Hid (decide (l = m) = false) := Lib.hid (by
            rw [decide_eq_false_iff_not]; intro e;apply hq;have h1 := HA.out;rw [e, HBb.out] at h1
            injection h1 with h1; exact h1.symm)
          clear hq;go_wp2_with (first | (go_at_call 67; refine (Same_any _ _ _).mono ?_; rintro e w' ⟨rfl, rfl⟩));go_ret;exact ⟨ret_bool HQ.out.symm, HB.out⟩
      · have hd : decide (i < l.length) = false := df_ hlt
        obtain rfl : i = l.length := by omega
        have HQ : Hid (decide (l = m) = true) := Lib.hid (by
          rw [decide_eq_true_iff];apply List.ext_getElem?;intro j
          rcases Nat.lt_or_ge j l.length with h | h
          · exact HN.out j h
          · rw [List.getElem?_eq_none h, List.getElem?_eq_none (by have := HLN.out; omega)])
        go_wp2;go_ret;exact ⟨ret_bool HQ.out.symm, HB.out⟩
  · have e1 : (l.length == m.length) = false := by rw [beq_eq_false_iff_ne]; exact hlen
    have e2 : (l.length != m.length) = true := by rw [bne_iff_ne]; exact hlen
    have hne : decide (l = m) = false := df_ (fun e => hlen (by rw [e]))
    rw [hne];clear hlen;go_enter Try.func81, Try.ntmps81;go_wp2;go_ret;exact ⟨rfl, HB.out⟩
def equalFunc_num_Same.f (l0 l1 : List Nat) : Option Bool := if l0.length ≤ 1000000 then some (decide (l0 = l1)) else none
theorem equalFunc_num_Same.calls (A0 : Option Addr) (c0 : Nat) (l0 : List Nat) (A1 : Option Addr) (c1 : Nat) (l1 : List Nat) (r : Bool) (w : World) (hr0 : Kd.C Kd.f64 w A0 l0.length l0) (hc0 : l0.length ≤ c0) (hr1 : Kd.C Kd.f64 w A1 l1.length l1) (hc1 : l1.length ≤ c1) (h : equalFunc_num_Same.f l0 l1 = some r) :
    Calls Try.prog 81 #[.slice A0 l0.length c0, .slice A1 l1.length c1, .func (.func 67) #[] #[]] w fun e w' => e = .returned (.bool r) ∧ Below w.heap.size w w' := by
  unfold equalFunc_num_Same.f at h
  split at h
  · rename_i hl
    injection h with h; subst h
    exact EqualFuncF A0 c0 l0 A1 c1 l1 w hr0 hr1 hl
  · cases h
open Go.RowKit YtdcllbhkjcdnoaaW.PrintWords YtdcllbhkjcdnoaaW.PrintLast YtdcllbhkjcdnoaaW.PrintMore
attribute [local go_sem] max2_int min2_int max_two min_two max_three min_three max_four min_four   -- for this text's walks alone
attribute [local go_sem] run_store_float
mutual
def row_Check.j0 : Nat → Bool → Nat → Bool → List Nat → Int → Int → Int → Option (Int)
 | 0,_,_,_,_,_,_,_ => none
 | k + 1,x7,x102000,x102001,x102002,x102003,x102004,x102005 => if x7 = true then (some 1) else (if x102003 < 0 then (row_Check.j1 k true x102000 x102001 x102002 x102003 x102004 x102005) else (if x102003 > 2147483647 then (row_Check.j1 k true x102000 x102001 x102002 x102003 x102004 x102005) else (if x102004 < 0 then (row_Check.j1 k true x102000 x102001 x102002 x102003 x102004 x102005) else (row_Check.j1 k (decide (x102004 ≥ 65536)) x102000 x102001 x102002 x102003 x102004 x102005))))
def row_Check.j1 : Nat → Bool → Nat → Bool → List Nat → Int → Int → Int → Option (Int)
 | 0,_,_,_,_,_,_,_ => none
 | k + 1,x34,x102000,x102001,x102002,x102003,x102004,x102005 => if x34 = true then (some 1) else (if x102005 < 0 then (some 1) else (if x102005 > 2147483647 then (some 1) else (if x102004 = 0 then (if x102005 > 0 then (some 1) else (some 0)) else (some 0))))
end
def row_Check.f (k : Nat) (a0_0 : Nat) (a0_1 : Bool) (l0_2 : List Nat) (a0_3 : Int) (a0_4 : Int) (a0_5 : Int) : Option (Int):=(containsFunc_row_Check_1.f l0_2).bind fun t102 => (if t102 = true then (row_Check.j0 k true a0_0 a0_1 l0_2 a0_3 a0_4 a0_5) else ((num_Key.f a0_0).bind fun t103 => ((num_Same.f a0_0 t103).bind fun t104 => (if t104 = true then (if (l0_2.length : Int) > 4 then (row_Check.j0 k true a0_0 a0_1 l0_2 a0_3 a0_4 a0_5) else (if a0_1 = true then (row_Check.j0 k (decide ((l0_2.length : Int) > 0)) a0_0 a0_1 l0_2 a0_3 a0_4 a0_5) else (row_Check.j0 k false a0_0 a0_1 l0_2 a0_3 a0_4 a0_5))) else (row_Check.j0 k true a0_0 a0_1 l0_2 a0_3 a0_4 a0_5)))))
set_option maxHeartbeats 8000000 in
set_option maxRecDepth 100000 in
theorem row_Check.calls (k : Nat) (a0_0 : Nat) (a0_1 : Bool) (A0_2 : Option Addr) (c0_2 : Nat) (l0_2 : List Nat) (a0_3 : Int) (a0_4 : Int) (a0_5 : Int) (r : Int) (w : World) (hr0_2 : Kd.C Kd.f64 w A0_2 l0_2.length l0_2) (hc0_2 : l0_2.length ≤ c0_2) (h : row_Check.f k a0_0 a0_1 l0_2 a0_3 a0_4 a0_5 = some r) :
  Calls Try.prog 33 #[.agg #[.float .f64 a0_0,.bool a0_1,.slice A0_2 l0_2.length c0_2,.int .i64 a0_3,.int .i64 a0_4,.int .i64 a0_5]] w fun e w' => e = .returned (.int .i64 r) ∧ Below w.heap.size w w':=by
 have hu30:=Try.underlying30;have HR0_2:=A_ hr0_2;have HC0_2:=A_ hc0_2;clear hr0_2 hc0_2;have HB:=A_ (Below.refl w.heap.size w)
 have H : ((containsFunc_row_Check_1.f l0_2).bind fun t102 => (if t102 = true then (row_Check.j0 k true a0_0 a0_1 l0_2 a0_3 a0_4 a0_5) else ((num_Key.f a0_0).bind fun t103 => ((num_Same.f a0_0 t103).bind fun t104 => (if t104 = true then (if (l0_2.length : Int) > 4 then (row_Check.j0 k true a0_0 a0_1 l0_2 a0_3 a0_4 a0_5) else (if a0_1 = true then (row_Check.j0 k (decide ((l0_2.length : Int) > 0)) a0_0 a0_1 l0_2 a0_3 a0_4 a0_5) else (row_Check.j0 k false a0_0 a0_1 l0_2 a0_3 a0_4 a0_5))) else (row_Check.j0 k true a0_0 a0_1 l0_2 a0_3 a0_4 a0_5)))))) = some r:=h
 clear h;replace H:=Option.bind_eq_some_iff.mp H;obtain ⟨t102,A20,H⟩:=H
 replace H : (if t102 = true then (row_Check.j0 k true a0_0 a0_1 l0_2 a0_3 a0_4 a0_5) else ((num_Key.f a0_0).bind fun t103 => ((num_Same.f a0_0 t103).bind fun t104 => (if t104 = true then (if (l0_2.length : Int) > 4 then (row_Check.j0 k true a0_0 a0_1 l0_2 a0_3 a0_4 a0_5) else (if a0_1 = true then (row_Check.j0 k (decide ((l0_2.length : Int) > 0)) a0_0 a0_1 l0_2 a0_3 a0_4 a0_5) else (row_Check.j0 k false a0_0 a0_1 l0_2 a0_3 a0_4 a0_5))) else (row_Check.j0 k true a0_0 a0_1 l0_2 a0_3 a0_4 a0_5))))) = some r:=H
 have A2:=A_ A20;clear A20;have HC3:=A_ H;clear H;go_enter Try.func33,Try.ntmps33
 go_upto_region 3 with (first | ((with_reducible refine gate_dst (N:=1) rfl ?_);(try (refine gate_guard (by rfl) ?_;dsimp only));refine box_event ?hg (N:=1) ?hd (cs:=#[.float .f64 a0_0,.bool a0_1,.slice A0_2 l0_2.length c0_2,.int .i64 a0_3,.int .i64 a0_4,.int .i64 a0_5]) (t:=30) ?hr ?_;(case hd => rfl);(case hg => rfl);(case hr => first | (go_simp;done) | (go_simp;rfl));intro gb101 hg w4 hbox hb;have n0_:=A_ (bp_ (by repeat (first | (with_reducible first | exact HB.out | apply ba_ | apply bd_ | apply be_) | exact HB.out)) hb);have n1_:=A_ (hbox);have n2_:=A_ ((by rw [hg];exact (bz_ (by repeat (first | (with_reducible first | exact HB.out | apply ba_ | apply bd_ | apply be_) | exact HB.out))) : w.heap.size ≤ gb101));have n3_:=n2_;clear HB;have HB:=n0_;have BK101:=n1_;have GW101:=n2_;have GE101:=n3_;clear n0_ n1_ n2_ n3_;clear hb hbox hg;obtain ⟨z5_0,z5_1,z5_2,z5_3,z5_4,z5_5⟩:=blkc_6 BK101.out;obtain ⟨y5_0,y5_1,y5_2,y5_3,y5_4⟩:=blkz_5 BK101.out;have y5_5:=bf_ BK101.out 5) | (go_at_call 65;(with_reducible refine (containsFunc_row_Check_1.calls _ _ l0_2 t102 _ ?side1 ?side2 A2.out).mono ?_);(case side1 => repeat (first | exact (Kd.C_below HR0_2.out HB.out) | (with_reducible refine Kd.C_alloc ?_ _) | (with_reducible refine Kd.C_drewN ?_ _) | (with_reducible refine Kd.C_drew ?_)));(case side2 => exact HC0_2.out);rintro e w6 ⟨rfl,hb⟩;have n0_:=A_ (bx_ BK101.out (by intro h_;(with_reducible repeat (first | refine kd_ ?_ _ | refine ke_ ?_ | refine ka_ ?_ _));exact h_) hb);have n1_:=A_ (bp_ (by repeat (first | (with_reducible first | exact HB.out | apply ba_ | apply bd_ | apply be_ | refine bs_ ?_ GE101.out) | exact HB.out)) hb);clear BK101;clear HB;have BK101:=n0_;have HB:=n1_;clear n0_ n1_;(try clear hb);(try clear hb2);(try clear hk);(try clear hi)))
 repeat (go_quiet (first | ((with_reducible refine gate_dst (N:=1) rfl ?_);(try (refine gate_guard (by rfl) ?_;dsimp only));refine box_event ?hg (N:=1) ?hd (cs:=#[.float .f64 a0_0,.bool a0_1,.slice A0_2 l0_2.length c0_2,.int .i64 a0_3,.int .i64 a0_4,.int .i64 a0_5]) (t:=30) ?hr ?_;(case hd => rfl);(case hg => rfl);(case hr => first | (go_simp;done) | (go_simp;rfl));intro gb101 hg w4 hbox hb;have n0_:=A_ (bp_ (by repeat (first | (with_reducible first | exact HB.out | apply ba_ | apply bd_ | apply be_) | exact HB.out)) hb);have n1_:=A_ (hbox);have n2_:=A_ ((by rw [hg];exact (bz_ (by repeat (first | (with_reducible first | exact HB.out | apply ba_ | apply bd_ | apply be_) | exact HB.out))) : w.heap.size ≤ gb101));have n3_:=n2_;clear HB;have HB:=n0_;have BK101:=n1_;have GW101:=n2_;have GE101:=n3_;clear n0_ n1_ n2_ n3_;clear hb hbox hg;obtain ⟨z5_0,z5_1,z5_2,z5_3,z5_4,z5_5⟩:=blkc_6 BK101.out;obtain ⟨y5_0,y5_1,y5_2,y5_3,y5_4⟩:=blkz_5 BK101.out;have y5_5:=bf_ BK101.out 5) | (go_at_call 65;(with_reducible refine (containsFunc_row_Check_1.calls _ _ l0_2 t102 _ ?side1 ?side2 A2.out).mono ?_);(case side1 => repeat (first | exact (Kd.C_below HR0_2.out HB.out) | (with_reducible refine Kd.C_alloc ?_ _) | (with_reducible refine Kd.C_drewN ?_ _) | (with_reducible refine Kd.C_drew ?_)));(case side2 => exact HC0_2.out);rintro e w6 ⟨rfl,hb⟩;have n0_:=A_ (bx_ BK101.out (by intro h_;(with_reducible repeat (first | refine kd_ ?_ _ | refine ke_ ?_ | refine ka_ ?_ _));exact h_) hb);have n1_:=A_ (bp_ (by repeat (first | (with_reducible first | exact HB.out | apply ba_ | apply bd_ | apply be_ | refine bs_ ?_ GE101.out) | exact HB.out)) hb);clear BK101;clear HB;have BK101:=n0_;have HB:=n1_;clear n0_ n1_;(try clear hb);(try clear hb2);(try clear hk);(try clear hi)));go_upto_region 3 with (first | ((with_reducible refine gate_dst (N:=1) rfl ?_);(try (refine gate_guard (by rfl) ?_;dsimp only));refine box_event ?hg (N:=1) ?hd (cs:=#[.float .f64 a0_0,.bool a0_1,.slice A0_2 l0_2.length c0_2,.int .i64 a0_3,.int .i64 a0_4,.int .i64 a0_5]) (t:=30) ?hr ?_;(case hd => rfl);(case hg => rfl);(case hr => first | (go_simp;done) | (go_simp;rfl));intro gb101 hg w4 hbox hb;have n0_:=A_ (bp_ (by repeat (first | (with_reducible first | exact HB.out | apply ba_ | apply bd_ | apply be_) | exact HB.out)) hb);have n1_:=A_ (hbox);have n2_:=A_ ((by rw [hg];exact (bz_ (by repeat (first | (with_reducible first | exact HB.out | apply ba_ | apply bd_ | apply be_) | exact HB.out))) : w.heap.size ≤ gb101));have n3_:=n2_;clear HB;have HB:=n0_;have BK101:=n1_;have GW101:=n2_;have GE101:=n3_;clear n0_ n1_ n2_ n3_;clear hb hbox hg;obtain ⟨z5_0,z5_1,z5_2,z5_3,z5_4,z5_5⟩:=blkc_6 BK101.out;obtain ⟨y5_0,y5_1,y5_2,y5_3,y5_4⟩:=blkz_5 BK101.out;have y5_5:=bf_ BK101.out 5) | (go_at_call 65;(with_reducible refine (containsFunc_row_Check_1.calls _ _ l0_2 t102 _ ?side1 ?side2 A2.out).mono ?_);(case side1 => repeat (first | exact (Kd.C_below HR0_2.out HB.out) | (with_reducible refine Kd.C_alloc ?_ _) | (with_reducible refine Kd.C_drewN ?_ _) | (with_reducible refine Kd.C_drew ?_)));(case side2 => exact HC0_2.out);rintro e w6 ⟨rfl,hb⟩;have n0_:=A_ (bx_ BK101.out (by intro h_;(with_reducible repeat (first | refine kd_ ?_ _ | refine ke_ ?_ | refine ka_ ?_ _));exact h_) hb);have n1_:=A_ (bp_ (by repeat (first | (with_reducible first | exact HB.out | apply ba_ | apply bd_ | apply be_ | refine bs_ ?_ GE101.out) | exact HB.out)) hb);clear BK101;clear HB;have BK101:=n0_;have HB:=n1_;clear n0_ n1_;(try clear hb);(try clear hb2);(try clear hk);(try clear hi))))
 (try simp only [Act.put,u1_,u2_,u3_])
 go_cut [7] (fun v7 wc => ∃ (kq : Nat) (x7_2 : Bool),v7 = .bool x7_2 ∧ Aside0 (row_Check.j0 kq x7_2 a0_0 a0_1 l0_2 a0_3 a0_4 a0_5 = some r) ∧ Aside0 (kq ≤ k) ∧ Aside0 (wc.heap[gb101]? = some (.cells #[.float .f64 a0_0,.bool a0_1,(.slice A0_2 l0_2.length c0_2),.int .i64 a0_3,.int .i64 a0_4,.int .i64 a0_5] 30 (0,0))) ∧ Aside0 (Below w.heap.size w wc))
 case first =>
  have H:=HC3.out;clear HC3
  by_cases c7 : t102 = true
  ·subst c7
   have H1 : (row_Check.j0 k true a0_0 a0_1 l0_2 a0_3 a0_4 a0_5) = some r:=by rw [if_pos rfl] at H;exact H
   clear H;have H:=H1;clear H1;have H':=A_ H;clear H;go_wp2
   repeat (go_quiet (fail);try go_wp2)
   go_meet
   case rel => exact ⟨_,true,rfl,H',⟨by first | omega | exact Nat.le_refl _⟩,⟨by (with_reducible repeat (first | refine kd_ ?_ _ | refine ke_ ?_ | refine ka_ ?_ _));exact BK101.out⟩,⟨by repeat (first | (with_reducible first | exact HB.out | apply ba_ | apply bd_ | apply be_ | refine bs_ ?_ GE101.out) | exact HB.out)⟩⟩
  ·replace c7:=Bool.eq_false_iff.mpr c7
   subst c7
   have H1 : ((num_Key.f a0_0).bind fun t103 => ((num_Same.f a0_0 t103).bind fun t104 => (if t104 = true then (if (l0_2.length : Int) > 4 then (row_Check.j0 k true a0_0 a0_1 l0_2 a0_3 a0_4 a0_5) else (if a0_1 = true then (row_Check.j0 k (decide ((l0_2.length : Int) > 0)) a0_0 a0_1 l0_2 a0_3 a0_4 a0_5) else (row_Check.j0 k false a0_0 a0_1 l0_2 a0_3 a0_4 a0_5))) else (row_Check.j0 k true a0_0 a0_1 l0_2 a0_3 a0_4 a0_5)))) = some r:=by rw [if_neg (show ¬ (false = true) by decide)] at H;exact H
   clear H;have H:=H1;clear H1;replace H:=Option.bind_eq_some_iff.mp H;obtain ⟨t103,A80,H⟩:=H
   replace H : ((num_Same.f a0_0 t103).bind fun t104 => (if t104 = true then (if (l0_2.length : Int) > 4 then (row_Check.j0 k true a0_0 a0_1 l0_2 a0_3 a0_4 a0_5) else (if a0_1 = true then (row_Check.j0 k (decide ((l0_2.length : Int) > 0)) a0_0 a0_1 l0_2 a0_3 a0_4 a0_5) else (row_Check.j0 k false a0_0 a0_1 l0_2 a0_3 a0_4 a0_5))) else (row_Check.j0 k true a0_0 a0_1 l0_2 a0_3 a0_4 a0_5))) = some r:=H
   have A8:=A_ A80;clear A80;replace H:=Option.bind_eq_some_iff.mp H;obtain ⟨t104,A90,H⟩:=H
   replace H : (if t104 = true then (if (l0_2.length : Int) > 4 then (row_Check.j0 k true a0_0 a0_1 l0_2 a0_3 a0_4 a0_5) else (if a0_1 = true then (row_Check.j0 k (decide ((l0_2.length : Int) > 0)) a0_0 a0_1 l0_2 a0_3 a0_4 a0_5) else (row_Check.j0 k false a0_0 a0_1 l0_2 a0_3 a0_4 a0_5))) else (row_Check.j0 k true a0_0 a0_1 l0_2 a0_3 a0_4 a0_5)) = some r:=H
   have A9:=A_ A90;clear A90
   by_cases c10 : t104 = true
   ·subst c10
    have H1 : (if (l0_2.length : Int) > 4 then (row_Check.j0 k true a0_0 a0_1 l0_2 a0_3 a0_4 a0_5) else (if a0_1 = true then (row_Check.j0 k (decide ((l0_2.length : Int) > 0)) a0_0 a0_1 l0_2 a0_3 a0_4 a0_5) else (row_Check.j0 k false a0_0 a0_1 l0_2 a0_3 a0_4 a0_5))) = some r:=by rw [if_pos rfl] at H;exact H
    clear H;have H:=H1;clear H1
    by_cases c11 : (l0_2.length : Int) > 4
    ·rw [if_pos c11] at H
     have c11b0 : decide (4 < (l0_2.length : Int)) = true:=dt_ c11
     have c11b1 : decide (4 < l0_2.length) = true:=dt_ (by omega)
     clear c11;(first | rw [c11b0] | (simp only [i64_w,i32_w];rw [c11b0]) | skip);have H':=A_ H;clear H;obtain ⟨z12_0,z12_1,z12_2,z12_3,z12_4,z12_5⟩:=blkc_6 BK101.out;obtain ⟨y12_0,y12_1,y12_2,y12_3,y12_4,y12_5⟩:=blkz_6 BK101.out;go_wp2_with (first | (go_at_call 69;(with_reducible refine (num_Key.calls a0_0 t103 _ A8.out).mono ?_);rintro e w' ⟨rfl,⟨nd,rfl⟩⟩;(try first | exact ⟨rfl,_,World.drewN_drewN _ _ _⟩ | exact ⟨rfl,_,Eq.trans (World.drewN_drewN _ _ _) (congrArg (World.drewN _) (Nat.add_assoc _ _ _))⟩)) | (go_at_call 67;(with_reducible refine (num_Same.calls a0_0 t103 true _ A9.out).mono ?_);rintro e w' ⟨rfl,⟨nd,rfl⟩⟩;(try first | exact ⟨rfl,_,World.drewN_drewN _ _ _⟩ | exact ⟨rfl,_,Eq.trans (World.drewN_drewN _ _ _) (congrArg (World.drewN _) (Nat.add_assoc _ _ _))⟩)))
     repeat (go_quiet (first | (go_at_call 69;(with_reducible refine (num_Key.calls a0_0 t103 _ A8.out).mono ?_);rintro e w' ⟨rfl,⟨nd,rfl⟩⟩;(try first | exact ⟨rfl,_,World.drewN_drewN _ _ _⟩ | exact ⟨rfl,_,Eq.trans (World.drewN_drewN _ _ _) (congrArg (World.drewN _) (Nat.add_assoc _ _ _))⟩)) | (go_at_call 67;(with_reducible refine (num_Same.calls a0_0 t103 true _ A9.out).mono ?_);rintro e w' ⟨rfl,⟨nd,rfl⟩⟩;(try first | exact ⟨rfl,_,World.drewN_drewN _ _ _⟩ | exact ⟨rfl,_,Eq.trans (World.drewN_drewN _ _ _) (congrArg (World.drewN _) (Nat.add_assoc _ _ _))⟩)));try go_wp2_with (first | (go_at_call 69;(with_reducible refine (num_Key.calls a0_0 t103 _ A8.out).mono ?_);rintro e w' ⟨rfl,⟨nd,rfl⟩⟩;(try first | exact ⟨rfl,_,World.drewN_drewN _ _ _⟩ | exact ⟨rfl,_,Eq.trans (World.drewN_drewN _ _ _) (congrArg (World.drewN _) (Nat.add_assoc _ _ _))⟩)) | (go_at_call 67;(with_reducible refine (num_Same.calls a0_0 t103 true _ A9.out).mono ?_);rintro e w' ⟨rfl,⟨nd,rfl⟩⟩;(try first | exact ⟨rfl,_,World.drewN_drewN _ _ _⟩ | exact ⟨rfl,_,Eq.trans (World.drewN_drewN _ _ _) (congrArg (World.drewN _) (Nat.add_assoc _ _ _))⟩))))
     go_meet
     case rel => exact ⟨_,true,rfl,H',⟨by first | omega | exact Nat.le_refl _⟩,⟨by (with_reducible repeat (first | refine kd_ ?_ _ | refine ke_ ?_ | refine ka_ ?_ _));exact BK101.out⟩,⟨by repeat (first | (with_reducible first | exact HB.out | apply ba_ | apply bd_ | apply be_ | refine bs_ ?_ GE101.out) | exact HB.out)⟩⟩
    ·rw [if_neg c11] at H
     have c11b0 : decide (4 < (l0_2.length : Int)) = false:=df_ c11
     have c11b1 : decide (4 < l0_2.length) = false:=df_ (by omega)
     clear c11;(first | rw [c11b0] | (simp only [i64_w,i32_w];rw [c11b0]) | skip)
     by_cases c13 : a0_1 = true
     ·subst c13
      have H1 : (row_Check.j0 k (decide ((l0_2.length : Int) > 0)) a0_0 true l0_2 a0_3 a0_4 a0_5) = some r:=by rw [if_pos rfl] at H;exact H
      clear H;have H:=H1;clear H1;have H':=A_ H;clear H;obtain ⟨z14_0,z14_1,z14_2,z14_3,z14_4,z14_5⟩:=blkc_6 BK101.out;obtain ⟨y14_0,y14_1,y14_2,y14_3,y14_4,y14_5⟩:=blkz_6 BK101.out;go_wp2_with (first | (go_at_call 69;(with_reducible refine (num_Key.calls a0_0 t103 _ A8.out).mono ?_);rintro e w' ⟨rfl,⟨nd,rfl⟩⟩;(try first | exact ⟨rfl,_,World.drewN_drewN _ _ _⟩ | exact ⟨rfl,_,Eq.trans (World.drewN_drewN _ _ _) (congrArg (World.drewN _) (Nat.add_assoc _ _ _))⟩)) | (go_at_call 67;(with_reducible refine (num_Same.calls a0_0 t103 true _ A9.out).mono ?_);rintro e w' ⟨rfl,⟨nd,rfl⟩⟩;(try first | exact ⟨rfl,_,World.drewN_drewN _ _ _⟩ | exact ⟨rfl,_,Eq.trans (World.drewN_drewN _ _ _) (congrArg (World.drewN _) (Nat.add_assoc _ _ _))⟩)))
      repeat (go_quiet (first | (go_at_call 69;(with_reducible refine (num_Key.calls a0_0 t103 _ A8.out).mono ?_);rintro e w' ⟨rfl,⟨nd,rfl⟩⟩;(try first | exact ⟨rfl,_,World.drewN_drewN _ _ _⟩ | exact ⟨rfl,_,Eq.trans (World.drewN_drewN _ _ _) (congrArg (World.drewN _) (Nat.add_assoc _ _ _))⟩)) | (go_at_call 67;(with_reducible refine (num_Same.calls a0_0 t103 true _ A9.out).mono ?_);rintro e w' ⟨rfl,⟨nd,rfl⟩⟩;(try first | exact ⟨rfl,_,World.drewN_drewN _ _ _⟩ | exact ⟨rfl,_,Eq.trans (World.drewN_drewN _ _ _) (congrArg (World.drewN _) (Nat.add_assoc _ _ _))⟩)));try go_wp2_with (first | (go_at_call 69;(with_reducible refine (num_Key.calls a0_0 t103 _ A8.out).mono ?_);rintro e w' ⟨rfl,⟨nd,rfl⟩⟩;(try first | exact ⟨rfl,_,World.drewN_drewN _ _ _⟩ | exact ⟨rfl,_,Eq.trans (World.drewN_drewN _ _ _) (congrArg (World.drewN _) (Nat.add_assoc _ _ _))⟩)) | (go_at_call 67;(with_reducible refine (num_Same.calls a0_0 t103 true _ A9.out).mono ?_);rintro e w' ⟨rfl,⟨nd,rfl⟩⟩;(try first | exact ⟨rfl,_,World.drewN_drewN _ _ _⟩ | exact ⟨rfl,_,Eq.trans (World.drewN_drewN _ _ _) (congrArg (World.drewN _) (Nat.add_assoc _ _ _))⟩))))
      go_meet
      case rel => exact ⟨_,(decide ((l0_2.length : Int) > 0)),(by first | rfl | (simp;done) | (simp [*];done)),H',⟨by first | omega | exact Nat.le_refl _⟩,⟨by (with_reducible repeat (first | refine kd_ ?_ _ | refine ke_ ?_ | refine ka_ ?_ _));exact BK101.out⟩,⟨by repeat (first | (with_reducible first | exact HB.out | apply ba_ | apply bd_ | apply be_ | refine bs_ ?_ GE101.out) | exact HB.out)⟩⟩
     ·replace c13:=Bool.eq_false_iff.mpr c13
      subst c13
      have H1 : (row_Check.j0 k false a0_0 false l0_2 a0_3 a0_4 a0_5) = some r:=by rw [if_neg (show ¬ (false = true) by decide)] at H;exact H
      clear H;have H:=H1;clear H1;have H':=A_ H;clear H;obtain ⟨z15_0,z15_1,z15_2,z15_3,z15_4,z15_5⟩:=blkc_6 BK101.out;obtain ⟨y15_0,y15_1,y15_2,y15_3,y15_4,y15_5⟩:=blkz_6 BK101.out;go_wp2_with (first | (go_at_call 69;(with_reducible refine (num_Key.calls a0_0 t103 _ A8.out).mono ?_);rintro e w' ⟨rfl,⟨nd,rfl⟩⟩;(try first | exact ⟨rfl,_,World.drewN_drewN _ _ _⟩ | exact ⟨rfl,_,Eq.trans (World.drewN_drewN _ _ _) (congrArg (World.drewN _) (Nat.add_assoc _ _ _))⟩)) | (go_at_call 67;(with_reducible refine (num_Same.calls a0_0 t103 true _ A9.out).mono ?_);rintro e w' ⟨rfl,⟨nd,rfl⟩⟩;(try first | exact ⟨rfl,_,World.drewN_drewN _ _ _⟩ | exact ⟨rfl,_,Eq.trans (World.drewN_drewN _ _ _) (congrArg (World.drewN _) (Nat.add_assoc _ _ _))⟩)))
      repeat (go_quiet (first | (go_at_call 69;(with_reducible refine (num_Key.calls a0_0 t103 _ A8.out).mono ?_);rintro e w' ⟨rfl,⟨nd,rfl⟩⟩;(try first | exact ⟨rfl,_,World.drewN_drewN _ _ _⟩ | exact ⟨rfl,_,Eq.trans (World.drewN_drewN _ _ _) (congrArg (World.drewN _) (Nat.add_assoc _ _ _))⟩)) | (go_at_call 67;(with_reducible refine (num_Same.calls a0_0 t103 true _ A9.out).mono ?_);rintro e w' ⟨rfl,⟨nd,rfl⟩⟩;(try first | exact ⟨rfl,_,World.drewN_drewN _ _ _⟩ | exact ⟨rfl,_,Eq.trans (World.drewN_drewN _ _ _) (congrArg (World.drewN _) (Nat.add_assoc _ _ _))⟩)));try go_wp2_with (first | (go_at_call 69;(with_reducible refine (num_Key.calls a0_0 t103 _ A8.out).mono ?_);rintro e w' ⟨rfl,⟨nd,rfl⟩⟩;(try first | exact ⟨rfl,_,World.drewN_drewN _ _ _⟩ | exact ⟨rfl,_,Eq.trans (World.drewN_drewN _ _ _) (congrArg (World.drewN _) (Nat.add_assoc _ _ _))⟩)) | (go_at_call 67;(with_reducible refine (num_Same.calls a0_0 t103 true _ A9.out).mono ?_);rintro e w' ⟨rfl,⟨nd,rfl⟩⟩;(try first | exact ⟨rfl,_,World.drewN_drewN _ _ _⟩ | exact ⟨rfl,_,Eq.trans (World.drewN_drewN _ _ _) (congrArg (World.drewN _) (Nat.add_assoc _ _ _))⟩))))
      go_meet
      case rel => exact ⟨_,false,rfl,H',⟨by first | omega | exact Nat.le_refl _⟩,⟨by (with_reducible repeat (first | refine kd_ ?_ _ | refine ke_ ?_ | refine ka_ ?_ _));exact BK101.out⟩,⟨by repeat (first | (with_reducible first | exact HB.out | apply ba_ | apply bd_ | apply be_ | refine bs_ ?_ GE101.out) | exact HB.out)⟩⟩
   ·replace c10:=Bool.eq_false_iff.mpr c10
    subst c10
    have H1 : (row_Check.j0 k true a0_0 a0_1 l0_2 a0_3 a0_4 a0_5) = some r:=by rw [if_neg (show ¬ (false = true) by decide)] at H;exact H
    clear H;have H:=H1;clear H1;have H':=A_ H;clear H;obtain ⟨z16_0,z16_1,z16_2,z16_3,z16_4,z16_5⟩:=blkc_6 BK101.out;obtain ⟨y16_0,y16_1,y16_2,y16_3,y16_4,y16_5⟩:=blkz_6 BK101.out;go_wp2_with (first | (go_at_call 69;(with_reducible refine (num_Key.calls a0_0 t103 _ A8.out).mono ?_);rintro e w' ⟨rfl,⟨nd,rfl⟩⟩;(try first | exact ⟨rfl,_,World.drewN_drewN _ _ _⟩ | exact ⟨rfl,_,Eq.trans (World.drewN_drewN _ _ _) (congrArg (World.drewN _) (Nat.add_assoc _ _ _))⟩)) | (go_at_call 67;(with_reducible refine (num_Same.calls a0_0 t103 false _ A9.out).mono ?_);rintro e w' ⟨rfl,⟨nd,rfl⟩⟩;(try first | exact ⟨rfl,_,World.drewN_drewN _ _ _⟩ | exact ⟨rfl,_,Eq.trans (World.drewN_drewN _ _ _) (congrArg (World.drewN _) (Nat.add_assoc _ _ _))⟩)))
    repeat (go_quiet (first | (go_at_call 69;(with_reducible refine (num_Key.calls a0_0 t103 _ A8.out).mono ?_);rintro e w' ⟨rfl,⟨nd,rfl⟩⟩;(try first | exact ⟨rfl,_,World.drewN_drewN _ _ _⟩ | exact ⟨rfl,_,Eq.trans (World.drewN_drewN _ _ _) (congrArg (World.drewN _) (Nat.add_assoc _ _ _))⟩)) | (go_at_call 67;(with_reducible refine (num_Same.calls a0_0 t103 false _ A9.out).mono ?_);rintro e w' ⟨rfl,⟨nd,rfl⟩⟩;(try first | exact ⟨rfl,_,World.drewN_drewN _ _ _⟩ | exact ⟨rfl,_,Eq.trans (World.drewN_drewN _ _ _) (congrArg (World.drewN _) (Nat.add_assoc _ _ _))⟩)));try go_wp2_with (first | (go_at_call 69;(with_reducible refine (num_Key.calls a0_0 t103 _ A8.out).mono ?_);rintro e w' ⟨rfl,⟨nd,rfl⟩⟩;(try first | exact ⟨rfl,_,World.drewN_drewN _ _ _⟩ | exact ⟨rfl,_,Eq.trans (World.drewN_drewN _ _ _) (congrArg (World.drewN _) (Nat.add_assoc _ _ _))⟩)) | (go_at_call 67;(with_reducible refine (num_Same.calls a0_0 t103 false _ A9.out).mono ?_);rintro e w' ⟨rfl,⟨nd,rfl⟩⟩;(try first | exact ⟨rfl,_,World.drewN_drewN _ _ _⟩ | exact ⟨rfl,_,Eq.trans (World.drewN_drewN _ _ _) (congrArg (World.drewN _) (Nat.add_assoc _ _ _))⟩))))
    go_meet
    case rel => exact ⟨_,true,rfl,H',⟨by first | omega | exact Nat.le_refl _⟩,⟨by (with_reducible repeat (first | refine kd_ ?_ _ | refine ke_ ?_ | refine ka_ ?_ _));exact BK101.out⟩,⟨by repeat (first | (with_reducible first | exact HB.out | apply ba_ | apply bd_ | apply be_ | refine bs_ ?_ GE101.out) | exact HB.out)⟩⟩
 case rest =>
  clear HC3;(try clear c1);(try clear p2);(try clear c3);(try clear c7);(try clear c10);(try clear c11);(try clear c11b0);(try clear c11b1);(try clear c13);(try clear z12_0 z12_1 z12_2 z12_3 z12_4 z12_5 z14_0 z14_1 z14_2 z14_3 z14_4 z14_5 z15_0 z15_1 z15_2 z15_3 z15_4 z15_5 z16_0 z16_1 z16_2 z16_3 z16_4 z16_5 z5_0 z5_1 z5_2 z5_3 z5_4 z5_5 y12_0 y12_1 y12_2 y12_3 y12_4 y12_5 y14_0 y14_1 y14_2 y14_3 y14_4 y14_5 y15_0 y15_1 y15_2 y15_3 y15_4 y15_5 y16_0 y16_1 y16_2 y16_3 y16_4 y16_5 y5_0 y5_1 y5_2 y5_3 y5_4 y5_5);obtain ⟨kq,x7_2,rfl,HA,HJ2,BK101,HB⟩:=hcut
  cases kq with
  | zero => exact absurd HA.out (by simp [row_Check.j0])
  | succ kj2 =>
   have H:=HA.out;clear HA
   simp only [row_Check.j0] at H
   by_cases c17 : x7_2 = true
   ·subst c17
    have H1 : (some 1) = some r:=by rw [if_pos rfl] at H;exact H
    clear H;have H:=H1;clear H1;obtain rfl:=Option.some.inj H;go_wp2
    repeat (go_quiet (fail);try go_wp2)
    go_ret
    exact ⟨by first | rfl | (simp [errW_none,errW_some] <;> rfl) | (simp [*,errW_none,errW_some] <;> rfl),by repeat (first | (with_reducible first | exact HB.out | apply ba_ | apply bd_ | apply be_ | refine bs_ ?_ GE101.out) | exact HB.out)⟩
   ·replace c17:=Bool.eq_false_iff.mpr c17
    subst c17
    have H1 : (if a0_3 < 0 then (row_Check.j1 kj2 true a0_0 a0_1 l0_2 a0_3 a0_4 a0_5) else (if a0_3 > 2147483647 then (row_Check.j1 kj2 true a0_0 a0_1 l0_2 a0_3 a0_4 a0_5) else (if a0_4 < 0 then (row_Check.j1 kj2 true a0_0 a0_1 l0_2 a0_3 a0_4 a0_5) else (row_Check.j1 kj2 (decide (a0_4 ≥ 65536)) a0_0 a0_1 l0_2 a0_3 a0_4 a0_5)))) = some r:=by rw [if_neg (show ¬ (false = true) by decide)] at H;exact H
    clear H;have H:=H1;clear H1;have HC18:=A_ H;clear H
    go_upto_region 4 with (fail)
    repeat (go_quiet (fail);go_upto_region 4 with (fail))
    go_cut [34] (fun v34 wc => ∃ (kq : Nat) (x34_17 : Bool),v34 = .bool x34_17 ∧ Aside0 (row_Check.j1 kq x34_17 a0_0 a0_1 l0_2 a0_3 a0_4 a0_5 = some r) ∧ Aside0 (kq ≤ kj2) ∧ Aside0 (wc.heap[gb101]? = some (.cells #[.float .f64 a0_0,.bool a0_1,(.slice A0_2 l0_2.length c0_2),.int .i64 a0_3,.int .i64 a0_4,.int .i64 a0_5] 30 (0,0))) ∧ Aside0 (Below w.heap.size w wc))
    case first =>
     have H:=HC18.out;clear HC18
     by_cases c19 : a0_3 < 0
     ·rw [if_pos c19] at H
      have c19b0 : decide (a0_3 < 0) = true:=dt_ c19;clear c19;(first | rw [c19b0] | (simp only [i64_w,i32_w];rw [c19b0]) | skip);have H':=A_ H;clear H;obtain ⟨z20_0,z20_1,z20_2,z20_3,z20_4,z20_5⟩:=blkc_6 BK101.out;obtain ⟨y20_0,y20_1,y20_2,y20_3,y20_4,y20_5⟩:=blkz_6 BK101.out;go_wp2
      repeat (go_quiet (fail);try go_wp2)
      go_meet
      case rel => exact ⟨_,true,rfl,H',⟨by have:=HJ2.out;first | omega | exact Nat.le_refl _⟩,⟨by (with_reducible repeat (first | refine kd_ ?_ _ | refine ke_ ?_ | refine ka_ ?_ _));exact BK101.out⟩,⟨by repeat (first | (with_reducible first | exact HB.out | apply ba_ | apply bd_ | apply be_ | refine bs_ ?_ GE101.out) | exact HB.out)⟩⟩
     ·rw [if_neg c19] at H
      have c19b0 : decide (a0_3 < 0) = false:=df_ c19;clear c19;(first | rw [c19b0] | (simp only [i64_w,i32_w];rw [c19b0]) | skip)
      by_cases c21 : a0_3 > 2147483647
      ·rw [if_pos c21] at H
       have c21b0 : decide (2147483647 < a0_3) = true:=dt_ c21;clear c21;have H':=A_ H;clear H;obtain ⟨z22_0,z22_1,z22_2,z22_3,z22_4,z22_5⟩:=blkc_6 BK101.out;obtain ⟨y22_0,y22_1,y22_2,y22_3,y22_4,y22_5⟩:=blkz_6 BK101.out;go_wp2
       repeat (go_quiet (fail);try go_wp2)
       go_meet
       case rel => exact ⟨_,true,rfl,H',⟨by have:=HJ2.out;first | omega | exact Nat.le_refl _⟩,⟨by (with_reducible repeat (first | refine kd_ ?_ _ | refine ke_ ?_ | refine ka_ ?_ _));exact BK101.out⟩,⟨by repeat (first | (with_reducible first | exact HB.out | apply ba_ | apply bd_ | apply be_ | refine bs_ ?_ GE101.out) | exact HB.out)⟩⟩
      ·rw [if_neg c21] at H
       have c21b0 : decide (2147483647 < a0_3) = false:=df_ c21;clear c21
       by_cases c23 : a0_4 < 0
       ·rw [if_pos c23] at H
        have c23b0 : decide (a0_4 < 0) = true:=dt_ c23;clear c23;have H':=A_ H;clear H;obtain ⟨z24_0,z24_1,z24_2,z24_3,z24_4,z24_5⟩:=blkc_6 BK101.out;obtain ⟨y24_0,y24_1,y24_2,y24_3,y24_4,y24_5⟩:=blkz_6 BK101.out;go_wp2
        repeat (go_quiet (fail);try go_wp2)
        go_meet
        case rel => exact ⟨_,true,rfl,H',⟨by have:=HJ2.out;first | omega | exact Nat.le_refl _⟩,⟨by (with_reducible repeat (first | refine kd_ ?_ _ | refine ke_ ?_ | refine ka_ ?_ _));exact BK101.out⟩,⟨by repeat (first | (with_reducible first | exact HB.out | apply ba_ | apply bd_ | apply be_ | refine bs_ ?_ GE101.out) | exact HB.out)⟩⟩
       ·rw [if_neg c23] at H
        have c23b0 : decide (a0_4 < 0) = false:=df_ c23;clear c23;have H':=A_ H;clear H;obtain ⟨z25_0,z25_1,z25_2,z25_3,z25_4,z25_5⟩:=blkc_6 BK101.out;obtain ⟨y25_0,y25_1,y25_2,y25_3,y25_4,y25_5⟩:=blkz_6 BK101.out;go_wp2
        repeat (go_quiet (fail);try go_wp2)
        go_meet
        case rel => exact ⟨_,(decide (a0_4 ≥ 65536)),(by first | rfl | (simp;done) | (simp [*];done)),H',⟨by have:=HJ2.out;first | omega | exact Nat.le_refl _⟩,⟨by (with_reducible repeat (first | refine kd_ ?_ _ | refine ke_ ?_ | refine ka_ ?_ _));exact BK101.out⟩,⟨by repeat (first | (with_reducible first | exact HB.out | apply ba_ | apply bd_ | apply be_ | refine bs_ ?_ GE101.out) | exact HB.out)⟩⟩
    case rest =>
     clear HC18;(try clear c1);(try clear c2);(try clear p2);(try clear c3);(try clear c7);(try clear c10);(try clear c11);(try clear c11b0);(try clear c11b1);(try clear c13);(try clear c17);(try clear c19);(try clear c19b0);(try clear c21);(try clear c21b0);(try clear c23);(try clear c23b0);(try clear p2);(try clear z12_0 z12_1 z12_2 z12_3 z12_4 z12_5 z14_0 z14_1 z14_2 z14_3 z14_4 z14_5 z15_0 z15_1 z15_2 z15_3 z15_4 z15_5 z16_0 z16_1 z16_2 z16_3 z16_4 z16_5 z20_0 z20_1 z20_2 z20_3 z20_4 z20_5 z22_0 z22_1 z22_2 z22_3 z22_4 z22_5 z24_0 z24_1 z24_2 z24_3 z24_4 z24_5 z25_0 z25_1 z25_2 z25_3 z25_4 z25_5 z5_0 z5_1 z5_2 z5_3 z5_4 z5_5 y12_0 y12_1 y12_2 y12_3 y12_4 y12_5 y14_0 y14_1 y14_2 y14_3 y14_4 y14_5 y15_0 y15_1 y15_2 y15_3 y15_4 y15_5 y16_0 y16_1 y16_2 y16_3 y16_4 y16_5 y20_0 y20_1 y20_2 y20_3 y20_4 y20_5 y22_0 y22_1 y22_2 y22_3 y22_4 y22_5 y24_0 y24_1 y24_2 y24_3 y24_4 y24_5 y25_0 y25_1 y25_2 y25_3 y25_4 y25_5 y5_0 y5_1 y5_2 y5_3 y5_4 y5_5);obtain ⟨kq,x34_17,rfl,HA,HJ17,BK101,HB⟩:=hcut
     cases kq with
     | zero => exact absurd HA.out (by simp [row_Check.j1])
     | succ kj17 =>
      have H:=HA.out;clear HA
      simp only [row_Check.j1] at H
      by_cases c26 : x34_17 = true
      ·subst c26
       have H1 : (some 1) = some r:=by rw [if_pos rfl] at H;exact H
       clear H;have H:=H1;clear H1;obtain rfl:=Option.some.inj H;go_wp2
       repeat (go_quiet (fail);try go_wp2)
       go_ret
       exact ⟨by first | rfl | (simp [errW_none,errW_some] <;> rfl) | (simp [*,errW_none,errW_some] <;> rfl),by repeat (first | (with_reducible first | exact HB.out | apply ba_ | apply bd_ | apply be_ | refine bs_ ?_ GE101.out) | exact HB.out)⟩
      ·replace c26:=Bool.eq_false_iff.mpr c26
       subst c26
       have H1 : (if a0_5 < 0 then (some 1) else (if a0_5 > 2147483647 then (some 1) else (if a0_4 = 0 then (if a0_5 > 0 then (some 1) else (some 0)) else (some 0)))) = some r:=by rw [if_neg (show ¬ (false = true) by decide)] at H;exact H
       clear H;have H:=H1;clear H1
       by_cases c27 : a0_5 < 0
       ·rw [if_pos c27] at H
        have c27b0 : decide (a0_5 < 0) = true:=dt_ c27;clear c27;obtain rfl:=Option.some.inj H;obtain ⟨z28_0,z28_1,z28_2,z28_3,z28_4,z28_5⟩:=blkc_6 BK101.out;obtain ⟨y28_0,y28_1,y28_2,y28_3,y28_4,y28_5⟩:=blkz_6 BK101.out;go_wp2
        repeat (go_quiet (fail);try go_wp2)
        go_ret
        exact ⟨by first | rfl | (simp [errW_none,errW_some] <;> rfl) | (simp [*,errW_none,errW_some] <;> rfl),by repeat (first | (with_reducible first | exact HB.out | apply ba_ | apply bd_ | apply be_ | refine bs_ ?_ GE101.out) | exact HB.out)⟩
       ·rw [if_neg c27] at H
        have c27b0 : decide (a0_5 < 0) = false:=df_ c27;clear c27
        by_cases c29 : a0_5 > 2147483647
        ·rw [if_pos c29] at H
         have c29b0 : decide (2147483647 < a0_5) = true:=dt_ c29;clear c29;obtain rfl:=Option.some.inj H;obtain ⟨z30_0,z30_1,z30_2,z30_3,z30_4,z30_5⟩:=blkc_6 BK101.out;obtain ⟨y30_0,y30_1,y30_2,y30_3,y30_4,y30_5⟩:=blkz_6 BK101.out;go_wp2
         repeat (go_quiet (fail);try go_wp2)
         go_ret
         exact ⟨by first | rfl | (simp [errW_none,errW_some] <;> rfl) | (simp [*,errW_none,errW_some] <;> rfl),by repeat (first | (with_reducible first | exact HB.out | apply ba_ | apply bd_ | apply be_ | refine bs_ ?_ GE101.out) | exact HB.out)⟩
        ·rw [if_neg c29] at H
         have c29b0 : decide (2147483647 < a0_5) = false:=df_ c29;clear c29
         by_cases c31 : a0_4 = 0
         ·rw [if_pos c31] at H
          have c31b0 : (a0_4 == 0) = true:=beq_iff_eq.mpr c31;have c31b1 : (a0_4 != 0) = false:=bne_eq_false_iff_eq.mpr c31;clear c31
          by_cases c32 : a0_5 > 0
          ·rw [if_pos c32] at H
           have c32b0 : decide (0 < a0_5) = true:=dt_ c32;clear c32;obtain rfl:=Option.some.inj H;obtain ⟨z33_0,z33_1,z33_2,z33_3,z33_4,z33_5⟩:=blkc_6 BK101.out;obtain ⟨y33_0,y33_1,y33_2,y33_3,y33_4,y33_5⟩:=blkz_6 BK101.out;go_wp2
           repeat (go_quiet (fail);try go_wp2)
           go_ret
           exact ⟨by first | rfl | (simp [errW_none,errW_some] <;> rfl) | (simp [*,errW_none,errW_some] <;> rfl),by repeat (first | (with_reducible first | exact HB.out | apply ba_ | apply bd_ | apply be_ | refine bs_ ?_ GE101.out) | exact HB.out)⟩
          ·rw [if_neg c32] at H
           have c32b0 : decide (0 < a0_5) = false:=df_ c32;clear c32;obtain rfl:=Option.some.inj H;obtain ⟨z34_0,z34_1,z34_2,z34_3,z34_4,z34_5⟩:=blkc_6 BK101.out;obtain ⟨y34_0,y34_1,y34_2,y34_3,y34_4,y34_5⟩:=blkz_6 BK101.out;go_wp2
           repeat (go_quiet (fail);try go_wp2)
           go_ret
           exact ⟨by first | rfl | (simp [errW_none,errW_some] <;> rfl) | (simp [*,errW_none,errW_some] <;> rfl),by repeat (first | (with_reducible first | exact HB.out | apply ba_ | apply bd_ | apply be_ | refine bs_ ?_ GE101.out) | exact HB.out)⟩
         ·rw [if_neg c31] at H
          have c31b0 : (a0_4 == 0) = false:=beq_eq_false_iff_ne.mpr c31;have c31b1 : (a0_4 != 0) = true:=bne_iff_ne.mpr c31;obtain rfl:=Option.some.inj H;obtain ⟨z35_0,z35_1,z35_2,z35_3,z35_4,z35_5⟩:=blkc_6 BK101.out;obtain ⟨y35_0,y35_1,y35_2,y35_3,y35_4,y35_5⟩:=blkz_6 BK101.out;go_wp2
          repeat (go_quiet (fail);try go_wp2)
          go_ret
          exact ⟨by first | rfl | (simp [errW_none,errW_some] <;> rfl) | (simp [*,errW_none,errW_some] <;> rfl),by repeat (first | (with_reducible first | exact HB.out | apply ba_ | apply bd_ | apply be_ | refine bs_ ?_ GE101.out) | exact HB.out)⟩
end Go.Proofs.Ytdcllbhkjcdnoaa.P
