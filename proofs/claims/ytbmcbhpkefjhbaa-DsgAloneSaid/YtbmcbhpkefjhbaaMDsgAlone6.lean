/- Put together by wip/prune.py out of this claim's texts. -/
import Derived.Deep.LoopGhost
import Derived.Outline
import Derived.Test.YtbmcbhpkefjhbaaMDsgAlone2
import Derived.Test.YtbmcbhpkefjhbaaMDsgAlone4
import Derived.Test.YtbmcbhpkefjhbaaMDsgAlone5
set_option linter.unusedVariables false
set_option linter.unusedSimpArgs false
namespace Go.Proofs.Ytbmcbhpkefjhbaa.P
open Go.RowKit Go.Proofs.Ytbmcbhpkefjhbaa Go.Proofs.Ytbmcbhpkefjhbaa.Mem Go.Proofs.YtbmcbhpkefjhbaaW.PrintWords Go.Proofs.YtbmcbhpkefjhbaaW.PrintLast Go.Proofs.YtbmcbhpkefjhbaaW.PrintMore
def ixOf (o : Option Nat) : Int := match o with | some i => (i : Int) | none => -1
theorem ix_ge {α : Type} (l : List α) (q : α → Bool) : decide (0 ≤ ixOf (l.findIdx? q)) = l.any q := by
  cases h : l.findIdx? q with
  | none =>
    rw [List.findIdx?_eq_none_iff] at h
    rw [show ixOf none = -1 from rfl]
    symm
    rw [show decide ((0 : Int) ≤ -1) = false from rfl, List.any_eq_false]
    intro x hx
    rw [h x hx]; decide
  | some i =>
    rw [List.findIdx?_eq_some_iff_getElem] at h
    obtain ⟨h1, h2, _⟩ := h
    rw [show ixOf (some i) = (i : Int) from rfl, decide_eq_true (by omega)]
    symm
    rw [List.any_eq_true]
    exact ⟨_, List.getElem_mem h1, h2⟩
theorem rdEv_at {l : List S89} {i : Nat} (h : i < l.length) : l[i]? = some (rd_T89 l (i : Int)) := by
  unfold rd_T89
  rw [Int.toNat_natCast, List.getD_eq_getElem?_getD, List.getElem?_eq_getElem h]; rfl
theorem rdRo_at {l : List S124} {i : Nat} (h : i < l.length) : l[i]? = some (rd_T124 l (i : Int)) := by
  unfold rd_T124
  rw [Int.toNat_natCast, List.getD_eq_getElem?_getD, List.getElem?_eq_getElem h]; rfl
set_option maxRecDepth 100000 in
theorem IndexFunc_V (A : Option Addr) (c : Nat) (l : List S89) (f : FuncId) (cap : Array Value) (q : S89 → Bool) (w : World) (hr : Kd.C k89 w A l.length l) (hl : l.length ≤ 1000000)
    (he : ∀ args w, (callFunc f args).run Try.prog w = .ok (.enter f args) w)
    (hf : ∀ e ∈ l, ∀ wx A4 c4 A6 c6 A9 c9, Below w.heap.size w wx → e.f0.f4.length ≤ c4 → Kd.C Kd.f64 wx A4 e.f0.f4.length e.f0.f4 → e.f0.f6.length ≤ c6 → Kd.C Kd.bool wx A6 e.f0.f6.length e.f0.f6 → e.f1.f2.length ≤ c9 → Kd.C k124 wx A9 e.f1.f2.length e.f1.f2 → Calls Try.prog f (#[.agg #[.int .i64 e.f0.f0, .int .i64 e.f0.f1, .float .f64 e.f0.f2, .float .f64 e.f0.f3, .slice A4 e.f0.f4.length c4, .int .i64 e.f0.f5, .slice A6 e.f0.f6.length c6, .int .i64 e.f1.f0, .bool e.f1.f1, .slice A9 e.f1.f2.length c9, .int .i64 e.f1.f3]] ++ cap) wx fun r w' => r = .returned (.bool (q e)) ∧ Below wx.heap.size wx w') :
    Calls Try.prog 69 #[.slice A l.length c, .func (.func f) #[] cap] w fun e w' => e = .returned (.int .i64 (ixOf (l.findIdx? q))) ∧ Below w.heap.size w w' := by
  have HB := Lib.hid (Below.refl w.heap.size w)
  have HR := Lib.hid hr
  have HF := Lib.hid hf
  clear hr hf
  go_enter Try.func69, Try.ntmps69
  go_wp2
  go_loopg [5, 8] l.length (fun k v5 v8 wr => ∃ i : Nat, i ≤ l.length ∧ k = l.length - i ∧ v8 = .int .i64 (i : Int) ∧ Hid (∀ (j : Nat) (e : S89), j < i → l[j]? = some e → q e = false) ∧ Hid (Below w.heap.size w wr))
  case atStart => exact ⟨0, Nat.zero_le _, rfl, rfl, Lib.hid (fun j e h => absurd h (Nat.not_lt_zero _)), HB⟩
  case round =>
    clear HB
    obtain ⟨i, hi, rfl, rfl, HN, HB⟩ := hrel
    have i0 : (0 : Int) ≤ (i : Int) := Int.natCast_nonneg _
    by_cases hlt : i < l.length
    · have hd : decide (i < l.length) = true := decide_eq_true hlt
      have i1 : (i : Int) < (l.length : Int) := by omega
      obtain ⟨ad, A4, c4, A6, c6, A9, c9, e0, x0, x1, x2, x3, x4, x5, x6, x7, x8, x9, x10, l4, r4, l6, r6, l9, r9⟩ := at_T89 (Kd.C_below HR.out HB.out) (i : Int) i0 i1
      have HA : Hid (l[i]? = some (rd_T89 l (i : Int))) := Lib.hid (rdEv_at hlt)
      rw [Int.toNat_natCast] at x0 x1 x2 x3 x4 x5 x6 x7 x8 x9 x10
      subst e0
      generalize rd_T89 l (i : Int) = a at *
      have HC := Lib.hid (HF.out a (List.mem_of_getElem? HA.out) _ A4 c4 A6 c6 A9 c9 HB.out l4 r4 l6 r6 l9 r9)
      clear l4 r4 l6 r6 l9 r9
      go_wp2_with fail
      refine HC.out.mono ?_
      rintro r w2 ⟨rfl, hb2⟩
      have HB2 := Lib.hid (below_step HB.out hb2)
      cases hq : q a with
      | true =>
        have hfi : l.findIdx? q = some i := by
          rw [List.findIdx?_eq_some_iff_getElem]
          refine ⟨hlt, ?_, fun j hj => ?_⟩
          · have := HA.out
            rw [List.getElem?_eq_getElem hlt] at this
            injection this with this
            rw [this]; exact hq
          · have := HN.out j (l[j]'(by omega)) hj (List.getElem?_eq_getElem (by omega))
            rw [this]; decide
        go_wp2
        go_ret
        exact ⟨by rw [hfi]; rfl, HB2.out⟩
      | false =>
        have HQ := Lib.hid hq
        clear hq
        go_wp2
        go_roundg (l.length - (i + 1))
        case measure => omega
        case rel =>
          refine ⟨i + 1, by omega, rfl, by go_num, Lib.hid (fun j e hj hje => ?_), HB2⟩
          by_cases h : j = i
          · subst h
            have := hje.symm.trans HA.out
            injection this with this
            rw [this]; exact HQ.out
          · exact HN.out j e (by omega) hje
    · have hd : decide (i < l.length) = false := decide_eq_false hlt
      obtain rfl : i = l.length := by omega
      have hfi : l.findIdx? q = none := by
        rw [List.findIdx?_eq_none_iff]
        intro e he
        obtain ⟨j, hj⟩ := List.mem_iff_getElem?.1 he
        exact HN.out j e (List.getElem?_eq_some_iff.1 hj).1 hj
      go_wp2
      go_ret
      exact ⟨by rw [hfi]; rfl, HB.out⟩
theorem ContainsFunc_V (A : Option Addr) (c : Nat) (l : List S89) (f : FuncId) (cap : Array Value) (q : S89 → Bool) (w : World) (hr : Kd.C k89 w A l.length l) (hl : l.length ≤ 1000000)
    (he : ∀ args w, (callFunc f args).run Try.prog w = .ok (.enter f args) w)
    (hf : ∀ e ∈ l, ∀ wx A4 c4 A6 c6 A9 c9, Below w.heap.size w wx → e.f0.f4.length ≤ c4 → Kd.C Kd.f64 wx A4 e.f0.f4.length e.f0.f4 → e.f0.f6.length ≤ c6 → Kd.C Kd.bool wx A6 e.f0.f6.length e.f0.f6 → e.f1.f2.length ≤ c9 → Kd.C k124 wx A9 e.f1.f2.length e.f1.f2 → Calls Try.prog f (#[.agg #[.int .i64 e.f0.f0, .int .i64 e.f0.f1, .float .f64 e.f0.f2, .float .f64 e.f0.f3, .slice A4 e.f0.f4.length c4, .int .i64 e.f0.f5, .slice A6 e.f0.f6.length c6, .int .i64 e.f1.f0, .bool e.f1.f1, .slice A9 e.f1.f2.length c9, .int .i64 e.f1.f3]] ++ cap) wx fun r w' => r = .returned (.bool (q e)) ∧ Below wx.heap.size wx w') :
    Calls Try.prog 45 #[.slice A l.length c, .func (.func f) #[] cap] w fun e w' => e = .returned (.bool (l.any q)) ∧ Below w.heap.size w w' := by
  have IX := Lib.hid (IndexFunc_V A c l f cap q w hr hl he hf)
  have HG := Lib.hid (ix_ge l q)
  clear hr he hf
  generalize ixOf (l.findIdx? q) = z at IX HG
  go_enter Try.func45, Try.ntmps45
  go_wp2_with fail
  refine IX.out.mono ?_
  rintro e w' ⟨rfl, hb⟩
  go_wp2
  go_ret
  exact ⟨ret_bool HG.out, hb⟩
set_option maxRecDepth 100000 in
theorem IndexFunc_W (A : Option Addr) (c : Nat) (l : List S124) (f : FuncId) (cap : Array Value) (q : S124 → Bool) (w : World) (hr : Kd.C k124 w A l.length l) (hl : l.length ≤ 1000000)
    (he : ∀ args w, (callFunc f args).run Try.prog w = .ok (.enter f args) w)
    (hf : ∀ e ∈ l, ∀ wx A2 c2, Below w.heap.size w wx → e.f2.length ≤ c2 → Kd.C Kd.f64 wx A2 e.f2.length e.f2 → Calls Try.prog f (#[.agg #[.float .f64 e.f0, .bool e.f1, .slice A2 e.f2.length c2, .int .i64 e.f3, .int .i64 e.f4.f0, .int .i64 e.f4.f1]] ++ cap) wx fun r w' => r = .returned (.bool (q e)) ∧ Below wx.heap.size wx w') :
    Calls Try.prog 94 #[.slice A l.length c, .func (.func f) #[] cap] w fun e w' => e = .returned (.int .i64 (ixOf (l.findIdx? q))) ∧ Below w.heap.size w w' := by
  have HB := Lib.hid (Below.refl w.heap.size w)
  have HR := Lib.hid hr
  have HF := Lib.hid hf
  clear hr hf
  go_enter Try.func94, Try.ntmps94
  go_wp2
  go_loopg [5, 8] l.length (fun k v5 v8 wr => ∃ i : Nat, i ≤ l.length ∧ k = l.length - i ∧ v8 = .int .i64 (i : Int) ∧ Hid (∀ (j : Nat) (e : S124), j < i → l[j]? = some e → q e = false) ∧ Hid (Below w.heap.size w wr))
  case atStart => exact ⟨0, Nat.zero_le _, rfl, rfl, Lib.hid (fun j e h => absurd h (Nat.not_lt_zero _)), HB⟩
  case round =>
    clear HB
    obtain ⟨i, hi, rfl, rfl, HN, HB⟩ := hrel
    have i0 : (0 : Int) ≤ (i : Int) := Int.natCast_nonneg _
    by_cases hlt : i < l.length
    · have hd : decide (i < l.length) = true := decide_eq_true hlt
      have i1 : (i : Int) < (l.length : Int) := by omega
      obtain ⟨ad, A2, c2, e0, x0, x1, x2, x3, x4, x5, l2, r2⟩ := at_T124 (Kd.C_below HR.out HB.out) (i : Int) i0 i1
      have HA : Hid (l[i]? = some (rd_T124 l (i : Int))) := Lib.hid (rdRo_at hlt)
      rw [Int.toNat_natCast] at x0 x1 x2 x3 x4 x5
      subst e0
      generalize rd_T124 l (i : Int) = a at *
      have HC := Lib.hid (HF.out a (List.mem_of_getElem? HA.out) _ A2 c2 HB.out l2 r2)
      clear l2 r2
      go_wp2_with fail
      refine HC.out.mono ?_
      rintro r w2 ⟨rfl, hb2⟩
      have HB2 := Lib.hid (below_step HB.out hb2)
      cases hq : q a with
      | true =>
        have hfi : l.findIdx? q = some i := by
          rw [List.findIdx?_eq_some_iff_getElem]
          refine ⟨hlt, ?_, fun j hj => ?_⟩
          · have := HA.out
            rw [List.getElem?_eq_getElem hlt] at this
            injection this with this
            rw [this]; exact hq
          · have := HN.out j (l[j]'(by omega)) hj (List.getElem?_eq_getElem (by omega))
            rw [this]; decide
        go_wp2
        go_ret
        exact ⟨by rw [hfi]; rfl, HB2.out⟩
      | false =>
        have HQ := Lib.hid hq
        clear hq
        go_wp2
        go_roundg (l.length - (i + 1))
        case measure => omega
        case rel =>
          refine ⟨i + 1, by omega, rfl, by go_num, Lib.hid (fun j e hj hje => ?_), HB2⟩
          by_cases h : j = i
          · subst h
            have := hje.symm.trans HA.out
            injection this with this
            rw [this]; exact HQ.out
          · exact HN.out j e (by omega) hje
    · have hd : decide (i < l.length) = false := decide_eq_false hlt
      obtain rfl : i = l.length := by omega
      have hfi : l.findIdx? q = none := by
        rw [List.findIdx?_eq_none_iff]
        intro e he
        obtain ⟨j, hj⟩ := List.mem_iff_getElem?.1 he
        exact HN.out j e (List.getElem?_eq_some_iff.1 hj).1 hj
      go_wp2
      go_ret
      exact ⟨by rw [hfi]; rfl, HB.out⟩
theorem ContainsFunc_W (A : Option Addr) (c : Nat) (l : List S124) (f : FuncId) (cap : Array Value) (q : S124 → Bool) (w : World) (hr : Kd.C k124 w A l.length l) (hl : l.length ≤ 1000000)
    (he : ∀ args w, (callFunc f args).run Try.prog w = .ok (.enter f args) w)
    (hf : ∀ e ∈ l, ∀ wx A2 c2, Below w.heap.size w wx → e.f2.length ≤ c2 → Kd.C Kd.f64 wx A2 e.f2.length e.f2 → Calls Try.prog f (#[.agg #[.float .f64 e.f0, .bool e.f1, .slice A2 e.f2.length c2, .int .i64 e.f3, .int .i64 e.f4.f0, .int .i64 e.f4.f1]] ++ cap) wx fun r w' => r = .returned (.bool (q e)) ∧ Below wx.heap.size wx w') :
    Calls Try.prog 91 #[.slice A l.length c, .func (.func f) #[] cap] w fun e w' => e = .returned (.bool (l.any q)) ∧ Below w.heap.size w w' := by
  have IX := Lib.hid (IndexFunc_W A c l f cap q w hr hl he hf)
  have HG := Lib.hid (ix_ge l q)
  clear hr he hf
  generalize ixOf (l.findIdx? q) = z at IX HG
  go_enter Try.func91, Try.ntmps91
  go_wp2_with fail
  refine IX.out.mono ?_
  rintro e w' ⟨rfl, hb⟩
  go_wp2
  go_ret
  exact ⟨ret_bool HG.out, hb⟩
end Go.Proofs.Ytbmcbhpkefjhbaa.P
