/- Put together by wip/prune.py out of this claim's texts. -/
import Derived.Deep.LoopGhost
import Derived.Outline
import Derived.Test.YtbmcbhpkefjhbaaMTableCounts2
import Derived.Test.YtbmcbhpkefjhbaaMTableCounts5
import Derived.Test.YtbmcbhpkefjhbaaMTableCounts6
set_option linter.unusedVariables false
set_option linter.unusedSimpArgs false
namespace Go.Proofs.Ytbmcbhpkefjhbaa.P
open Go.RowKit Go.Proofs.Ytbmcbhpkefjhbaa Go.Proofs.Ytbmcbhpkefjhbaa.Mem Go.Proofs.YtbmcbhpkefjhbaaW.PrintWords Go.Proofs.YtbmcbhpkefjhbaaW.PrintLast Go.Proofs.YtbmcbhpkefjhbaaW.PrintMore
def ixOf (o : Option Nat) : Int := match o with | some i => (i : Int) | none => -1
theorem ix_ge {α : Type} (l : List α) (q : α → Bool) : decide (0 ≤ ixOf (l.findIdx? q)) = l.any q := by
  cases h : l.findIdx? q with
  | none =>
    rw [List.findIdx?_eq_none_iff] at h
    rw [show ixOf none = -1 from rfl]
    symm
    rw [show decide ((0 : Int) ≤ -1) = false from rfl, List.any_eq_false]
    intro x hx
    rw [h x hx]; decide
  | some i =>
    rw [List.findIdx?_eq_some_iff_getElem] at h
    obtain ⟨h1, h2, _⟩ := h
    rw [show ixOf (some i) = (i : Int) from rfl, decide_eq_true (by omega)]
    symm
    rw [List.any_eq_true]
    exact ⟨_, List.getElem_mem h1, h2⟩
abbrev Ent := S112
theorem rdE_at {l : List Ent} {i : Nat} (h : i < l.length) : l[i]? = some (rd_T112 l (i : Int)) := by
  unfold rd_T112
  rw [Int.toNat_natCast, List.getD_eq_getElem?_getD, List.getElem?_eq_getElem h]; rfl
set_option maxRecDepth 100000 in
theorem IndexFunc_E (A : Option Addr) (c : Nat) (l : List S112) (f : FuncId) (cap : Array Value) (q : S112 → Bool) (w : World) (hr : Kd.C k112 w A l.length l) (hl : l.length ≤ 1000000)
    (he : ∀ args w, (callFunc f args).run Try.prog w = .ok (.enter f args) w)
    (hf : ∀ e ∈ l, ∀ wx, Below w.heap.size w wx → Calls Try.prog f (#[.agg #[.int .i64 e.f0, .int .i64 e.f1, .int .i64 e.f2, .int .i64 e.f3]] ++ cap) wx fun r w' => r = .returned (.bool (q e)) ∧ Below wx.heap.size wx w') :
    Calls Try.prog 87 #[.slice A l.length c, .func (.func f) #[] cap] w fun e w' => e = .returned (.int .i64 (ixOf (l.findIdx? q))) ∧ Below w.heap.size w w' := by
  have HB := Lib.hid (Below.refl w.heap.size w)
  have HR := Lib.hid hr
  have HF := Lib.hid hf
  clear hr hf
  go_enter Try.func87, Try.ntmps87
  go_wp2
  go_loopg [5, 8] l.length (fun k v5 v8 wr => ∃ i : Nat, i ≤ l.length ∧ k = l.length - i ∧ v8 = .int .i64 (i : Int) ∧ Hid (∀ (j : Nat) (e : S112), j < i → l[j]? = some e → q e = false) ∧ Hid (Below w.heap.size w wr))
  case atStart => exact ⟨0, Nat.zero_le _, rfl, rfl, Lib.hid (fun j e h => absurd h (Nat.not_lt_zero _)), HB⟩
  case round =>
    clear HB
    obtain ⟨i, hi, rfl, rfl, HN, HB⟩ := hrel
    have i0 : (0 : Int) ≤ (i : Int) := Int.natCast_nonneg _
    by_cases hlt : i < l.length
    · have hd : decide (i < l.length) = true := decide_eq_true hlt
      have i1 : (i : Int) < (l.length : Int) := by omega
      obtain ⟨ad, e0, x0, x1, x2, x3⟩ := at_T112 (Kd.C_below HR.out HB.out) (i : Int) i0 i1
      have HA : Hid (l[i]? = some (rd_T112 l (i : Int))) := Lib.hid (rdE_at hlt)
      rw [Int.toNat_natCast] at x0 x1 x2 x3
      subst e0
      generalize rd_T112 l (i : Int) = a at *
      have HC := Lib.hid (HF.out a (List.mem_of_getElem? HA.out) _ HB.out)
      go_wp2_with fail
      refine HC.out.mono ?_
      rintro r w2 ⟨rfl, hb2⟩
      have HB2 := Lib.hid (below_step HB.out hb2)
      cases hq : q a with
      | true =>
        have hfi : l.findIdx? q = some i := by
          rw [List.findIdx?_eq_some_iff_getElem]
          refine ⟨hlt, ?_, fun j hj => ?_⟩
          · have := HA.out
            rw [List.getElem?_eq_getElem hlt] at this
            injection this with this
            rw [this]; exact hq
          · have := HN.out j (l[j]'(by omega)) hj (List.getElem?_eq_getElem (by omega))
            rw [this]; decide
        go_wp2
        go_ret
        exact ⟨by rw [hfi]; rfl, HB2.out⟩
      | false =>
        have HQ := Lib.hid hq
        clear hq
        go_wp2
        go_roundg (l.length - (i + 1))
        case measure => omega
        case rel =>
          refine ⟨i + 1, by omega, rfl, by go_num, Lib.hid (fun j e hj hje => ?_), HB2⟩
          by_cases h : j = i
          · subst h
            have := hje.symm.trans HA.out
            injection this with this
            rw [this]; exact HQ.out
          · exact HN.out j e (by omega) hje
    · have hd : decide (i < l.length) = false := decide_eq_false hlt
      obtain rfl : i = l.length := by omega
      have hfi : l.findIdx? q = none := by
        rw [List.findIdx?_eq_none_iff]
        intro e he
        obtain ⟨j, hj⟩ := List.mem_iff_getElem?.1 he
        exact HN.out j e (List.getElem?_eq_some_iff.1 hj).1 hj
      go_wp2
      go_ret
      exact ⟨by rw [hfi]; rfl, HB.out⟩
theorem ContainsFunc_E (A : Option Addr) (c : Nat) (l : List S112) (f : FuncId) (cap : Array Value) (q : S112 → Bool) (w : World) (hr : Kd.C k112 w A l.length l) (hl : l.length ≤ 1000000)
    (he : ∀ args w, (callFunc f args).run Try.prog w = .ok (.enter f args) w)
    (hf : ∀ e ∈ l, ∀ wx, Below w.heap.size w wx → Calls Try.prog f (#[.agg #[.int .i64 e.f0, .int .i64 e.f1, .int .i64 e.f2, .int .i64 e.f3]] ++ cap) wx fun r w' => r = .returned (.bool (q e)) ∧ Below wx.heap.size wx w') :
    Calls Try.prog 83 #[.slice A l.length c, .func (.func f) #[] cap] w fun e w' => e = .returned (.bool (l.any q)) ∧ Below w.heap.size w w' := by
  have IX := Lib.hid (IndexFunc_E A c l f cap q w hr hl he hf)
  have HG := Lib.hid (ix_ge l q)
  clear hr he hf
  generalize ixOf (l.findIdx? q) = z at IX HG
  go_enter Try.func83, Try.ntmps83
  go_wp2_with fail
  refine IX.out.mono ?_
  rintro e w' ⟨rfl, hb⟩
  go_wp2
  go_ret
  exact ⟨ret_bool HG.out, hb⟩
def twiceE (a0 a3 : Int) (x : Ent) : Bool := (decide (0 < a0) && x.f0 == a0) || (decide (0 < a3) && x.f3 == a3)
set_option maxRecDepth 100000 in
theorem check1_any (g : Nat) (a0 a1 a2 a3 : Int) (x : Ent) (w : World) (h0 : w.cell? ⟨g, 0, none⟩ = some (.int .i64 a0)) (h3 : w.cell? ⟨g, 3, none⟩ = some (.int .i64 a3)) :
    Calls Try.prog 84 (#[.agg #[.int .i64 x.f0, .int .i64 x.f1, .int .i64 x.f2, .int .i64 x.f3]] ++ #[.pointer (some ⟨g, 0, none⟩)]) w fun r w' => r = .returned (.bool (twiceE a0 a3 x)) ∧ Below w.heap.size w w' := by
  rw [show (#[Value.agg #[.int .i64 x.f0, .int .i64 x.f1, .int .i64 x.f2, .int .i64 x.f3]] ++ #[Value.pointer (some ⟨g, 0, none⟩)]) = #[.agg #[.int .i64 x.f0, .int .i64 x.f1, .int .i64 x.f2, .int .i64 x.f3], .pointer (some ⟨g, 0, none⟩)] from rfl]
  have hb := below_alloc (Below.refl w.heap.size w) (.cells #[.int .i64 x.f0, .int .i64 x.f1, .int .i64 x.f2, .int .i64 x.f3] 112 (0, 0))
  have HB := Lib.hid (Below.refl w.heap.size w)
  have z0 := (hb.cell (World.block_lt_of_cell? w _ h0)).trans h0
  have z3 := (hb.cell (World.block_lt_of_cell? w _ h3)).trans h3
  clear hb h0 h3
  go_enter Try.func84, Try.ntmps84
  go_wp2
  all_goals go_ret
  all_goals refine ⟨ret_bool ?_, (by repeat (first | (with_reducible first | exact HB.out | apply below_alloc | apply pw_below_drewN | apply below_drew1) | exact HB.out))⟩
  all_goals unfold twiceE
  all_goals simp_all
  all_goals first | (intros; omega) | (constructor <;> intros <;> omega)
def containsFunc_table_Check_1.f (l0 : List Ent) (a0 a1 a2 a3 : Int) : Option Bool := if l0.length ≤ 1000000 then some (l0.any (twiceE a0 a3)) else none
theorem containsFunc_table_Check_1.calls (A0 : Option Addr) (c0 : Nat) (l0 : List Ent) (a0 a1 a2 a3 : Int) (r : Bool) (w : World) {g : Nat} (hr0 : Kd.C k112 w A0 l0.length l0) (hc0 : l0.length ≤ c0) (hg : w.heap[g]? = some (.cells #[.int .i64 a0, .int .i64 a1, .int .i64 a2, .int .i64 a3] 112 (0, 0))) (h : containsFunc_table_Check_1.f l0 a0 a1 a2 a3 = some r) :
    Calls Try.prog 83 #[.slice A0 l0.length c0, .func (.func 84) #[] #[.pointer (some ⟨g, 0, none⟩)]] w fun e w' => e = .returned (.bool r) ∧ Below w.heap.size w w' := by
  unfold containsFunc_table_Check_1.f at h
  split at h
  rotate_left
  · cases h
  rename_i hl
  injection h with h; subst h
  exact ContainsFunc_E A0 c0 l0 84 #[.pointer (some ⟨g, 0, none⟩)] _ w hr0 hl (enters_ Try.func84 (by kernel_rfl) rfl) (fun e he wx hb => check1_any g a0 a1 a2 a3 e wx ((hb.cell (World.block_lt_of_cell? w _ (blk_cell hg 0))).trans (blk_cell hg 0)) ((hb.cell (World.block_lt_of_cell? w _ (blk_cell hg 3))).trans (blk_cell hg 3)))
set_option maxRecDepth 100000 in
theorem find1_any (g : Nat) (tx : Int) (x : Ent) (w : World) (h0 : w.cell? ⟨g, 0, none⟩ = some (.int .i64 tx)) :
    Calls Try.prog 88 (#[.agg #[.int .i64 x.f0, .int .i64 x.f1, .int .i64 x.f2, .int .i64 x.f3]] ++ #[.pointer (some ⟨g, 0, none⟩)]) w fun r w' => r = .returned (.bool (x.f0 == tx)) ∧ Below w.heap.size w w' := by
  rw [show (#[Value.agg #[.int .i64 x.f0, .int .i64 x.f1, .int .i64 x.f2, .int .i64 x.f3]] ++ #[Value.pointer (some ⟨g, 0, none⟩)]) = #[.agg #[.int .i64 x.f0, .int .i64 x.f1, .int .i64 x.f2, .int .i64 x.f3], .pointer (some ⟨g, 0, none⟩)] from rfl]
  have hb := below_alloc (Below.refl w.heap.size w) (.cells #[.int .i64 x.f0, .int .i64 x.f1, .int .i64 x.f2, .int .i64 x.f3] 112 (0, 0))
  have HB := Lib.hid (Below.refl w.heap.size w)
  have z0 := (hb.cell (World.block_lt_of_cell? w _ h0)).trans h0
  clear hb h0
  go_enter Try.func88, Try.ntmps88
  go_wp2
  go_ret
  exact ⟨rfl, (by repeat (first | (with_reducible first | exact HB.out | apply below_alloc | apply pw_below_drewN | apply below_drew1) | exact HB.out))⟩
def indexFunc_table_Find_1.f (l0 : List Ent) (a1 : Int) : Option Int := if l0.length ≤ 1000000 then some (ixOf (l0.findIdx? fun x => x.f0 == a1)) else none
theorem indexFunc_table_Find_1.calls (A0 : Option Addr) (c0 : Nat) (l0 : List Ent) (a1 : Int) (r : Int) (w : World) {g : Nat} (hr0 : Kd.C k112 w A0 l0.length l0) (hc0 : l0.length ≤ c0) (hg : w.heap[g]? = some (.cells #[.int .i64 a1] 3 (0, 0))) (h : indexFunc_table_Find_1.f l0 a1 = some r) :
    Calls Try.prog 87 #[.slice A0 l0.length c0, .func (.func 88) #[] #[.pointer (some ⟨g, 0, none⟩)]] w fun e w' => e = .returned (.int .i64 r) ∧ Below w.heap.size w w' := by
  unfold indexFunc_table_Find_1.f at h
  split at h
  rotate_left
  · cases h
  rename_i hl
  injection h with h; subst h
  exact IndexFunc_E A0 c0 l0 88 #[.pointer (some ⟨g, 0, none⟩)] _ w hr0 hl (enters_ Try.func88 (by kernel_rfl) rfl) (fun e he wx hb => find1_any g a1 e wx ((hb.cell (World.block_lt_of_cell? w _ (blk_cell hg 0))).trans (blk_cell hg 0)))
end Go.Proofs.Ytbmcbhpkefjhbaa.P
namespace Go.Proofs.Ytbmcbhpkefjhbaa.P
open Go.RowKit Go.Proofs.YtbmcbhpkefjhbaaW.PrintWords Go.Proofs.YtbmcbhpkefjhbaaW.PrintLast Go.Proofs.YtbmcbhpkefjhbaaW.PrintMore
attribute [local go_sem] max2_int min2_int max_two min_two max_three min_three max_four min_four   -- for this text's walks alone
attribute [local go_sem] run_store_float
set_option linter.unusedVariables false
set_option linter.unusedSimpArgs false
mutual
def table_Check.j0 : Nat → Bool → Int → Int → Int → List (S112) → Option (Int)
 | 0,_,_,_,_,_ => none
 | k + 1,x27,x113000,x113001,x113002,x113003 => if x27 = true then (table_Check.j1 k 1) else (table_Check.l0 k x113003 (x113003.length : Int) 0 x113000 x113001 x113002 x113003)
def table_Check.j1 : Nat → Int → Option (Int)
 | 0,_ => none
 | k + 1,x2 => some x2
def table_Check.l0 : Nat → List (S112) → Int → Int → Int → Int → Int → List (S112) → Option (Int)
 | 0,_,_,_,_,_,_,_ => none
 | k + 1,x29,x30,x31,x113000,x113001,x113002,x113003 => if x31 < x30 then (if 0 ≤ x31 then (if x31 < (x29.length : Int) then (if x31 ≤ (x113003.length : Int) then ((containsFunc_table_Check_1.f (x113003.take (x31 : Int).toNat) ((rd_T112 x29 x31).f0) ((rd_T112 x29 x31).f1) ((rd_T112 x29 x31).f2) ((rd_T112 x29 x31).f3)).bind fun t122 => (if t122 = true then (table_Check.j3 k x29 x30 x31 true x113000 x113001 x113002 x113003) else ((table_entry.f k x113000 x113001 x113002 x113003 ((rd_T112 x29 x31).f0) ((rd_T112 x29 x31).f1) ((rd_T112 x29 x31).f2) ((rd_T112 x29 x31).f3)).bind fun t123 => (table_Check.j3 k x29 x30 x31 (!t123) x113000 x113001 x113002 x113003)))) else (none)) else (none)) else (none)) else (some 0)
def table_Check.j3 : Nat → List (S112) → Int → Int → Bool → Int → Int → Int → List (S112) → Option (Int)
 | 0,_,_,_,_,_,_,_,_ => none
 | k + 1,x29,x30,x31,x48,x113000,x113001,x113002,x113003 => if x48 = true then (table_Check.j4 k 1) else (table_Check.l0 k x29 x30 (wrap64 (x31 + 1)) x113000 x113001 x113002 x113003)
def table_Check.j4 : Nat → Int → Option (Int)
 | 0,_ => none
 | k + 1,x2 => some x2
end
def table_Check.f (k : Nat) (a0_0 : Int) (a0_1 : Int) (a0_2 : Int) (l0_3 : List (S112)) : Option (Int):=(table_in.f a0_0 1 2147483647).bind fun t113 => (if t113 = true then ((table_in.f a0_1 1 2147483647).bind fun t114 => (if t114 = true then ((table_in.f a0_2 0 2147483647).bind fun t115 => (if t115 = true then (table_Check.j0 k ((l0_3.length : Int) != 12) a0_0 a0_1 a0_2 l0_3) else (table_Check.j0 k true a0_0 a0_1 a0_2 l0_3))) else (table_Check.j0 k true a0_0 a0_1 a0_2 l0_3))) else (table_Check.j0 k true a0_0 a0_1 a0_2 l0_3))
theorem table_Check.mono_l : ∀ k,(∀ y0 y1 y2 y3 y4,LeO (table_Check.j0 k y0 y1 y2 y3 y4) (table_Check.j0 (k + 1) y0 y1 y2 y3 y4)) ∧ (∀ y0,LeO (table_Check.j1 k y0) (table_Check.j1 (k + 1) y0)) ∧ (∀ y0 y1 y2 y3 y4 y5 y6,LeO (table_Check.l0 k y0 y1 y2 y3 y4 y5 y6) (table_Check.l0 (k + 1) y0 y1 y2 y3 y4 y5 y6)) ∧ (∀ y0 y1 y2 y3 y4 y5 y6 y7,LeO (table_Check.j3 k y0 y1 y2 y3 y4 y5 y6 y7) (table_Check.j3 (k + 1) y0 y1 y2 y3 y4 y5 y6 y7)) ∧ (∀ y0,LeO (table_Check.j4 k y0) (table_Check.j4 (k + 1) y0))
 | 0 => ⟨fun _ _ _ _ _ r h => by simp [table_Check.j0] at h,fun _ r h => by simp [table_Check.j1] at h,fun _ _ _ _ _ _ _ r h => by simp [table_Check.l0] at h,fun _ _ _ _ _ _ _ _ r h => by simp [table_Check.j3] at h,fun _ r h => by simp [table_Check.j4] at h⟩
 | k + 1 => by
  obtain ⟨ih0,ih1,ih2,ih3,ih4⟩:=table_Check.mono_l k
  refine ⟨?_,?_,?_,?_,?_⟩
  ·intro y0 y1 y2 y3 y4
   unfold table_Check.j0
   repeat' first
   | (with_reducible exact ih0 _ _ _ _ _)
   | (with_reducible exact ih1 _)
   | (with_reducible exact ih2 _ _ _ _ _ _ _)
   | (with_reducible exact ih3 _ _ _ _ _ _ _ _)
   | (with_reducible exact ih4 _)
   | (with_reducible exact table_entry.mono _ _ _ _ _ _ _ _ _)
   | (with_reducible exact LeO.refl _)
   | (with_reducible exact LeO.none _)
   | (with_reducible refine LeO.ite ?_ ?_)
   | (with_reducible refine LeO.bind ?_ (fun _ => ?_))
   | exact ih0 _ _ _ _ _
   | exact ih1 _
   | exact ih2 _ _ _ _ _ _ _
   | exact ih3 _ _ _ _ _ _ _ _
   | exact ih4 _
   | exact table_entry.mono _ _ _ _ _ _ _ _ _
   | exact LeO.none _
   | refine LeO.ite ?_ ?_
   | refine LeO.bind ?_ (fun _ => ?_)
  ·intro y0
   unfold table_Check.j1
   repeat' first
   | (with_reducible exact ih0 _ _ _ _ _)
   | (with_reducible exact ih1 _)
   | (with_reducible exact ih2 _ _ _ _ _ _ _)
   | (with_reducible exact ih3 _ _ _ _ _ _ _ _)
   | (with_reducible exact ih4 _)
   | (with_reducible exact table_entry.mono _ _ _ _ _ _ _ _ _)
   | (with_reducible exact LeO.refl _)
   | (with_reducible exact LeO.none _)
   | (with_reducible refine LeO.ite ?_ ?_)
   | (with_reducible refine LeO.bind ?_ (fun _ => ?_))
   | exact ih0 _ _ _ _ _
   | exact ih1 _
   | exact ih2 _ _ _ _ _ _ _
   | exact ih3 _ _ _ _ _ _ _ _
   | exact ih4 _
   | exact table_entry.mono _ _ _ _ _ _ _ _ _
   | exact LeO.none _
   | refine LeO.ite ?_ ?_
   | refine LeO.bind ?_ (fun _ => ?_)
  ·intro y0 y1 y2 y3 y4 y5 y6
   unfold table_Check.l0
   repeat' first
   | (with_reducible exact ih0 _ _ _ _ _)
   | (with_reducible exact ih1 _)
   | (with_reducible exact ih2 _ _ _ _ _ _ _)
   | (with_reducible exact ih3 _ _ _ _ _ _ _ _)
   | (with_reducible exact ih4 _)
   | (with_reducible exact table_entry.mono _ _ _ _ _ _ _ _ _)
   | (with_reducible exact LeO.refl _)
   | (with_reducible exact LeO.none _)
   | (with_reducible refine LeO.ite ?_ ?_)
   | (with_reducible refine LeO.bind ?_ (fun _ => ?_))
   | exact ih0 _ _ _ _ _
   | exact ih1 _
   | exact ih2 _ _ _ _ _ _ _
   | exact ih3 _ _ _ _ _ _ _ _
   | exact ih4 _
   | exact table_entry.mono _ _ _ _ _ _ _ _ _
   | exact LeO.none _
   | refine LeO.ite ?_ ?_
   | refine LeO.bind ?_ (fun _ => ?_)
  ·intro y0 y1 y2 y3 y4 y5 y6 y7
   unfold table_Check.j3
   repeat' first
   | (with_reducible exact ih0 _ _ _ _ _)
   | (with_reducible exact ih1 _)
   | (with_reducible exact ih2 _ _ _ _ _ _ _)
   | (with_reducible exact ih3 _ _ _ _ _ _ _ _)
   | (with_reducible exact ih4 _)
   | (with_reducible exact table_entry.mono _ _ _ _ _ _ _ _ _)
   | (with_reducible exact LeO.refl _)
   | (with_reducible exact LeO.none _)
   | (with_reducible refine LeO.ite ?_ ?_)
   | (with_reducible refine LeO.bind ?_ (fun _ => ?_))
   | exact ih0 _ _ _ _ _
   | exact ih1 _
   | exact ih2 _ _ _ _ _ _ _
   | exact ih3 _ _ _ _ _ _ _ _
   | exact ih4 _
   | exact table_entry.mono _ _ _ _ _ _ _ _ _
   | exact LeO.none _
   | refine LeO.ite ?_ ?_
   | refine LeO.bind ?_ (fun _ => ?_)
  ·intro y0
   unfold table_Check.j4
   repeat' first
   | (with_reducible exact ih0 _ _ _ _ _)
   | (with_reducible exact ih1 _)
   | (with_reducible exact ih2 _ _ _ _ _ _ _)
   | (with_reducible exact ih3 _ _ _ _ _ _ _ _)
   | (with_reducible exact ih4 _)
   | (with_reducible exact table_entry.mono _ _ _ _ _ _ _ _ _)
   | (with_reducible exact LeO.refl _)
   | (with_reducible exact LeO.none _)
   | (with_reducible refine LeO.ite ?_ ?_)
   | (with_reducible refine LeO.bind ?_ (fun _ => ?_))
   | exact ih0 _ _ _ _ _
   | exact ih1 _
   | exact ih2 _ _ _ _ _ _ _
   | exact ih3 _ _ _ _ _ _ _ _
   | exact ih4 _
   | exact table_entry.mono _ _ _ _ _ _ _ _ _
   | exact LeO.none _
   | refine LeO.ite ?_ ?_
   | refine LeO.bind ?_ (fun _ => ?_)
theorem table_Check.mono : ∀ a0 a1 a2 a3 k,LeO (table_Check.f k a0 a1 a2 a3) (table_Check.f (k + 1) a0 a1 a2 a3):=by
 intro a0 a1 a2 a3 k
 obtain ⟨ih0,ih1,ih2,ih3,ih4⟩:=table_Check.mono_l k
 unfold table_Check.f
 repeat' first
   | (with_reducible exact ih0 _ _ _ _ _)
   | (with_reducible exact ih1 _)
   | (with_reducible exact ih2 _ _ _ _ _ _ _)
   | (with_reducible exact ih3 _ _ _ _ _ _ _ _)
   | (with_reducible exact ih4 _)
   | (with_reducible exact table_entry.mono _ _ _ _ _ _ _ _ _)
   | (with_reducible exact LeO.refl _)
   | (with_reducible exact LeO.none _)
   | (with_reducible refine LeO.ite ?_ ?_)
   | (with_reducible refine LeO.bind ?_ (fun _ => ?_))
   | exact ih0 _ _ _ _ _
   | exact ih1 _
   | exact ih2 _ _ _ _ _ _ _
   | exact ih3 _ _ _ _ _ _ _ _
   | exact ih4 _
   | exact table_entry.mono _ _ _ _ _ _ _ _ _
   | exact LeO.none _
   | refine LeO.ite ?_ ?_
   | refine LeO.bind ?_ (fun _ => ?_)
set_option maxHeartbeats 8000000 in
set_option maxRecDepth 100000 in
theorem table_Check.calls (k : Nat) (a0_0 : Int) (a0_1 : Int) (a0_2 : Int) (A0_3 : Option Addr) (c0_3 : Nat) (l0_3 : List (S112)) (r : Int) (w : World) (hr0_3 : Kd.C k112 w A0_3 l0_3.length l0_3) (hc0_3 : l0_3.length ≤ c0_3) (h : table_Check.f k a0_0 a0_1 a0_2 l0_3 = some r) :
  Calls Try.prog 64 #[.agg #[.int .i64 a0_0,.int .i64 a0_1,.int .i64 a0_2,.slice A0_3 l0_3.length c0_3]] w fun e w' => e = .returned (.int .i64 r) ∧ Below w.heap.size w w':=by
 have hu69:=Try.underlying69
 have hu112:=Try.underlying112
 have HR0_3:=Aside0.mk hr0_3
 have HC0_3:=Aside0.mk hc0_3
 clear hr0_3 hc0_3
 have HB:=Aside0.mk (Below.refl w.heap.size w)
 have H : ((table_in.f a0_0 1 2147483647).bind fun t113 => (if t113 = true then ((table_in.f a0_1 1 2147483647).bind fun t114 => (if t114 = true then ((table_in.f a0_2 0 2147483647).bind fun t115 => (if t115 = true then (table_Check.j0 k ((l0_3.length : Int) != 12) a0_0 a0_1 a0_2 l0_3) else (table_Check.j0 k true a0_0 a0_1 a0_2 l0_3))) else (table_Check.j0 k true a0_0 a0_1 a0_2 l0_3))) else (table_Check.j0 k true a0_0 a0_1 a0_2 l0_3))) = some r:=h
 clear h
 have HC2:=Aside0.mk H
 clear H
 go_enter Try.func64,Try.ntmps64
 go_upto_region 1 with (first | ((with_reducible refine gate_dst (N:=1) rfl ?_);(try (refine gate_guard (by rfl) ?_;dsimp only));refine box_event ?hg (N:=1) ?hd (cs:=#[.int .i64 a0_0,.int .i64 a0_1,.int .i64 a0_2,.slice A0_3 l0_3.length c0_3]) (t:=69) ?hr ?_;(case hd => rfl);(case hg => rfl);(case hr => first | (go_simp;done) | (go_simp;rfl));intro gb112 hg w3 hbox hb;have n0_:=Aside0.mk (below_step (by repeat (first | (with_reducible first | exact HB.out | apply below_alloc | apply pw_below_drewN | apply below_drew1) | exact HB.out)) hb);have n1_:=Aside0.mk (hbox);have n2_:=Aside0.mk ((by rw [hg];exact (below_size (by repeat (first | (with_reducible first | exact HB.out | apply below_alloc | apply pw_below_drewN | apply below_drew1) | exact HB.out))) : w.heap.size ≤ gb112));have n3_:=Aside0.mk ((by rw [hg];exact (below_size (by repeat (first | (with_reducible first | exact HB.out | apply below_alloc | apply pw_below_drewN | apply below_drew1) | exact HB.out))) : w.heap.size ≤ gb112));clear HB;have HB:=n0_;have BK112:=n1_;have GW112:=n2_;have GE112:=n3_;clear n0_ n1_ n2_ n3_;clear hb hbox hg))
 (try simp only [Act.put,List.setIfInBounds_toArray,List.set_cons_zero,List.set_cons_succ])
 go_cut [27] (fun v27 wc => ∃ (kq : Nat) (x27_1 : Bool),v27 = .bool x27_1 ∧ Aside0 (table_Check.j0 kq x27_1 a0_0 a0_1 a0_2 l0_3 = some r) ∧ Aside0 (kq ≤ k) ∧ Aside0 (wc.heap[gb112]? = some (.cells #[.int .i64 a0_0,.int .i64 a0_1,.int .i64 a0_2,(.slice A0_3 l0_3.length c0_3)] 69 (0,0))) ∧ Aside0 (Below w.heap.size w wc))
 case first =>
  have H:=HC2.out
  clear HC2
  replace H:=Option.bind_eq_some_iff.mp H
  obtain ⟨t113,A40,H⟩:=H
  replace H : (if t113 = true then ((table_in.f a0_1 1 2147483647).bind fun t114 => (if t114 = true then ((table_in.f a0_2 0 2147483647).bind fun t115 => (if t115 = true then (table_Check.j0 k ((l0_3.length : Int) != 12) a0_0 a0_1 a0_2 l0_3) else (table_Check.j0 k true a0_0 a0_1 a0_2 l0_3))) else (table_Check.j0 k true a0_0 a0_1 a0_2 l0_3))) else (table_Check.j0 k true a0_0 a0_1 a0_2 l0_3)) = some r:=H
  have A4:=Aside0.mk A40
  clear A40
  by_cases c5 : t113 = true
  ·subst c5
   have H1 : ((table_in.f a0_1 1 2147483647).bind fun t114 => (if t114 = true then ((table_in.f a0_2 0 2147483647).bind fun t115 => (if t115 = true then (table_Check.j0 k ((l0_3.length : Int) != 12) a0_0 a0_1 a0_2 l0_3) else (table_Check.j0 k true a0_0 a0_1 a0_2 l0_3))) else (table_Check.j0 k true a0_0 a0_1 a0_2 l0_3))) = some r:=by rw [if_pos rfl] at H;exact H
   clear H
   have H:=H1
   clear H1
   replace H:=Option.bind_eq_some_iff.mp H
   obtain ⟨t114,A60,H⟩:=H
   replace H : (if t114 = true then ((table_in.f a0_2 0 2147483647).bind fun t115 => (if t115 = true then (table_Check.j0 k ((l0_3.length : Int) != 12) a0_0 a0_1 a0_2 l0_3) else (table_Check.j0 k true a0_0 a0_1 a0_2 l0_3))) else (table_Check.j0 k true a0_0 a0_1 a0_2 l0_3)) = some r:=H
   have A6:=Aside0.mk A60
   clear A60
   by_cases c7 : t114 = true
   ·subst c7
    have H1 : ((table_in.f a0_2 0 2147483647).bind fun t115 => (if t115 = true then (table_Check.j0 k ((l0_3.length : Int) != 12) a0_0 a0_1 a0_2 l0_3) else (table_Check.j0 k true a0_0 a0_1 a0_2 l0_3))) = some r:=by rw [if_pos rfl] at H;exact H
    clear H
    have H:=H1
    clear H1
    replace H:=Option.bind_eq_some_iff.mp H
    obtain ⟨t115,A80,H⟩:=H
    replace H : (if t115 = true then (table_Check.j0 k ((l0_3.length : Int) != 12) a0_0 a0_1 a0_2 l0_3) else (table_Check.j0 k true a0_0 a0_1 a0_2 l0_3)) = some r:=H
    have A8:=Aside0.mk A80
    clear A80
    by_cases c9 : t115 = true
    ·subst c9
     have H1 : (table_Check.j0 k ((l0_3.length : Int) != 12) a0_0 a0_1 a0_2 l0_3) = some r:=by rw [if_pos rfl] at H;exact H
     clear H
     have H:=H1
     clear H1
     have H':=Aside0.mk H
     clear H
     obtain ⟨hcz10_0,hcz10_1,hcz10_2,hcz10_3⟩:=blkc_4 BK112.out
     obtain ⟨hfz10_0,hfz10_1,hfz10_2,hfz10_3⟩:=blkz_4 BK112.out
     go_wp2_with (first | ((with_reducible refine gate_callee (f:=67) rfl ?_);refine goesL_ (some 8) rfl rfl Try.func67 (by kernel_rfl) rfl #[.int .i64 a0_0,.int .i64 1,.int .i64 2147483647] rfl (by (try simp only [List.map_toArray,List.map_cons,List.map_nil]);first | done | rfl | (simp only [List.length_drop,List.length_take];rfl)) ?_;(with_reducible refine (table_in.calls a0_0 1 2147483647 true _ A4.out).mono ?_);rintro e w' ⟨rfl,⟨nd,rfl⟩⟩;refine ⟨_,rfl,?_⟩) | (go_at_call 67;(with_reducible refine (table_in.calls a0_1 1 2147483647 true _ A6.out).mono ?_);rintro e w' ⟨rfl,⟨nd,rfl⟩⟩) | (go_at_call 67;(with_reducible refine (table_in.calls a0_2 0 2147483647 true _ A8.out).mono ?_);rintro e w' ⟨rfl,⟨nd,rfl⟩⟩))
     go_meet
     case rel => exact ⟨_,(((l0_3.length : Int) != 12)),(by first | rfl | (simp;done) | (simp [*];done)),H',⟨by first | omega | exact Nat.le_refl _⟩,⟨by (with_reducible repeat (first | refine blk_drewN ?_ _ | refine blk_drew ?_ | refine blk_alloc ?_ _));exact BK112.out⟩,⟨by repeat (first | (with_reducible first | exact HB.out | apply below_alloc | apply pw_below_drewN | apply below_drew1 | refine below_set ?_ GE112.out) | exact HB.out)⟩⟩
    ·replace c9:=Bool.eq_false_iff.mpr c9
     subst c9
     have H1 : (table_Check.j0 k true a0_0 a0_1 a0_2 l0_3) = some r:=by rw [if_neg (show ¬ (false = true) by decide)] at H;exact H
     clear H
     have H:=H1
     clear H1
     have H':=Aside0.mk H
     clear H
     obtain ⟨hcz11_0,hcz11_1,hcz11_2,hcz11_3⟩:=blkc_4 BK112.out
     obtain ⟨hfz11_0,hfz11_1,hfz11_2,hfz11_3⟩:=blkz_4 BK112.out
     go_wp2_with (first | ((with_reducible refine gate_callee (f:=67) rfl ?_);refine goesL_ (some 8) rfl rfl Try.func67 (by kernel_rfl) rfl #[.int .i64 a0_0,.int .i64 1,.int .i64 2147483647] rfl (by (try simp only [List.map_toArray,List.map_cons,List.map_nil]);first | done | rfl | (simp only [List.length_drop,List.length_take];rfl)) ?_;(with_reducible refine (table_in.calls a0_0 1 2147483647 true _ A4.out).mono ?_);rintro e w' ⟨rfl,⟨nd,rfl⟩⟩;refine ⟨_,rfl,?_⟩) | (go_at_call 67;(with_reducible refine (table_in.calls a0_1 1 2147483647 true _ A6.out).mono ?_);rintro e w' ⟨rfl,⟨nd,rfl⟩⟩) | (go_at_call 67;(with_reducible refine (table_in.calls a0_2 0 2147483647 false _ A8.out).mono ?_);rintro e w' ⟨rfl,⟨nd,rfl⟩⟩))
     go_meet
     case rel => exact ⟨_,(true),(by first | rfl | (simp;done) | (simp [*];done)),H',⟨by first | omega | exact Nat.le_refl _⟩,⟨by (with_reducible repeat (first | refine blk_drewN ?_ _ | refine blk_drew ?_ | refine blk_alloc ?_ _));exact BK112.out⟩,⟨by repeat (first | (with_reducible first | exact HB.out | apply below_alloc | apply pw_below_drewN | apply below_drew1 | refine below_set ?_ GE112.out) | exact HB.out)⟩⟩
   ·replace c7:=Bool.eq_false_iff.mpr c7
    subst c7
    have H1 : (table_Check.j0 k true a0_0 a0_1 a0_2 l0_3) = some r:=by rw [if_neg (show ¬ (false = true) by decide)] at H;exact H
    clear H
    have H:=H1
    clear H1
    have H':=Aside0.mk H
    clear H
    obtain ⟨hcz12_0,hcz12_1,hcz12_2,hcz12_3⟩:=blkc_4 BK112.out
    obtain ⟨hfz12_0,hfz12_1,hfz12_2,hfz12_3⟩:=blkz_4 BK112.out
    go_wp2_with (first | ((with_reducible refine gate_callee (f:=67) rfl ?_);refine goesL_ (some 8) rfl rfl Try.func67 (by kernel_rfl) rfl #[.int .i64 a0_0,.int .i64 1,.int .i64 2147483647] rfl (by (try simp only [List.map_toArray,List.map_cons,List.map_nil]);first | done | rfl | (simp only [List.length_drop,List.length_take];rfl)) ?_;(with_reducible refine (table_in.calls a0_0 1 2147483647 true _ A4.out).mono ?_);rintro e w' ⟨rfl,⟨nd,rfl⟩⟩;refine ⟨_,rfl,?_⟩) | (go_at_call 67;(with_reducible refine (table_in.calls a0_1 1 2147483647 false _ A6.out).mono ?_);rintro e w' ⟨rfl,⟨nd,rfl⟩⟩))
    go_meet
    case rel => exact ⟨_,(true),(by first | rfl | (simp;done) | (simp [*];done)),H',⟨by first | omega | exact Nat.le_refl _⟩,⟨by (with_reducible repeat (first | refine blk_drewN ?_ _ | refine blk_drew ?_ | refine blk_alloc ?_ _));exact BK112.out⟩,⟨by repeat (first | (with_reducible first | exact HB.out | apply below_alloc | apply pw_below_drewN | apply below_drew1 | refine below_set ?_ GE112.out) | exact HB.out)⟩⟩
  ·replace c5:=Bool.eq_false_iff.mpr c5
   subst c5
   have H1 : (table_Check.j0 k true a0_0 a0_1 a0_2 l0_3) = some r:=by rw [if_neg (show ¬ (false = true) by decide)] at H;exact H
   clear H
   have H:=H1
   clear H1
   have H':=Aside0.mk H
   clear H
   obtain ⟨hcz13_0,hcz13_1,hcz13_2,hcz13_3⟩:=blkc_4 BK112.out
   obtain ⟨hfz13_0,hfz13_1,hfz13_2,hfz13_3⟩:=blkz_4 BK112.out
   go_wp2_with (first | ((with_reducible refine gate_callee (f:=67) rfl ?_);refine goesL_ (some 8) rfl rfl Try.func67 (by kernel_rfl) rfl #[.int .i64 a0_0,.int .i64 1,.int .i64 2147483647] rfl (by (try simp only [List.map_toArray,List.map_cons,List.map_nil]);first | done | rfl | (simp only [List.length_drop,List.length_take];rfl)) ?_;(with_reducible refine (table_in.calls a0_0 1 2147483647 false _ A4.out).mono ?_);rintro e w' ⟨rfl,⟨nd,rfl⟩⟩;refine ⟨_,rfl,?_⟩))
   go_meet
   case rel => exact ⟨_,(true),(by first | rfl | (simp;done) | (simp [*];done)),H',⟨by first | omega | exact Nat.le_refl _⟩,⟨by (with_reducible repeat (first | refine blk_drewN ?_ _ | refine blk_drew ?_ | refine blk_alloc ?_ _));exact BK112.out⟩,⟨by repeat (first | (with_reducible first | exact HB.out | apply below_alloc | apply pw_below_drewN | apply below_drew1 | refine below_set ?_ GE112.out) | exact HB.out)⟩⟩
 case rest =>
  clear HC2
  try clear p2
  try clear c5
  try clear c6
  try clear c7
  try clear c9
  try clear hcz10_0
  try clear hcz10_1
  try clear hcz10_2
  try clear hcz10_3
  try clear hcz11_0
  try clear hcz11_1
  try clear hcz11_2
  try clear hcz11_3
  try clear hcz12_0
  try clear hcz12_1
  try clear hcz12_2
  try clear hcz12_3
  try clear hcz13_0
  try clear hcz13_1
  try clear hcz13_2
  try clear hcz13_3
  try clear hfz10_0
  try clear hfz10_1
  try clear hfz10_2
  try clear hfz10_3
  try clear hfz11_0
  try clear hfz11_1
  try clear hfz11_2
  try clear hfz11_3
  try clear hfz12_0
  try clear hfz12_1
  try clear hfz12_2
  try clear hfz12_3
  try clear hfz13_0
  try clear hfz13_1
  try clear hfz13_2
  try clear hfz13_3
  obtain ⟨kq,x27_1,rfl,HA,HJ1,BK112,HB⟩:=hcut
  cases kq with
  | zero => exact absurd HA.out (by simp [table_Check.j0])
  | succ kj1 =>
   have H:=HA.out
   clear HA
   simp only [table_Check.j0] at H
   by_cases c14 : x27_1 = true
   ·subst c14
    have H1 : (table_Check.j1 kj1 1) = some r:=by rw [if_pos rfl] at H;exact H
    clear H
    have H:=H1
    clear H1
    have HC15:=Aside0.mk H
    clear H
    go_upto_region 2 with (fail)
    go_cut [2] (fun v2 wc => ∃ (kq : Nat) (x2_14 : Int),v2 = .int .i64 x2_14 ∧ Aside0 (table_Check.j1 kq x2_14 = some r) ∧ Aside0 (kq ≤ kj1) ∧ Aside0 (wc.heap[gb112]? = some (.cells #[.int .i64 a0_0,.int .i64 a0_1,.int .i64 a0_2,(.slice A0_3 l0_3.length c0_3)] 69 (0,0))) ∧ Aside0 (Below w.heap.size w wc))
    case first =>
     have H:=HC15.out
     clear HC15
     have H':=Aside0.mk H
     clear H
     go_wp2
     go_meet
     case rel => exact ⟨_,(1),(by first | rfl | (simp;done) | (simp [*];done)),H',⟨by have:=HJ1.out;first | omega | exact Nat.le_refl _⟩,⟨by (with_reducible repeat (first | refine blk_drewN ?_ _ | refine blk_drew ?_ | refine blk_alloc ?_ _));exact BK112.out⟩,⟨by repeat (first | (with_reducible first | exact HB.out | apply below_alloc | apply pw_below_drewN | apply below_drew1 | refine below_set ?_ GE112.out) | exact HB.out)⟩⟩
    case rest =>
     clear HC15
     try clear c1
     try clear p2
     try clear c5
     try clear c6
     try clear c7
     try clear c9
     try clear c14
     try clear hcz10_0
     try clear hcz10_1
     try clear hcz10_2
     try clear hcz10_3
     try clear hcz11_0
     try clear hcz11_1
     try clear hcz11_2
     try clear hcz11_3
     try clear hcz12_0
     try clear hcz12_1
     try clear hcz12_2
     try clear hcz12_3
     try clear hcz13_0
     try clear hcz13_1
     try clear hcz13_2
     try clear hcz13_3
     try clear hfz10_0
     try clear hfz10_1
     try clear hfz10_2
     try clear hfz10_3
     try clear hfz11_0
     try clear hfz11_1
     try clear hfz11_2
     try clear hfz11_3
     try clear hfz12_0
     try clear hfz12_1
     try clear hfz12_2
     try clear hfz12_3
     try clear hfz13_0
     try clear hfz13_1
     try clear hfz13_2
     try clear hfz13_3
     try clear p2
     obtain ⟨kq,x2_14,rfl,HA,HJ14,BK112,HB⟩:=hcut
     cases kq with
     | zero => exact absurd HA.out (by simp [table_Check.j1])
     | succ kj14 =>
      have H:=HA.out
      clear HA
      simp only [table_Check.j1] at H
      obtain rfl:=Option.some.inj H
      go_wp2
      go_ret
      exact ⟨by first | rfl | (simp [errW_none,errW_some] <;> rfl) | (simp [*,errW_none,errW_some] <;> rfl),by repeat (first | (with_reducible first | exact HB.out | apply below_alloc | apply pw_below_drewN | apply below_drew1 | refine below_set ?_ GE112.out) | exact HB.out)⟩
   ·replace c14:=Bool.eq_false_iff.mpr c14
    subst c14
    have H1 : (table_Check.l0 kj1 l0_3 (l0_3.length : Int) 0 a0_0 a0_1 a0_2 l0_3) = some r:=by rw [if_neg (show ¬ (false = true) by decide)] at H;exact H
    clear H
    have H:=H1
    clear H1
    have H':=Aside0.mk H
    clear H
    obtain ⟨hcz16_0,hcz16_1,hcz16_2,hcz16_3⟩:=blkc_4 BK112.out
    obtain ⟨hfz16_0,hfz16_1,hfz16_2,hfz16_3⟩:=blkz_4 BK112.out
    go_wp2
    go_loopg [31] kj1 (fun kq v31 w' => ∃ (x31_2 : Int),v31 = .int .i64 x31_2 ∧ Aside0 (table_Check.l0 kq l0_3 (l0_3.length : Int) x31_2 a0_0 a0_1 a0_2 l0_3 = some r) ∧ Aside0 (kq ≤ kj1) ∧ Aside0 (w'.heap[gb112]? = some (.cells #[.int .i64 a0_0,.int .i64 a0_1,.int .i64 a0_2,(.slice A0_3 l0_3.length c0_3)] 69 (0,0))) ∧ Aside0 (Below w.heap.size w w'))
    case atStart => exact ⟨(0),(by first | rfl | (simp;done) | (simp [*];done)),H',⟨Nat.le_refl _⟩,⟨by (with_reducible repeat (first | refine blk_drewN ?_ _ | refine blk_drew ?_ | refine blk_alloc ?_ _));exact BK112.out⟩,⟨by repeat (first | (with_reducible first | exact HB.out | apply below_alloc | apply pw_below_drewN | apply below_drew1 | refine below_set ?_ GE112.out) | exact HB.out)⟩⟩
    case round =>
     clear H'
     try clear c1
     try clear p2
     try clear c5
     try clear c6
     try clear c7
     try clear c9
     try clear c14
     try clear hcz10_0
     try clear hcz10_1
     try clear hcz10_2
     try clear hcz10_3
     try clear hcz11_0
     try clear hcz11_1
     try clear hcz11_2
     try clear hcz11_3
     try clear hcz12_0
     try clear hcz12_1
     try clear hcz12_2
     try clear hcz12_3
     try clear hcz13_0
     try clear hcz13_1
     try clear hcz13_2
     try clear hcz13_3
     try clear hcz16_0
     try clear hcz16_1
     try clear hcz16_2
     try clear hcz16_3
     try clear hfz10_0
     try clear hfz10_1
     try clear hfz10_2
     try clear hfz10_3
     try clear hfz11_0
     try clear hfz11_1
     try clear hfz11_2
     try clear hfz11_3
     try clear hfz12_0
     try clear hfz12_1
     try clear hfz12_2
     try clear hfz12_3
     try clear hfz13_0
     try clear hfz13_1
     try clear hfz13_2
     try clear hfz13_3
     try clear hfz16_0
     try clear hfz16_1
     try clear hfz16_2
     try clear hfz16_3
     try clear p2
     obtain ⟨x31_2,rfl,HA,HK2,BK112,HB⟩:=hrel
     cases gk with
     | zero => exact absurd HA.out (by simp [table_Check.l0])
     | succ k2 =>
      have H:=HA.out
      clear HA
      simp only [table_Check.l0] at H
      by_cases c17 : x31_2 < (l0_3.length : Int)
      ·rw [if_pos c17] at H
       have c17b0 : decide (x31_2 < (l0_3.length : Int)) = true:=decide_eq_true c17
       clear c17
       by_cases c18 : 0 ≤ x31_2
       ·rw [if_pos c18] at H
        have c18b0 : decide (0 ≤ x31_2) = true:=decide_eq_true c18
        clear c18
        by_cases c19 : x31_2 < (l0_3.length : Int)
        ·rw [if_pos c19] at H
         have c19b0 : decide (x31_2 < (l0_3.length : Int)) = true:=decide_eq_true c19
         clear c19
         have c20b0:=eq_true (of_decide_eq_true (by first | (with_reducible assumption) | assumption) : 0 ≤ x31_2)
         by_cases c21 : x31_2 ≤ (l0_3.length : Int)
         ·rw [if_pos c21] at H
          have c21b0:=eq_true c21
          have c21b1 : decide (x31_2 ≤ (l0_3.length : Int)) = true:=decide_eq_true c21
          clear c21
          obtain ⟨y118,hy118⟩ : ∃ y_ : List (S112),y_ = (l0_3.take (x31_2 : Int).toNat):=⟨_,rfl⟩
          replace H : ((containsFunc_table_Check_1.f y118 ((rd_T112 l0_3 x31_2).f0) ((rd_T112 l0_3 x31_2).f1) ((rd_T112 l0_3 x31_2).f2) ((rd_T112 l0_3 x31_2).f3)).bind fun t122 => (if t122 = true then (table_Check.j3 k2 l0_3 (l0_3.length : Int) x31_2 true a0_0 a0_1 a0_2 l0_3) else ((table_entry.f k2 a0_0 a0_1 a0_2 l0_3 ((rd_T112 l0_3 x31_2).f0) ((rd_T112 l0_3 x31_2).f1) ((rd_T112 l0_3 x31_2).f2) ((rd_T112 l0_3 x31_2).f3)).bind fun t123 => (table_Check.j3 k2 l0_3 (l0_3.length : Int) x31_2 (!t123) a0_0 a0_1 a0_2 l0_3)))) = some r:=by first | (rw [hy118];with_reducible exact H) | (have H2_:=(Option.bind_some _ _).symm.trans H;rw [hy118];with_reducible exact H2_) | (have H2_:=(Option.bind_some _ _).symm.trans H;with_reducible exact H2_) | with_reducible exact H | (rw [hy118];exact H) | exact H
          have Ny118:=Aside0.mk hy118
          clear hy118
          replace H:=Option.bind_eq_some_iff.mp H
          obtain ⟨t122,A220,H⟩:=H
          replace H : (if t122 = true then (table_Check.j3 k2 l0_3 (l0_3.length : Int) x31_2 true a0_0 a0_1 a0_2 l0_3) else ((table_entry.f k2 a0_0 a0_1 a0_2 l0_3 ((rd_T112 l0_3 x31_2).f0) ((rd_T112 l0_3 x31_2).f1) ((rd_T112 l0_3 x31_2).f2) ((rd_T112 l0_3 x31_2).f3)).bind fun t123 => (table_Check.j3 k2 l0_3 (l0_3.length : Int) x31_2 (!t123) a0_0 a0_1 a0_2 l0_3))) = some r:=H
          have A22:=Aside0.mk A220
          clear A220
          have HC23:=Aside0.mk H
          clear H
          have p116 : 0 ≤ (x31_2 : Int):=of_decide_eq_true (by first | (with_reducible assumption) | assumption)
          have q116 : x31_2 < (l0_3.length : Int):=of_decide_eq_true (by first | (with_reducible assumption) | assumption)
          obtain ⟨ad116,e116,hx116_0,hx116_1,hx116_2,hx116_3⟩:=at_T112 HR0_3.out x31_2 p116 q116
          cases e116
          replace hx116_0:=(HB.out.cell (World.block_lt_of_cell? w _ hx116_0)).trans hx116_0
          replace hx116_1:=(HB.out.cell (World.block_lt_of_cell? w _ hx116_1)).trans hx116_1
          replace hx116_2:=(HB.out.cell (World.block_lt_of_cell? w _ hx116_2)).trans hx116_2
          replace hx116_3:=(HB.out.cell (World.block_lt_of_cell? w _ hx116_3)).trans hx116_3
          replace p116:=eq_true p116
          replace q116:=eq_true q116
          go_upto_region 7 with (first | ((with_reducible refine gate_dst (N:=4) rfl ?_);(try (refine gate_guard (by rfl) ?_;dsimp only));refine box_event ?hg (N:=4) ?hd (cs:=#[.int .i64 0,.int .i64 0,.int .i64 0,.int .i64 0]) (t:=112) ?hr ?_;(case hd => rfl);(case hg => rfl);(case hr => first | (go_simp;done) | (go_simp;rfl));intro gb117 hg w24 hbox hb;have n0_:=Aside0.mk (blk_below (g:=gb112) (o:=.cells #[.int .i64 a0_0,.int .i64 a0_1,.int .i64 a0_2,.slice (some ad116) l0_3.length c0_3] 69 (0,0)) (by (with_reducible repeat (first | refine blk_drewN ?_ _ | refine blk_drew ?_ | refine blk_alloc ?_ _));exact BK112.out) hb);have n1_:=Aside0.mk (below_step (by repeat (first | (with_reducible first | exact HB.out | apply below_alloc | apply pw_below_drewN | apply below_drew1 | refine below_set ?_ GE112.out) | exact HB.out)) hb);have n2_:=Aside0.mk (hbox);have n3_:=Aside0.mk ((by rw [hg];exact (below_size (by repeat (first | (with_reducible first | exact HB.out | apply below_alloc | apply pw_below_drewN | apply below_drew1 | refine below_set ?_ GE112.out) | exact HB.out))) : w.heap.size ≤ gb117));have n4_:=Aside0.mk ((by rw [hg];exact (below_size (by repeat (first | (with_reducible first | exact HB.out | apply below_alloc | apply pw_below_drewN | apply below_drew1 | refine below_set ?_ GE112.out) | exact HB.out))) : w.heap.size ≤ gb117));have n5_:=Aside0.mk ((by rw [hg];exact Nat.ne_of_lt (blk_lt (g:=gb112) (o:=.cells #[.int .i64 a0_0,.int .i64 a0_1,.int .i64 a0_2,.slice (some ad116) l0_3.length c0_3] 69 (0,0)) (by (with_reducible repeat (first | refine blk_drewN ?_ _ | refine blk_drew ?_ | refine blk_alloc ?_ _));exact BK112.out)) : gb112 ≠ gb117));have n6_:=Aside0.mk ((by rw [hg];exact Nat.ne_of_gt (blk_lt (g:=gb112) (o:=.cells #[.int .i64 a0_0,.int .i64 a0_1,.int .i64 a0_2,.slice (some ad116) l0_3.length c0_3] 69 (0,0)) (by (with_reducible repeat (first | refine blk_drewN ?_ _ | refine blk_drew ?_ | refine blk_alloc ?_ _));exact BK112.out)) : gb117 ≠ gb112));clear BK112;clear HB;have BK112:=n0_;have HB:=n1_;have BK117:=n2_;have GW117:=n3_;have GE117:=n4_;have NB112_117:=n5_;have NB117_112:=n6_;clear n0_ n1_ n2_ n3_ n4_ n5_ n6_;clear hb hbox hg;have hnb25:=NB117_112.out;have hnc25:=NB112_117.out;obtain ⟨hcz26_0,hcz26_1,hcz26_2,hcz26_3⟩:=blkc_4 BK117.out;obtain ⟨hfz26_0,hfz26_1,hfz26_2⟩:=blkz_3 BK117.out;have hfz26_3:=blk_frozen BK117.out 3) | ((with_reducible refine gate_store (t:=112) (p:=4) rfl ?_);refine store_event (t:=112) (p:=4) (v:=?vo_w27) (w1:=((((w24.setCell ⟨gb117,0,none⟩ (.int .i64 ((rd_T112 l0_3 x31_2).f0))).setCell ⟨gb117,1,none⟩ (.int .i64 ((rd_T112 l0_3 x31_2).f1))).setCell ⟨gb117,2,none⟩ (.int .i64 ((rd_T112 l0_3 x31_2).f2))).setCell ⟨gb117,3,none⟩ (.int .i64 ((rd_T112 l0_3 x31_2).f3)))) ?hg ?ho ?hn ?hr ?_;(case ho => rfl);(case hg => rfl);(case hn => rfl);(case hr => first | (go_simp;done) | (go_simp;rfl));intro w27 hw;have n0_ : Aside0 (w27.heap[gb112]? = some (.cells #[.int .i64 a0_0,.int .i64 a0_1,.int .i64 a0_2,.slice (some ad116) l0_3.length c0_3] 69 (0,0))):=⟨(by rw [hw];exact (by (with_reducible repeat (first | refine blk_drewN ?_ _ | refine blk_drew ?_ | refine blk_alloc ?_ _));refine blk_far ?_ NB112_117.out _;(with_reducible repeat (first | refine blk_drewN ?_ _ | refine blk_drew ?_ | refine blk_alloc ?_ _));refine blk_far ?_ NB112_117.out _;(with_reducible repeat (first | refine blk_drewN ?_ _ | refine blk_drew ?_ | refine blk_alloc ?_ _));refine blk_far ?_ NB112_117.out _;(with_reducible repeat (first | refine blk_drewN ?_ _ | refine blk_drew ?_ | refine blk_alloc ?_ _));refine blk_far ?_ NB112_117.out _;(with_reducible repeat (first | refine blk_drewN ?_ _ | refine blk_drew ?_ | refine blk_alloc ?_ _));exact BK112.out))⟩;have n1_ : Aside0 (w27.heap[gb117]? = some (.cells #[.int .i64 ((rd_T112 l0_3 x31_2).f0),.int .i64 ((rd_T112 l0_3 x31_2).f1),.int .i64 ((rd_T112 l0_3 x31_2).f2),.int .i64 ((rd_T112 l0_3 x31_2).f3)] 112 (0,0))):=⟨(by rw [hw];exact (by (with_reducible repeat (first | refine blk_drewN ?_ _ | refine blk_drew ?_ | refine blk_alloc ?_ _));apply blkf_4_0_3;(with_reducible repeat (first | refine blk_drewN ?_ _ | refine blk_drew ?_ | refine blk_alloc ?_ _));exact BK117.out))⟩;have n2_ : Aside0 (Below w.heap.size w w27):=⟨(by rw [hw];exact (by repeat (first | (with_reducible first | exact HB.out | apply below_alloc | apply pw_below_drewN | apply below_drew1 | refine below_set ?_ GE112.out | refine below_set ?_ GE117.out) | exact HB.out)))⟩;clear hw;clear BK112;clear BK117;clear HB;have BK112:=n0_;have BK117:=n1_;have HB:=n2_;clear n0_ n1_ n2_;obtain ⟨hcz28_0,hcz28_1,hcz28_2,hcz28_3⟩:=blkc_4 BK112.out;obtain ⟨hfz28_0,hfz28_1,hfz28_2,hfz28_3⟩:=blkz_4 BK112.out;have q29 : (x31_2 : Int) ≤ ((l0_3.length : Int) : Int):=of_decide_eq_true (by first | (with_reducible assumption) | assumption);obtain ⟨i029,hi029,_,hsz29,_⟩:=info_parts info112;have hroom29 : l0_3.length ≤ c0_3:=HC0_3.out;have hC29 : Kd.C k112 _ (some ad116) l0_3.length l0_3:=HR0_3.out;have hcut29:=cut_to (P:=Try.prog) 67 112 .i64 Try.underlying67 hi029 (some ad116) l0_3.length c0_3 x31_2 (of_decide_eq_true (by first | (with_reducible assumption) | assumption)) q29 hroom29;have hr29:=Kd.C_take (m:=(x31_2 : Int).toNat) hC29 (by omega);have hy29 : y118.length = (x31_2 : Int).toNat:=(by rw [Ny118.out,List.length_take];omega);rw [← Ny118.out] at hr29;rw [← hy29] at hcut29;have HR121:=Aside0.mk hr29;have HC121:=Aside0.mk (show y118.length ≤ c0_3 from by omega);clear hr29 hC29 hroom29 hi029 hsz29;have KY29:=Aside0.mk hy29;clear hy29;replace q29:=eq_true q29) | ((with_reducible refine gate_callee (f:=83) rfl ?_);refine goesL_ (some 41) rfl rfl Try.func83 (by kernel_rfl) rfl #[.slice (some ad116) y118.length c0_3, .func (.func 84) #[] #[.pointer (some ⟨_,0,none⟩)]] rfl (by (try simp only [List.map_toArray,List.map_cons,List.map_nil]);first | done | rfl | (simp only [List.length_drop,List.length_take];rfl)) ?_;(with_reducible refine (containsFunc_table_Check_1.calls _ _ y118 ((rd_T112 l0_3 x31_2).f0) ((rd_T112 l0_3 x31_2).f1) ((rd_T112 l0_3 x31_2).f2) ((rd_T112 l0_3 x31_2).f3) t122 _ ?side1 ?side2 ?side3 A22.out).mono ?_);(case side1 => repeat (first | exact (Kd.C_below HR121.out HB.out) | (with_reducible refine Kd.C_alloc ?_ _) | (with_reducible refine Kd.C_drewN ?_ _) | (with_reducible refine Kd.C_drew ?_)));(case side2 => exact HC121.out);(case side3 => exact (by (with_reducible repeat (first | refine blk_drewN ?_ _ | refine blk_drew ?_ | refine blk_alloc ?_ _));exact BK117.out));rintro e w30 ⟨rfl,hb⟩;refine ⟨_,rfl,?_⟩;have n0_:=Aside0.mk (blk_below (g:=gb112) (o:=.cells #[.int .i64 a0_0,.int .i64 a0_1,.int .i64 a0_2,.slice (some ad116) l0_3.length c0_3] 69 (0,0)) (by (with_reducible repeat (first | refine blk_drewN ?_ _ | refine blk_drew ?_ | refine blk_alloc ?_ _));exact BK112.out) hb);have n1_:=Aside0.mk (blk_below (g:=gb117) (o:=.cells #[.int .i64 ((rd_T112 l0_3 x31_2).f0),.int .i64 ((rd_T112 l0_3 x31_2).f1),.int .i64 ((rd_T112 l0_3 x31_2).f2),.int .i64 ((rd_T112 l0_3 x31_2).f3)] 112 (0,0)) (by (with_reducible repeat (first | refine blk_drewN ?_ _ | refine blk_drew ?_ | refine blk_alloc ?_ _));exact BK117.out) hb);have n2_:=Aside0.mk (below_step (by repeat (first | (with_reducible first | exact HB.out | apply below_alloc | apply pw_below_drewN | apply below_drew1 | refine below_set ?_ GE112.out | refine below_set ?_ GE117.out) | exact HB.out)) hb);clear BK112;clear BK117;clear HB;have BK112:=n0_;have BK117:=n1_;have HB:=n2_;clear n0_ n1_ n2_;(try clear hb);(try clear hb2);(try clear hk);(try clear hi)))
          (try simp only [Act.put,List.setIfInBounds_toArray,List.set_cons_zero,List.set_cons_succ])
          go_cut [48] (fun v48 wc => ∃ (kq : Nat) (x48_22 : Bool),v48 = .bool x48_22 ∧ Aside0 (table_Check.j3 kq l0_3 (l0_3.length : Int) x31_2 x48_22 a0_0 a0_1 a0_2 l0_3 = some r) ∧ Aside0 (kq ≤ k2) ∧ Aside0 (wc.heap[gb112]? = some (.cells #[.int .i64 a0_0,.int .i64 a0_1,.int .i64 a0_2,(.slice (some ad116) l0_3.length c0_3)] 69 (0,0))) ∧ Aside0 (wc.heap[gb117]? = some (.cells #[.int .i64 ((rd_T112 l0_3 x31_2).f0),.int .i64 ((rd_T112 l0_3 x31_2).f1),.int .i64 ((rd_T112 l0_3 x31_2).f2),.int .i64 ((rd_T112 l0_3 x31_2).f3)] 112 (0,0))) ∧ Aside0 (Below w.heap.size w wc))
          case first =>
           have H:=HC23.out
           clear HC23
           by_cases c31 : t122 = true
           ·subst c31
            have H1 : (table_Check.j3 k2 l0_3 (l0_3.length : Int) x31_2 true a0_0 a0_1 a0_2 l0_3) = some r:=by rw [if_pos rfl] at H;exact H
            clear H
            have H:=H1
            clear H1
            have H':=Aside0.mk H
            clear H
            go_wp2
            go_meet
            case rel => exact ⟨_,(true),(by first | rfl | (simp;done) | (simp [*];done)),H',⟨by have:=HJ1.out;have:=HK2.out;first | omega | exact Nat.le_refl _⟩,⟨by (with_reducible repeat (first | refine blk_drewN ?_ _ | refine blk_drew ?_ | refine blk_alloc ?_ _));exact BK112.out⟩,⟨by (with_reducible repeat (first | refine blk_drewN ?_ _ | refine blk_drew ?_ | refine blk_alloc ?_ _));exact BK117.out⟩,⟨by repeat (first | (with_reducible first | exact HB.out | apply below_alloc | apply pw_below_drewN | apply below_drew1 | refine below_set ?_ GE112.out | refine below_set ?_ GE117.out) | exact HB.out)⟩⟩
           ·replace c31:=Bool.eq_false_iff.mpr c31
            subst c31
            have H1 : ((table_entry.f k2 a0_0 a0_1 a0_2 l0_3 ((rd_T112 l0_3 x31_2).f0) ((rd_T112 l0_3 x31_2).f1) ((rd_T112 l0_3 x31_2).f2) ((rd_T112 l0_3 x31_2).f3)).bind fun t123 => (table_Check.j3 k2 l0_3 (l0_3.length : Int) x31_2 (!t123) a0_0 a0_1 a0_2 l0_3)) = some r:=by rw [if_neg (show ¬ (false = true) by decide)] at H;exact H
            clear H
            have H:=H1
            clear H1
            replace H:=Option.bind_eq_some_iff.mp H
            obtain ⟨t123,A320,H⟩:=H
            replace H : (table_Check.j3 k2 l0_3 (l0_3.length : Int) x31_2 (!t123) a0_0 a0_1 a0_2 l0_3) = some r:=H
            have A32:=Aside0.mk A320
            clear A320
            have H':=Aside0.mk H
            clear H
            have hnb33:=NB112_117.out
            have hnc33:=NB117_112.out
            obtain ⟨hcz34_0,hcz34_1,hcz34_2,hcz34_3⟩:=blkc_4 BK112.out
            obtain ⟨hfz34_0,hfz34_1,hfz34_2,hfz34_3⟩:=blkz_4 BK112.out
            obtain ⟨hcz35_0,hcz35_1,hcz35_2,hcz35_3⟩:=blkc_4 BK117.out
            obtain ⟨hfz35_0,hfz35_1,hfz35_2,hfz35_3⟩:=blkz_4 BK117.out
            go_wp2_with (first | (go_at_call 85;(with_reducible refine (table_entry.calls k2 a0_0 a0_1 a0_2 _ _ l0_3 ((rd_T112 l0_3 x31_2).f0) ((rd_T112 l0_3 x31_2).f1) ((rd_T112 l0_3 x31_2).f2) ((rd_T112 l0_3 x31_2).f3) t123 _ ?side1 ?side2 A32.out).mono ?_);(case side1 => repeat (first | exact (Kd.C_below HR0_3.out HB.out) | (with_reducible refine Kd.C_alloc ?_ _) | (with_reducible refine Kd.C_drewN ?_ _) | (with_reducible refine Kd.C_drew ?_)));(case side2 => exact HC0_3.out);rintro e w36 ⟨rfl,hb⟩;have n0_:=Aside0.mk (blk_below (g:=gb112) (o:=.cells #[.int .i64 a0_0,.int .i64 a0_1,.int .i64 a0_2,.slice (some ad116) l0_3.length c0_3] 69 (0,0)) (by (with_reducible repeat (first | refine blk_drewN ?_ _ | refine blk_drew ?_ | refine blk_alloc ?_ _));exact BK112.out) hb);have n1_:=Aside0.mk (blk_below (g:=gb117) (o:=.cells #[.int .i64 ((rd_T112 l0_3 x31_2).f0),.int .i64 ((rd_T112 l0_3 x31_2).f1),.int .i64 ((rd_T112 l0_3 x31_2).f2),.int .i64 ((rd_T112 l0_3 x31_2).f3)] 112 (0,0)) (by (with_reducible repeat (first | refine blk_drewN ?_ _ | refine blk_drew ?_ | refine blk_alloc ?_ _));exact BK117.out) hb);have n2_:=Aside0.mk (below_step (by repeat (first | (with_reducible first | exact HB.out | apply below_alloc | apply pw_below_drewN | apply below_drew1 | refine below_set ?_ GE112.out | refine below_set ?_ GE117.out) | exact HB.out)) hb);clear BK112;clear BK117;clear HB;have BK112:=n0_;have BK117:=n1_;have HB:=n2_;clear n0_ n1_ n2_;(try clear hb);(try clear hb2);(try clear hk);(try clear hi)))
            go_meet
            case rel => exact ⟨_,(!t123),(by first | rfl | (simp;done) | (simp [*];done)),H',⟨by have:=HJ1.out;have:=HK2.out;first | omega | exact Nat.le_refl _⟩,⟨by (with_reducible repeat (first | refine blk_drewN ?_ _ | refine blk_drew ?_ | refine blk_alloc ?_ _));exact BK112.out⟩,⟨by (with_reducible repeat (first | refine blk_drewN ?_ _ | refine blk_drew ?_ | refine blk_alloc ?_ _));exact BK117.out⟩,⟨by repeat (first | (with_reducible first | exact HB.out | apply below_alloc | apply pw_below_drewN | apply below_drew1 | refine below_set ?_ GE112.out | refine below_set ?_ GE117.out) | exact HB.out)⟩⟩
          case rest =>
           clear HC23
           try clear c1
           try clear p1
           try clear q1
           try clear hx1
           try clear c2
           try clear p2
           try clear q2
           try clear c3
           try clear c5
           try clear c6
           try clear c7
           try clear c9
           try clear c10
           try clear p11
           try clear q11
           try clear hx11
           try clear c14
           try clear c17
           try clear c17b0
           try clear c18
           try clear c18b0
           try clear c19
           try clear c19b0
           try clear c20
           try clear c20b0
           try clear c21
           try clear c21b0
           try clear c21b1
           try clear c25
           try clear q29
           try clear c31
           try clear c33
           try clear hcz10_0
           try clear hcz10_1
           try clear hcz10_2
           try clear hcz10_3
           try clear hcz11_0
           try clear hcz11_1
           try clear hcz11_2
           try clear hcz11_3
           try clear hcz12_0
           try clear hcz12_1
           try clear hcz12_2
           try clear hcz12_3
           try clear hcz13_0
           try clear hcz13_1
           try clear hcz13_2
           try clear hcz13_3
           try clear hcz16_0
           try clear hcz16_1
           try clear hcz16_2
           try clear hcz16_3
           try clear hcz26_0
           try clear hcz26_1
           try clear hcz26_2
           try clear hcz26_3
           try clear hcz28_0
           try clear hcz28_1
           try clear hcz28_2
           try clear hcz28_3
           try clear hcz34_0
           try clear hcz34_1
           try clear hcz34_2
           try clear hcz34_3
           try clear hcz35_0
           try clear hcz35_1
           try clear hcz35_2
           try clear hcz35_3
           try clear hfz10_0
           try clear hfz10_1
           try clear hfz10_2
           try clear hfz10_3
           try clear hfz11_0
           try clear hfz11_1
           try clear hfz11_2
           try clear hfz11_3
           try clear hfz12_0
           try clear hfz12_1
           try clear hfz12_2
           try clear hfz12_3
           try clear hfz13_0
           try clear hfz13_1
           try clear hfz13_2
           try clear hfz13_3
           try clear hfz16_0
           try clear hfz16_1
           try clear hfz16_2
           try clear hfz16_3
           try clear hfz26_0
           try clear hfz26_1
           try clear hfz26_2
           try clear hfz26_3
           try clear hfz28_0
           try clear hfz28_1
           try clear hfz28_2
           try clear hfz28_3
           try clear hfz34_0
           try clear hfz34_1
           try clear hfz34_2
           try clear hfz34_3
           try clear hfz35_0
           try clear hfz35_1
           try clear hfz35_2
           try clear hfz35_3
           try clear hx116_0
           try clear hx116_1
           try clear hx116_2
           try clear hx116_3
           try clear p116
           try clear p2
           try clear q116
           try clear q29
           obtain ⟨kq,x48_22,rfl,HA,HJ22,BK112,BK117,HB⟩:=hcut
           cases kq with
           | zero => exact absurd HA.out (by simp [table_Check.j3])
           | succ kj22 =>
            have H:=HA.out
            clear HA
            simp only [table_Check.j3] at H
            by_cases c37 : x48_22 = true
            ·subst c37
             have H1 : (table_Check.j4 kj22 1) = some r:=by rw [if_pos rfl] at H;exact H
             clear H
             have H:=H1
             clear H1
             have HC38:=Aside0.mk H
             clear H
             go_upto_region 8 with (fail)
             go_cut [2] (fun v2 wc => ∃ (kq : Nat) (x2_37 : Int),v2 = .int .i64 x2_37 ∧ Aside0 (table_Check.j4 kq x2_37 = some r) ∧ Aside0 (kq ≤ kj22) ∧ Aside0 (wc.heap[gb112]? = some (.cells #[.int .i64 a0_0,.int .i64 a0_1,.int .i64 a0_2,(.slice (some ad116) l0_3.length c0_3)] 69 (0,0))) ∧ Aside0 (wc.heap[gb117]? = some (.cells #[.int .i64 ((rd_T112 l0_3 x31_2).f0),.int .i64 ((rd_T112 l0_3 x31_2).f1),.int .i64 ((rd_T112 l0_3 x31_2).f2),.int .i64 ((rd_T112 l0_3 x31_2).f3)] 112 (0,0))) ∧ Aside0 (Below w.heap.size w wc))
             case first =>
              have H:=HC38.out
              clear HC38
              have H':=Aside0.mk H
              clear H
              go_wp2
              go_meet
              case rel => exact ⟨_,(1),(by first | rfl | (simp;done) | (simp [*];done)),H',⟨by have:=HJ1.out;have:=HK2.out;have:=HJ22.out;first | omega | exact Nat.le_refl _⟩,⟨by (with_reducible repeat (first | refine blk_drewN ?_ _ | refine blk_drew ?_ | refine blk_alloc ?_ _));exact BK112.out⟩,⟨by (with_reducible repeat (first | refine blk_drewN ?_ _ | refine blk_drew ?_ | refine blk_alloc ?_ _));exact BK117.out⟩,⟨by repeat (first | (with_reducible first | exact HB.out | apply below_alloc | apply pw_below_drewN | apply below_drew1 | refine below_set ?_ GE112.out | refine below_set ?_ GE117.out) | exact HB.out)⟩⟩
             case rest =>
              clear HC38
              try clear c1
              try clear p1
              try clear q1
              try clear hx1
              try clear c2
              try clear p2
              try clear q2
              try clear c3
              try clear c5
              try clear c6
              try clear c7
              try clear c9
              try clear c10
              try clear p11
              try clear q11
              try clear hx11
              try clear c14
              try clear c17
              try clear c17b0
              try clear c18
              try clear c18b0
              try clear c19
              try clear c19b0
              try clear c20
              try clear c20b0
              try clear c21
              try clear c21b0
              try clear c21b1
              try clear c25
              try clear q29
              try clear c31
              try clear c33
              try clear c37
              try clear hcz10_0
              try clear hcz10_1
              try clear hcz10_2
              try clear hcz10_3
              try clear hcz11_0
              try clear hcz11_1
              try clear hcz11_2
              try clear hcz11_3
              try clear hcz12_0
              try clear hcz12_1
              try clear hcz12_2
              try clear hcz12_3
              try clear hcz13_0
              try clear hcz13_1
              try clear hcz13_2
              try clear hcz13_3
              try clear hcz16_0
              try clear hcz16_1
              try clear hcz16_2
              try clear hcz16_3
              try clear hcz26_0
              try clear hcz26_1
              try clear hcz26_2
              try clear hcz26_3
              try clear hcz28_0
              try clear hcz28_1
              try clear hcz28_2
              try clear hcz28_3
              try clear hcz34_0
              try clear hcz34_1
              try clear hcz34_2
              try clear hcz34_3
              try clear hcz35_0
              try clear hcz35_1
              try clear hcz35_2
              try clear hcz35_3
              try clear hfz10_0
              try clear hfz10_1
              try clear hfz10_2
              try clear hfz10_3
              try clear hfz11_0
              try clear hfz11_1
              try clear hfz11_2
              try clear hfz11_3
              try clear hfz12_0
              try clear hfz12_1
              try clear hfz12_2
              try clear hfz12_3
              try clear hfz13_0
              try clear hfz13_1
              try clear hfz13_2
              try clear hfz13_3
              try clear hfz16_0
              try clear hfz16_1
              try clear hfz16_2
              try clear hfz16_3
              try clear hfz26_0
              try clear hfz26_1
              try clear hfz26_2
              try clear hfz26_3
              try clear hfz28_0
              try clear hfz28_1
              try clear hfz28_2
              try clear hfz28_3
              try clear hfz34_0
              try clear hfz34_1
              try clear hfz34_2
              try clear hfz34_3
              try clear hfz35_0
              try clear hfz35_1
              try clear hfz35_2
              try clear hfz35_3
              try clear hx116_0
              try clear hx116_1
              try clear hx116_2
              try clear hx116_3
              try clear p1
              try clear p11
              try clear p116
              try clear p2
              try clear q1
              try clear q11
              try clear q116
              try clear q2
              try clear q29
              obtain ⟨kq,x2_37,rfl,HA,HJ37,BK112,BK117,HB⟩:=hcut
              cases kq with
              | zero => exact absurd HA.out (by simp [table_Check.j4])
              | succ kj37 =>
               have H:=HA.out
               clear HA
               simp only [table_Check.j4] at H
               obtain rfl:=Option.some.inj H
               go_wp2
               go_ret
               exact ⟨by first | rfl | (simp [errW_none,errW_some] <;> rfl) | (simp [*,errW_none,errW_some] <;> rfl),by repeat (first | (with_reducible first | exact HB.out | apply below_alloc | apply pw_below_drewN | apply below_drew1 | refine below_set ?_ GE112.out | refine below_set ?_ GE117.out) | exact HB.out)⟩
            ·replace c37:=Bool.eq_false_iff.mpr c37
             subst c37
             have H1 : (table_Check.l0 kj22 l0_3 (l0_3.length : Int) (wrap64 (x31_2 + 1)) a0_0 a0_1 a0_2 l0_3) = some r:=by rw [if_neg (show ¬ (false = true) by decide)] at H;exact H
             clear H
             have H:=H1
             clear H1
             have H':=Aside0.mk H
             clear H
             go_wp2
             go_roundg kj22
             case measure => have:=HJ1.out;have:=HK2.out;have:=HJ22.out;omega
             case rel => exact ⟨(wrap64 (x31_2 + 1)),(by first | rfl | (simp;done) | (simp [*];done)),H',⟨by have:=HJ1.out;have:=HK2.out;have:=HJ22.out;omega⟩,⟨by (with_reducible repeat (first | refine blk_drewN ?_ _ | refine blk_drew ?_ | refine blk_alloc ?_ _));exact BK112.out⟩,⟨by repeat (first | (with_reducible first | exact HB.out | apply below_alloc | apply pw_below_drewN | apply below_drew1 | refine below_set ?_ GE112.out | refine below_set ?_ GE117.out) | exact HB.out)⟩⟩
         ·rw [if_neg c21] at H
          exact absurd H (by simp)
        ·rw [if_neg c19] at H
         exact absurd H (by simp)
       ·rw [if_neg c18] at H
        exact absurd H (by simp)
      ·rw [if_neg c17] at H
       have c17b0 : decide (x31_2 < (l0_3.length : Int)) = false:=decide_eq_false c17
       clear c17
       obtain rfl:=Option.some.inj H
       go_wp2
       go_ret
       exact ⟨by first | rfl | (simp [errW_none,errW_some] <;> rfl) | (simp [*,errW_none,errW_some] <;> rfl),by repeat (first | (with_reducible first | exact HB.out | apply below_alloc | apply pw_below_drewN | apply below_drew1 | refine below_set ?_ GE112.out) | exact HB.out)⟩
end Go.Proofs.Ytbmcbhpkefjhbaa.P
