/- Layer 26: orders of any pairs. -/
import Derived.Test.YtbmcbhpkefjhbaaDsgRef
set_option linter.unusedVariables false
set_option linter.unusedSimpArgs false
namespace Go.Proofs.Ytbmcbhpkefjhbaa.Dsg
open Go.RowKit Go.Proofs.Ytbmcbhpkefjhbaa.Mem Go.Proofs.YtbmcbhpkefjhbaaW.PrintWords Go.Proofs.YtbmcbhpkefjhbaaW.PrintLast Go.Proofs.YtbmcbhpkefjhbaaW.PrintMore
def res (n : Int) (l : List (Int × Int)) : List Int × Bool := if 0 ≤ n ∧ n ≤ 200 then (match ord n.toNat l with | none => ([], false) | some o => (o, true)) else ([], false)
theorem GotI.nil (w : World) : GotI w (.slice none 0 0) [] := ⟨none, 0, rfl, Nat.le_refl _, Kd.C_nil _ _⟩
def ResPost (n : Int) (l : List (Int × Int)) (w : World) (e : Ending) (w' : World) : Prop := ∃ v, e = .returned (.tuple #[v, .bool (res n l).2]) ∧ GotI w' v (res n l).1 ∧ (res n l).1.length ≤ 200 ∧ Below w.heap.size w w'
theorem ResPost.of {n : Nat} {l : List (Int × Int)} {w : World} {e : Ending} {w' : World} (hn : n ≤ 200) (h : OrdPost n l w e w') : ResPost (n : Int) l w e w' := by
  obtain ⟨v, b, rfl, h, hb⟩ := h
  have hr : res (n : Int) l = (match ord n l with | none => ([], false) | some o => (o, true)) := by
    unfold res
    rw [if_pos (by omega), Int.toNat_natCast]
  rcases h with ⟨h1, rfl, rfl⟩ | ⟨o, h1, rfl, h2, h3⟩
  · rw [h1] at hr
    refine ⟨.slice none 0 0, ?_, ?_, ?_, hb⟩
    · rw [hr]
    · rw [hr]; exact GotI.nil _
    · rw [hr]; exact Nat.zero_le _
  · rw [h1] at hr
    refine ⟨v, ?_, ?_, ?_, hb⟩
    · rw [hr]
    · rw [hr]; exact h3
    · rw [hr]; exact h2
theorem res_bad {n : Int} (l : List (Int × Int)) (h : n < 0 ∨ 200 < n) : res n l = ([], false) := by
  unfold res
  rw [if_neg (by omega)]
theorem Order_bad (A : Option Addr) (c k : Nat) (n : Int) (w : World) (h : n < 0 ∨ 200 < n) : Calls Try.prog 14 #[.int .i64 n, .slice A k c] w fun e w' => e = .returned (.tuple #[.slice none 0 0, .bool false]) ∧ w = w' := by
  have hc : decide (n < 0) = true ∨ (decide (n < 0) = false ∧ decide ((200 : Int) < n) = true) := by simp; omega
  clear h
  rcases hc with f1 | ⟨f1, f2⟩
  all_goals go_enter Try.func14, Try.ntmps14
  all_goals go_wp2
  all_goals go_ret2
  all_goals exact ⟨rfl, rfl⟩
theorem rOrder_bad (A : Option Addr) (c k : Nat) (n : Int) (w : World) (h : n < 0 ∨ 200 < n) : Calls Try.prog 15 #[.int .i64 n, .slice A k c] w fun e w' => e = .returned (.tuple #[.slice none 0 0, .bool false]) ∧ w = w' := by
  have hc : decide (n < 0) = true ∨ (decide (n < 0) = false ∧ decide ((200 : Int) < n) = true) := by simp; omega
  clear h
  rcases hc with f1 | ⟨f1, f2⟩
  all_goals go_enter Try.func15, Try.ntmps15
  all_goals go_wp2
  all_goals go_ret2
  all_goals exact ⟨rfl, rfl⟩
theorem Order_res (A : Option Addr) (c : Nat) (l : List (Int × Int)) (n : Int) (w : World) (hr : RdP w A l) (hl : l.length ≤ 200) : Calls Try.prog 14 #[.int .i64 n, .slice A l.length c] w fun e w' => ResPost n l w e w' := by
  by_cases h : n < 0 ∨ 200 < n
  · refine (Order_bad A c l.length n w h).mono ?_
    rintro e w' ⟨rfl, rfl⟩
    refine ⟨_, by rw [res_bad l h], by rw [res_bad l h]; exact GotI.nil _, by rw [res_bad l h]; exact Nat.zero_le _, Below.refl _ _⟩
  · obtain ⟨m, rfl⟩ : ∃ m : Nat, n = (m : Int) := ⟨n.toNat, by omega⟩
    exact (Order_any A c l m w hr hl (by omega)).mono (fun e w' h => ResPost.of (by omega) h)
theorem rOrder_res (A : Option Addr) (c : Nat) (l : List (Int × Int)) (n : Int) (w : World) (hr : RdP w A l) (hl : l.length ≤ 200) : Calls Try.prog 15 #[.int .i64 n, .slice A l.length c] w fun e w' => ResPost n l w e w' := by
  by_cases h : n < 0 ∨ 200 < n
  · refine (rOrder_bad A c l.length n w h).mono ?_
    rintro e w' ⟨rfl, rfl⟩
    refine ⟨_, by rw [res_bad l h], by rw [res_bad l h]; exact GotI.nil _, by rw [res_bad l h]; exact Nat.zero_le _, Below.refl _ _⟩
  · obtain ⟨m, rfl⟩ : ∃ m : Nat, n = (m : Int) := ⟨n.toNat, by omega⟩
    exact (rOrder_any A c l m w hr hl (by omega)).mono (fun e w' h => ResPost.of (by omega) h)
set_option maxRecDepth 100000 in
theorem awake_any (w : World) : Calls Try.prog 13 #[] w fun e w' => e = .returned (.bool true) ∧ Below w.heap.size w w' := by
  have hres : res 3 [(2, 0)] = ([1, 2, 0], true) := by decide +kernel
  have hrp : RdP (w.alloc (.cells #[.int .i64 2, .int .i64 0] 33)) (some ⟨w.heap.size, 0, none⟩) [(2, 0)] := by
    intro j p hj
    match j, hj with
    | 0, hj =>
      have hp : p = (2, 0) := by simpa using hj.symm
      subst hp
      refine ⟨_, rfl, ?_, ?_⟩
      · rw [Nat.zero_mul, Addr.add_zero']; exact World.cell?_alloc_new _ _ _ _
      · rw [Nat.zero_mul, Addr.add_zero']; exact World.cell?_alloc_new _ _ _ _
    | j + 1, hj => simp at hj
  have OR := Lib.hid (Order_res (some ⟨w.heap.size, 0, none⟩) 1 [(2, 0)] 3 _ hrp (by decide))
  have HBw := Lib.hid (below_alloc (Below.refl w.heap.size w) (.cells #[.int .i64 2, .int .i64 0] 33))
  clear hrp
  go_enter Try.func13, Try.ntmps13
  go_wp2_with fail
  refine OR.out.mono ?_
  rintro e w2 ⟨v, rfl, hg, _, hb⟩
  rw [hres] at hg ⊢
  obtain ⟨A2, c2, rfl, hc2, hr2⟩ := hg
  have HB2 := Lib.hid (below_step HBw.out hb)
  have HR2 := Lib.hid hr2
  clear hb hr2
  have HL : Hid (RdI (w2.alloc (.cells #[.int .i64 1, .int .i64 2, .int .i64 0] 3)) (some ⟨w2.heap.size, 0, none⟩) [1, 2, 0]) := Lib.hid (Kd.C_of_reads (d := (0 : Int)) (h1 := fun _ => rfl) ⟨rfl, by decide, fun _ => ⟨_, rfl, fun j hj => by
    match j, hj with
    | 0, _ => exact World.cell?_alloc_new _ _ _ _
    | 1, _ => exact World.cell?_alloc_new _ _ _ _
    | 2, _ => exact World.cell?_alloc_new _ _ _ _
    | j + 3, hj => exact absurd (show j + 3 < 3 from hj) (by omega)⟩⟩)
  go_wp2_with fail
  refine (Ints_any A2 c2 [1, 2, 0] (some ⟨w2.heap.size, 0, none⟩) 3 [1, 2, 0] _ (Kd.C_below HR2.out (below_alloc (Below.refl _ _) _)) HL.out (by decide) (by decide)).mono ?_
  rintro e w3 ⟨rfl, m, rfl⟩
  have HB4 := Lib.hid (pw_below_drewN (below_alloc HB2.out (.cells #[.int .i64 1, .int .i64 2, .int .i64 0] 3)) m)
  go_wp2
  go_ret
  exact ⟨rfl, HB4.out⟩
set_option maxRecDepth 100000 in
theorem DsgOrders_pairs (n : Int) (A : Option Addr) (c : Nat) (l : List (Int × Int)) (w : World) (hr : RdP w A l) : Calls Try.prog 3 #[.int .i64 n, .slice A l.length c] w fun e w' => e = .returned (.bool true) ∧ Below w.heap.size w w' := by
  have HB := Lib.hid (Below.refl w.heap.size w)
  have AW := fun w => Lib.hid (awake_any w)
  have hcs : (decide ((30 : Int) < n) = true ∧ decide (n ≤ 200) = true) ∨ ((decide ((30 : Int) < n) = false ∨ (decide ((30 : Int) < n) = true ∧ decide (n ≤ 200) = false)) ∧ decide (200 < l.length) = true) ∨ ((decide ((30 : Int) < n) = false ∨ (decide ((30 : Int) < n) = true ∧ decide (n ≤ 200) = false)) ∧ decide (200 < l.length) = false) := by
    simp; omega
  have hlg : decide ((200 : Int) < (l.length : Int)) = decide (200 < l.length) := by
    by_cases h : 200 < l.length
    · rw [decide_eq_true h, decide_eq_true (by omega)]
    · rw [decide_eq_false h, decide_eq_false (by omega)]
  rcases hcs with ⟨f1, f2⟩ | ⟨hf, f3⟩ | ⟨hf, f3⟩
  · clear hr hlg
    go_enter Try.func3, Try.ntmps3
    go_wp2_with (first | (go_at_call 13; refine ((AW _).out).mono ?_; rintro e w' ⟨rfl, hb⟩; have HB := Lib.hid (below_step (by repeat (first | (with_reducible first | exact HB.out | apply below_alloc | apply pw_below_drewN | apply below_drew1) | exact HB.out)) hb); clear hb))
    go_ret
    exact ⟨rfl, HB.out⟩
  · rcases hf with f1 | ⟨f1, f2⟩
    all_goals clear hr
    all_goals rw [f3] at hlg
    all_goals go_enter Try.func3, Try.ntmps3
    all_goals go_wp2_with (first | (go_at_call 13; refine ((AW _).out).mono ?_; rintro e w' ⟨rfl, hb⟩; have HB := Lib.hid (below_step (by repeat (first | (with_reducible first | exact HB.out | apply below_alloc | apply pw_below_drewN | apply below_drew1) | exact HB.out)) hb); clear hb))
    all_goals go_ret
    all_goals exact ⟨rfl, HB.out⟩
  · have hl : l.length ≤ 200 := by have := of_decide_eq_false f3; omega
    rw [f3] at hlg
    have O1 := Lib.hid (Order_res A c l n w hr hl)
    have O2 := Lib.hid (fun w' (h : Below w.heap.size w w') => rOrder_res A c l n w' (hr.below h) hl)
    clear hr hl
    generalize hxs : res n l = xs at *
    obtain ⟨o, bo⟩ := xs
    have O1' : Hid (Calls Try.prog 14 #[.int .i64 n, .slice A l.length c] w fun e w' => ∃ v, e = .returned (.tuple #[v, .bool bo]) ∧ GotI w' v o ∧ o.length ≤ 200 ∧ Below w.heap.size w w') := Lib.hid (O1.out.mono (fun e w' h => by unfold ResPost at h; rw [hxs] at h; exact h))
    have O2' : Hid (∀ w', Below w.heap.size w w' → Calls Try.prog 15 #[.int .i64 n, .slice A l.length c] w' fun e w2 => ∃ v, e = .returned (.tuple #[v, .bool bo]) ∧ GotI w2 v o ∧ o.length ≤ 200 ∧ Below w'.heap.size w' w2) := Lib.hid (fun w' hw => (O2.out w' hw).mono (fun e w' h => by unfold ResPost at h; rw [hxs] at h; exact h))
    clear O1 O2 hxs
    rcases hf with f1 | ⟨f1, f2⟩
    all_goals go_enter Try.func3, Try.ntmps3
    all_goals go_wp2_with fail
    all_goals refine O1'.out.mono ?_
    all_goals rintro e w1 ⟨v1, rfl, ⟨A1, c1, rfl, hc1, hr1⟩, ho, hb1⟩
    all_goals have HB1 := Lib.hid hb1
    all_goals have HR1 := Lib.hid hr1
    all_goals clear hb1 hr1 hc1
    all_goals go_wp2_with fail
    all_goals refine (O2'.out _ HB1.out).mono ?_
    all_goals rintro e w2 ⟨v2, rfl, ⟨A2, c2, rfl, hc2, hr2⟩, _, hb2⟩
    all_goals have HB2 := Lib.hid (below_step HB1.out hb2)
    all_goals have HR3 := Lib.hid (Kd.C_below HR1.out hb2)
    all_goals have HR2 := Lib.hid hr2
    all_goals clear hb2 hr2 hc2 HR1 HB1
    all_goals have IN := Lib.hid (Ints_any A1 c1 o A2 c2 o w2 HR3.out HR2.out (by omega) (by omega))
    all_goals have ht : (bo == bo) = true := by cases bo <;> rfl
    all_goals have hto : decide (o = o) = true := by simp
    all_goals rw [hto] at IN
    all_goals go_wp2_with fail
    all_goals refine IN.out.mono ?_
    all_goals rintro e w3 ⟨rfl, m, rfl⟩
    all_goals have HB := Lib.hid (pw_below_drewN HB2.out m)
    all_goals go_wp2_with (first | (go_at_call 13; refine ((AW _).out).mono ?_; rintro e w' ⟨rfl, hb⟩; have HB := Lib.hid (below_step (by repeat (first | (with_reducible first | exact HB.out | apply below_alloc | apply pw_below_drewN | apply below_drew1) | exact HB.out)) hb); clear hb))
    all_goals go_ret
    all_goals exact ⟨rfl, HB.out⟩
end Go.Proofs.Ytbmcbhpkefjhbaa.Dsg
