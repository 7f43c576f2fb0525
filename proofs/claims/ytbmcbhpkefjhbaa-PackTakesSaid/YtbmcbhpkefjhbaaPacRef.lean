/- Layer 3: the reference's May, big, One. -/
import Derived.Test.YtbmcbhpkefjhbaaPacChk
set_option linter.unusedVariables false
set_option linter.unusedSimpArgs false
namespace Go.Proofs.Ytbmcbhpkefjhbaa.Pac
open Go.RowKit Go.Proofs.Ytbmcbhpkefjhbaa Go.Proofs.Ytbmcbhpkefjhbaa.Mem Go.Proofs.YtbmcbhpkefjhbaaW.PrintWords Go.Proofs.YtbmcbhpkefjhbaaW.PrintLast Go.Proofs.YtbmcbhpkefjhbaaW.PrintMore
theorem may_1 (n : Int) (x : Nat) (s : ByteArray) : may ⟨1, n, x, s⟩ = (decide (0 ≤ n) && decide (n < 256) && ((x : Int) == 0) && s.toList.isEmpty) := by
  unfold may same lim
  rw [Bool.eq_iff_iff]
  simp
  constructor <;> intro h <;> simp only [h] <;> simp <;> omega
theorem may_2 (n : Int) (x : Nat) (s : ByteArray) : may ⟨2, n, x, s⟩ = (decide (0 ≤ n) && decide (n < 65536) && ((x : Int) == 0) && s.toList.isEmpty) := by
  unfold may same lim
  rw [Bool.eq_iff_iff]
  simp
  constructor <;> intro h <;> simp only [h] <;> simp <;> omega
theorem may_3 (n : Int) (x : Nat) (s : ByteArray) : may ⟨3, n, x, s⟩ = (decide (0 ≤ n) && decide (n < 2147483648) && ((x : Int) == 0) && s.toList.isEmpty) := by
  unfold may same lim
  rw [Bool.eq_iff_iff]
  simp
  constructor <;> intro h <;> simp only [h] <;> simp <;> omega
theorem may_4 (n : Int) (x : Nat) (s : ByteArray) : may ⟨4, n, x, s⟩ = (n == 0 && s.toList.isEmpty) := rfl
theorem may_5 (n : Int) (x : Nat) (s : ByteArray) : may ⟨5, n, x, s⟩ = (n == 0 && ((x : Int) == 0) && decide ((s.size : Int) < 256)) := by
  unfold may same
  rw [Bool.eq_iff_iff]
  simp
  constructor <;> intro h <;> simp only [h] <;> simp <;> omega
theorem may_0 {k : Int} (h : k < 1 ∨ 5 < k) (n : Int) (x : Nat) (s : ByteArray) : may ⟨k, n, x, s⟩ = false := by
  unfold may
  simp only
  rw [if_neg (by omega), if_neg (by omega), if_neg (by omega)]
theorem may_kind {a : It} (h : may a = true) : 1 ≤ a.k ∧ a.k ≤ 5 := by
  by_cases hk : a.k < 1 ∨ 5 < a.k
  · have := may_0 hk a.n a.x a.s
    rw [show (⟨a.k, a.n, a.x, a.s⟩ : It) = a from rfl, h] at this
    cases this
  · omega
set_option maxRecDepth 100000 in
set_option maxHeartbeats 1000000 in
theorem May_any (a : It) (w : World) : Calls Try.prog 30 #[a.v] w fun e w' => e = .returned (.bool (may a)) ∧ Below w.heap.size w w' := by
  obtain ⟨k, an, ax, sx⟩ := a
  have HB := Lib.hid (Below.refl w.heap.size w)
  have hk : k = 1 ∨ k = 2 ∨ k = 3 ∨ k = 4 ∨ k = 5 ∨ (k < 1 ∨ 5 < k) := by omega
  have hx : ∀ b : Bool, (b = true) ∨ (b = false) := by intro b; cases b <;> simp
  rcases hk with rfl | rfl | rfl | rfl | rfl | hk
  · rw [may_1]
    go_enter Try.func30, Try.ntmps30
    go_wp2_with (first | (go_at_call 55; refine (rSame_any _ _ _).mono ?_; rintro e w' ⟨rfl, rfl⟩))
    all_goals go_ret
    all_goals refine ⟨ret_bool ?_, (by repeat (first | (with_reducible first | exact HB.out | apply below_alloc | apply pw_below_drewN | apply below_drew1) | exact HB.out))⟩
    all_goals simp_all
    all_goals (intros; exfalso; omega)
  · rw [may_2]
    go_enter Try.func30, Try.ntmps30
    go_wp2_with (first | (go_at_call 55; refine (rSame_any _ _ _).mono ?_; rintro e w' ⟨rfl, rfl⟩))
    all_goals go_ret
    all_goals refine ⟨ret_bool ?_, (by repeat (first | (with_reducible first | exact HB.out | apply below_alloc | apply pw_below_drewN | apply below_drew1) | exact HB.out))⟩
    all_goals simp_all
    all_goals (intros; exfalso; omega)
  · rw [may_3]
    go_enter Try.func30, Try.ntmps30
    go_wp2_with (first | (go_at_call 55; refine (rSame_any _ _ _).mono ?_; rintro e w' ⟨rfl, rfl⟩))
    all_goals go_ret
    all_goals refine ⟨ret_bool ?_, (by repeat (first | (with_reducible first | exact HB.out | apply below_alloc | apply pw_below_drewN | apply below_drew1) | exact HB.out))⟩
    all_goals simp_all
    all_goals (intros; exfalso; omega)
  · rw [may_4]
    go_enter Try.func30, Try.ntmps30
    go_wp2_with (first | (go_at_call 55; refine (rSame_any _ _ _).mono ?_; rintro e w' ⟨rfl, rfl⟩))
    all_goals go_ret
    all_goals refine ⟨ret_bool ?_, (by repeat (first | (with_reducible first | exact HB.out | apply below_alloc | apply pw_below_drewN | apply below_drew1) | exact HB.out))⟩
    all_goals simp_all
  · rw [may_5]
    go_enter Try.func30, Try.ntmps30
    go_wp2_with (first | (go_at_call 55; refine (rSame_any _ _ _).mono ?_; rintro e w' ⟨rfl, rfl⟩))
    all_goals go_ret
    all_goals refine ⟨ret_bool ?_, (by repeat (first | (with_reducible first | exact HB.out | apply below_alloc | apply pw_below_drewN | apply below_drew1) | exact HB.out))⟩
    all_goals simp_all
  · rw [may_0 hk]
    have g1 : (k == 1) = false := by rw [beq_eq_false_iff_ne]; omega
    have g2 : (k == 2) = false := by rw [beq_eq_false_iff_ne]; omega
    have g3 : (k == 3) = false := by rw [beq_eq_false_iff_ne]; omega
    have g4 : (k == 4) = false := by rw [beq_eq_false_iff_ne]; omega
    have g5 : (k == 5) = false := by rw [beq_eq_false_iff_ne]; omega
    clear hk
    go_enter Try.func30, Try.ntmps30
    go_wp2_with (first | (go_at_call 55; refine (rSame_any _ _ _).mono ?_; rintro e w' ⟨rfl, rfl⟩))
    go_ret
    exact ⟨rfl, (by repeat (first | (with_reducible first | exact HB.out | apply below_alloc | apply pw_below_drewN | apply below_drew1) | exact HB.out))⟩
theorem rep_set (m : Nat) (z : Int) (bs : List Int) : (List.replicate (m + 1) (0 : Int) ++ bs).set m z = List.replicate m 0 ++ z :: bs := by
  induction m with
  | zero => rfl
  | succ m ih => rw [List.replicate_succ, List.cons_append, List.set_cons_succ, ih, List.replicate_succ, List.cons_append]
set_option maxRecDepth 100000 in
theorem big_any (u : Int) (n : Nat) (w : World) (h0 : 0 ≤ u) (h1 : u ≤ 18446744073709551615) (hn1 : 1 ≤ n) (hn : n ≤ 8) : Calls Try.prog 80 #[.int .u64 u, .int .i64 (n : Int)] w fun e w' => ∃ v, e = .returned v ∧ Kd.R (Kd.int .u8) 5 w' w.heap.size (fun _ => True) v (bigs u n) ∧ Below w.heap.size w w' := by
  have HB := Lib.hid (Below.refl w.heap.size w)
  have n0 : (0 : Int) ≤ (n : Int) := Int.natCast_nonneg _
  have n1 : (n : Int) ≤ 8 := by omega
  go_enter Try.func80, Try.ntmps80
  go_wp2_with (first | ((with_reducible refine gate_dst (N := 8) rfl ?_); refine Kd.R_make (Kd.int .u8) (w0 := w) w.heap.size 5 rfl rfl 52 (.tmp 7) (.tmp 7) rfl ((n : Int)) rfl rfl Try.underlying52 (.int .u8 0) 1 info8 rfl (by decide) (by decide) 0 (okp := fun _ => True) (ok := fun _ => True) ?aZ (fun _ h => h) trivial n0 ?aL (by repeat (first | (with_reducible first | exact HB.out | apply below_alloc | apply pw_below_drewN | apply below_drew1) | exact HB.out)) (below_size (by repeat (first | (with_reducible first | exact HB.out | apply below_alloc | apply pw_below_drewN | apply below_drew1) | exact HB.out))) ?_; (case aZ => rfl); (case aL => omega); intro v8 w8 ho hb hg hat; have HG8 := Lib.hid hg; have HAT8 := Lib.hid hat; clear hg hat; have HO8 := Lib.hid ho; have HB := Lib.hid hb; clear ho hb))
  go_loopg [0, 6] n (fun k v0 v6 wr => ∃ m : Nat, k + m = n ∧ v6 = .int .i64 ((n : Int) - (m : Int) - 1) ∧ v0 = .int .u64 (u / 2 ^ (8 * m)) ∧ Hid (Kd.R (Kd.int .u8) 5 wr w.heap.size (fun _ => True) v8 (List.replicate (n - m) 0 ++ bigs u m)) ∧ Hid (Below w.heap.size w wr))
  case atStart => exact ⟨0, rfl, by go_num, by simp, by simpa [bigs] using HO8, HB⟩
  case round =>
    clear HB HO8
    obtain ⟨m, hm, rfl, rfl, HO, HB⟩ := hrel
    have m0 : (0 : Int) ≤ (m : Int) := Int.natCast_nonneg _
    have HRF := HO.out
    by_cases hmn : m < n
    · obtain ⟨i, hi⟩ : ∃ i, n - m = i + 1 := ⟨n - m - 1, by omega⟩
      have hin : (n : Int) - (m : Int) - 1 = (i : Int) := by omega
      have hd : decide ((0 : Int) ≤ (n : Int) - (m : Int) - 1) = true := decide_eq_true (by omega)
      rw [hi] at HRF
      have hxl : (List.replicate (i + 1) (0 : Int) ++ bigs u m).length = n := by rw [List.length_append, List.length_replicate, bigs_length]; omega
      obtain ⟨g, cp, hv, hg1, hg2, _⟩ := Kd.R_form HRF (by omega)
      rw [hxl] at hv
      subst hv
      have how := Kd.own_of_R HRF
      rw [hxl] at how
      have hcf := own_at (xs := List.replicate (i + 1) (0 : Int) ++ bigs u m) (k := .u8) how (i : Int) (by omega) (by omega)
      obtain ⟨hcell, hfroz⟩ := hcf
      have HS := Lib.hid (fun x => own_store (xs := List.replicate (i + 1) (0 : Int) ++ bigs u m) (k := .u8) how (i : Int) x)
      rw [Int.toNat_natCast] at hcell hfroz
      have hq0 : 0 ≤ u / 2 ^ (8 * m) := Int.ediv_nonneg h0 (by exact Int.le_of_lt (Int.pow_pos (by decide)))
      have hq1 : u / 2 ^ (8 * m) ≤ 18446744073709551615 := Int.le_trans (Int.ediv_le_self _ h0) h1
      have hnx : Hid (u / 2 ^ (8 * m) / 256 = u / 2 ^ (8 * (m + 1))) := Lib.hid (by
        rw [Int.ediv_ediv_of_nonneg (Int.le_of_lt (Int.pow_pos (by decide))), show (8 * (m + 1)) = 8 * m + 8 by omega, Int.pow_add]; rfl)
      have hbg : Hid (bigs u (m + 1) = (u / 2 ^ (8 * m) % 256) :: bigs u m) := Lib.hid rfl
      have i1 : (i : Int) < (n : Int) := by omega
      have i0 : (0 : Int) ≤ (i : Int) := Int.natCast_nonneg _
      rw [hin] at hd ⊢
      have hin := Lib.hid hin
      have hxl := Lib.hid hxl
      have hi := Lib.hid hi
      clear how HRF HO
      generalize rd (List.replicate (i + 1) (0 : Int) ++ bigs u m) (i : Int) = old at *
      generalize u / 2 ^ (8 * m) = q at *
      go_wp2
      go_roundg (n - (m + 1))
      case measure => omega
      case rel =>
        refine ⟨m + 1, by omega, by go_num, by rw [← hnx.out], Lib.hid ?_, Lib.hid (HB.out.setCell hg1 _)⟩
        refine Kd.R_of_own (enc := Value.int .u8) (h1 := fun _ => rfl) ?_ (fun _ _ => trivial)
        have h := (HS.out (q % 256)).1
        rw [Int.toNat_natCast, rep_set] at h
        rw [hbg.out, show n - (m + 1) = i by have := hi.out; omega]
        have hl : (List.replicate i (0 : Int) ++ (q % 256) :: bigs u m).length = n := by rw [List.length_append, List.length_replicate, List.length_cons, bigs_length]; have := hi.out; omega
        rw [hl]
        exact h
    · have hd : decide ((0 : Int) ≤ (n : Int) - (m : Int) - 1) = false := decide_eq_false (by omega)
      obtain rfl : m = n := by omega
      rw [Nat.sub_self] at HRF
      have HRF := Lib.hid HRF
      go_wp2
      go_ret
      exact ⟨_, rfl, by simpa using HRF.out, HB.out⟩
/-- an item's bytes -/
def one (a : It) : List Int := if a.k = 1 ∨ a.k = 2 ∨ a.k = 3 then bigs a.n (wid a.k).toNat else if a.k = 4 then bigs (Flt.val a.x : Int) 8 else (a.s.size : Int) :: bytesOf a.s
theorem val_bd {x : Nat} (h : x < 18446744073709551616) : (Flt.val x : Int) ≤ 18446744073709551615 := by
  unfold Flt.val
  split
  · decide
  · omega
theorem strL_ {P : Program} {ops : Array Oper} {rest : List Oper} {o : Oper} {a : Act} {Q : Exit → Act → World → Prop} {w0 W : World} (base : Nat) (N : Option Tmp) (hd : o.dst = N) (hg : o.guard = none) (s x : Operand) (t u e : TypeId)
    (ho : o.op = .call { callee := .builtin .append, args := #[s, x], argTypes := #[t, u] })
    (ht : P.underlying t = some (.slice e)) (hu : P.underlying u = some .string) (hinfo : (P.info? e).map (fun i => (i.zero, i.size, i.bytes)) = some (some (.int .u8 0), 1, 1))
    (v : Value) (xs : List Int) (y : ByteArray) (hs : a.eval s = v) (hx : a.eval x = .string y)
    (HO : Kd.R (Kd.int .u8) e W base (fun _ => True) v xs) (HB : Below base w0 W) (hbase : base ≤ W.heap.size) (hl : xs.length + y.size ≤ 140737488355328)
    (h : ∀ v1 w1, Kd.R (Kd.int .u8) e w1 base (fun _ => True) v1 (xs ++ bytesOf y) → Below base w0 w1 → W.grownBy w1 v.ownBlock → wpList P ops Q rest (a.put N v1) w1) : wpList P ops Q (o :: rest) a W := by
  refine wpList_plain hg fun K hK => ?_
  subst hd
  have hw : Region.wanted o (yielded ops a.tmps) = true := by simp [Region.wanted, hg]
  have hh := step_str (ops := ops) (Kc := K) (Q := Q) base hw s x t u e ho ht hu hinfo v xs y hs hx HO HB hbase hl (fun v1 w1 h1 h2 h3 => hK _ _ (h v1 w1 h1 h2 h3))
  rw [if_pos hw] at hh
  exact hh
set_option maxRecDepth 100000 in
theorem One_any (a : It) (w : World) (hm : may a = true) (hx : a.x < 18446744073709551616) : Calls Try.prog 60 #[a.v] w fun e w' => ∃ v, e = .returned v ∧ Kd.R (Kd.int .u8) 5 w' w.heap.size (fun _ => True) v (one a) ∧ Below w.heap.size w w' := by
  have hk := may_kind hm
  obtain ⟨k, an, ax, sx⟩ := a
  simp only at hk hx
  have hv := val_bd hx
  have HB := Lib.hid (Below.refl w.heap.size w)
  have hk : k = 1 ∨ k = 2 ∨ k = 3 ∨ k = 4 ∨ k = 5 := by omega
  rcases hk with rfl | rfl | rfl | rfl | rfl
  · rw [may_1] at hm
    simp only [Bool.and_eq_true, decide_eq_true_eq] at hm
    obtain ⟨⟨⟨h0, h1⟩, _⟩, _⟩ := hm
    rw [show one ⟨1, an, ax, sx⟩ = bigs an 1 from rfl]
    have BG := fun w => Lib.hid (big_any an 1 w h0 (by omega) (by omega) (by omega))
    clear hv hx
    go_enter Try.func60, Try.ntmps60
    go_wp2_with (first | (go_at_call 80; refine ((BG _).out).mono ?_; rintro e w' ⟨v, rfl, hR, hb⟩; have HR := Lib.hid hR; have HB2 := Lib.hid (below_step (by repeat (first | (with_reducible first | exact HB.out | apply below_alloc | apply pw_below_drewN | apply below_drew1) | exact HB.out)) hb); clear hR hb))
    go_ret
    exact ⟨_, rfl, Kd.R_lower HR.out (below_size (by repeat (first | (with_reducible first | exact HB.out | apply below_alloc | apply pw_below_drewN | apply below_drew1) | exact HB.out))), HB2.out⟩
  · rw [may_2] at hm
    simp only [Bool.and_eq_true, decide_eq_true_eq] at hm
    obtain ⟨⟨⟨h0, h1⟩, _⟩, _⟩ := hm
    rw [show one ⟨2, an, ax, sx⟩ = bigs an 2 from rfl]
    have BG := fun w => Lib.hid (big_any an 2 w h0 (by omega) (by omega) (by omega))
    clear hv hx
    go_enter Try.func60, Try.ntmps60
    go_wp2_with (first | (go_at_call 80; refine ((BG _).out).mono ?_; rintro e w' ⟨v, rfl, hR, hb⟩; have HR := Lib.hid hR; have HB2 := Lib.hid (below_step (by repeat (first | (with_reducible first | exact HB.out | apply below_alloc | apply pw_below_drewN | apply below_drew1) | exact HB.out)) hb); clear hR hb))
    go_ret
    exact ⟨_, rfl, Kd.R_lower HR.out (below_size (by repeat (first | (with_reducible first | exact HB.out | apply below_alloc | apply pw_below_drewN | apply below_drew1) | exact HB.out))), HB2.out⟩
  · rw [may_3] at hm
    simp only [Bool.and_eq_true, decide_eq_true_eq] at hm
    obtain ⟨⟨⟨h0, h1⟩, _⟩, _⟩ := hm
    rw [show one ⟨3, an, ax, sx⟩ = bigs an 4 from rfl]
    have BG := fun w => Lib.hid (big_any an 4 w h0 (by omega) (by omega) (by omega))
    clear hv hx
    go_enter Try.func60, Try.ntmps60
    go_wp2_with (first | (go_at_call 80; refine ((BG _).out).mono ?_; rintro e w' ⟨v, rfl, hR, hb⟩; have HR := Lib.hid hR; have HB2 := Lib.hid (below_step (by repeat (first | (with_reducible first | exact HB.out | apply below_alloc | apply pw_below_drewN | apply below_drew1) | exact HB.out)) hb); clear hR hb))
    go_ret
    exact ⟨_, rfl, Kd.R_lower HR.out (below_size (by repeat (first | (with_reducible first | exact HB.out | apply below_alloc | apply pw_below_drewN | apply below_drew1) | exact HB.out))), HB2.out⟩
  · rw [show one ⟨4, an, ax, sx⟩ = bigs (Flt.val ax : Int) 8 from rfl]
    have BG := fun w => Lib.hid (big_any (Flt.val ax : Int) 8 w (Int.natCast_nonneg _) hv (by omega) (by omega))
    clear hv hx hm
    go_enter Try.func60, Try.ntmps60
    go_wp2_with (first | (go_at_call 32; refine (rValue_any _ _).mono ?_; rintro e w' ⟨rfl, rfl⟩) | (go_at_call 80; refine ((BG _).out).mono ?_; rintro e w' ⟨v, rfl, hR, hb⟩; have HR := Lib.hid hR; have HB2 := Lib.hid (below_step (by repeat (first | (with_reducible first | exact HB.out | apply below_alloc | apply pw_below_drewN | apply below_drew1) | exact HB.out)) hb); clear hR hb))
    go_ret
    exact ⟨_, rfl, Kd.R_lower HR.out (below_size (by repeat (first | (with_reducible first | exact HB.out | apply below_alloc | apply pw_below_drewN | apply below_drew1) | exact HB.out))), HB2.out⟩
  · rw [may_5] at hm
    simp only [Bool.and_eq_true, decide_eq_true_eq] at hm
    obtain ⟨_, h1⟩ := hm
    rw [show one ⟨5, an, ax, sx⟩ = (sx.size : Int) :: bytesOf sx from rfl]
    have z0 : (0 : Int) ≤ (sx.size : Int) := Int.natCast_nonneg _
    clear hv hx
    go_enter Try.func60, Try.ntmps60
    go_wp2_with (first | ((with_reducible refine gate_dst (N := 33) rfl ?_); refine Kd.R_lit (Kd.int .u8) _ 5 ?hg (N := 33) ?hd (xs := ([(sx.size : Int)] : List Int)) (inner := [.int .u8 ((sx.size : Int))]) (ok := fun _ => True) (okp := fun _ => True) ?hr ?hp (fun _ hk => hk) trivial (Below.refl _ _) (Nat.le_refl _) (by simp) ?_; (case hd => rfl); (case hg => rfl); (case hr => first | (go_simp; done) | (go_simp; rfl)); (case hp => exact Reps.one (show Kd.M (Kd.int .u8) _ _ _ ((sx.size : Int)) [.int .u8 ((sx.size : Int))] from rfl) (Reps.none _ _)); intro v33 w33 ho hb hg_ hnew_; have HG33 := Lib.hid hg_; clear hg_ hnew_; have HO33 := Lib.hid (Kd.R_lower ho (below_size (by repeat (first | (with_reducible first | exact HB.out | apply below_alloc | apply pw_below_drewN | apply below_drew1) | exact HB.out)))); have HB := Lib.hid (below_step (by repeat (first | (with_reducible first | exact HB.out | apply below_alloc | apply pw_below_drewN | apply below_drew1) | exact HB.out)) hb); clear ho hb; have hc3 := World.grownBy.cell HG33.out (HasIt.alloc w ⟨5, an, ax, sx⟩).2.2.2 (by simp)) | ((with_reducible refine gate_builtin (b := .append) (xs := #[.tmp 33, .tmp 35]) rfl ?_); at_builtin; refine strL_ (w0 := w) w.heap.size (some 36) rfl rfl (.tmp 33) (.tmp 35) 52 9 5 rfl Try.underlying52 Try.underlying9 info8 v33 [(sx.size : Int)] sx rfl rfl HO33.out (by repeat (first | (with_reducible first | exact HB.out | apply below_alloc | apply pw_below_drewN | apply below_drew1) | exact HB.out)) (below_size (by repeat (first | (with_reducible first | exact HB.out | apply below_alloc | apply pw_below_drewN | apply below_drew1) | exact HB.out))) ?aL ?_; (case aL => simp only [List.length_singleton]; omega); intro v36 w36 ho hb hg; have HG36 := Lib.hid hg; have HO36 := Lib.hid ho; have HB := Lib.hid hb; clear ho hb hg; skip))
    go_ret
    exact ⟨_, rfl, HO36.out, HB.out⟩
end Go.Proofs.Ytbmcbhpkefjhbaa.Pac
