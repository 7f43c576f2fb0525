/- Layer 3: two items put. -/
import Derived.Test.YtbmcbhpkefjhbaaPacCheck
set_option linter.unusedVariables false
set_option linter.unusedSimpArgs false
namespace Go.Proofs.Ytbmcbhpkefjhbaa.Pac
open Go.RowKit Go.Proofs.Ytbmcbhpkefjhbaa Go.Proofs.Ytbmcbhpkefjhbaa.Mem Go.Proofs.YtbmcbhpkefjhbaaW.PrintWords Go.Proofs.YtbmcbhpkefjhbaaW.PrintLast Go.Proofs.YtbmcbhpkefjhbaaW.PrintMore
theorem step_str {P : Program} {ops : Array Oper} {o : Oper} {a : Act} {Q : Exit → Act → World → Prop} {Kc : Act → World → Prop} {w0 W : World} (base : Nat) (hw : Region.wanted o (yielded ops a.tmps) = true) (s x : Operand) (t u e : TypeId)
    (ho : o.op = .call { callee := .builtin .append, args := #[s, x], argTypes := #[t, u] })
    (ht : P.underlying t = some (.slice e)) (hu : P.underlying u = some .string) (hinfo : (P.info? e).map (fun i => (i.zero, i.size, i.bytes)) = some (some (.int .u8 0), 1, 1))
    (v : Value) (xs : List Int) (y : ByteArray) (hs : a.eval s = v) (hx : a.eval x = .string y)
    (HO : Kd.R (Kd.int .u8) e W base (fun _ => True) v xs) (HB : Below base w0 W) (hbase : base ≤ W.heap.size) (hl : xs.length + y.size ≤ 140737488355328)
    (h : ∀ v1 w1, Kd.R (Kd.int .u8) e w1 base (fun _ => True) v1 (xs ++ bytesOf y) → Below base w0 w1 → W.grownBy w1 v.ownBlock → Kc (a.put o.dst v1) w1) :
    if Region.wanted o (yielded ops a.tmps) = true then Oper.wp P o a W Kc Q else Kc (a.put o.dst undef) W := by
  obtain ⟨i0, hi, hzz⟩ := Option.map_eq_some_iff.1 hinfo
  simp only [Prod.mk.injEq] at hzz
  obtain ⟨hz0, hz1, hz2⟩ := hzz
  have HOw := Kd.own_of_R HO
  rw [if_pos hw]
  obtain ⟨v1, w1, hr, hown, hg, _⟩ := Lib.run_append_own_string (P := P) (w := W) base t u o.type e i0 ht hu hi hz0 hz1 hz2 v xs.length (nums .u8 xs) HOw y (by simp only [maxLen]; omega) hl hbase
  unfold Oper.wp execOp
  simp only [ho, resolve, invoke, builtin, Sem.run_bind, Sem.run_pure, Result.andThen_ok, List.map_toArray, List.map_cons, List.map_nil, hs, hx, hr]
  have hl2 : (xs ++ bytesOf y).length = xs.length + y.size := by rw [List.length_append, bytesOf_length]
  have hc : nums .u8 (xs ++ bytesOf y) = nums .u8 xs ++ Lib.strCells y := by
    rw [nums_append]
    congr 1
    simp [nums, bytesOf, Lib.strCells]
  refine h v1 w1 (Kd.R_of_own (enc := Value.int .u8) (h1 := fun _ => rfl) ?_ (ok := fun _ => True) (fun _ _ => trivial)) (HB.grown hg hbase (own_base HOw)) hg
  show w1.ownsRow base e 1 v1 (xs ++ bytesOf y).length (nums .u8 (xs ++ bytesOf y))
  rw [hl2, hc]; exact hown
theorem cell_heap {w w1 : World} {k i : Nat} (h : w1.heap[k]? = w.heap[k]?) : w1.cell? ⟨k, i, none⟩ = w.cell? ⟨k, i, none⟩ := by
  simp only [World.cell?, h]
def putn : Nat → List Int
  | 0 => []
  | 1 => [1, 2]
  | _ => [1, 2, 1, 97]
abbrev its : Obj := .cells #[.int .i64 2, .int .i64 258, .float .f64 0, .string ⟨#[]⟩, .int .i64 5, .int .i64 0, .float .f64 0, .string ⟨#[97]⟩] 48
def Put9.T : Bool × List (List Nat × List Nat) := (true, [([], []), ([], []), ([1], [1]), ([2], [2]), ([], []), ([4], [4]), ([5], [5]), ([0, 3, 6, 6], [0, 3, 6]), ([7, 7, 0, 1, 2, 3, 4, 5, 6, 7], [0, 7])])
def Put9.B : List Nat := [0, 0, 2, 6, 0, 16, 48, 127, 255]
theorem Put9.tab : rtab .any (opsOf Try.f27 9) = Put9.T := by kernel_rfl
theorem Put9.bits : waitsOk Put9.T.2 Put9.B = true := by kernel_rfl
def Put13.T : Bool × List (List Nat × List Nat) := (true, [([], []), ([], []), ([1], [1]), ([2], [2]), ([3], [3]), ([4], [4]), ([0, 5], [0, 5]), ([], []), ([7], [7]), ([6, 8, 6], [6, 8]), ([9, 9, 0, 1, 2, 3, 4, 5, 6, 7, 8, 9], [0, 9])])
def Put13.B : List Nat := [0, 0, 2, 6, 14, 30, 63, 0, 128, 511, 1023]
theorem Put13.tab : rtab .any (opsOf Try.f27 13) = Put13.T := by kernel_rfl
theorem Put13.bits : waitsOk Put13.T.2 Put13.B = true := by kernel_rfl
set_option maxRecDepth 100000 in
theorem Put_its (w : World) : Calls Try.prog 27 #[.slice (some ⟨w.heap.size, 0, none⟩) 2 2] (w.alloc its) fun e w' => ∃ v, e = .returned (.tuple #[v, .int .i64 0]) ∧ GotB w' v [1, 2, 1, 97] ∧ Below w.heap.size w w' := by
  have HB := Lib.hid (below_alloc (Below.refl w.heap.size w) its)
  obtain ⟨w1, hw1⟩ : ∃ w1, w1 = w.alloc its := ⟨_, rfl⟩
  have hc0 : w1.cell? ⟨w.heap.size, 0, none⟩ = some (.int .i64 2) := by rw [hw1]; exact World.cell?_alloc_new _ _ _ _
  have hc1 : w1.cell? ⟨w.heap.size, 1, none⟩ = some (.int .i64 258) := by rw [hw1]; exact World.cell?_alloc_new _ _ _ _
  have hc2 : w1.cell? ⟨w.heap.size, 2, none⟩ = some (.float .f64 0) := by rw [hw1]; exact World.cell?_alloc_new _ _ _ _
  have hc3 : w1.cell? ⟨w.heap.size, 3, none⟩ = some (.string ⟨#[]⟩) := by rw [hw1]; exact World.cell?_alloc_new _ _ _ _
  have hc4 : w1.cell? ⟨w.heap.size, 4, none⟩ = some (.int .i64 5) := by rw [hw1]; exact World.cell?_alloc_new _ _ _ _
  have hc5 : w1.cell? ⟨w.heap.size, 5, none⟩ = some (.int .i64 0) := by rw [hw1]; exact World.cell?_alloc_new _ _ _ _
  have hc6 : w1.cell? ⟨w.heap.size, 6, none⟩ = some (.float .f64 0) := by rw [hw1]; exact World.cell?_alloc_new _ _ _ _
  have hc7 : w1.cell? ⟨w.heap.size, 7, none⟩ = some (.string ⟨#[97]⟩) := by rw [hw1]; exact World.cell?_alloc_new _ _ _ _
  rw [← hw1] at HB ⊢
  have HS : Hid (∀ wx, Below w1.heap.size w1 wx → (wx.cell? ⟨w.heap.size, 0, none⟩ = some (.int .i64 2) ∧ wx.cell? ⟨w.heap.size, 1, none⟩ = some (.int .i64 258) ∧ wx.cell? ⟨w.heap.size, 2, none⟩ = some (.float .f64 0) ∧ wx.cell? ⟨w.heap.size, 3, none⟩ = some (.string ⟨#[]⟩) ∧ wx.cell? ⟨w.heap.size, 4, none⟩ = some (.int .i64 5) ∧ wx.cell? ⟨w.heap.size, 5, none⟩ = some (.int .i64 0) ∧ wx.cell? ⟨w.heap.size, 6, none⟩ = some (.float .f64 0) ∧ wx.cell? ⟨w.heap.size, 7, none⟩ = some (.string ⟨#[97]⟩))) :=
    Lib.hid (fun wx h => ⟨(h.cell (World.block_lt_of_cell? w1 _ hc0)).trans hc0, (h.cell (World.block_lt_of_cell? w1 _ hc1)).trans hc1, (h.cell (World.block_lt_of_cell? w1 _ hc2)).trans hc2, (h.cell (World.block_lt_of_cell? w1 _ hc3)).trans hc3, (h.cell (World.block_lt_of_cell? w1 _ hc4)).trans hc4, (h.cell (World.block_lt_of_cell? w1 _ hc5)).trans hc5, (h.cell (World.block_lt_of_cell? w1 _ hc6)).trans hc6, (h.cell (World.block_lt_of_cell? w1 _ hc7)).trans hc7⟩)
  clear hc0 hc1 hc2 hc3 hc4 hc5 hc6 hc7
  have HW := HB
  clear HB hw1
  generalize hbe : w.heap.size = b at HS ⊢
  have HBE := Lib.hid hbe
  clear hbe
  have HB := Lib.hid (Below.refl w1.heap.size w1)
  go_enter Try.func27, Try.ntmps27
  have hsf : ∀ (a : Addr) (n : Nat) (w : World), (store a (.float .f64 n)).run Try.prog w = stored Try.prog w a (.float .f64 n) .plain := fun a n w => run_store _ w a _ _ rfl
  go_wp2
  go_loopg [4, 10] 2 (fun k v4 v10 wr => ∃ (i : Nat) (vv : Value), i ≤ 2 ∧ k = 2 - i ∧ vv = v4 ∧ v10 = .int .i64 (i : Int) ∧ Hid (Kd.R (Kd.int .u8) 5 wr w1.heap.size (fun _ => True) v4 (putn i)) ∧ Hid (Below w1.heap.size w1 wr))
  case atStart => exact ⟨0, _, by omega, rfl, rfl, rfl, Lib.hid (Kd.R_nil _ _ _ _ _), Lib.hid (by first | exact Below.refl _ _ | exact below_drew1 (Below.refl _ _))⟩
  case round =>
    clear HB
    obtain ⟨i, vv, hi, rfl, rfl, rfl, HO, HB⟩ := hrel
    match i, hi with
    | 0, _ =>
      obtain ⟨s0, s1, s2, s3, s4, s5, s6, s7⟩ := HS.out _ HB.out
      go_wp2_with fail
      obtain ⟨wa, hwa⟩ : ∃ wa, wa = wr.alloc (.cells #[.int .i64 2, .int .i64 258, .float .f64 0, .string ⟨#[]⟩] 48) := ⟨_, rfl⟩
      have hl : wr.heap.size < wa.heap.size := by rw [hwa]; show _ < (wr.heap.push _).size; simp
      have y0 : wa.cell? ⟨wr.heap.size, 0, none⟩ = some (.int .i64 2) := by rw [hwa]; exact World.cell?_alloc_new _ _ _ _
      have y1 : wa.cell? ⟨wr.heap.size, 1, none⟩ = some (.int .i64 258) := by rw [hwa]; exact World.cell?_alloc_new _ _ _ _
      have HBa : Hid (Below w1.heap.size w1 wa) := Lib.hid (by rw [hwa]; exact below_alloc HB.out _)
      have HOa : Hid (Kd.R (Kd.int .u8) 5 wa w1.heap.size (fun _ => True) vv []) := Lib.hid (by rw [hwa]; exact Kd.R_alloc HO.out _)
      rw [← hwa]
      clear hwa s0 s1 s2 s3 s4 s5 s6 s7 HO HB
      refine (Check_tw _).mono ?_
      rintro e w2 ⟨rfl, hb⟩
      have x0 : w2.cell? ⟨wr.heap.size, 0, none⟩ = some (.int .i64 2) := (hb.cell hl).trans y0
      have x1 : w2.cell? ⟨wr.heap.size, 1, none⟩ = some (.int .i64 258) := (hb.cell hl).trans y1
      have HB2 : Hid (Below w1.heap.size w1 w2) := Lib.hid (below_step HBa.out hb)
      have HO2 : Hid (Kd.R (Kd.int .u8) 5 w2 w1.heap.size (fun _ => True) vv []) := Lib.hid (Kd.R_below HOa.out hb)
      clear hb y0 y1 HBa HOa hl
      generalize wr.heap.size = g at x0 x1 ⊢
      go_wp2_with fail
      have HBo := Lib.hid (below_drew1 (Below.refl w2.heap.size w2))
      have HSx : Hid (∀ wx, Below w2.heap.size w2 wx → (wx.cell? ⟨g, 0, none⟩ = some (.int .i64 2) ∧ wx.cell? ⟨g, 1, none⟩ = some (.int .i64 258))) := Lib.hid (fun wx h => ⟨(h.cell (World.block_lt_of_cell? w2 _ x0)).trans x0, (h.cell (World.block_lt_of_cell? w2 _ x1)).trans x1⟩)
      clear x0 x1
      refine start_ (n := 9) (S := fun wx => (wx.cell? ⟨g, 0, none⟩ = some (.int .i64 2) ∧ wx.cell? ⟨g, 1, none⟩ = some (.int .i64 258))) (ds := [7]) #[false, false, false, false, false, false, false, false, false] (by kernel_rfl) rfl rfl (HSx.out _ HBo.out) (fun hHeld => ?_)
      refine with_tabW Put9.tab Put9.bits (fun HT_ HW_ => ?_)
      generalize w2.drew = wD at HBo hHeld ⊢
      refine pure_ (i := 0) (N := (some 21)) (v := ?_) (a' := ?_) #[true, false, false, false, false, false, false, false, false] rfl rfl (any_of HT_.out (by kernel_rfl)) (fun _ _ _ h => h) (Or.inl ⟨by rfl, ?_⟩) ?_ ?_
      rotate_left
      · intro w'
        go_simp
        with_reducible rfl
      rotate_left
      · simp only [Act.put, List.setIfInBounds_toArray, List.set_cons_zero, List.set_cons_succ, i64_w, i32_w]
        rfl
      refine pure_ (i := 1) (N := (some 22)) (v := ?_) (a' := ?_) #[true, true, false, false, false, false, false, false, false] rfl rfl (any_of HT_.out (by kernel_rfl)) (fun _ _ _ h => h) (Or.inl ⟨by rfl, ?_⟩) ?_ ?_
      rotate_left
      · intro w'
        go_simp
        with_reducible rfl
      rotate_left
      · simp only [Act.put, List.setIfInBounds_toArray, List.set_cons_zero, List.set_cons_succ, i64_w, i32_w]
        rfl
      refine take_ (i := 2) (N := (some 23)) (v := ?_) (a' := ?_) #[true, true, true, false, false, false, false, false, false] rfl rfl (take_ofW HT_.out HW_.out (by kernel_rfl)) (fun _ _ _ h => h) (Or.inl ⟨by rfl, ?_⟩) hHeld ?_ ?_
      rotate_left
      · rintro w' ⟨s0, s1⟩
        go_simp
        with_reducible rfl
      rotate_left
      · simp only [Act.put, List.setIfInBounds_toArray, List.set_cons_zero, List.set_cons_succ, i64_w, i32_w]
        rfl
      refine pure_ (i := 3) (N := (some 24)) (v := ?_) (a' := ?_) #[true, true, true, true, false, false, false, false, false] rfl rfl (any_of HT_.out (by kernel_rfl)) (fun _ _ _ h => h) (Or.inl ⟨by rfl, ?_⟩) ?_ ?_
      rotate_left
      · intro w'
        go_simp
        with_reducible rfl
      rotate_left
      · simp only [Act.put, List.setIfInBounds_toArray, List.set_cons_zero, List.set_cons_succ, i64_w, i32_w]
        rfl
      refine pure_ (i := 4) (N := (some 25)) (v := ?_) (a' := ?_) #[true, true, true, true, true, false, false, false, false] rfl rfl (any_of HT_.out (by kernel_rfl)) (fun _ _ _ h => h) (Or.inl ⟨by rfl, ?_⟩) ?_ ?_
      rotate_left
      · intro w'
        go_simp
        with_reducible rfl
      rotate_left
      · simp only [Act.put, List.setIfInBounds_toArray, List.set_cons_zero, List.set_cons_succ, i64_w, i32_w]
        rfl
      refine take_ (i := 5) (N := (some 26)) (v := ?_) (a' := ?_) #[true, true, true, true, true, true, false, false, false] rfl rfl (take_ofW HT_.out HW_.out (by kernel_rfl)) (fun _ _ _ h => h) (Or.inl ⟨by rfl, ?_⟩) hHeld ?_ ?_
      rotate_left
      · rintro w' ⟨s0, s1⟩
        go_simp
        with_reducible rfl
      rotate_left
      · simp only [Act.put, List.setIfInBounds_toArray, List.set_cons_zero, List.set_cons_succ, i64_w, i32_w]
        rfl
      refine one_ (i := 6) (N := (some 27)) #[true, true, true, true, true, true, true, false, false] rfl rfl (one_of HT_.out (by kernel_rfl)) (by decide) (fun K hK => ?_)
      refine goes_ Try.func59 (by kernel_rfl) rfl #[.int .i64 2] (by rfl) rfl rfl (by (try simp only [List.map_toArray, List.map_cons, List.map_nil]); first | done | rfl) ?_
      refine (width_2 _).mono ?_
      rintro e w' ⟨rfl, rfl⟩
      refine ⟨_, rfl, ?_⟩
      refine hK.out _ _ (HSx.out _ HBo.out) (fun hHeld => ?_)
      clear hK K
      refine norm_ (a' := ?_) ?_ ?_
      rotate_left
      · show Act.put _ (some 27) _ = _
        simp only [Act.put, List.setIfInBounds_toArray, List.set_cons_zero, List.set_cons_succ, i64_w, i32_w]
        rfl
      refine last_ (i := 7) (N := (some 28)) #[true, true, true, true, true, true, true, true, false] rfl rfl (one_of HT_.out (by kernel_rfl)) (by decide) (fun K hK => ?_)
      refine goes_ Try.func56 (by kernel_rfl) rfl #[vv, .int .u64 258, .int .i64 2] (by rfl) rfl rfl (by (try simp only [List.map_toArray, List.map_cons, List.map_nil]); first | done | rfl) ?_
      refine (number_any w1 _ vv [] 258 2 (by omega) (by decide) (Kd.R_below HO2.out HBo.out) (below_step HB2.out HBo.out)).mono ?_
      rintro e w3 ⟨vn, rfl, hR, hb'⟩
      refine ⟨_, rfl, ?_⟩
      have HO3 := Lib.hid hR
      have HB3 := Lib.hid hb'
      clear hR hb'
      refine hK.out _ _ ?_
      clear hK K
      refine norm_ (a' := ?_) ?_ ?_
      rotate_left
      · show Act.put _ (some 28) _ = _
        simp only [Act.put, List.setIfInBounds_toArray, List.set_cons_zero, List.set_cons_succ, i64_w, i32_w]
        rfl
      refine pure_ (i := 8) (N := (some 4)) (v := ?_) (a' := ?_) #[true, true, true, true, true, true, true, true, true] rfl rfl (any_of HT_.out (by kernel_rfl)) (fun _ _ _ h => h) (Or.inl ⟨by rfl, ?_⟩) ?_ ?_
      rotate_left
      · intro w'
        go_simp
        with_reducible rfl
      rotate_left
      · simp only [Act.put, List.setIfInBounds_toArray, List.set_cons_zero, List.set_cons_succ, i64_w, i32_w]
        rfl
      refine done_ (done_of HT_.out (by kernel_rfl)) ?_
      go_wp2_with fail
      go_roundg 1
      case measure => omega
      case rel => exact ⟨1, _, by omega, rfl, rfl, rfl, HO3, HB3⟩
    | 1, _ =>
      obtain ⟨s0, s1, s2, s3, s4, s5, s6, s7⟩ := HS.out _ HB.out
      go_wp2_with fail
      obtain ⟨wa, hwa⟩ : ∃ wa, wa = wr.alloc (.cells #[.int .i64 5, .int .i64 0, .float .f64 0, .string ⟨#[97]⟩] 48) := ⟨_, rfl⟩
      have hl : wr.heap.size < wa.heap.size := by rw [hwa]; show _ < (wr.heap.push _).size; simp
      have y0 : wa.cell? ⟨wr.heap.size, 0, none⟩ = some (.int .i64 5) := by rw [hwa]; exact World.cell?_alloc_new _ _ _ _
      have y3 : wa.cell? ⟨wr.heap.size, 3, none⟩ = some (.string ⟨#[97]⟩) := by rw [hwa]; exact World.cell?_alloc_new _ _ _ _
      have HBa : Hid (Below w1.heap.size w1 wa) := Lib.hid (by rw [hwa]; exact below_alloc HB.out _)
      have HOa : Hid (Kd.R (Kd.int .u8) 5 wa w1.heap.size (fun _ => True) vv [1, 2]) := Lib.hid (by rw [hwa]; exact Kd.R_alloc HO.out _)
      have HNe : Hid (∀ k, vv.ownBlock = some k → k < wr.heap.size) := Lib.hid (Kd.R_lt HO.out)
      rw [← hwa]
      clear hwa s0 s1 s2 s3 s4 s5 s6 s7 HO HB
      refine (Check_tx _).mono ?_
      rintro e w2 ⟨rfl, hb⟩
      have x0 : w2.cell? ⟨wr.heap.size, 0, none⟩ = some (.int .i64 5) := (hb.cell hl).trans y0
      have x3 : w2.cell? ⟨wr.heap.size, 3, none⟩ = some (.string ⟨#[97]⟩) := (hb.cell hl).trans y3
      have HB2 : Hid (Below w1.heap.size w1 w2) := Lib.hid (below_step HBa.out hb)
      have HO2 : Hid (Kd.R (Kd.int .u8) 5 w2 w1.heap.size (fun _ => True) vv [1, 2]) := Lib.hid (Kd.R_below HOa.out hb)
      clear hb y0 y3 HBa HOa hl
      generalize wr.heap.size = g at x0 x3 HNe ⊢
      go_wp2_with fail
      have HBo := Lib.hid (below_drew1 (Below.refl w2.heap.size w2))
      have HSx : Hid (∀ wx, Below w2.heap.size w2 wx → wx.cell? ⟨g, 3, none⟩ = some (.string ⟨#[97]⟩)) := Lib.hid (fun wx h => (h.cell (World.block_lt_of_cell? w2 _ x3)).trans x3)
      have HG : Hid (g < w2.heap.size) := Lib.hid (World.block_lt_of_cell? w2 _ x3)
      clear x0 x3
      refine start_ (n := 11) (S := fun wx => wx.cell? ⟨g, 3, none⟩ = some (.string ⟨#[97]⟩)) (ds := [9]) #[false, false, false, false, false, false, false, false, false, false, false] (by kernel_rfl) rfl rfl (HSx.out _ HBo.out) (fun hHeld => ?_)
      refine with_tabW Put13.tab Put13.bits (fun HT_ HW_ => ?_)
      generalize w2.drew = wD at HBo hHeld ⊢
      refine pure_ (i := 0) (N := (some 39)) (v := ?_) (a' := ?_) #[true, false, false, false, false, false, false, false, false, false, false] rfl rfl (any_of HT_.out (by kernel_rfl)) (fun _ _ _ h => h) (Or.inl ⟨by rfl, ?_⟩) ?_ ?_
      rotate_left
      · intro w'
        go_simp
        with_reducible rfl
      rotate_left
      · simp only [Act.put, List.setIfInBounds_toArray, List.set_cons_zero, List.set_cons_succ, i64_w, i32_w]
        rfl
      refine pure_ (i := 1) (N := (some 40)) (v := ?_) (a' := ?_) #[true, true, false, false, false, false, false, false, false, false, false] rfl rfl (any_of HT_.out (by kernel_rfl)) (fun _ _ _ h => h) (Or.inl ⟨by rfl, ?_⟩) ?_ ?_
      rotate_left
      · intro w'
        go_simp
        with_reducible rfl
      rotate_left
      · simp only [Act.put, List.setIfInBounds_toArray, List.set_cons_zero, List.set_cons_succ, i64_w, i32_w]
        rfl
      refine take_ (i := 2) (N := (some 41)) (v := ?_) (a' := ?_) #[true, true, true, false, false, false, false, false, false, false, false] rfl rfl (take_ofW HT_.out HW_.out (by kernel_rfl)) (fun _ _ _ h => h) (Or.inl ⟨by rfl, ?_⟩) hHeld ?_ ?_
      rotate_left
      · rintro w' s3
        go_simp
        with_reducible rfl
      rotate_left
      · simp only [Act.put, List.setIfInBounds_toArray, List.set_cons_zero, List.set_cons_succ, i64_w, i32_w]
        rfl
      refine pure_ (i := 3) (N := (some 42)) (v := ?_) (a' := ?_) #[true, true, true, true, false, false, false, false, false, false, false] rfl rfl (any_of HT_.out (by kernel_rfl)) (fun _ _ _ h => h) (Or.inl ⟨by rfl, ?_⟩) ?_ ?_
      rotate_left
      · intro w'
        go_simp
        with_reducible rfl
      rotate_left
      · simp only [Act.put, List.setIfInBounds_toArray, List.set_cons_zero, List.set_cons_succ, i64_w, i32_w]
        rfl
      refine pure_ (i := 4) (N := (some 43)) (v := ?_) (a' := ?_) #[true, true, true, true, true, false, false, false, false, false, false] rfl rfl (any_of HT_.out (by kernel_rfl)) (fun _ _ _ h => h) (Or.inl ⟨by rfl, ?_⟩) ?_ ?_
      rotate_left
      · intro w'
        go_simp
        with_reducible rfl
      rotate_left
      · simp only [Act.put, List.setIfInBounds_toArray, List.set_cons_zero, List.set_cons_succ, i64_w, i32_w]
        rfl
      refine pure_ (i := 7) (N := (some 46)) (v := ?_) (a' := ?_) #[true, true, true, true, true, false, false, true, false, false, false] rfl rfl (any_of HT_.out (by kernel_rfl)) (fun _ _ _ h => h) (Or.inl ⟨by rfl, ?_⟩) ?_ ?_
      rotate_left
      · intro w'
        go_simp
        with_reducible rfl
      rotate_left
      · simp only [Act.put, List.setIfInBounds_toArray, List.set_cons_zero, List.set_cons_succ, i64_w, i32_w]
        rfl
      refine take_ (i := 8) (N := (some 47)) (v := ?_) (a' := ?_) #[true, true, true, true, true, false, false, true, true, false, false] rfl rfl (take_ofW HT_.out HW_.out (by kernel_rfl)) (fun _ _ _ h => h) (Or.inl ⟨by rfl, ?_⟩) hHeld ?_ ?_
      rotate_left
      · rintro w' s3
        go_simp
        with_reducible rfl
      rotate_left
      · simp only [Act.put, List.setIfInBounds_toArray, List.set_cons_zero, List.set_cons_succ, i64_w, i32_w]
        rfl
      refine one_ (i := 5) (N := (some 44)) #[true, true, true, true, true, true, false, true, true, false, false] rfl rfl (one_of HT_.out (by kernel_rfl)) (by decide) (fun K hK => ?_)
      refine value_ (w1 := ?_) (v := ?_) (by rfl) rfl ?_ ?_
      rotate_left 2
      · go_simp
        constructor
        · rfl
        · rfl
      refine hK.out _ _ (HSx.out _ (below_alloc HBo.out _)) (fun hHeld => ?_)
      clear hK K
      refine norm_ (a' := ?_) ?_ ?_
      rotate_left
      · show Act.put _ (some 44) _ = _
        simp only [Act.put, List.setIfInBounds_toArray, List.set_cons_zero, List.set_cons_succ, i64_w, i32_w]
        rfl
      refine one_ (i := 6) (N := (some 45)) #[true, true, true, true, true, true, true, true, true, false, false] rfl rfl (one_of HT_.out (by kernel_rfl)) (by decide) (fun K hK => ?_)
      refine Kd.R_append_step (Kd.int .u8) (w0 := w1) w1.heap.size (by rfl) (.tmp 39) (.tmp 44) 52 5 (.int .u8 0) 1 (by rfl) Try.underlying52 info8 rfl (by decide) (by omega) vv [1, 2] 1 [.int .u8 1] (fun _ => True) (fun _ => False) (by rfl) (by rfl) rfl (fun _ h => h.elim) (fun _ _ => trivial) (Kd.R_below HO2.out HBo.out) (below_step HB2.out HBo.out) (below_size (below_step HB2.out HBo.out)) (by decide) ?_
      intro v45 w45 ho hb hgr hat
      have HO45 := Lib.hid ho
      have HB45 := Lib.hid hb
      have hS45 : w45.cell? ⟨g, 3, none⟩ = some (.string ⟨#[97]⟩) := (cell_heap (hgr.block g (Nat.lt_of_lt_of_le HG.out (below_size HBo.out)) (fun he => absurd (HNe.out g he.symm) (Nat.lt_irrefl _)))).trans (HSx.out _ HBo.out)
      clear ho hb hgr hat
      refine hK.out _ _ (hS45) (fun hHeld => ?_)
      clear hK K
      refine norm_ (a' := ?_) ?_ ?_
      rotate_left
      · show Act.put _ (some 45) _ = _
        simp only [Act.put, List.setIfInBounds_toArray, List.set_cons_zero, List.set_cons_succ, i64_w, i32_w]
        rfl
      refine last_ (i := 9) (N := (some 48)) #[true, true, true, true, true, true, true, true, true, true, false] rfl rfl (one_of HT_.out (by kernel_rfl)) (by decide) (fun K hK => ?_)
      refine step_str (w0 := w1) w1.heap.size (by rfl) (.tmp 45) (.tmp 47) 52 9 5 (by rfl) Try.underlying52 Try.underlying9 info8 v45 [1, 2, 1] ⟨#[97]⟩ (by rfl) (by rfl) HO45.out HB45.out (below_size HB45.out) (by decide) ?_
      intro v48 w48 ho hb hgr
      have HO48 := Lib.hid ho
      have HB48 := Lib.hid hb
      clear ho hb hgr
      refine hK.out _ _ ?_
      clear hK K
      refine norm_ (a' := ?_) ?_ ?_
      rotate_left
      · show Act.put _ (some 48) _ = _
        simp only [Act.put, List.setIfInBounds_toArray, List.set_cons_zero, List.set_cons_succ, i64_w, i32_w]
        rfl
      refine pure_ (i := 10) (N := (some 4)) (v := ?_) (a' := ?_) #[true, true, true, true, true, true, true, true, true, true, true] rfl rfl (any_of HT_.out (by kernel_rfl)) (fun _ _ _ h => h) (Or.inl ⟨by rfl, ?_⟩) ?_ ?_
      rotate_left
      · intro w'
        go_simp
        with_reducible rfl
      rotate_left
      · simp only [Act.put, List.setIfInBounds_toArray, List.set_cons_zero, List.set_cons_succ, i64_w, i32_w]
        rfl
      refine done_ (done_of HT_.out (by kernel_rfl)) ?_
      go_wp2_with fail
      go_roundg 0
      case measure => omega
      case rel => exact ⟨2, _, by omega, rfl, rfl, rfl, HO48, HB48⟩
    | 2, _ =>
      go_wp2
      go_ret2
      exact ⟨_, rfl, GotB.of_R HO.out, by rw [← HBE.out]; exact below_step HW.out HB.out⟩
set_option maxRecDepth 100000 in
theorem awake_any (w : World) : Calls Try.prog 25 #[] w fun e w' => e = .returned (.bool true) ∧ Below w.heap.size w w' := by
  have HP := Lib.hid (Put_its w)
  go_enter Try.func25, Try.ntmps25
  go_wp2_with fail
  refine HP.out.mono ?_
  rintro e w2 ⟨v, rfl, ⟨A, c, rfl, hc, hr⟩, hb⟩
  have HB := Lib.hid hb
  have hcv : ∀ n : Nat, (convert 52 9 (.slice A 4 c)).run Try.prog (w2.drewN n) = .ok (.string (strOfNums [1, 2, 1, 97])) (w2.drewN n) := fun n => conv_str (l := [1, 2, 1, 97]) c (Kd.C_below hr (pw_below_drewN (Below.refl _ _) n))
  have hcw : (convert 52 9 (.slice A 4 c)).run Try.prog w2 = .ok (.string (strOfNums [1, 2, 1, 97])) w2 := conv_str (l := [1, 2, 1, 97]) c hr
  have hq : ((strOfNums [1, 2, 1, 97]).toList == [1, 2, 1, 97]) = true := by decide +kernel
  clear hr hb HP
  go_wp2
  go_ret
  exact ⟨rfl, HB.out⟩
end Go.Proofs.Ytbmcbhpkefjhbaa.Pac
