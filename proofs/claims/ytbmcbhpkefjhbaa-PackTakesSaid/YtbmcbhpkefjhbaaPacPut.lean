/- Layer 3: pack.Put of any items. -/
import Derived.Test.YtbmcbhpkefjhbaaPacRef
set_option linter.unusedVariables false
set_option linter.unusedSimpArgs false
namespace Go.Proofs.Ytbmcbhpkefjhbaa.Pac
open Go.RowKit Go.Proofs.Ytbmcbhpkefjhbaa Go.Proofs.Ytbmcbhpkefjhbaa.Mem Go.Proofs.YtbmcbhpkefjhbaaW.PrintWords Go.Proofs.YtbmcbhpkefjhbaaW.PrintLast Go.Proofs.YtbmcbhpkefjhbaaW.PrintMore
def ItAt (w : World) (p : Addr) (a : It) : Prop := w.cell? p = some (.int .i64 a.k) ∧ w.cell? ⟨p.block, p.off + 1, none⟩ = some (.int .i64 a.n) ∧ w.cell? ⟨p.block, p.off + 2, none⟩ = some (.float .f64 a.x) ∧ w.cell? ⟨p.block, p.off + 3, none⟩ = some (.string a.s)
/-- a row of items that is read -/
def RdT (w : World) (A : Option Addr) (l : List It) : Prop := ∀ j a, l[j]? = some a → ∃ ad, A = some ad ∧ ItAt w (ad.add (j * 4)) a ∧ a.x < 18446744073709551616
theorem ItAt.below {w w' : World} {p : Addr} {a : It} (h : ItAt w p a) (hb : Below w.heap.size w w') : ItAt w' p a :=
  ⟨(hb.cell (World.block_lt_of_cell? w _ h.1)).trans h.1, (hb.cell (World.block_lt_of_cell? w _ h.2.1)).trans h.2.1, (hb.cell (World.block_lt_of_cell? w _ h.2.2.1)).trans h.2.2.1, (hb.cell (World.block_lt_of_cell? w _ h.2.2.2)).trans h.2.2.2⟩
theorem RdT.below {w w' : World} {A : Option Addr} {l : List It} (h : RdT w A l) (hb : Below w.heap.size w w') : RdT w' A l := fun j a hj => by
  obtain ⟨ad, e, h1, h2⟩ := h j a hj
  exact ⟨ad, e, h1.below hb, h2⟩
abbrev ones (l : List It) : List Int := l.flatMap one
theorem take_snoc_it {l : List It} {i : Nat} {a : It} (h : l[i]? = some a) : l.take (i + 1) = l.take i ++ [a] := by
  rw [List.take_add_one, h]; rfl
theorem ones_next {l : List It} {i : Nat} {a : It} (h : l[i]? = some a) : ones (l.take (i + 1)) = ones (l.take i) ++ one a := by
  rw [take_snoc_it h]; unfold ones; rw [List.flatMap_append]; simp
theorem one_length {a : It} (h : may a = true) : (one a).length ≤ 256 := by
  have hk := may_kind h
  obtain ⟨k, n, x, s⟩ := a
  simp only at hk
  have : k = 1 ∨ k = 2 ∨ k = 3 ∨ k = 4 ∨ k = 5 := by omega
  rcases this with rfl | rfl | rfl | rfl | rfl
  · rw [show one ⟨1, n, x, s⟩ = bigs n 1 from rfl, bigs_length]; decide
  · rw [show one ⟨2, n, x, s⟩ = bigs n 2 from rfl, bigs_length]; decide
  · rw [show one ⟨3, n, x, s⟩ = bigs n 4 from rfl, bigs_length]; decide
  · rw [show one ⟨4, n, x, s⟩ = bigs (Flt.val x : Int) 8 from rfl, bigs_length]; decide
  · rw [may_5] at h
    simp only [Bool.and_eq_true, decide_eq_true_eq] at h
    rw [show one ⟨5, n, x, s⟩ = (s.size : Int) :: bytesOf s from rfl, List.length_cons, bytesOf_length]
    omega
theorem ones_length {l : List It} (h : ∀ a ∈ l, may a = true) : (ones l).length ≤ 256 * l.length := by
  induction l with
  | nil => simp [ones]
  | cons a l ih =>
    have h1 := one_length (h a (List.mem_cons_self))
    have h2 := ih (fun b hb => h b (List.mem_cons_of_mem _ hb))
    unfold ones at h2 ⊢
    rw [List.flatMap_cons, List.length_append, List.length_cons]
    omega
/-- what Put answers -/
def PutPost (l : List It) (w : World) (e : Ending) (w' : World) : Prop := ∃ v, e = .returned (.tuple #[v, .int .i64 (erOf (l.all may))]) ∧ GotB w' v (if l.all may = true then ones l else []) ∧ Below w.heap.size w w'
def PutA13.T : Bool × List (List Nat × List Nat) := (true, [([], []), ([], []), ([1], [1]), ([2], [2]), ([3], [3]), ([4], [4]), ([0, 5], [0, 5]), ([], []), ([7], [7]), ([6, 8, 6], [6, 8]), ([9, 9, 0, 1, 2, 3, 4, 5, 6, 7, 8, 9], [0, 9])])
def PutA13.B : List Nat := [0, 0, 2, 6, 14, 30, 63, 0, 128, 511, 1023]
theorem PutA13.tab : rtab .any (opsOf Try.f27 13) = PutA13.T := by kernel_rfl
theorem PutA13.bits : waitsOk PutA13.T.2 PutA13.B = true := by kernel_rfl
def PutA9.T : Bool × List (List Nat × List Nat) := (true, [([], []), ([], []), ([1], [1]), ([2], [2]), ([], []), ([4], [4]), ([5], [5]), ([0, 3, 6, 6], [0, 3, 6]), ([7, 7, 0, 1, 2, 3, 4, 5, 6, 7], [0, 7])])
def PutA9.B : List Nat := [0, 0, 2, 6, 0, 16, 48, 127, 255]
theorem PutA9.tab : rtab .any (opsOf Try.f27 9) = PutA9.T := by kernel_rfl
theorem PutA9.bits : waitsOk PutA9.T.2 PutA9.B = true := by kernel_rfl
set_option maxRecDepth 100000 in
set_option maxHeartbeats 1000000 in
theorem Put_any (A : Option Addr) (c : Nat) (l : List It) (w : World) (hr : RdT w A l) (hl : l.length ≤ 1000) : Calls Try.prog 27 #[.slice A l.length c] w fun e w' => PutPost l w e w' := by
  have HB := Lib.hid (Below.refl w.heap.size w)
  have HR := Lib.hid hr
  clear hr
  go_enter Try.func27, Try.ntmps27
  have hsf : ∀ (a : Addr) (n : Nat) (w : World), (store a (.float .f64 n)).run Try.prog w = stored Try.prog w a (.float .f64 n) .plain := fun a n w => run_store _ w a _ _ rfl
  go_wp2
  go_loopg [4, 10] l.length (fun k v4 v10 wr => ∃ (i : Nat) (vv : Value), i ≤ l.length ∧ k = l.length - i ∧ vv = v4 ∧ v10 = .int .i64 (i : Int) ∧ Hid (∀ a ∈ l.take i, may a = true) ∧ Hid (Kd.R (Kd.int .u8) 5 wr w.heap.size (fun _ => True) v4 (ones (l.take i))) ∧ Hid (Below w.heap.size w wr))
  case atStart => exact ⟨0, _, Nat.zero_le _, rfl, rfl, rfl, Lib.hid (fun a ha => by cases ha), Lib.hid (Kd.R_nil _ _ _ _ _), HB⟩
  case round =>
    clear HB
    obtain ⟨i, vv, hi, rfl, rfl, rfl, HM, HO, HB⟩ := hrel
    have i0 : (0 : Int) ≤ (i : Int) := Int.natCast_nonneg _
    by_cases hlt : i < l.length
    · have hd : decide (i < l.length) = true := decide_eq_true hlt
      have i1 : (i : Int) < (l.length : Int) := by omega
      obtain ⟨a, ha⟩ : ∃ a, l[i]? = some a := ⟨_, List.getElem?_eq_getElem hlt⟩
      obtain ⟨ad, rfl, hat, hax⟩ := HR.out i a ha
      obtain ⟨x0, x1, x2, x3⟩ := hat.below HB.out
      have HN := Lib.hid (ones_next ha)
      have HT := Lib.hid (take_snoc_it ha)
      have HA := Lib.hid ha
      have HLN : Hid ((ones (l.take i)).length ≤ 256000) := Lib.hid (by
        have := ones_length HM.out
        rw [List.length_take] at this
        omega)
      have CK := Lib.hid (fun w => Check_any a w)
      clear ha hat
      go_wp2_with fail
      obtain ⟨wa, hwa⟩ : ∃ wa, wa = wr.alloc a.o := ⟨_, rfl⟩
      have HIT : Hid (HasIt wa wr.heap.size a) := Lib.hid (by rw [hwa]; exact HasIt.alloc wr a)
      have HBa : Hid (Below w.heap.size w wa) := Lib.hid (by rw [hwa]; exact below_alloc HB.out _)
      have HOa : Hid (Kd.R (Kd.int .u8) 5 wa w.heap.size (fun _ => True) vv (ones (l.take i))) := Lib.hid (by rw [hwa]; exact Kd.R_alloc HO.out _)
      have HNe : Hid (∀ k, vv.ownBlock = some k → k < wr.heap.size) := Lib.hid (Kd.R_lt HO.out)
      rw [show (wr.alloc (Obj.cells #[Value.int IntKind.i64 a.k, Value.int IntKind.i64 a.n, Value.float FloatKind.f64 a.x, Value.string a.s] 48)) = wa from hwa.symm]
      clear hwa x0 x1 x2 x3 HO HB
      refine (CK.out wa).mono ?_
      rintro e w2 ⟨rfl, hb⟩
      have HIT2 := Lib.hid (HIT.out.below hb)
      have HB2 : Hid (Below w.heap.size w w2) := Lib.hid (below_step HBa.out hb)
      have HO2 : Hid (Kd.R (Kd.int .u8) 5 w2 w.heap.size (fun _ => True) vv (ones (l.take i))) := Lib.hid (Kd.R_below HOa.out hb)
      clear hb HIT HBa HOa CK
      generalize wr.heap.size = g at HIT2 HNe ⊢
      cases hm : may a with
      | false =>
        have hall : Hid (l.all may = false) := Lib.hid (by
          rw [List.all_eq_false]
          exact ⟨a, List.mem_of_getElem? HA.out, by rw [hm]; decide⟩)
        clear hm
        rw [show erOf false = 1 from rfl]
        go_wp2
        go_ret2
        refine ⟨_, by rw [hall.out]; rfl, ?_, HB2.out⟩
        rw [hall.out, if_neg (by decide)]
        exact GotB.nil _
      | true =>
        have hk := may_kind hm
        rw [show erOf true = 0 from rfl]
        have HM2 : Hid (∀ b ∈ l.take (i + 1), may b = true) := Lib.hid (by
          rw [HT.out]
          intro b hb
          rcases List.mem_append.1 hb with h | h
          · exact HM.out b h
          · rw [List.mem_singleton.1 h]; exact hm)
        by_cases h4 : a.k = 4
        · have hone : one a = bigs (Flt.val a.x : Int) 8 := by
            unfold one
            rw [if_neg (by omega), if_pos h4]
          rw [hone] at HN
          obtain ⟨s0, s1, s2, s3⟩ := HIT2.out
          rw [h4] at s0
          clear hone hk h4 hm
          go_wp2_with (first | (go_at_call 58; refine (Value_any _ _).mono ?_; rintro e w' ⟨rfl, rfl⟩) | (go_at_call 56; refine (number_any w _ vv _ (Flt.val a.x : Int) 8 (by omega) (by have := HLN.out; omega) HO2.out HB2.out).mono ?_; rintro e w3 ⟨v3, rfl, hR, hb⟩; have HO3 := Lib.hid hR; have HB3 := Lib.hid hb; clear hR hb))
          go_roundg (l.length - (i + 1))
          case measure => omega
          case rel => exact ⟨i + 1, _, by omega, rfl, rfl, by go_num, HM2, Lib.hid (by rw [HN.out]; exact HO3.out), HB3⟩
        by_cases h5 : a.k = 5
        · have hone : one a = (a.s.size : Int) :: bytesOf a.s := by
            unfold one
            rw [if_neg (by omega), if_neg (by omega)]
          rw [hone] at HN
          have hsz : a.s.size ≤ 255 := by
            obtain ⟨k, n, x, s⟩ := a
            simp only at h5
            subst h5
            rw [may_5] at hm
            simp only [Bool.and_eq_true, decide_eq_true_eq] at hm
            simp only
            omega
          have hwr : IntKind.u8.wrap (a.s.size : Int) = (a.s.size : Int) := by rw [IntKind.wrap_u8]; omega
          obtain ⟨s0, s1, s2, s3⟩ := HIT2.out
          rw [h5] at s0
          have z0 : (0 : Int) ≤ (a.s.size : Int) := Int.natCast_nonneg _
          have z1 : (a.s.size : Int) ≤ 255 := by omega
          clear hone hk h4 h5 hm
          go_wp2_with fail
          have HBo := Lib.hid (below_drew1 (Below.refl w2.heap.size w2))
          have HSx : Hid (∀ wx, Below w2.heap.size w2 wx → wx.cell? ⟨g, 3, none⟩ = some (.string a.s)) := Lib.hid (fun wx h => (HIT2.out.below h).2.2.2)
          have HG : Hid (g < w2.heap.size) := Lib.hid (World.block_lt_of_cell? w2 _ s3)
          clear s0 s1 s2 s3
          generalize a.s = sx at *
          refine start_ (n := 11) (S := fun wx => wx.cell? ⟨g, 3, none⟩ = some (.string sx)) (ds := [9]) #[false, false, false, false, false, false, false, false, false, false, false] (by kernel_rfl) rfl rfl (HSx.out _ HBo.out) (fun hHeld => ?_)
          refine with_tabW PutA13.tab PutA13.bits (fun HT_ HW_ => ?_)
          generalize w2.drew = wD at HBo hHeld ⊢
          refine pure_ (i := 0) (N := (some 39)) (v := ?_) (a' := ?_) #[true, false, false, false, false, false, false, false, false, false, false] rfl rfl (any_of HT_.out (by kernel_rfl)) (fun _ _ _ h => h) (Or.inl ⟨by rfl, ?_⟩) ?_ ?_
          rotate_left
          · intro w'
            go_simp
            with_reducible rfl
          rotate_left
          · simp only [Act.put, List.setIfInBounds_toArray, List.set_cons_zero, List.set_cons_succ, i64_w, i32_w]
            rfl
          refine pure_ (i := 1) (N := (some 40)) (v := ?_) (a' := ?_) #[true, true, false, false, false, false, false, false, false, false, false] rfl rfl (any_of HT_.out (by kernel_rfl)) (fun _ _ _ h => h) (Or.inl ⟨by rfl, ?_⟩) ?_ ?_
          rotate_left
          · intro w'
            go_simp
            with_reducible rfl
          rotate_left
          · simp only [Act.put, List.setIfInBounds_toArray, List.set_cons_zero, List.set_cons_succ, i64_w, i32_w]
            rfl
          refine take_ (i := 2) (N := (some 41)) (v := ?_) (a' := ?_) #[true, true, true, false, false, false, false, false, false, false, false] rfl rfl (take_ofW HT_.out HW_.out (by kernel_rfl)) (fun _ _ _ h => h) (Or.inl ⟨by rfl, ?_⟩) hHeld ?_ ?_
          rotate_left
          · rintro w' s3
            go_simp
            with_reducible rfl
          rotate_left
          · simp only [Act.put, List.setIfInBounds_toArray, List.set_cons_zero, List.set_cons_succ, i64_w, i32_w]
            rfl
          refine pure_ (i := 3) (N := (some 42)) (v := ?_) (a' := ?_) #[true, true, true, true, false, false, false, false, false, false, false] rfl rfl (any_of HT_.out (by kernel_rfl)) (fun _ _ _ h => h) (Or.inl ⟨by rfl, ?_⟩) ?_ ?_
          rotate_left
          · intro w'
            go_simp
            with_reducible rfl
          rotate_left
          · simp only [Act.put, List.setIfInBounds_toArray, List.set_cons_zero, List.set_cons_succ, i64_w, i32_w]
            rfl
          refine pure_ (i := 4) (N := (some 43)) (v := ?_) (a' := ?_) #[true, true, true, true, true, false, false, false, false, false, false] rfl rfl (any_of HT_.out (by kernel_rfl)) (fun _ _ _ h => h) (Or.inl ⟨by rfl, ?_⟩) ?_ ?_
          rotate_left
          · intro w'
            go_simp
            with_reducible rfl
          rotate_left
          · simp only [Act.put, List.setIfInBounds_toArray, List.set_cons_zero, List.set_cons_succ, i64_w, i32_w]
            rfl
          refine pure_ (i := 7) (N := (some 46)) (v := ?_) (a' := ?_) #[true, true, true, true, true, false, false, true, false, false, false] rfl rfl (any_of HT_.out (by kernel_rfl)) (fun _ _ _ h => h) (Or.inl ⟨by rfl, ?_⟩) ?_ ?_
          rotate_left
          · intro w'
            go_simp
            with_reducible rfl
          rotate_left
          · simp only [Act.put, List.setIfInBounds_toArray, List.set_cons_zero, List.set_cons_succ, i64_w, i32_w]
            rfl
          refine take_ (i := 8) (N := (some 47)) (v := ?_) (a' := ?_) #[true, true, true, true, true, false, false, true, true, false, false] rfl rfl (take_ofW HT_.out HW_.out (by kernel_rfl)) (fun _ _ _ h => h) (Or.inl ⟨by rfl, ?_⟩) hHeld ?_ ?_
          rotate_left
          · rintro w' s3
            go_simp
            with_reducible rfl
          rotate_left
          · simp only [Act.put, List.setIfInBounds_toArray, List.set_cons_zero, List.set_cons_succ, i64_w, i32_w]
            rfl
          refine one_ (i := 5) (N := (some 44)) #[true, true, true, true, true, true, false, true, true, false, false] rfl rfl (one_of HT_.out (by kernel_rfl)) (by decide) (fun K hK => ?_)
          refine value_ (w1 := ?_) (v := ?_) (by rfl) rfl ?_ ?_
          rotate_left 2
          · go_simp
            constructor
            · rfl
            · rfl
          refine hK.out _ _ (HSx.out _ (below_alloc HBo.out _)) (fun hHeld => ?_)
          clear hK K
          refine norm_ (a' := ?_) ?_ ?_
          rotate_left
          · show Act.put _ (some 44) _ = _
            simp only [Act.put, List.setIfInBounds_toArray, List.set_cons_zero, List.set_cons_succ, i64_w, i32_w]
            rfl
          refine one_ (i := 6) (N := (some 45)) #[true, true, true, true, true, true, true, true, true, false, false] rfl rfl (one_of HT_.out (by kernel_rfl)) (by decide) (fun K hK => ?_)
          refine Kd.R_append_step (Kd.int .u8) (w0 := w) w.heap.size (by rfl) (.tmp 39) (.tmp 44) 52 5 (.int .u8 0) 1 (by rfl) Try.underlying52 info8 rfl (by decide) (by omega) vv (ones (l.take i)) (sx.size : Int) [.int .u8 (sx.size : Int)] (fun _ => True) (fun _ => False) (by rfl) (by rfl) rfl (fun _ h => h.elim) (fun _ _ => trivial) (Kd.R_below HO2.out HBo.out) (below_step HB2.out HBo.out) (below_size (below_step HB2.out HBo.out)) (by have := HLN.out; omega) ?_
          intro v45 w45 ho hb hgr hat
          have HO45 := Lib.hid ho
          have HB45 := Lib.hid hb
          have hS45 : w45.cell? ⟨g, 3, none⟩ = some (.string sx) := (cell_heap (hgr.block g (Nat.lt_of_lt_of_le HG.out (below_size HBo.out)) (fun he => absurd (HNe.out g he.symm) (Nat.lt_irrefl _)))).trans (HSx.out _ HBo.out)
          clear ho hb hgr hat
          refine hK.out _ _ (hS45) (fun hHeld => ?_)
          clear hK K
          refine norm_ (a' := ?_) ?_ ?_
          rotate_left
          · show Act.put _ (some 45) _ = _
            simp only [Act.put, List.setIfInBounds_toArray, List.set_cons_zero, List.set_cons_succ, i64_w, i32_w]
            rfl
          refine last_ (i := 9) (N := (some 48)) #[true, true, true, true, true, true, true, true, true, true, false] rfl rfl (one_of HT_.out (by kernel_rfl)) (by decide) (fun K hK => ?_)
          refine step_str (w0 := w) w.heap.size (by rfl) (.tmp 45) (.tmp 47) 52 9 5 (by rfl) Try.underlying52 Try.underlying9 info8 v45 (ones (l.take i) ++ [(sx.size : Int)]) sx (by rfl) (by rfl) HO45.out HB45.out (below_size HB45.out) (by have := HLN.out; rw [List.length_append, List.length_singleton]; omega) ?_
          intro v48 w48 ho hb hgr
          have HO48 := Lib.hid ho
          have HB48 := Lib.hid hb
          clear ho hb hgr
          refine hK.out _ _ ?_
          clear hK K
          refine norm_ (a' := ?_) ?_ ?_
          rotate_left
          · show Act.put _ (some 48) _ = _
            simp only [Act.put, List.setIfInBounds_toArray, List.set_cons_zero, List.set_cons_succ, i64_w, i32_w]
            rfl
          refine pure_ (i := 10) (N := (some 4)) (v := ?_) (a' := ?_) #[true, true, true, true, true, true, true, true, true, true, true] rfl rfl (any_of HT_.out (by kernel_rfl)) (fun _ _ _ h => h) (Or.inl ⟨by rfl, ?_⟩) ?_ ?_
          rotate_left
          · intro w'
            go_simp
            with_reducible rfl
          rotate_left
          · simp only [Act.put, List.setIfInBounds_toArray, List.set_cons_zero, List.set_cons_succ, i64_w, i32_w]
            rfl
          refine done_ (done_of HT_.out (by kernel_rfl)) ?_
          go_wp2_with fail
          go_roundg (l.length - (i + 1))
          case measure => omega
          case rel => exact ⟨i + 1, _, by omega, rfl, rfl, by go_num, HM2, Lib.hid (by rw [HN.out, show ones (l.take i) ++ (sx.size : Int) :: bytesOf sx = ones (l.take i) ++ [(sx.size : Int)] ++ bytesOf sx by simp]; exact HO48.out), HB48⟩
        · have g4 : (a.k == 4) = false := by rw [beq_eq_false_iff_ne]; exact h4
          have g5 : (a.k == 5) = false := by rw [beq_eq_false_iff_ne]; exact h5
          obtain ⟨m, hm8, hwm, hone, z0, z1⟩ : ∃ m : Nat, m ≤ 8 ∧ wid a.k = (m : Int) ∧ one a = bigs a.n m ∧ 0 ≤ a.n ∧ a.n ≤ 2147483647 := by
            obtain ⟨k, n, x, s⟩ := a
            simp only at hk h4 h5
            have : k = 1 ∨ k = 2 ∨ k = 3 := by omega
            rcases this with rfl | rfl | rfl
            · rw [may_1] at hm
              simp only [Bool.and_eq_true, decide_eq_true_eq] at hm
              exact ⟨1, by omega, rfl, rfl, by simp only; omega, by simp only; omega⟩
            · rw [may_2] at hm
              simp only [Bool.and_eq_true, decide_eq_true_eq] at hm
              exact ⟨2, by omega, rfl, rfl, by simp only; omega, by simp only; omega⟩
            · rw [may_3] at hm
              simp only [Bool.and_eq_true, decide_eq_true_eq] at hm
              exact ⟨4, by omega, rfl, rfl, by simp only; omega, by simp only; omega⟩
          rw [hone] at HN
          have WD := Lib.hid (fun w => width_any a.k w)
          rw [hwm] at WD
          clear hm h4 h5 hk hwm hone
          obtain ⟨s0, s1, s2, s3⟩ := HIT2.out
          have hwr : IntKind.u64.wrap a.n = a.n := by rw [IntKind.wrap_u64]; omega
          go_wp2_with fail
          clear s0 s1 s2 s3
          have HBo := Lib.hid (below_drew1 (Below.refl w2.heap.size w2))
          have HSx : Hid (∀ wx, Below w2.heap.size w2 wx → HasIt wx g a) := Lib.hid (fun wx h => HIT2.out.below h)
          refine start_ (n := 9) (S := fun wx => HasIt wx g a) (ds := [7]) #[false, false, false, false, false, false, false, false, false] (by kernel_rfl) rfl rfl (HSx.out _ HBo.out) (fun hHeld => ?_)
          refine with_tabW PutA9.tab PutA9.bits (fun HT_ HW_ => ?_)
          generalize w2.drew = wD at HBo hHeld ⊢
          refine pure_ (i := 0) (N := (some 21)) (v := ?_) (a' := ?_) #[true, false, false, false, false, false, false, false, false] rfl rfl (any_of HT_.out (by kernel_rfl)) (fun _ _ _ h => h) (Or.inl ⟨by rfl, ?_⟩) ?_ ?_
          rotate_left
          · intro w'
            go_simp
            with_reducible rfl
          rotate_left
          · simp only [Act.put, List.setIfInBounds_toArray, List.set_cons_zero, List.set_cons_succ, i64_w, i32_w]
            rfl
          refine pure_ (i := 1) (N := (some 22)) (v := ?_) (a' := ?_) #[true, true, false, false, false, false, false, false, false] rfl rfl (any_of HT_.out (by kernel_rfl)) (fun _ _ _ h => h) (Or.inl ⟨by rfl, ?_⟩) ?_ ?_
          rotate_left
          · intro w'
            go_simp
            with_reducible rfl
          rotate_left
          · simp only [Act.put, List.setIfInBounds_toArray, List.set_cons_zero, List.set_cons_succ, i64_w, i32_w]
            rfl
          refine take_ (i := 2) (N := (some 23)) (v := ?_) (a' := ?_) #[true, true, true, false, false, false, false, false, false] rfl rfl (take_ofW HT_.out HW_.out (by kernel_rfl)) (fun _ _ _ h => h) (Or.inl ⟨by rfl, ?_⟩) hHeld ?_ ?_
          rotate_left
          · rintro w' ⟨s0, s1, s2, s3⟩
            go_simp
            with_reducible rfl
          rotate_left
          · simp only [Act.put, List.setIfInBounds_toArray, List.set_cons_zero, List.set_cons_succ, i64_w, i32_w]
            rfl
          refine pure_ (i := 3) (N := (some 24)) (v := ?_) (a' := ?_) #[true, true, true, true, false, false, false, false, false] rfl rfl (any_of HT_.out (by kernel_rfl)) (fun _ _ _ h => h) (Or.inl ⟨by rfl, ?_⟩) ?_ ?_
          rotate_left
          · intro w'
            go_simp
            with_reducible rfl
          rotate_left
          · simp only [Act.put, List.setIfInBounds_toArray, List.set_cons_zero, List.set_cons_succ, i64_w, i32_w]
            rfl
          refine pure_ (i := 4) (N := (some 25)) (v := ?_) (a' := ?_) #[true, true, true, true, true, false, false, false, false] rfl rfl (any_of HT_.out (by kernel_rfl)) (fun _ _ _ h => h) (Or.inl ⟨by rfl, ?_⟩) ?_ ?_
          rotate_left
          · intro w'
            go_simp
            with_reducible rfl
          rotate_left
          · simp only [Act.put, List.setIfInBounds_toArray, List.set_cons_zero, List.set_cons_succ, i64_w, i32_w]
            rfl
          refine take_ (i := 5) (N := (some 26)) (v := ?_) (a' := ?_) #[true, true, true, true, true, true, false, false, false] rfl rfl (take_ofW HT_.out HW_.out (by kernel_rfl)) (fun _ _ _ h => h) (Or.inl ⟨by rfl, ?_⟩) hHeld ?_ ?_
          rotate_left
          · rintro w' ⟨s0, s1, s2, s3⟩
            go_simp
            with_reducible rfl
          rotate_left
          · simp only [Act.put, List.setIfInBounds_toArray, List.set_cons_zero, List.set_cons_succ, i64_w, i32_w]
            rfl
          refine one_ (i := 6) (N := (some 27)) #[true, true, true, true, true, true, true, false, false] rfl rfl (one_of HT_.out (by kernel_rfl)) (by decide) (fun K hK => ?_)
          refine goes_ Try.func59 (by kernel_rfl) rfl #[.int .i64 a.k] (by rfl) rfl rfl (by (try simp only [List.map_toArray, List.map_cons, List.map_nil]); first | done | rfl) ?_
          refine (WD.out _).mono ?_
          rintro e w' ⟨rfl, rfl⟩
          refine ⟨_, rfl, ?_⟩
          refine hK.out _ _ (HSx.out _ HBo.out) (fun hHeld => ?_)
          clear hK K
          refine norm_ (a' := ?_) ?_ ?_
          rotate_left
          · show Act.put _ (some 27) _ = _
            simp only [Act.put, List.setIfInBounds_toArray, List.set_cons_zero, List.set_cons_succ, i64_w, i32_w]
            rfl
          refine last_ (i := 7) (N := (some 28)) #[true, true, true, true, true, true, true, true, false] rfl rfl (one_of HT_.out (by kernel_rfl)) (by decide) (fun K hK => ?_)
          refine goes_ Try.func56 (by kernel_rfl) rfl #[vv, .int .u64 a.n, .int .i64 (m : Int)] (by rfl) rfl rfl (by (try simp only [List.map_toArray, List.map_cons, List.map_nil]); first | done | rfl) ?_
          refine (number_any w _ vv _ a.n m hm8 (by have := HLN.out; omega) (Kd.R_below HO2.out HBo.out) (below_step HB2.out HBo.out)).mono ?_
          rintro e w3 ⟨vn, rfl, hR, hb'⟩
          refine ⟨_, rfl, ?_⟩
          have HO3 := Lib.hid hR
          have HB3 := Lib.hid hb'
          clear hR hb'
          refine hK.out _ _ ?_
          clear hK K
          refine norm_ (a' := ?_) ?_ ?_
          rotate_left
          · show Act.put _ (some 28) _ = _
            simp only [Act.put, List.setIfInBounds_toArray, List.set_cons_zero, List.set_cons_succ, i64_w, i32_w]
            rfl
          refine pure_ (i := 8) (N := (some 4)) (v := ?_) (a' := ?_) #[true, true, true, true, true, true, true, true, true] rfl rfl (any_of HT_.out (by kernel_rfl)) (fun _ _ _ h => h) (Or.inl ⟨by rfl, ?_⟩) ?_ ?_
          rotate_left
          · intro w'
            go_simp
            with_reducible rfl
          rotate_left
          · simp only [Act.put, List.setIfInBounds_toArray, List.set_cons_zero, List.set_cons_succ, i64_w, i32_w]
            rfl
          refine done_ (done_of HT_.out (by kernel_rfl)) ?_
          go_wp2_with fail
          go_roundg (l.length - (i + 1))
          case measure => omega
          case rel => exact ⟨i + 1, _, by omega, rfl, rfl, by go_num, HM2, Lib.hid (by rw [HN.out]; exact HO3.out), HB3⟩
    · have hd : decide (i < l.length) = false := decide_eq_false hlt
      obtain rfl : l.length = i := by omega
      go_wp2
      go_ret2
      have hall : l.all may = true := by
        rw [List.all_eq_true]
        intro a ha
        exact HM.out a (by rw [List.take_length]; exact ha)
      refine ⟨_, by rw [hall]; rfl, ?_, HB.out⟩
      rw [if_pos hall]
      have h := GotB.of_R HO.out
      rw [List.take_length] at h
      exact h
end Go.Proofs.Ytbmcbhpkefjhbaa.Pac
