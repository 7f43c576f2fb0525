/- Layer 3: the reference's Put and List. -/
import Derived.Test.YtbmcbhpkefjhbaaPacPut
set_option linter.unusedVariables false
set_option linter.unusedSimpArgs false
namespace Go.Proofs.Ytbmcbhpkefjhbaa.Pac
open Go.RowKit Go.Proofs.Ytbmcbhpkefjhbaa Go.Proofs.Ytbmcbhpkefjhbaa.Mem Go.Proofs.YtbmcbhpkefjhbaaW.PrintWords Go.Proofs.YtbmcbhpkefjhbaaW.PrintLast Go.Proofs.YtbmcbhpkefjhbaaW.PrintMore
def RPutPost (l : List It) (w : World) (e : Ending) (w' : World) : Prop := ∃ v, e = .returned (.tuple #[v, .bool (l.all may)]) ∧ GotB w' v (if l.all may = true then ones l else []) ∧ Below w.heap.size w w'
set_option maxRecDepth 100000 in
set_option maxHeartbeats 1000000 in
theorem rPut_any (A : Option Addr) (c : Nat) (l : List It) (w : World) (hr : RdT w A l) (hl : l.length ≤ 1000) : Calls Try.prog 28 #[.slice A l.length c] w fun e w' => RPutPost l w e w' := by
  have HB := Lib.hid (Below.refl w.heap.size w)
  have HR := Lib.hid hr
  clear hr
  go_enter Try.func28, Try.ntmps28
  go_wp2_with (first | ((with_reducible refine gate_dst (N := 6) rfl ?_); refine Kd.R_lit (Kd.int .u8) _ 5 ?hg (N := 6) ?hd (xs := ([] : List Int)) (inner := []) (ok := fun _ => True) (okp := fun _ => True) ?hr ?hp (fun _ hk => hk) trivial (Below.refl _ _) (Nat.le_refl _) (by simp) ?_; (case hd => rfl); (case hg => rfl); (case hr => first | (go_simp; done) | (go_simp; rfl)); (case hp => exact Reps.none _ _); intro v6 w6 ho hb hg_ hnew_; clear hg_ hnew_; have HO6 := Lib.hid (Kd.R_lower ho (below_size (by repeat (first | (with_reducible first | exact HB.out | apply below_alloc | apply pw_below_drewN | apply below_drew1) | exact HB.out)))); have HB := Lib.hid (below_step (by repeat (first | (with_reducible first | exact HB.out | apply below_alloc | apply pw_below_drewN | apply below_drew1) | exact HB.out)) hb); clear ho hb))
  go_loopg [4, 5] l.length (fun k v4 v5 wr => ∃ (i : Nat) (vv : Value), i ≤ l.length ∧ k = l.length - i ∧ vv = v4 ∧ v5 = .int .i64 (i : Int) ∧ Hid (∀ a ∈ l.take i, may a = true) ∧ Hid (Kd.R (Kd.int .u8) 5 wr w.heap.size (fun _ => True) v4 (ones (l.take i))) ∧ Hid (Below w.heap.size w wr))
  case atStart => exact ⟨0, _, Nat.zero_le _, rfl, rfl, rfl, Lib.hid (fun a ha => by cases ha), HO6, HB⟩
  case round =>
    clear HB HO6
    obtain ⟨i, vv, hi, rfl, rfl, rfl, HM, HO, HB⟩ := hrel
    have i0 : (0 : Int) ≤ (i : Int) := Int.natCast_nonneg _
    by_cases hlt : i < l.length
    · have hd : decide (i < l.length) = true := decide_eq_true hlt
      have i1 : (i : Int) < (l.length : Int) := by omega
      obtain ⟨a, ha⟩ : ∃ a, l[i]? = some a := ⟨_, List.getElem?_eq_getElem hlt⟩
      obtain ⟨ad, rfl, hat, hax⟩ := HR.out i a ha
      obtain ⟨x0, x1, x2, x3⟩ := hat.below HB.out
      have HT := Lib.hid (take_snoc_it ha)
      have HN := Lib.hid (ones_next ha)
      have HA := Lib.hid ha
      have HLN : Hid ((ones (l.take i)).length ≤ 256000) := Lib.hid (by
        have := ones_length HM.out
        rw [List.length_take] at this
        omega)
      have MY := Lib.hid (fun w => May_any a w)
      have HAX := Lib.hid hax
      have HAT := Lib.hid hat
      clear ha hat hax
      go_wp2_with fail
      refine (MY.out wr).mono ?_
      rintro e w2 ⟨rfl, hb⟩
      have HB2 : Hid (Below w.heap.size w w2) := Lib.hid (below_step HB.out hb)
      have HO2 : Hid (Kd.R (Kd.int .u8) 5 w2 w.heap.size (fun _ => True) vv (ones (l.take i))) := Lib.hid (Kd.R_below HO.out hb)
      clear hb MY x0 x1 x2 x3 HB HO
      have HB := HB2
      clear HB2
      cases hm : may a with
      | false =>
        have hall : Hid (l.all may = false) := Lib.hid (by
          rw [List.all_eq_false]
          exact ⟨a, List.mem_of_getElem? HA.out, by rw [hm]; decide⟩)
        clear hm
        go_wp2
        go_ret2
        refine ⟨_, by rw [hall.out]; rfl, ?_, HB.out⟩
        rw [hall.out, if_neg (by decide)]
        exact GotB.nil _
      | true =>
        have HM2 : Hid (∀ b ∈ l.take (i + 1), may b = true) := Lib.hid (by
          rw [HT.out]
          intro b hb
          rcases List.mem_append.1 hb with h | h
          · exact HM.out b h
          · rw [List.mem_singleton.1 h]; exact hm)
        have HL1 := Lib.hid (one_length hm)
        have ON := Lib.hid (fun w => One_any a w hm HAX.out)
        obtain ⟨x0, x1, x2, x3⟩ := HAT.out.below HB.out
        clear hm
        go_wp2_with (first | (go_at_call 60; refine (ON.out _).mono ?_; rintro e w3 ⟨v3, rfl, hR, hb⟩; obtain ⟨A3, c3, rfl, hc3, hr3⟩ := Kd.R_reads hR; have HR3 := Lib.hid hr3; have HO3 := Lib.hid (Kd.R_below HO2.out hb); have HB := Lib.hid (below_step HB.out hb); clear hR hb hr3) | ((with_reducible refine gate_builtin (b := .append) (xs := #[.tmp 19, .tmp 24]) rfl ?_); at_builtin; refine Kd.R_append_rows (Kd.int .u8) (w0 := w) w.heap.size rfl (.tmp 19) (.tmp 24) 52 5 (.int .u8 0) 1 rfl Try.underlying52 info8 rfl (by decide) (by omega) vv (ones (l.take i)) (one a) _ _ _ (fun _ => True) (fun _ => False) rfl rfl (by (with_reducible repeat (first | apply Kd.R_alloc | apply Kd.R_drewN | apply Kd.R_drew)); exact HO3.out) HR3.out (fun _ _ h => h) (fun _ h => h.elim) (fun _ _ => trivial) (by repeat (first | (with_reducible first | exact HB.out | apply below_alloc | apply pw_below_drewN | apply below_drew1) | exact HB.out)) (below_size (by repeat (first | (with_reducible first | exact HB.out | apply below_alloc | apply pw_below_drewN | apply below_drew1) | exact HB.out))) ?aL ?_; (case aL => have := HLN.out; have := HL1.out; omega); intro v25 w25 ho hb hg hat; clear hg hat; skip; have HO25 := Lib.hid ho; have HB := Lib.hid hb; clear ho hb))
        go_roundg (l.length - (i + 1))
        case measure => omega
        case rel => exact ⟨i + 1, _, by omega, rfl, rfl, by go_num, HM2, Lib.hid (by rw [HN.out]; exact HO25.out), HB⟩
    · have hd : decide (i < l.length) = false := decide_eq_false hlt
      obtain rfl : l.length = i := by omega
      go_wp2
      go_ret2
      have hall : l.all may = true := by
        rw [List.all_eq_true]
        intro a ha
        exact HM.out a (by rw [List.take_length]; exact ha)
      refine ⟨_, by rw [hall]; rfl, ?_, HB.out⟩
      rw [if_pos hall]
      have h := GotB.of_R HO.out
      rw [List.take_length] at h
      exact h
/-- lists alike: as the reference finds it -/
def alike : List It → List It → Bool
  | [], [] => true
  | a :: l, b :: m => same a b && alike l m
  | _, _ => false
theorem alike_iff {l m : List It} : alike l m = true ↔ l.length = m.length ∧ ∀ (j : Nat) (a b : It), l[j]? = some a → m[j]? = some b → same a b = true := by
  induction l generalizing m with
  | nil =>
    cases m with
    | nil => simp [alike]
    | cons b m => simp [alike]
  | cons a l ih =>
    cases m with
    | nil => simp [alike]
    | cons b m =>
      rw [show alike (a :: l) (b :: m) = (same a b && alike l m) from rfl, Bool.and_eq_true, ih]
      constructor
      · rintro ⟨h1, h2, h3⟩
        refine ⟨by simp [h2], fun j x y hx hy => ?_⟩
        cases j with
        | zero => simp at hx hy; subst hx hy; exact h1
        | succ j => simp at hx hy; exact h3 j x y hx hy
      · rintro ⟨h1, h2⟩
        refine ⟨h2 0 a b rfl rfl, by simpa using h1, fun j x y hx hy => h2 (j + 1) x y (by simpa using hx) (by simpa using hy)⟩
def List6.T : Bool × List (List Nat × List Nat) := (true, [([], []), ([], []), ([0, 1], [0, 1]), ([2], [2]), ([], []), ([], []), ([4, 5], [4, 5]), ([6], [6]), ([3, 7], [3, 7]), ([8], [8])])
def List6.B : List Nat := [0, 0, 3, 7, 0, 0, 48, 112, 255, 511]
theorem List6.tab : rtab .any (opsOf Try.f34 6) = List6.T := by kernel_rfl
theorem List6.bits : waitsOk List6.T.2 List6.B = true := by kernel_rfl
set_option maxRecDepth 100000 in
set_option maxHeartbeats 1000000 in
theorem List_any (A : Option Addr) (c : Nat) (l : List It) (B : Option Addr) (d : Nat) (m : List It) (w : World) (hr : RdT w A l) (hm : RdT w B m) (hl : l.length ≤ 1000000) (hml : m.length ≤ 1000000) :
    Calls Try.prog 34 #[.slice A l.length c, .slice B m.length d] w fun e w' => e = .returned (.bool (alike l m)) ∧ Below w.heap.size w w' := by
  have HB := Lib.hid (Below.refl w.heap.size w)
  have HR := Lib.hid hr
  have HM := Lib.hid hm
  clear hr hm
  have l0 : (0 : Int) ≤ (l.length : Int) := Int.natCast_nonneg _
  have m0 : (0 : Int) ≤ (m.length : Int) := Int.natCast_nonneg _
  by_cases hlm : l.length = m.length
  · have e1 : (l.length != m.length) = false := by rw [bne_eq_false_iff_eq]; exact hlm
    have e2 : ((l.length : Int) != (m.length : Int)) = false := by rw [bne_eq_false_iff_eq]; omega
    have HLM := Lib.hid hlm
    clear hlm
    go_enter Try.func34, Try.ntmps34
    go_wp2
    go_loopg [5] l.length (fun k v5 wr => ∃ (i : Nat), i ≤ l.length ∧ k = l.length - i ∧ v5 = .int .i64 (i : Int) ∧ Hid (∀ (j : Nat) (a b : It), j < i → l[j]? = some a → m[j]? = some b → same a b = true) ∧ Hid (Below w.heap.size w wr))
    case atStart => exact ⟨0, Nat.zero_le _, rfl, rfl, Lib.hid (fun j a b h => absurd h (Nat.not_lt_zero _)), HB⟩
    case round =>
      clear HB
      obtain ⟨i, hi, rfl, rfl, HS, HB⟩ := hrel
      have i0 : (0 : Int) ≤ (i : Int) := Int.natCast_nonneg _
      by_cases hlt : i < l.length
      · have hd : decide (i < l.length) = true := decide_eq_true hlt
        have i1 : (i : Int) < (l.length : Int) := by omega
        have i2 : (i : Int) < (m.length : Int) := by have := HLM.out; omega
        obtain ⟨a, ha⟩ : ∃ a, l[i]? = some a := ⟨_, List.getElem?_eq_getElem hlt⟩
        obtain ⟨b, hb⟩ : ∃ b, m[i]? = some b := ⟨_, List.getElem?_eq_getElem (by have := HLM.out; omega)⟩
        obtain ⟨ad, rfl, hat, _⟩ := HR.out i a ha
        obtain ⟨bd, rfl, hbt, _⟩ := HM.out i b hb
        have HAT := Lib.hid (hat.below HB.out)
        have HBT := Lib.hid (hbt.below HB.out)
        have HA := Lib.hid ha
        have HBb := Lib.hid hb
        have SM := Lib.hid (fun w => rSame_it a b w)
        clear ha hb hat hbt
        go_wp2
        have HBo := Lib.hid (below_drew1 (Below.refl wr.heap.size wr))
        have HSx : Hid (∀ wx, Below wr.heap.size wr wx → ItAt wx (ad.add (i * 4)) a ∧ ItAt wx (bd.add (i * 4)) b) := Lib.hid (fun wx h => ⟨HAT.out.below h, HBT.out.below h⟩)
        generalize hq : same a b = q at SM
        have HQ := Lib.hid hq
        clear hq
        refine start_ (n := 10) (S := fun wx => ItAt wx (ad.add (i * 4)) a ∧ ItAt wx (bd.add (i * 4)) b) (ds := []) #[false, false, false, false, false, false, false, false, false, false] (by kernel_rfl) rfl rfl (HSx.out _ HBo.out) (fun hHeld => ?_)
        refine with_tabW List6.tab List6.bits (fun HT_ HW_ => ?_)
        generalize wr.drew = wD at HBo hHeld ⊢
        refine pure_ (i := 0) (N := (some 17)) (v := ?_) (a' := ?_) #[true, false, false, false, false, false, false, false, false, false] rfl rfl (any_of HT_.out (by kernel_rfl)) (fun _ _ _ h => h) (Or.inl ⟨by rfl, ?_⟩) ?_ ?_
        rotate_left
        · intro w'
          go_simp
          with_reducible rfl
        rotate_left
        · simp only [Act.put, List.setIfInBounds_toArray, List.set_cons_zero, List.set_cons_succ, i64_w, i32_w]
          rfl
        refine pure_ (i := 1) (N := (some 18)) (v := ?_) (a' := ?_) #[true, true, false, false, false, false, false, false, false, false] rfl rfl (any_of HT_.out (by kernel_rfl)) (fun _ _ _ h => h) (Or.inl ⟨by rfl, ?_⟩) ?_ ?_
        rotate_left
        · intro w'
          go_simp
          with_reducible rfl
        rotate_left
        · simp only [Act.put, List.setIfInBounds_toArray, List.set_cons_zero, List.set_cons_succ, i64_w, i32_w]
          rfl
        refine pure_ (i := 2) (N := (some 19)) (v := ?_) (a' := ?_) #[true, true, true, false, false, false, false, false, false, false] rfl rfl (any_of HT_.out (by kernel_rfl)) (fun _ _ _ h => h) (Or.inl ⟨by rfl, ?_⟩) ?_ ?_
        rotate_left
        · intro w'
          go_simp
          with_reducible rfl
        rotate_left
        · simp only [Act.put, List.setIfInBounds_toArray, List.set_cons_zero, List.set_cons_succ, i64_w, i32_w]
          rfl
        refine take_ (i := 3) (N := (some 20)) (v := ?_) (a' := ?_) #[true, true, true, true, false, false, false, false, false, false] rfl rfl (take_ofW HT_.out HW_.out (by kernel_rfl)) (fun _ _ _ h => h) (Or.inl ⟨by rfl, ?_⟩) hHeld ?_ ?_
        rotate_left
        · rintro w' ⟨⟨s0, s1, s2, s3⟩, s4, s5, s6, s7⟩
          go_simp
          with_reducible rfl
        rotate_left
        · simp only [Act.put, List.setIfInBounds_toArray, List.set_cons_zero, List.set_cons_succ, i64_w, i32_w]
          rfl
        refine pure_ (i := 4) (N := (some 21)) (v := ?_) (a' := ?_) #[true, true, true, true, true, false, false, false, false, false] rfl rfl (any_of HT_.out (by kernel_rfl)) (fun _ _ _ h => h) (Or.inl ⟨by rfl, ?_⟩) ?_ ?_
        rotate_left
        · intro w'
          go_simp
          with_reducible rfl
        rotate_left
        · simp only [Act.put, List.setIfInBounds_toArray, List.set_cons_zero, List.set_cons_succ, i64_w, i32_w]
          rfl
        refine pure_ (i := 5) (N := (some 22)) (v := ?_) (a' := ?_) #[true, true, true, true, true, true, false, false, false, false] rfl rfl (any_of HT_.out (by kernel_rfl)) (fun _ _ _ h => h) (Or.inl ⟨by rfl, ?_⟩) ?_ ?_
        rotate_left
        · intro w'
          go_simp
          with_reducible rfl
        rotate_left
        · simp only [Act.put, List.setIfInBounds_toArray, List.set_cons_zero, List.set_cons_succ, i64_w, i32_w]
          rfl
        refine pure_ (i := 6) (N := (some 23)) (v := ?_) (a' := ?_) #[true, true, true, true, true, true, true, false, false, false] rfl rfl (any_of HT_.out (by kernel_rfl)) (fun _ _ _ h => h) (Or.inl ⟨by rfl, ?_⟩) ?_ ?_
        rotate_left
        · intro w'
          go_simp
          with_reducible rfl
        rotate_left
        · simp only [Act.put, List.setIfInBounds_toArray, List.set_cons_zero, List.set_cons_succ, i64_w, i32_w]
          rfl
        refine take_ (i := 7) (N := (some 24)) (v := ?_) (a' := ?_) #[true, true, true, true, true, true, true, true, false, false] rfl rfl (take_ofW HT_.out HW_.out (by kernel_rfl)) (fun _ _ _ h => h) (Or.inl ⟨by rfl, ?_⟩) hHeld ?_ ?_
        rotate_left
        · rintro w' ⟨⟨s0, s1, s2, s3⟩, s4, s5, s6, s7⟩
          go_simp
          with_reducible rfl
        rotate_left
        · simp only [Act.put, List.setIfInBounds_toArray, List.set_cons_zero, List.set_cons_succ, i64_w, i32_w]
          rfl
        refine one_ (i := 8) (N := (some 25)) #[true, true, true, true, true, true, true, true, true, false] rfl rfl (one_of HT_.out (by kernel_rfl)) (by decide) (fun K hK => ?_)
        refine goes_ Try.func24 (by kernel_rfl) rfl #[a.v, b.v] (by rfl) rfl rfl (by (try simp only [List.map_toArray, List.map_cons, List.map_nil]); first | done | rfl) ?_
        refine (SM.out _).mono ?_
        rintro e w' ⟨rfl, hb'⟩
        refine ⟨_, rfl, ?_⟩
        have HBo := Lib.hid (below_step HBo.out hb')
        clear hb'
        refine hK.out _ _ (HSx.out _ HBo.out) (fun hHeld => ?_)
        clear hK K
        refine norm_ (a' := ?_) ?_ ?_
        rotate_left
        · show Act.put _ (some 25) _ = _
          simp only [Act.put, List.setIfInBounds_toArray, List.set_cons_zero, List.set_cons_succ, i64_w, i32_w]
          rfl
        refine pure_ (i := 9) (N := (some 26)) (v := ?_) (a' := ?_) #[true, true, true, true, true, true, true, true, true, true] rfl rfl (any_of HT_.out (by kernel_rfl)) (fun _ _ _ h => h) (Or.inl ⟨by rfl, ?_⟩) ?_ ?_
        rotate_left
        · intro w'
          go_simp
          with_reducible rfl
        rotate_left
        · simp only [Act.put, List.setIfInBounds_toArray, List.set_cons_zero, List.set_cons_succ, i64_w, i32_w]
          rfl
        refine done_ (done_of HT_.out (by kernel_rfl)) ?_
        have HB2 := Lib.hid (below_step HB.out HBo.out)
        cases q with
        | false =>
          have hf : Hid (alike l m = false) := Lib.hid (by
            rw [Bool.eq_false_iff]
            intro h
            have := (alike_iff.1 h).2 i a b HA.out HBb.out
            rw [HQ.out] at this
            cases this)
          go_wp2
          go_ret
          exact ⟨by rw [hf.out]; rfl, HB2.out⟩
        | true =>
          go_wp2
          go_roundg (l.length - (i + 1))
          case measure => omega
          case rel =>
            refine ⟨i + 1, by omega, rfl, by go_num, Lib.hid (fun j x y hj hx hy => ?_), HB2⟩
            by_cases e : j = i
            · subst e
              have h1 := hx.symm.trans HA.out
              have h2 := hy.symm.trans HBb.out
              injection h1 with h1
              injection h2 with h2
              rw [h1, h2]; exact HQ.out
            · exact HS.out j x y (by omega) hx hy
      · have hd : decide (i < l.length) = false := decide_eq_false hlt
        obtain rfl : l.length = i := by omega
        have ht : Hid (alike l m = true) := Lib.hid (alike_iff.2 ⟨HLM.out, fun j a b ha hb => HS.out j a b (List.getElem?_eq_some_iff.1 ha).1 ha hb⟩)
        go_wp2
        go_ret
        exact ⟨by rw [ht.out]; rfl, HB.out⟩
  · have e1 : (l.length != m.length) = true := by rw [bne_iff_ne]; exact hlm
    have e2 : ((l.length : Int) != (m.length : Int)) = true := by rw [bne_iff_ne]; omega
    have hf : alike l m = false := by
      rw [Bool.eq_false_iff]
      intro h
      exact hlm (alike_iff.1 h).1
    rw [hf]
    clear hlm hf
    go_enter Try.func34, Try.ntmps34
    go_wp2
    go_ret
    exact ⟨rfl, HB.out⟩
end Go.Proofs.Ytbmcbhpkefjhbaa.Pac
