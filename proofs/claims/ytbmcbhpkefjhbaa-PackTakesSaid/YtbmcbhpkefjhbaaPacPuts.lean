/- The walk of PackPuts. -/
import Derived.Test.YtbmcbhpkefjhbaaPacPl
set_option linter.unusedVariables false
set_option linter.unusedSimpArgs false
namespace Go.Proofs.Ytbmcbhpkefjhbaa.Pac
open Go.RowKit Go.Proofs.Ytbmcbhpkefjhbaa Go.Proofs.Ytbmcbhpkefjhbaa.Mem Go.Proofs.YtbmcbhpkefjhbaaW.PrintWords Go.Proofs.YtbmcbhpkefjhbaaW.PrintLast Go.Proofs.YtbmcbhpkefjhbaaW.PrintMore
theorem info64 : (Try.prog.info? 3).map (fun i => (i.zero, i.size, i.bytes)) = some (some (.int .i64 0), 1, 8) := by kernel_rfl
theorem RdT.to_C {w : World} {A : Option Addr} {l : List It} (h : RdT w A l) (hl : l.length ≤ 9223372036854775807) : Kd.C Kt w A l.length l := by
  refine ⟨rfl, hl, fun hp => ?_⟩
  obtain ⟨a, ha⟩ : ∃ a, l[0]? = some a := ⟨_, List.getElem?_eq_getElem hp⟩
  obtain ⟨ad, e, _, _⟩ := h 0 a ha
  refine ⟨ad, e, fun j p hj => ?_⟩
  obtain ⟨ad', e', ⟨h0, h1, h2, h3⟩, _⟩ := h j p hj
  rw [e] at e'
  injection e' with e'
  subst e'
  refine ⟨p.cs, rfl, rfl, fun i u hi => ?_⟩
  rw [show Kt.sz = 4 from rfl]
  have hcs : i = 0 ∨ i = 1 ∨ i = 2 ∨ i = 3 := by
    have := (List.getElem?_eq_some_iff.1 hi).1
    have e4 : (It.cs p).length = 4 := rfl
    omega
  rcases hcs with rfl | rfl | rfl | rfl
  · injection hi with hi; subst hi; exact h0
  · injection hi with hi; subst hi; rw [add4 _ _ _ (by omega)]; exact h1
  · injection hi with hi; subst hi; rw [add4 _ _ _ (by omega)]; exact h2
  · injection hi with hi; subst hi; rw [add4 _ _ _ (by omega)]; exact h3
theorem RdT.x {w : World} {A : Option Addr} {l : List It} (h : RdT w A l) : ∀ a ∈ l, a.x < 18446744073709551616 := by
  intro a ha
  obtain ⟨j, hj⟩ := List.mem_iff_getElem?.1 ha
  obtain ⟨_, _, _, h⟩ := h j a hj
  exact h
/-- two rows apart -/
def Apart (v u : Value) : Prop := ∀ k, v.ownBlock = some k → u.ownBlock ≠ some k
theorem Apart.symm {v u : Value} (h : Apart v u) : Apart u v := fun k hk he => h k he hk
theorem Apart.step {v u v1 : Value} {n : Nat} (h : Apart v u) (hat : v1.ownBlock = v.ownBlock ∨ ∃ b, v1.ownBlock = some b ∧ n ≤ b) (hlt : ∀ k, u.ownBlock = some k → k < n) : Apart v1 u := by
  intro k hk he
  rcases hat with e | ⟨b, e, hb⟩
  · rw [e] at hk; exact h k hk he
  · rw [e] at hk
    injection hk with hk
    have := hlt k he
    omega
theorem er_eq (m : Bool) : (erOf m == 0) = m := by cases m <;> rfl
theorem map_snoc {β : Type} {l : List It} {i : Nat} {a : It} (f : It → β) (h : l[i]? = some a) : (l.take (i + 1)).map f = (l.take i).map f ++ [f a] := by
  rw [take_snoc_it h, List.map_append]; rfl
def Puts10.T : Bool × List (List Nat × List Nat) := (true, [([], []), ([], []), ([0, 1], [0, 1]), ([2], [2]), ([3], [3]), ([4], [4]), ([], []), ([], []), ([6, 7], [6, 7]), ([8], [8]), ([9, 4], [9]), ([5, 10], [5, 10])])
def Puts10.B : List Nat := [0, 0, 3, 7, 15, 31, 0, 0, 192, 448, 991, 2047]
theorem Puts10.tab : rtab .any (opsOf Try.f8 10) = Puts10.T := by kernel_rfl
theorem Puts10.bits : waitsOk Puts10.T.2 Puts10.B = true := by kernel_rfl
set_option maxRecDepth 100000 in
set_option maxHeartbeats 2000000 in
theorem PackPuts_any (A : Option Addr) (c : Nat) (l : List It) (w : World) (hr : RdT w A l) : Calls Try.prog 8 #[.slice A l.length c] w fun e w' => e = .returned (.bool true) ∧ Below w.heap.size w w' := by
  have HB := Lib.hid (Below.refl w.heap.size w)
  have LT := Lib.hid (light_any A c l w hr)
  have AW := fun w => Lib.hid (awake_any w)
  have HR := Lib.hid hr
  have HX := Lib.hid hr.x
  clear hr
  have hsf : ∀ (a : Addr) (n : Nat) (w : World), (store a (.float .f64 n)).run Try.prog w = stored Try.prog w a (.float .f64 n) .plain := fun a n w => run_store _ w a _ _ rfl
  go_enter Try.func8, Try.ntmps8
  go_wp2_with fail
  refine LT.out.mono ?_
  rintro e w0 ⟨q, rfl, hq, rfl⟩
  cases q with
  | false =>
    clear hq LT
    go_wp2_with (first | (go_at_call 25; refine ((AW _).out).mono ?_; rintro e w' ⟨rfl, hb⟩; have HB := Lib.hid (below_step (by repeat (first | (with_reducible first | exact HB.out | apply below_alloc | apply pw_below_drewN | apply below_drew1) | exact HB.out)) hb); clear hb))
    go_ret
    exact ⟨rfl, HB.out⟩
  | true =>
    have hl60 := hq rfl
    have HC := Lib.hid (HR.out.to_C (by omega))
    clear hq LT
    have HOK := Lib.hid (show ∀ a ∈ l, l.all may = true → may a = true from fun a ha h => (List.all_eq_true.1 h) a ha)
    have HLL : Hid (l.length ≤ 1000) := Lib.hid (by omega)
    have HTR : Hid (l.all may = true → takeR (ones l) (l.map (·.k)) = (l.map norm, ((ones l).length : Int), 0)) := Lib.hid (fun h => by
      have := takeR_ones (l := l) (fun a ha => (List.all_eq_true.1 h) a ha) HX.out []
      rwa [List.append_nil] at this)
    have HON : Hid (l.all may = true → Bytes (ones l) ∧ (ones l).length ≤ 256 * l.length) := Lib.hid (fun h => ⟨ones_bytes (fun a ha => (List.all_eq_true.1 h) a ha), ones_length (fun a ha => (List.all_eq_true.1 h) a ha)⟩)
    have RP := Lib.hid (fun wx (h : Below w.heap.size w wx) => rPut_any A c l wx (HR.out.below h) HLL.out)
    have PP := Lib.hid (fun wx B (d : Nat) (h : RdT wx B l) => Put_any B d l wx h HLL.out)
    unfold RPutPost at RP
    unfold PutPost at PP
    generalize hbs : (if l.all may = true then ones l else []) = bs at RP PP
    have HBS := Lib.hid hbs
    clear hbs
    generalize hokk : l.all may = okk at *
    have HOKK := Lib.hid hokk
    clear hokk
    go_wp2_with (first | ((with_reducible refine gate_dst (N := 19) rfl ?_); refine Kd.R_lit (Kt) _ 48 ?hg (N := 19) ?hd (xs := []) (inner := []) (ok := fun _ => True) (okp := fun _ => True) ?hr ?hp (fun _ hk => hk) trivial (Below.refl _ _) (Nat.le_refl _) (by simp) ?_; (case hd => rfl); (case hg => rfl); (case hr => first | (go_simp; done) | (go_simp; rfl)); (case hp => exact Reps.none _ _); intro v19 w19 ho hb hg_ hnew_; have HG19 := Lib.hid hg_; have HNEW19 := Lib.hid hnew_; clear hg_ hnew_; have HO19 := Lib.hid (Kd.R_lower ho (below_size (by repeat (first | (with_reducible first | exact HB.out | apply below_alloc | apply pw_below_drewN | apply below_drew1) | exact HB.out)))); have HB := Lib.hid (below_step (by repeat (first | (with_reducible first | exact HB.out | apply below_alloc | apply pw_below_drewN | apply below_drew1) | exact HB.out)) hb); clear ho hb) | ((with_reducible refine gate_builtin (b := .append) (xs := #[.tmp 19, .tmp 20]) rfl ?_); at_builtin; refine Kd.R_append_rows Kt (w0 := w) w.heap.size rfl (.tmp 19) (.tmp 20) 50 48 (.agg #[.int .i64 0, .int .i64 0, .float .f64 0, .string ⟨#[]⟩]) 40 rfl Try.underlying50 infoIt rfl (by decide) (by omega) v19 [] l _ _ _ (fun _ => True) (fun _ => False) rfl rfl (by (with_reducible repeat (first | apply Kd.R_alloc | apply Kd.R_drewN | apply Kd.R_drew)); exact HO19.out) (Lib.hid (Kd.C_below HC.out (by exact HB.out))).out (fun _ _ h => h) (fun _ h => h.elim) (fun _ _ => trivial) (by repeat (first | (with_reducible first | exact HB.out | apply below_alloc | apply pw_below_drewN | apply below_drew1) | exact HB.out)) (below_size (by repeat (first | (with_reducible first | exact HB.out | apply below_alloc | apply pw_below_drewN | apply below_drew1) | exact HB.out))) ?aL ?_; (case aL => rw [List.length_nil]; omega); intro v21 w21 ho hb hg hat; clear hg hat; rw [List.nil_append] at ho; obtain ⟨A1, c1, rfl, hc1, hr1⟩ := Kd.R_reads ho; have HT1 := Lib.hid (RdT.of_C hr1 HX.out); clear hr1; have HO21 := Lib.hid ho; have HB := Lib.hid hb; clear ho hb) | (go_at_call 27; refine (PP.out _ A1 c1 HT1.out).mono ?_; rintro e w2 ⟨v2, rfl, ⟨A2, c2, rfl, hc2, hr2⟩, hb2⟩; have HR2 := Lib.hid hr2; have HC2 := Lib.hid hc2; have HB := Lib.hid (below_step HB.out hb2); clear hr2 hc2 hb2))
    refine (RP.out _ HB.out).mono ?_
    rintro e wn ⟨v3, rfl, ⟨A3, c3, rfl, hc3, hr3⟩, hb3⟩
    have HR3 := Lib.hid hr3
    have HR2b := Lib.hid (Kd.C_below HR2.out hb3)
    have HBz := Lib.hid (below_step HB.out hb3)
    have HRz := Lib.hid (HR.out.below HBz.out)
    clear hr3 hc3 hb3 HB HR2 HR HC HT1 HO19 HO21 HG19 HNEW19 RP PP
    obtain ⟨wz, hwz⟩ : ∃ wz, wz = w := ⟨_, rfl⟩
    obtain ⟨w, hw⟩ : ∃ w, w = wn := ⟨_, rfl⟩
    subst hw
    have HB := Lib.hid (Below.refl w.heap.size w)
    go_wp2_with (first | ((with_reducible refine gate_dst (N := 30) rfl ?_); refine Kd.R_lit (Kd.int .i64) _ 3 ?hg (N := 30) ?hd (xs := ([] : List Int)) (inner := []) (ok := fun _ => True) (okp := fun _ => True) ?hr ?hp (fun _ hk => hk) trivial (Below.refl _ _) (Nat.le_refl _) (by simp) ?_; (case hd => rfl); (case hg => rfl); (case hr => first | (go_simp; done) | (go_simp; rfl)); (case hp => exact Reps.none _ _); intro v30 w30 ho hb hg_ hnew_; have HG30 := Lib.hid hg_; have HNEW30 := Lib.hid hnew_; clear hg_ hnew_; have HO30 := Lib.hid (Kd.R_lower ho (below_size (by repeat (first | (with_reducible first | exact HB.out | apply below_alloc | apply pw_below_drewN | apply below_drew1) | exact HB.out)))); have HB := Lib.hid (below_step (by repeat (first | (with_reducible first | exact HB.out | apply below_alloc | apply pw_below_drewN | apply below_drew1) | exact HB.out)) hb); clear ho hb) | ((with_reducible refine gate_dst (N := 31) rfl ?_); refine Kd.R_lit (Kt) _ 48 ?hg (N := 31) ?hd (xs := []) (inner := []) (ok := fun _ => True) (okp := fun _ => True) ?hr ?hp (fun _ hk => hk) trivial (Below.refl _ _) (Nat.le_refl _) (by simp) ?_; (case hd => rfl); (case hg => rfl); (case hr => first | (go_simp; done) | (go_simp; rfl)); (case hp => exact Reps.none _ _); intro v31 w31 ho hb hg_ hnew_; have HG31 := Lib.hid hg_; have HNEW31 := Lib.hid hnew_; clear hg_ hnew_; have HO31 := Lib.hid (Kd.R_lower ho (below_size (by repeat (first | (with_reducible first | exact HB.out | apply below_alloc | apply pw_below_drewN | apply below_drew1) | exact HB.out)))); have HB := Lib.hid (below_step (by repeat (first | (with_reducible first | exact HB.out | apply below_alloc | apply pw_below_drewN | apply below_drew1) | exact HB.out)) hb); clear ho hb))
    have HO30b : Hid (Kd.R (Kd.int .i64) 3 w31 w.heap.size (fun _ => True) v30 []) := Lib.hid (Kd.R_grown2 HO30.out rfl HG31.out (fun k hk => by cases hk))
    have HAP : Hid (Apart v30 v31) := Lib.hid (fun k hk he => by
      have h1 := Kd.R_lt HO30.out k hk
      obtain ⟨b, h2, h3⟩ := HNEW31.out
      rw [he] at h2
      injection h2 with h2
      omega)
    clear HG30 HG31 HNEW30 HNEW31 HO30
    go_loopg [7, 8, 9, 10] l.length (fun kk v7 v8 v9 v10 wq => ∃ (i : Nat) (vk vw : Value), i ≤ l.length ∧ kk = l.length - i ∧ v9 = .int .i64 (i : Int) ∧ vk = v7 ∧ vw = v8 ∧ Hid (Kd.R (Kd.int .i64) 3 wq w.heap.size (fun _ => True) v7 ((l.take i).map (·.k))) ∧ Hid (Kd.R Kt 48 wq w.heap.size (fun _ => True) v8 ((l.take i).map norm)) ∧ Hid (Apart v7 v8) ∧ Hid (Below w.heap.size w wq))
    case atStart => exact ⟨0, _, _, Nat.zero_le _, rfl, rfl, rfl, rfl, HO30b, HO31, HAP, HB⟩
    case round =>
      clear HO30b HO31 HAP HB
      obtain ⟨i, vk, vw, hi, rfl, rfl, rfl, rfl, HK, HW, HAP, HB⟩ := hrel
      have i0 : (0 : Int) ≤ (i : Int) := Int.natCast_nonneg _
      by_cases hlt : i < l.length
      · have hd : decide (i < l.length) = true := decide_eq_true hlt
        have i1 : (i : Int) < (l.length : Int) := by omega
        have i6 : (i : Int) < 60 := by omega
        obtain ⟨a, ha⟩ : ∃ a, l[i]? = some a := ⟨_, List.getElem?_eq_getElem hlt⟩
        obtain ⟨ad, rfl, hat, _⟩ := HRz.out i a ha
        have HAT := Lib.hid (hat.below HB.out)
        have HK1 := Lib.hid (map_snoc (·.k) ha)
        have HW1 := Lib.hid (map_snoc norm ha)
        have HLK : Hid (((l.take i).map (·.k)).length ≤ 60) := Lib.hid (by rw [List.length_map, List.length_take]; omega)
        have HLW : Hid (((l.take i).map norm).length ≤ 60) := Lib.hid (by rw [List.length_map, List.length_take]; omega)
        have HIA : Hid (∀ wx, Below w.heap.size w wx → ItAt wx (ad.add (i * 4)) a) := Lib.hid (fun wx h => hat.below h)
        clear ha hat
        go_wp2
        have HBo := Lib.hid (below_drew1 (Below.refl wr.heap.size wr))
        have HSx : Hid (∀ wx, Below wr.heap.size wr wx → ItAt wx (ad.add (i * 4)) a) := Lib.hid (fun wx h => HAT.out.below h)
        have CK := Lib.hid (fun w => Check_any a w)
        have MY := Lib.hid (fun w => May_any a w)
        generalize may a = m at CK MY
        have her := er_eq m
        generalize erOf m = z at CK her
        have hmm : (m != m) = false := by simp
        refine start_ (n := 12) (S := fun wx => ItAt wx (ad.add (i * 4)) a) (ds := []) #[false, false, false, false, false, false, false, false, false, false, false, false] (by kernel_rfl) rfl rfl (HSx.out _ HBo.out) (fun hHeld => ?_)
        refine with_tabW Puts10.tab Puts10.bits (fun HT_ HW_ => ?_)
        generalize wr.drew = wD at HBo hHeld ⊢
        refine pure_ (i := 0) (N := (some 38)) (v := ?_) (a' := ?_) #[true, false, false, false, false, false, false, false, false, false, false, false] rfl rfl (any_of HT_.out (by kernel_rfl)) (fun _ _ _ h => h) (Or.inl ⟨by rfl, ?_⟩) ?_ ?_
        rotate_left
        · intro w'
          go_simp
          with_reducible rfl
        rotate_left
        · simp only [Act.put, List.setIfInBounds_toArray, List.set_cons_zero, List.set_cons_succ, i64_w, i32_w]
          rfl
        refine pure_ (i := 1) (N := (some 39)) (v := ?_) (a' := ?_) #[true, true, false, false, false, false, false, false, false, false, false, false] rfl rfl (any_of HT_.out (by kernel_rfl)) (fun _ _ _ h => h) (Or.inl ⟨by rfl, ?_⟩) ?_ ?_
        rotate_left
        · intro w'
          go_simp
          with_reducible rfl
        rotate_left
        · simp only [Act.put, List.setIfInBounds_toArray, List.set_cons_zero, List.set_cons_succ, i64_w, i32_w]
          rfl
        refine pure_ (i := 2) (N := (some 40)) (v := ?_) (a' := ?_) #[true, true, true, false, false, false, false, false, false, false, false, false] rfl rfl (any_of HT_.out (by kernel_rfl)) (fun _ _ _ h => h) (Or.inl ⟨by rfl, ?_⟩) ?_ ?_
        rotate_left
        · intro w'
          go_simp
          with_reducible rfl
        rotate_left
        · simp only [Act.put, List.setIfInBounds_toArray, List.set_cons_zero, List.set_cons_succ, i64_w, i32_w]
          rfl
        refine take_ (i := 3) (N := (some 41)) (v := ?_) (a' := ?_) #[true, true, true, true, false, false, false, false, false, false, false, false] rfl rfl (take_ofW HT_.out HW_.out (by kernel_rfl)) (fun _ _ _ h => h) (Or.inl ⟨by rfl, ?_⟩) hHeld ?_ ?_
        rotate_left
        · rintro w' ⟨s0, s1, s2, s3⟩
          go_simp
          with_reducible rfl
        rotate_left
        · simp only [Act.put, List.setIfInBounds_toArray, List.set_cons_zero, List.set_cons_succ, i64_w, i32_w]
          rfl
        refine pure_ (i := 6) (N := (some 44)) (v := ?_) (a' := ?_) #[true, true, true, true, false, false, true, false, false, false, false, false] rfl rfl (any_of HT_.out (by kernel_rfl)) (fun _ _ _ h => h) (Or.inl ⟨by rfl, ?_⟩) ?_ ?_
        rotate_left
        · intro w'
          go_simp
          with_reducible rfl
        rotate_left
        · simp only [Act.put, List.setIfInBounds_toArray, List.set_cons_zero, List.set_cons_succ, i64_w, i32_w]
          rfl
        refine pure_ (i := 7) (N := (some 45)) (v := ?_) (a' := ?_) #[true, true, true, true, false, false, true, true, false, false, false, false] rfl rfl (any_of HT_.out (by kernel_rfl)) (fun _ _ _ h => h) (Or.inl ⟨by rfl, ?_⟩) ?_ ?_
        rotate_left
        · intro w'
          go_simp
          with_reducible rfl
        rotate_left
        · simp only [Act.put, List.setIfInBounds_toArray, List.set_cons_zero, List.set_cons_succ, i64_w, i32_w]
          rfl
        refine pure_ (i := 8) (N := (some 46)) (v := ?_) (a' := ?_) #[true, true, true, true, false, false, true, true, true, false, false, false] rfl rfl (any_of HT_.out (by kernel_rfl)) (fun _ _ _ h => h) (Or.inl ⟨by rfl, ?_⟩) ?_ ?_
        rotate_left
        · intro w'
          go_simp
          with_reducible rfl
        rotate_left
        · simp only [Act.put, List.setIfInBounds_toArray, List.set_cons_zero, List.set_cons_succ, i64_w, i32_w]
          rfl
        refine take_ (i := 9) (N := (some 47)) (v := ?_) (a' := ?_) #[true, true, true, true, false, false, true, true, true, true, false, false] rfl rfl (take_ofW HT_.out HW_.out (by kernel_rfl)) (fun _ _ _ h => h) (Or.inl ⟨by rfl, ?_⟩) hHeld ?_ ?_
        rotate_left
        · rintro w' ⟨s0, s1, s2, s3⟩
          go_simp
          with_reducible rfl
        rotate_left
        · simp only [Act.put, List.setIfInBounds_toArray, List.set_cons_zero, List.set_cons_succ, i64_w, i32_w]
          rfl
        refine one_ (i := 4) (N := (some 42)) #[true, true, true, true, true, false, true, true, true, true, false, false] rfl rfl (one_of HT_.out (by kernel_rfl)) (by decide) (fun K hK => ?_)
        refine goes_ Try.func29 (by kernel_rfl) rfl #[a.v] (by rfl) rfl rfl (by (try simp only [List.map_toArray, List.map_cons, List.map_nil]); first | done | rfl) ?_
        refine (CK.out _).mono ?_
        rintro e w' ⟨rfl, hb'⟩
        refine ⟨_, rfl, ?_⟩
        have HBo := Lib.hid (below_step HBo.out hb')
        clear hb'
        refine hK.out _ _ (HSx.out _ HBo.out) (fun hHeld => ?_)
        clear hK K
        refine norm_ (a' := ?_) ?_ ?_
        rotate_left
        · show Act.put _ (some 42) _ = _
          simp only [Act.put, List.setIfInBounds_toArray, List.set_cons_zero, List.set_cons_succ, i64_w, i32_w]
          rfl
        refine pure_ (i := 5) (N := (some 43)) (v := ?_) (a' := ?_) #[true, true, true, true, true, true, true, true, true, true, false, false] rfl rfl (any_of HT_.out (by kernel_rfl)) (fun _ _ _ h => h) (Or.inl ⟨by rfl, ?_⟩) ?_ ?_
        rotate_left
        · intro w'
          go_simp
          with_reducible rfl
        rotate_left
        · simp only [Act.put, List.setIfInBounds_toArray, List.set_cons_zero, List.set_cons_succ, i64_w, i32_w]
          rfl
        refine one_ (i := 10) (N := (some 48)) #[true, true, true, true, true, true, true, true, true, true, true, false] rfl rfl (one_of HT_.out (by kernel_rfl)) (by decide) (fun K hK => ?_)
        refine goes_ Try.func30 (by kernel_rfl) rfl #[a.v] (by rfl) rfl rfl (by (try simp only [List.map_toArray, List.map_cons, List.map_nil]); first | done | rfl) ?_
        refine (MY.out _).mono ?_
        rintro e w' ⟨rfl, hb'⟩
        refine ⟨_, rfl, ?_⟩
        have HBo := Lib.hid (below_step HBo.out hb')
        clear hb'
        refine hK.out _ _ (HSx.out _ HBo.out) (fun hHeld => ?_)
        clear hK K
        refine norm_ (a' := ?_) ?_ ?_
        rotate_left
        · show Act.put _ (some 48) _ = _
          simp only [Act.put, List.setIfInBounds_toArray, List.set_cons_zero, List.set_cons_succ, i64_w, i32_w]
          rfl
        refine pure_ (i := 11) (N := (some 49)) (v := ?_) (a' := ?_) #[true, true, true, true, true, true, true, true, true, true, true, true] rfl rfl (any_of HT_.out (by kernel_rfl)) (fun _ _ _ h => h) (Or.inl ⟨by rfl, ?_⟩) ?_ ?_
        rotate_left
        · intro w'
          go_simp
          with_reducible rfl
        rotate_left
        · simp only [Act.put, List.setIfInBounds_toArray, List.set_cons_zero, List.set_cons_succ, i64_w, i32_w]
          rfl
        refine done_ (done_of HT_.out (by kernel_rfl)) ?_
        have HBn := Lib.hid (below_step HB.out HBo.out)
        have HK2 := Lib.hid (Kd.R_below HK.out HBo.out)
        have HW2 := Lib.hid (Kd.R_below HW.out HBo.out)
        clear HB HK HW HSx HBo hHeld her hmm CK MY
        have HB := HBn
        clear HBn
        obtain ⟨x0, x1, x2, x3⟩ := HIA.out _ HB.out
        go_wp2_with (first | ((with_reducible refine gate_builtin (b := .append) (xs := #[.tmp 50, .tmp 56]) rfl ?_); at_builtin; refine Kd.R_append (Kd.int .i64) (w0 := w) w.heap.size rfl (.tmp 50) (.tmp 56) 24 3 (.int .i64 0) 8 rfl Try.underlying24 info64 rfl (by decide) (by omega) vk ((l.take i).map (·.k)) (a.k) [.int .i64 (a.k)] (fun _ => True) (fun _ => False) rfl ?aX rfl (fun _ h => h.elim) (fun _ _ => trivial) HK2.out (by repeat (first | (with_reducible first | exact HB.out | apply below_alloc | apply pw_below_drewN | apply below_drew1) | exact HB.out)) (below_size (by repeat (first | (with_reducible first | exact HB.out | apply below_alloc | apply pw_below_drewN | apply below_drew1) | exact HB.out))) ?aL ?_; (case aX => first | rfl | (rw [World.size_setCell]; rfl)); (case aL => have := HLK.out; omega); intro v57 w57 ho hb hg hat; have HG57 := Lib.hid hg; have HAT57 := Lib.hid hat; clear hg hat; have HO57 := Lib.hid ho; have HB := Lib.hid hb; clear ho hb; obtain ⟨x0, x1, x2, x3⟩ := HIA.out _ HB.out))
        clear x0 x1 x2 x3
        have HAP1 := Lib.hid (HAP.out.step HAT57.out (Kd.R_lt HW2.out))
        have HWa := Lib.hid (Kd.R_alloc (Kd.R_grown2 HW2.out rfl HG57.out (fun k hk he => HAP.out k hk he.symm)) a.o)
        have HKa := Lib.hid (Kd.R_alloc HO57.out a.o)
        have HIT := Lib.hid (OI.alloc w57 a)
        have HBa := Lib.hid (below_alloc HB.out a.o)
        have HG10 : Hid (w.heap.size ≤ w57.heap.size) := Lib.hid (below_size HB.out)
        have HLV : Hid (∀ k, v57.ownBlock = some k → k < w57.heap.size) := Lib.hid (Kd.R_lt HO57.out)
        have HLW2 : Hid (∀ k, vw.ownBlock = some k → k < w57.heap.size) := Lib.hid (fun k hk => Nat.lt_of_lt_of_le (Kd.R_lt HW2.out k hk) HG57.out.size)
        clear HB HK2 HW2 HG57 HAT57 HAP HO57
        generalize hwA : w57.alloc a.o = wA at HWa HKa HIT HBa
        clear hwA
        generalize w57.heap.size = g at *
        refine (rValue_any a.x wA).mono ?_
        rintro e w' ⟨rfl, rfl⟩
        have HIT2 := Lib.hid (HIT.out.setx (Flt.val a.x))
        have HWb := Lib.hid (Kd.R_grown2 HWa.out rfl (grown_set wA g 2 (.float .f64 (Flt.val a.x))) (fun k hk he => by injection hk with hk; have := HLW2.out k he.symm; omega))
        have HKb := Lib.hid (Kd.R_grown2 HKa.out rfl (grown_set wA g 2 (.float .f64 (Flt.val a.x))) (fun k hk he => by injection hk with hk; have := HLV.out k he.symm; omega))
        have HB := Lib.hid (HBa.out.setCell (p := ⟨g, 2, none⟩) HG10.out (.float .f64 (Flt.val a.x)))
        obtain ⟨x0, x1, x2, x3⟩ := HIT.out.has
        have hfz := HIT.out.fz
        obtain ⟨y0, y1, y2, y3⟩ := HIT2.out.has
        simp only at y0 y1 y2 y3
        go_wp2_with (first | ((with_reducible refine gate_builtin (b := .append) (xs := #[.tmp 67, .tmp 69]) rfl ?_); at_builtin; refine Kd.R_append Kt (w0 := w) w.heap.size rfl (.tmp 67) (.tmp 69) 50 48 (.agg #[.int .i64 0, .int .i64 0, .float .f64 0, .string ⟨#[]⟩]) 40 rfl Try.underlying50 infoIt rfl (by decide) (by omega) vw ((l.take i).map norm) (norm a) (It.cs (norm a)) (fun _ => True) (fun _ => False) rfl ?aX rfl (fun _ h => h.elim) (fun _ _ => trivial) HWb.out (by repeat (first | (with_reducible first | exact HB.out | apply below_alloc | apply pw_below_drewN | apply below_drew1) | exact HB.out)) (below_size (by repeat (first | (with_reducible first | exact HB.out | apply below_alloc | apply pw_below_drewN | apply below_drew1) | exact HB.out))) ?aL ?_; (case aX => first | rfl | (rw [World.size_setCell]; rfl)); (case aL => have := HLW.out; omega); intro v70 w70 ho hb hg hat; have HG70 := Lib.hid hg; have HAT70 := Lib.hid hat; clear hg hat; have HO70 := Lib.hid ho; have HB := Lib.hid hb; clear ho hb; skip))
        go_roundg (l.length - (i + 1))
        case measure => omega
        case rel => exact ⟨i + 1, _, _, by omega, rfl, by go_num, rfl, rfl, Lib.hid (by rw [HK1.out]; exact Kd.R_grown2 HKb.out rfl HG70.out (fun k hk he => HAP1.out k he.symm hk)), Lib.hid (by rw [HW1.out]; exact HO70.out), Lib.hid ((HAP1.out.symm.step HAT70.out (fun k hk => Nat.lt_of_lt_of_le (Kd.R_lt HKb.out k hk) (Nat.le_refl _))).symm), HB⟩
      · have hd : decide (i < l.length) = false := decide_eq_false hlt
        obtain rfl : l.length = i := by omega
        have hKt := HK.out
        have hWt := HW.out
        rw [List.take_length] at hKt hWt
        obtain ⟨K1, d1, rfl, hd1, hrk⟩ := Kd.R_reads hKt
        obtain ⟨W1, e1, rfl, he1, hrw⟩ := Kd.R_reads hWt
        have HRK := Lib.hid hrk
        have HRW := Lib.hid hrw
        clear hrk hrw hd1 he1 HAP HK HW hKt hWt
        cases okk with
        | false =>
          have hb0 : bs = [] := by rw [← HBS.out]; rfl
          subst hb0
          go_wp2_with (first | (go_at_call 25; refine ((AW _).out).mono ?_; rintro e w' ⟨rfl, hb⟩; have HB := Lib.hid (below_step (by repeat (first | (with_reducible first | exact HB.out | apply below_alloc | apply pw_below_drewN | apply below_drew1) | exact HB.out)) hb); clear hb))
          go_ret
          exact ⟨rfl, below_step HBz.out HB.out⟩
        | true =>
          have hb0 : bs = ones l := by rw [← HBS.out]; rfl
          have HBY := Lib.hid (HON.out rfl).1
          have hbl := (HON.out rfl).2
          have hbl2 : (ones l).length ≤ 1000000 := by omega
          rw [hb0] at HR2b HR3 HC2 ⊢
          clear hb0 HBS hbl
          have TA := Lib.hid (Take_any A2 c2 (ones l) K1 d1 (l.map (·.k)) wr (Kd.C_below HR2b.out HB.out) HBY.out hbl2 HC2.out HRK.out (by rw [List.length_map]; omega))
          unfold TakePost at TA
          rw [HTR.out rfl] at TA
          have HXN : Hid (∀ b ∈ l.map norm, b.x < 18446744073709551616) := Lib.hid (fun b hb => by
            obtain ⟨a, ha, rfl⟩ := List.mem_map.1 hb
            exact Flt.val_lt a.x (HX.out a ha))
          have HLNM : Hid ((l.map norm).length ≤ 1000000) := Lib.hid (by rw [List.length_map]; omega)
          clear HTR HON HX HOK
          generalize ones l = b at *
          generalize l.map norm = want at *
          generalize l.map (·.k) = kinds at *
          go_wp2_with fail
          refine TA.out.mono ?_
          rintro e w5 ⟨v5, rfl, ⟨A5, c5, rfl, hc5, hr5⟩, hb5⟩
          have HBw := Lib.hid (below_step HB.out hb5)
          have HR5 := Lib.hid hr5
          have HRT := Lib.hid (RdT.of_C (Kd.C_below HRW.out hb5) HXN.out)
          have hcv2 := conv_str c2 (Kd.C_below (Kd.C_below HR2b.out HB.out) hb5)
          have hcv3 := conv_str c3 (Kd.C_below (Kd.C_below HR3.out HB.out) hb5)
          have LS := Lib.hid (List_any A5 c5 want W1 e1 want w5 HR5.out HRT.out HLNM.out HLNM.out)
          rw [alike_self] at LS
          clear hc5 hr5 hb5 TA HB HRW HRK HR5 HRT
          have HB := HBw
          clear HBw
          go_wp2_with (first | (go_at_call 34; refine (LS.out).mono ?_; rintro e w' ⟨rfl, hb⟩; have HB := Lib.hid (below_step (by repeat (first | (with_reducible first | exact HB.out | apply below_alloc | apply pw_below_drewN | apply below_drew1) | exact HB.out)) hb); clear hb) | (go_at_call 25; refine ((AW _).out).mono ?_; rintro e w' ⟨rfl, hb⟩; have HB := Lib.hid (below_step (by repeat (first | (with_reducible first | exact HB.out | apply below_alloc | apply pw_below_drewN | apply below_drew1) | exact HB.out)) hb); clear hb))
          go_ret
          exact ⟨rfl, below_step HBz.out HB.out⟩
end Go.Proofs.Ytbmcbhpkefjhbaa.Pac
