/- The walk of PackJoins. -/
import Derived.Test.YtbmcbhpkefjhbaaPacOp2
set_option linter.unusedVariables false
set_option linter.unusedSimpArgs false
namespace Go.Proofs.Ytbmcbhpkefjhbaa.Pac
open Go.RowKit Go.Proofs.Ytbmcbhpkefjhbaa Go.Proofs.Ytbmcbhpkefjhbaa.Mem Go.Proofs.YtbmcbhpkefjhbaaW.PrintWords Go.Proofs.YtbmcbhpkefjhbaaW.PrintLast Go.Proofs.YtbmcbhpkefjhbaaW.PrintMore
theorem strOfNums_append (x y : List Int) : strOfNums (x ++ y) = strOfNums x ++ strOfNums y := by
  unfold strOfNums
  apply ByteArray.ext
  rw [ByteArray.data_append]
  simp
theorem ones_append (a b : List It) : ones (a ++ b) = ones a ++ ones b := by unfold ones; rw [List.flatMap_append]
set_option maxRecDepth 100000 in
set_option maxHeartbeats 2000000 in
theorem PackJoins_any (A : Option Addr) (c : Nat) (a : List It) (B : Option Addr) (d : Nat) (b : List It) (w : World) (hr : RdT w A a) (hs : RdT w B b) : Calls Try.prog 10 #[.slice A a.length c, .slice B b.length d] w fun e w' => e = .returned (.bool true) ∧ Below w.heap.size w w' := by
  have HB := Lib.hid (Below.refl w.heap.size w)
  have LA := Lib.hid (light_any A c a w hr)
  have LB := Lib.hid (light_any B d b w hs)
  have AW := fun w => Lib.hid (awake_any w)
  have HRA := Lib.hid hr
  have HRB := Lib.hid hs
  have HXA := Lib.hid hr.x
  have HXB := Lib.hid hs.x
  clear hr hs
  go_enter Try.func10, Try.ntmps10
  go_wp2_with fail
  refine LA.out.mono ?_
  rintro e w0 ⟨q, rfl, hq, rfl⟩
  cases q with
  | false =>
    clear hq LA LB
    go_wp2_with (first | (go_at_call 25; refine ((AW _).out).mono ?_; rintro e w' ⟨rfl, hb⟩; have HB := Lib.hid (below_step (by repeat (first | (with_reducible first | exact HB.out | apply below_alloc | apply pw_below_drewN | apply below_drew1) | exact HB.out)) hb); clear hb))
    go_ret
    exact ⟨rfl, HB.out⟩
  | true =>
    have ha60 := hq rfl
    clear hq LA
    go_wp2_with fail
    refine LB.out.mono ?_
    rintro e w0 ⟨q, rfl, hq, rfl⟩
    cases q with
    | false =>
      clear hq LB
      go_wp2_with (first | (go_at_call 25; refine ((AW _).out).mono ?_; rintro e w' ⟨rfl, hb⟩; have HB := Lib.hid (below_step (by repeat (first | (with_reducible first | exact HB.out | apply below_alloc | apply pw_below_drewN | apply below_drew1) | exact HB.out)) hb); clear hb))
      go_ret
      exact ⟨rfl, HB.out⟩
    | true =>
      have hb60 := hq rfl
      have HCA := Lib.hid (HRA.out.to_C (by omega))
      have HCB := Lib.hid (HRB.out.to_C (by omega))
      clear hq LB
      have PA := Lib.hid (fun wx (h : Below w.heap.size w wx) => Put_any A c a wx (HRA.out.below h) (by omega))
      have PB := Lib.hid (fun wx (h : Below w.heap.size w wx) => Put_any B d b wx (HRB.out.below h) (by omega))
      have PZ := Lib.hid (fun wx Z (d : Nat) (h : RdT wx Z (a ++ b)) => Put_any Z d (a ++ b) wx h (by rw [List.length_append]; omega))
      unfold PutPost at PA PB PZ
      have HXZ : Hid (∀ x ∈ a ++ b, x.x < 18446744073709551616) := Lib.hid (fun x hx => (List.mem_append.1 hx).elim (HXA.out x) (HXB.out x))
      have hall : (a ++ b).all may = (a.all may && b.all may) := List.all_append
      rw [hall, ones_append] at PZ
      have HTR : Hid (a.all may = true → b.all may = true → takeR (ones a ++ ones b) (a.map (·.k)) = (a.map norm, ((ones a).length : Int), 0) ∧ Bytes (ones a ++ ones b) ∧ (ones a ++ ones b).length ≤ 1000000) := Lib.hid (fun h h2 => by
        have m1 : ∀ x ∈ a, may x = true := List.all_eq_true.1 h
        have m2 : ∀ x ∈ b, may x = true := List.all_eq_true.1 h2
        refine ⟨takeR_ones m1 HXA.out _, (ones_bytes m1).append (ones_bytes m2), ?_⟩
        have l1 := ones_length m1
        have l2 := ones_length m2
        rw [List.length_append]
        omega)
      clear hall
      simp only [List.length_append] at PZ
      generalize hba : (if a.all may = true then ones a else []) = ba at PA
      generalize hbb : (if b.all may = true then ones b else []) = bb at PB
      generalize hbz : (if (a.all may && b.all may) = true then ones a ++ ones b else []) = bz at PZ
      have HBA := Lib.hid hba
      have HBB := Lib.hid hbb
      have HBZ := Lib.hid hbz
      clear hba hbb hbz
      generalize a.all may = qa at *
      generalize b.all may = qb at *
      go_wp2_with fail
      refine (PA.out _ HB.out).mono ?_
      rintro e w2 ⟨v2, rfl, ⟨A2, c2, rfl, hc2, hr2⟩, hb2⟩
      have HR2 := Lib.hid hr2
      have HBn := Lib.hid (below_step HB.out hb2)
      clear hr2 hc2 hb2 HB PA
      have HB := HBn
      clear HBn
      go_wp2_with fail
      refine (PB.out _ HB.out).mono ?_
      rintro e w3 ⟨v3, rfl, ⟨A3, c3, rfl, hc3, hr3⟩, hb3⟩
      have HR3 := Lib.hid hr3
      have HR2b := Lib.hid (Kd.C_below HR2.out hb3)
      have HBz := Lib.hid (below_step HB.out hb3)
      have HCA3 := Lib.hid (Kd.C_below HCA.out HBz.out)
      have HCB3 := Lib.hid (Kd.C_below HCB.out HBz.out)
      have HRA3 := Lib.hid (HRA.out.below HBz.out)
      clear hr3 hc3 hb3 HB PB HR2 HRA HRB HCA HCB
      obtain ⟨w, hw⟩ : ∃ w, w = w3 := ⟨_, rfl⟩
      subst hw
      have HB := Lib.hid (Below.refl w.heap.size w)
      go_wp2_with (first | ((with_reducible refine gate_dst (N := 36) rfl ?_); refine Kd.R_lit (Kt) _ 48 ?hg (N := 36) ?hd (xs := []) (inner := []) (ok := fun _ => True) (okp := fun _ => True) ?hr ?hp (fun _ hk => hk) trivial (Below.refl _ _) (Nat.le_refl _) (by simp) ?_; (case hd => rfl); (case hg => rfl); (case hr => first | (go_simp; done) | (go_simp; rfl)); (case hp => exact Reps.none _ _); intro v36 w36 ho hb hg_ hnew_; have HG36 := Lib.hid hg_; have HNEW36 := Lib.hid hnew_; clear hg_ hnew_; have HO36 := Lib.hid (Kd.R_lower ho (below_size (by repeat (first | (with_reducible first | exact HB.out | apply below_alloc | apply pw_below_drewN | apply below_drew1) | exact HB.out)))); have HB := Lib.hid (below_step (by repeat (first | (with_reducible first | exact HB.out | apply below_alloc | apply pw_below_drewN | apply below_drew1) | exact HB.out)) hb); clear ho hb) | ((with_reducible refine gate_builtin (b := .append) (xs := #[.tmp 36, .tmp 37]) rfl ?_); at_builtin; refine Kd.R_append_rows Kt (w0 := w) w.heap.size rfl (.tmp 36) (.tmp 37) 50 48 (.agg #[.int .i64 0, .int .i64 0, .float .f64 0, .string ⟨#[]⟩]) 40 rfl Try.underlying50 infoIt rfl (by decide) (by omega) v36 [] a _ _ _ (fun _ => True) (fun _ => False) rfl rfl (by (with_reducible repeat (first | apply Kd.R_alloc | apply Kd.R_drewN | apply Kd.R_drew)); exact HO36.out) (Lib.hid (Kd.C_below HCA3.out (by exact HB.out))).out (fun _ _ h => h) (fun _ h => h.elim) (fun _ _ => trivial) (by repeat (first | (with_reducible first | exact HB.out | apply below_alloc | apply pw_below_drewN | apply below_drew1) | exact HB.out)) (below_size (by repeat (first | (with_reducible first | exact HB.out | apply below_alloc | apply pw_below_drewN | apply below_drew1) | exact HB.out))) ?aL ?_; (case aL => rw [List.length_nil]; omega); intro v38 w38 ho hb hg hat; clear hg hat; rw [List.nil_append] at ho; have HO38 := Lib.hid ho; have HB := Lib.hid hb; clear ho hb) | ((with_reducible refine gate_builtin (b := .append) (xs := #[.tmp 38, .tmp 39]) rfl ?_); at_builtin; refine Kd.R_append_rows Kt (w0 := w) w.heap.size rfl (.tmp 38) (.tmp 39) 50 48 (.agg #[.int .i64 0, .int .i64 0, .float .f64 0, .string ⟨#[]⟩]) 40 rfl Try.underlying50 infoIt rfl (by decide) (by omega) v38 a b _ _ _ (fun _ => True) (fun _ => False) rfl rfl (by (with_reducible repeat (first | apply Kd.R_alloc | apply Kd.R_drewN | apply Kd.R_drew)); exact HO38.out) (Lib.hid (Kd.C_below HCB3.out (by exact HB.out))).out (fun _ _ h => h) (fun _ h => h.elim) (fun _ _ => trivial) (by repeat (first | (with_reducible first | exact HB.out | apply below_alloc | apply pw_below_drewN | apply below_drew1) | exact HB.out)) (below_size (by repeat (first | (with_reducible first | exact HB.out | apply below_alloc | apply pw_below_drewN | apply below_drew1) | exact HB.out))) ?aL ?_; (case aL => omega); intro v40 w40 ho hb hg hat; clear hg hat; obtain ⟨A1, c1, rfl, hc1, hr1⟩ := Kd.R_reads ho; have HT1 := Lib.hid (RdT.of_C hr1 HXZ.out); clear hr1; have HO40 := Lib.hid ho; have HB := Lib.hid hb; clear ho hb))
      refine (PZ.out _ A1 c1 HT1.out).mono ?_
      rintro e w5 ⟨v5, rfl, ⟨A5, c5, rfl, hc5, hr5⟩, hb5⟩
      have HR5 := Lib.hid hr5
      have HC5 := Lib.hid hc5
      have HBy := Lib.hid (below_step HB.out hb5)
      have HBx := Lib.hid (below_step HBz.out HBy.out)
      have HR3b := Lib.hid (Kd.C_below HR3.out HBy.out)
      have HR2c := Lib.hid (Kd.C_below HR2b.out HBy.out)
      have HRA5 := Lib.hid (HRA3.out.below HBy.out)
      clear hr5 hc5 hb5 HB PZ HR3 HR2b HT1 HO36 HO38 HO40 HCA3 HCB3 HRA3 HBy HBz
      obtain ⟨w, hw⟩ : ∃ w, w = w5 := ⟨_, rfl⟩
      subst hw
      have HB := Lib.hid (Below.refl w.heap.size w)
      cases qa with
      | false =>
        cases qb with
        | false =>
          go_wp2_with (first | (go_at_call 25; refine ((AW _).out).mono ?_; rintro e w' ⟨rfl, hb⟩; have HB := Lib.hid (below_step (by repeat (first | (with_reducible first | exact HB.out | apply below_alloc | apply pw_below_drewN | apply below_drew1) | exact HB.out)) hb); clear hb))
          go_ret
          exact ⟨rfl, below_step HBx.out HB.out⟩
        | true =>
          go_wp2_with (first | (go_at_call 25; refine ((AW _).out).mono ?_; rintro e w' ⟨rfl, hb⟩; have HB := Lib.hid (below_step (by repeat (first | (with_reducible first | exact HB.out | apply below_alloc | apply pw_below_drewN | apply below_drew1) | exact HB.out)) hb); clear hb))
          go_ret
          exact ⟨rfl, below_step HBx.out HB.out⟩
      | true =>
        cases qb with
        | false =>
          go_wp2_with (first | (go_at_call 25; refine ((AW _).out).mono ?_; rintro e w' ⟨rfl, hb⟩; have HB := Lib.hid (below_step (by repeat (first | (with_reducible first | exact HB.out | apply below_alloc | apply pw_below_drewN | apply below_drew1) | exact HB.out)) hb); clear hb))
          go_ret
          exact ⟨rfl, below_step HBx.out HB.out⟩
        | true =>
          have ea : ba = ones a := by rw [← HBA.out]; rfl
          have eb : bb = ones b := by rw [← HBB.out]; rfl
          have ez : bz = ones a ++ ones b := by rw [← HBZ.out]; rfl
          have EZ : Hid (strOfNums bz = strOfNums ba ++ strOfNums bb) := Lib.hid (by rw [ez, ea, eb, strOfNums_append])
          have HTZ : Hid (takeR bz (a.map (·.k)) = (a.map norm, (ba.length : Int), 0) ∧ Bytes bz ∧ bz.length ≤ 1000000) := Lib.hid (by rw [ez, ea]; exact HTR.out rfl rfl)
          have HSQ : Hid (ba.length + bb.length ≤ 1000000) := Lib.hid (by rw [ea, eb, ← List.length_append]; exact (HTR.out rfl rfl).2.2)
          clear ea eb ez HTR HBA HBB HBZ
          go_wp2_with (first | ((with_reducible refine gate_dst (N := 56) rfl ?_); refine Kd.R_lit (Kd.int .i64) _ 3 ?hg (N := 56) ?hd (xs := ([] : List Int)) (inner := []) (ok := fun _ => True) (okp := fun _ => True) ?hr ?hp (fun _ hk => hk) trivial (Below.refl _ _) (Nat.le_refl _) (by simp) ?_; (case hd => rfl); (case hg => rfl); (case hr => first | (go_simp; done) | (go_simp; rfl)); (case hp => exact Reps.none _ _); intro v56 w56 ho hb hg_ hnew_; have HG56 := Lib.hid hg_; have HNEW56 := Lib.hid hnew_; clear hg_ hnew_; have HO56 := Lib.hid (Kd.R_lower ho (below_size (by repeat (first | (with_reducible first | exact HB.out | apply below_alloc | apply pw_below_drewN | apply below_drew1) | exact HB.out)))); have HB := Lib.hid (below_step (by repeat (first | (with_reducible first | exact HB.out | apply below_alloc | apply pw_below_drewN | apply below_drew1) | exact HB.out)) hb); clear ho hb))
          go_loopg [11, 12] a.length (fun kk v11 v12 wq => ∃ (i : Nat) (vk : Value), i ≤ a.length ∧ kk = a.length - i ∧ v12 = .int .i64 (i : Int) ∧ vk = v11 ∧ Hid (Kd.R (Kd.int .i64) 3 wq w.heap.size (fun _ => True) v11 ((a.take i).map (·.k))) ∧ Hid (Below w.heap.size w wq))
          case atStart => exact ⟨0, _, Nat.zero_le _, rfl, rfl, rfl, HO56, HB⟩
          case round =>
            clear HO56 HB HG56 HNEW56
            obtain ⟨i, vk, hi, rfl, rfl, rfl, HK, HB⟩ := hrel
            have i0 : (0 : Int) ≤ (i : Int) := Int.natCast_nonneg _
            by_cases hlt : i < a.length
            · have hd : decide (i < a.length) = true := decide_eq_true hlt
              have i1 : (i : Int) < (a.length : Int) := by omega
              have i6 : (i : Int) < 60 := by omega
              obtain ⟨x, hx⟩ : ∃ x, a[i]? = some x := ⟨_, List.getElem?_eq_getElem hlt⟩
              obtain ⟨ad, rfl, hat, _⟩ := HRA5.out i x hx
              obtain ⟨x0, x1, x2, x3⟩ := hat.below HB.out
              have HK1 := Lib.hid (map_snoc (·.k) hx)
              have HLK : Hid (((a.take i).map (·.k)).length ≤ 60) := Lib.hid (by rw [List.length_map, List.length_take]; omega)
              clear hx hat
              go_wp2_with (first | ((with_reducible refine gate_builtin (b := .append) (xs := #[.tmp 63, .tmp 69]) rfl ?_); at_builtin; refine Kd.R_append (Kd.int .i64) (w0 := w) w.heap.size rfl (.tmp 63) (.tmp 69) 24 3 (.int .i64 0) 8 rfl Try.underlying24 info64 rfl (by decide) (by omega) vk ((a.take i).map (·.k)) (x.k) [.int .i64 (x.k)] (fun _ => True) (fun _ => False) rfl ?aX rfl (fun _ h => h.elim) (fun _ _ => trivial) HK.out (by repeat (first | (with_reducible first | exact HB.out | apply below_alloc | apply pw_below_drewN | apply below_drew1) | exact HB.out)) (below_size (by repeat (first | (with_reducible first | exact HB.out | apply below_alloc | apply pw_below_drewN | apply below_drew1) | exact HB.out))) ?aL ?_; (case aX => first | rfl | (rw [World.size_setCell]; rfl)); (case aL => have := HLK.out; omega); intro v70 w70 ho hb hg hat; have HG70 := Lib.hid hg; have HAT70 := Lib.hid hat; clear hg hat; have HO70 := Lib.hid ho; have HB := Lib.hid hb; clear ho hb; skip))
              go_roundg (a.length - (i + 1))
              case measure => omega
              case rel => exact ⟨i + 1, _, by omega, rfl, by go_num, rfl, Lib.hid (by rw [HK1.out]; exact HO70.out), HB⟩
            · have hd : decide (i < a.length) = false := decide_eq_false hlt
              obtain rfl : a.length = i := by omega
              have hKt := HK.out
              rw [List.take_length] at hKt
              obtain ⟨K1, d1, rfl, hd1, hrk⟩ := Kd.R_reads hKt
              have TA := Lib.hid (Take_any A5 c5 bz K1 d1 (a.map (·.k)) wr (Kd.C_below HR5.out HB.out) HTZ.out.2.1 HTZ.out.2.2 HC5.out hrk (by rw [List.length_map]; omega))
              unfold TakePost at TA
              rw [HTZ.out.1] at TA
              clear hd1 hrk hKt HK HRA5
              generalize a.map (·.k) = kinds at *
              generalize a.map norm = want at *
              go_wp2_with fail
              refine TA.out.mono ?_
              rintro e w6 ⟨v6, rfl, ⟨A6, c6, rfl, hc6, hr6⟩, hb6⟩
              have HBw := Lib.hid (below_step HB.out hb6)
              have hcvx := conv_str c2 (Kd.C_below (Kd.C_below HR2c.out HB.out) hb6)
              have hcvy := conv_str c3 (Kd.C_below (Kd.C_below HR3b.out HB.out) hb6)
              have hcvz := conv_str c5 (Kd.C_below (Kd.C_below HR5.out HB.out) hb6)
              rw [EZ.out] at hcvz
              clear hc6 hr6 hb6 TA HB EZ HTZ
              have HB := HBw
              clear HBw
              have hsz : ¬ (9223372036854775807 < (strOfNums ba).size + (strOfNums bb).size) := by rw [size_strOf, size_strOf]; have := HSQ.out; omega
              generalize strOfNums ba = sx at *
              generalize strOfNums bb = sy at *
              go_wp2_with (first | (go_at_call 25; refine ((AW _).out).mono ?_; rintro e w' ⟨rfl, hb⟩; have HB := Lib.hid (below_step (by repeat (first | (with_reducible first | exact HB.out | apply below_alloc | apply pw_below_drewN | apply below_drew1) | exact HB.out)) hb); clear hb))
              go_ret
              exact ⟨rfl, below_step HBx.out HB.out⟩
theorem PackJoins_walk (w : World) (A : Option Addr) (c : Nat) (a : List It) (hr : RdT w A a) (B : Option Addr) (d : Nat) (b : List It) (hs : RdT w B b) : Calls Try.prog 10 #[.slice A a.length c, .slice B b.length d] w fun e w' => e = .returned (.bool true) ∧ Below w.heap.size w w' := PackJoins_any A c a B d b w hr hs
end Go.Proofs.Ytbmcbhpkefjhbaa.Pac
