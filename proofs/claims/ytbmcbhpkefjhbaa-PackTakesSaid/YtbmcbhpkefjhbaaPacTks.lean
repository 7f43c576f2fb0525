/- The walk of PackTakes. -/
import Derived.Test.YtbmcbhpkefjhbaaPacRW
set_option linter.unusedVariables false
set_option linter.unusedSimpArgs false
namespace Go.Proofs.Ytbmcbhpkefjhbaa.Pac
open Go.RowKit Go.Proofs.Ytbmcbhpkefjhbaa Go.Proofs.Ytbmcbhpkefjhbaa.Mem Go.Proofs.YtbmcbhpkefjhbaaW.PrintWords Go.Proofs.YtbmcbhpkefjhbaaW.PrintLast Go.Proofs.YtbmcbhpkefjhbaaW.PrintMore
theorem takes_length : ∀ (ks : List Int) (b : List Int) (p : Nat) (l : List It) (r : Nat), takes b p ks = some (l, r) → l.length = ks.length := by
  intro ks
  induction ks with
  | nil => intro b p l r h; simp only [takes] at h; injection h with h; injection h with h1 h2; subst h1; rfl
  | cons k ks ih =>
    intro b p l r h
    simp only [takes] at h
    split at h
    · cases h
    · rename_i a q _
      split at h
      · cases h
      · rename_i l2 r2 h2
        injection h with h; injection h with h1 h3; subst h1
        rw [List.length_cons, List.length_cons, ih _ _ _ _ h2]
theorem takeR_length (b ks : List Int) : (takeR b ks).1.length ≤ ks.length := by
  unfold takeR
  split
  · split
    · exact Nat.zero_le _
    · rename_i l r h
      exact Nat.le_of_eq (takes_length _ _ _ _ _ h)
  · exact Nat.zero_le _
set_option maxRecDepth 100000 in
set_option maxHeartbeats 2000000 in
theorem PackTakes_any (A : Option Addr) (c : Nat) (b : List Int) (K : Option Addr) (d : Nat) (ks : List Int) (w : World) (hr : RdB w A b) (hby : Bytes b) (hc : b.length ≤ c) (hk : Kd.C (Kd.int .i64) w K ks.length ks) : Calls Try.prog 9 #[.slice A b.length c, .slice K ks.length d] w fun e w' => e = .returned (.bool true) ∧ Below w.heap.size w w' := by
  have HB := Lib.hid (Below.refl w.heap.size w)
  have AW := fun w => Lib.hid (awake_any w)
  have b0 : (0 : Int) ≤ (b.length : Int) := Int.natCast_nonneg _
  have k0 : (0 : Int) ≤ (ks.length : Int) := Int.natCast_nonneg _
  by_cases hbig : 3000 < b.length ∨ 100 < ks.length
  · have hcs : decide (3000 < b.length) = true ∨ (decide (3000 < b.length) = false ∧ decide (100 < ks.length) = true) := by
      by_cases h : 3000 < b.length
      · exact .inl (decide_eq_true h)
      · exact .inr ⟨decide_eq_false h, decide_eq_true (by omega)⟩
    have e1 : decide ((3000 : Int) < (b.length : Int)) = decide (3000 < b.length) := by rw [decide_eq_decide]; omega
    have e2 : decide ((100 : Int) < (ks.length : Int)) = decide (100 < ks.length) := by rw [decide_eq_decide]; omega
    clear hbig hr hby hc hk
    rcases hcs with h1 | ⟨h1, h2⟩
    · rw [h1] at e1
      go_enter Try.func9, Try.ntmps9
      go_wp2_with (first | (go_at_call 25; refine ((AW _).out).mono ?_; rintro e w' ⟨rfl, hb⟩; have HB := Lib.hid (below_step (by repeat (first | (with_reducible first | exact HB.out | apply below_alloc | apply pw_below_drewN | apply below_drew1) | exact HB.out)) hb); clear hb))
      go_ret
      exact ⟨rfl, HB.out⟩
    · rw [h1] at e1
      rw [h2] at e2
      go_enter Try.func9, Try.ntmps9
      go_wp2_with (first | (go_at_call 25; refine ((AW _).out).mono ?_; rintro e w' ⟨rfl, hb⟩; have HB := Lib.hid (below_step (by repeat (first | (with_reducible first | exact HB.out | apply below_alloc | apply pw_below_drewN | apply below_drew1) | exact HB.out)) hb); clear hb))
      go_ret
      exact ⟨rfl, HB.out⟩
  · have h1 : decide (3000 < b.length) = false := decide_eq_false (by omega)
    have h2 : decide (100 < ks.length) = false := decide_eq_false (by omega)
    have e1 : decide ((3000 : Int) < (b.length : Int)) = false := decide_eq_false (by omega)
    have e2 : decide ((100 : Int) < (ks.length : Int)) = false := decide_eq_false (by omega)
    have HR := Lib.hid hr
    have HK := Lib.hid hk
    have HLB : Hid (b.length ≤ 1000000) := Lib.hid (by omega)
    have HLK : Hid (ks.length ≤ 1000000) := Lib.hid (by omega)
    have T1 := Lib.hid (fun wx C cx (h : RdB wx C b) (hcx : b.length ≤ cx) (hk : Kd.C (Kd.int .i64) wx K ks.length ks) => Take_any C cx b K d ks wx h hby HLB.out hcx hk HLK.out)
    have T2 := Lib.hid (fun wx (h : RdB wx A b) (hk : Kd.C (Kd.int .i64) wx K ks.length ks) => rTake_any A c b K d ks wx h hby HLB.out hc hk HLK.out)
    have HTL := Lib.hid (Nat.le_trans (takeR_length b ks) HLK.out)
    unfold TakePost at T1 T2
    generalize takeR b ks = R at *
    obtain ⟨l, n, er⟩ := R
    simp only at T1 T2 HTL
    have hbl : b.length ≤ 3000 := by omega
    clear hr hk hby hbig hc
    go_enter Try.func9, Try.ntmps9
    go_wp2_with (first | ((with_reducible refine gate_dst (N := 21) rfl ?_); refine Kd.R_lit (Kd.int .u8) _ 5 ?hg (N := 21) ?hd (xs := ([] : List Int)) (inner := []) (ok := fun _ => True) (okp := fun _ => True) ?hr ?hp (fun _ hk => hk) trivial (Below.refl _ _) (Nat.le_refl _) (by simp) ?_; (case hd => rfl); (case hg => rfl); (case hr => first | (go_simp; done) | (go_simp; rfl)); (case hp => exact Reps.none _ _); intro v21 w21 ho hb hg_ hnew_; clear hg_ hnew_; have HO21 := Lib.hid (Kd.R_lower ho (below_size (by repeat (first | (with_reducible first | exact HB.out | apply below_alloc | apply pw_below_drewN | apply below_drew1) | exact HB.out)))); have HB := Lib.hid (below_step (by repeat (first | (with_reducible first | exact HB.out | apply below_alloc | apply pw_below_drewN | apply below_drew1) | exact HB.out)) hb); clear ho hb) | ((with_reducible refine gate_builtin (b := .append) (xs := #[.tmp 21, .tmp 22]) rfl ?_); at_builtin; refine Kd.R_append_rows (Kd.int .u8) (w0 := w) w.heap.size rfl (.tmp 21) (.tmp 22) 52 5 (.int .u8 0) 1 rfl Try.underlying52 info8 rfl (by decide) (by omega) v21 [] b _ _ _ (fun _ => True) (fun _ => False) rfl rfl (by (with_reducible repeat (first | apply Kd.R_alloc | apply Kd.R_drewN | apply Kd.R_drew)); exact HO21.out) (Kd.C_below HR.out (by repeat (first | (with_reducible first | exact HB.out | apply below_alloc | apply pw_below_drewN | apply below_drew1) | exact HB.out))) (fun _ _ h => h) (fun _ h => h.elim) (fun _ _ => trivial) (by repeat (first | (with_reducible first | exact HB.out | apply below_alloc | apply pw_below_drewN | apply below_drew1) | exact HB.out)) (below_size (by repeat (first | (with_reducible first | exact HB.out | apply below_alloc | apply pw_below_drewN | apply below_drew1) | exact HB.out))) ?aL ?_; (case aL => rw [List.length_nil]; omega); intro v23 w23 ho hb hg hat; clear hg hat; rw [List.nil_append] at ho; obtain ⟨A1, c1, rfl, hc1, hr1⟩ := Kd.R_reads ho; have HC1 := Lib.hid hc1; have HR1 := Lib.hid hr1; clear hc1 hr1; have HO23 := Lib.hid ho; have HB := Lib.hid hb; clear ho hb))
    refine (T1.out _ A1 c1 HR1.out HC1.out (Kd.C_below HK.out HB.out)).mono ?_
    rintro e w3 ⟨v3, rfl, ⟨A3, c3, rfl, hc3, hr3⟩, hb3⟩
    have HR3 := Lib.hid hr3
    have HBn := Lib.hid (below_step HB.out hb3)
    clear hc3 hr3 hb3 HB T1 HO21 HO23 HR1 HC1
    have HB := HBn
    clear HBn
    go_wp2_with fail
    refine (T2.out _ (Kd.C_below HR.out HB.out) (Kd.C_below HK.out HB.out)).mono ?_
    rintro e w4 ⟨v4, rfl, ⟨A4, c4, rfl, hc4, hr4⟩, hb4⟩
    have LS := Lib.hid (List_any A3 c3 l A4 c4 l w4 (HR3.out.below hb4) hr4 HTL.out HTL.out)
    rw [alike_self] at LS
    have HBn := Lib.hid (below_step HB.out hb4)
    clear hc4 hr4 hb4 HB T2 HR3 HR HK
    have HB := HBn
    clear HBn
    have q1 : (er == er) = true := beq_self_eq_true er
    have q2 : (n == n) = true := beq_self_eq_true n
    go_wp2_with (first | (go_at_call 34; refine (LS.out).mono ?_; rintro e w' ⟨rfl, hb⟩; have HB := Lib.hid (below_step (by repeat (first | (with_reducible first | exact HB.out | apply below_alloc | apply pw_below_drewN | apply below_drew1) | exact HB.out)) hb); clear hb) | (go_at_call 25; refine ((AW _).out).mono ?_; rintro e w' ⟨rfl, hb⟩; have HB := Lib.hid (below_step (by repeat (first | (with_reducible first | exact HB.out | apply below_alloc | apply pw_below_drewN | apply below_drew1) | exact HB.out)) hb); clear hb))
    go_ret
    exact ⟨rfl, HB.out⟩
theorem PackTakes_walk (w : World) (A : Option Addr) (n c : Nat) (z : List Int) (hw : IsRow .u8 w A n c z) (hy : n * 1 ≤ 140737488351232) (B : Option Addr) (m d : Nat) (y : List Int) (hv : IsRow .i64 w B m d y) (hz : m * 8 ≤ 140737488351232) : Calls Try.prog 9 #[.slice A n c, .slice B m d] w fun e w' => e = .returned (.bool true) ∧ Below w.heap.size w w' := by
  obtain ⟨b, rfl, h2, h3, h4, _⟩ := row_bytes hw hy
  obtain ⟨ks, rfl, _, k3, _⟩ := row_int hv
  exact PackTakes_any A c b B d ks w h3 h4 h2 k3
end Go.Proofs.Ytbmcbhpkefjhbaa.Pac
