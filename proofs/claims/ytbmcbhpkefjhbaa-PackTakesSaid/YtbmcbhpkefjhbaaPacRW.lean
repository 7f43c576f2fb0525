/- The walk of the reference's Take. -/
import Derived.Test.YtbmcbhpkefjhbaaPacRT
set_option linter.unusedVariables false
set_option linter.unusedSimpArgs false
namespace Go.Proofs.Ytbmcbhpkefjhbaa.Pac
open Go.RowKit Go.Proofs.Ytbmcbhpkefjhbaa Go.Proofs.Ytbmcbhpkefjhbaa.Mem Go.Proofs.YtbmcbhpkefjhbaaW.PrintWords Go.Proofs.YtbmcbhpkefjhbaaW.PrintLast Go.Proofs.YtbmcbhpkefjhbaaW.PrintMore
def RT30x1a.T : Bool × List (List Nat × List Nat) := (true, [([], []), ([0], [0]), ([1], [1]), ([2, 1], [2]), ([3], [3]), ([4, 3, 3], [3, 4]), ([5, 3], [3, 5]), ([3], [3]), ([3], [3]), ([3], [3]), ([3], [3]), ([9, 10, 3], [3, 9, 10]), ([7, 8, 11, 3], [3, 7, 8, 11]), ([12, 3], [3, 12]), ([6, 13, 3], [3, 6, 13]), ([3, 14], [3, 14])])
def RT30x1a.B : List Nat := [0, 1, 3, 7, 15, 31, 63, 15, 15, 15, 15, 1551, 3983, 8079, 16383, 32767]
theorem RT30x1a.tab : rtab .any (opsOf Try.f35 30) = RT30x1a.T := by kernel_rfl
theorem RT30x1a.bits : waitsOk RT30x1a.T.2 RT30x1a.B = true := by kernel_rfl
def RT30x2b.T : Bool × List (List Nat × List Nat) := (true, [([], []), ([0], [0]), ([1], [1]), ([2, 1], [2]), ([3], [3]), ([4, 3, 3], [3, 4]), ([5, 3], [3, 5]), ([3], [3]), ([3], [3]), ([3], [3]), ([3], [3]), ([9, 10, 3], [3, 9, 10]), ([7, 8, 11, 3], [3, 7, 8, 11]), ([12, 3], [3, 12]), ([6, 13, 3], [3, 6, 13]), ([3, 14], [3, 14])])
def RT30x2b.B : List Nat := [0, 1, 3, 7, 15, 31, 63, 15, 15, 15, 15, 1551, 3983, 8079, 16383, 32767]
theorem RT30x2b.tab : rtab .any (opsOf Try.f35 30) = RT30x2b.T := by kernel_rfl
theorem RT30x2b.bits : waitsOk RT30x2b.T.2 RT30x2b.B = true := by kernel_rfl
def RT30x1e.T : Bool × List (List Nat × List Nat) := (true, [([], []), ([0], [0]), ([1], [1]), ([2, 1], [2]), ([3], [3]), ([4, 3, 3], [3, 4]), ([5, 3], [3, 5]), ([3], [3]), ([3], [3]), ([3], [3]), ([3], [3]), ([9, 10, 3], [3, 9, 10]), ([7, 8, 11, 3], [3, 7, 8, 11]), ([12, 3], [3, 12]), ([6, 13, 3], [3, 6, 13]), ([3, 14], [3, 14])])
def RT30x1e.B : List Nat := [0, 1, 3, 7, 15, 31, 63, 15, 15, 15, 15, 1551, 3983, 8079, 16383, 32767]
theorem RT30x1e.tab : rtab .any (opsOf Try.f35 30) = RT30x1e.T := by kernel_rfl
theorem RT30x1e.bits : waitsOk RT30x1e.T.2 RT30x1e.B = true := by kernel_rfl
def RT30x1c.T : Bool × List (List Nat × List Nat) := (true, [([], []), ([0], [0]), ([1], [1]), ([2, 1], [2]), ([3], [3]), ([4, 3, 3], [3, 4]), ([5, 3], [3, 5]), ([3], [3]), ([3], [3]), ([3], [3]), ([3], [3]), ([9, 10, 3], [3, 9, 10]), ([7, 8, 11, 3], [3, 7, 8, 11]), ([12, 3], [3, 12]), ([6, 13, 3], [3, 6, 13]), ([3, 14], [3, 14])])
def RT30x1c.B : List Nat := [0, 1, 3, 7, 15, 31, 63, 15, 15, 15, 15, 1551, 3983, 8079, 16383, 32767]
theorem RT30x1c.tab : rtab .any (opsOf Try.f35 30) = RT30x1c.T := by kernel_rfl
theorem RT30x1c.bits : waitsOk RT30x1c.T.2 RT30x1c.B = true := by kernel_rfl
def RT30x3d.T : Bool × List (List Nat × List Nat) := (true, [([], []), ([0], [0]), ([1], [1]), ([2, 1], [2]), ([3], [3]), ([4, 3, 3], [3, 4]), ([5, 3], [3, 5]), ([3], [3]), ([3], [3]), ([3], [3]), ([3], [3]), ([9, 10, 3], [3, 9, 10]), ([7, 8, 11, 3], [3, 7, 8, 11]), ([12, 3], [3, 12]), ([6, 13, 3], [3, 6, 13]), ([3, 14], [3, 14])])
def RT30x3d.B : List Nat := [0, 1, 3, 7, 15, 31, 63, 15, 15, 15, 15, 1551, 3983, 8079, 16383, 32767]
theorem RT30x3d.tab : rtab .any (opsOf Try.f35 30) = RT30x3d.T := by kernel_rfl
theorem RT30x3d.bits : waitsOk RT30x3d.T.2 RT30x3d.B = true := by kernel_rfl
set_option maxRecDepth 100000 in
set_option maxHeartbeats 4000000 in
theorem rTake_any (B : Option Addr) (c : Nat) (b : List Int) (K : Option Addr) (d : Nat) (ks : List Int) (w : World) (hr : RdB w B b) (hby : Bytes b) (hb : b.length ≤ 1000000) (hc : b.length ≤ c) (hk : Kd.C (Kd.int .i64) w K ks.length ks) (hkl : ks.length ≤ 1000000) :
    Calls Try.prog 35 #[.slice B b.length c, .slice K ks.length d] w fun e w' => TakePost b ks w e w' := by
  have HR := Lib.hid hr
  have HK := Lib.hid hk
  have HBy := Lib.hid hby
  clear hr hk hby
  have HB := Lib.hid (Below.refl w.heap.size w)
  have hsf : ∀ (a : Addr) (n : Nat) (w : World), (store a (.float .f64 n)).run Try.prog w = stored Try.prog w a (.float .f64 n) .plain := fun a n w => run_store _ w a _ _ rfl
  go_enter Try.func35, Try.ntmps35
  go_wp2
  go_loopg [7] ks.length (fun kk v7 wq => ∃ i : Nat, i ≤ ks.length ∧ kk = ks.length - i ∧ v7 = .int .i64 (i : Int) ∧ Hid (∀ (j : Nat) (x : Int), j < i → ks[j]? = some x → 1 ≤ x ∧ x ≤ 5) ∧ w = wq)
  case atStart => exact ⟨0, Nat.zero_le _, rfl, rfl, Lib.hid (fun j x h => absurd h (Nat.not_lt_zero _)), rfl⟩
  case round =>
    obtain ⟨i, hi, rfl, rfl, HO, rfl⟩ := hrel
    have i0 : (0 : Int) ≤ (i : Int) := Int.natCast_nonneg _
    by_cases hlt : i < ks.length
    · have hd : decide (i < ks.length) = true := decide_eq_true hlt
      have i1 : (i : Int) < (ks.length : Int) := by omega
      obtain ⟨k, hk⟩ : ∃ k, ks[i]? = some k := ⟨_, List.getElem?_eq_getElem hlt⟩
      obtain ⟨ad, rfl, y⟩ := Dsg.RdI_at' HK.out hk
      have HKI := Lib.hid hk
      by_cases hok : 1 ≤ k ∧ k ≤ 5
      · have e1 : decide (k < 1) = false := decide_eq_false (by omega)
        have e2 : decide ((5 : Int) < k) = false := decide_eq_false (by omega)
        clear hk
        go_wp2
        go_roundg (ks.length - (i + 1))
        case measure => omega
        case rel =>
          refine ⟨i + 1, by omega, rfl, by go_num, Lib.hid (fun j x hj hx => ?_), rfl⟩
          by_cases e : j = i
          · rw [e, HKI.out] at hx
            injection hx with hx
            rw [← hx]
            exact hok
          · exact HO.out j x (by omega) hx
      · have hbad : Hid (takeR b ks = ([], 0, 1)) := Lib.hid (by
          unfold takeR kindsOk
          rw [if_neg]
          rw [List.all_eq_true]
          intro h
          have := h k (List.mem_of_getElem? hk)
          simp at this
          omega)
        have hcs : decide (k < 1) = true ∨ (decide (k < 1) = false ∧ decide ((5 : Int) < k) = true) := by
          by_cases h : k < 1
          · exact .inl (decide_eq_true h)
          · exact .inr ⟨decide_eq_false h, decide_eq_true (by omega)⟩
        clear hk hok
        rcases hcs with e1 | ⟨e1, e2⟩
        all_goals go_wp2
        all_goals go_ret3
        all_goals refine ⟨.slice none 0 0, ?_, ?_, HB.out⟩
        all_goals rw [hbad.out]
        all_goals first | rfl | exact GotT.nil _
    · have hd : decide (i < ks.length) = false := decide_eq_false hlt
      obtain rfl : i = ks.length := by omega
      have HKO : Hid (kindsOk ks = true) := Lib.hid (by
        unfold kindsOk
        rw [List.all_eq_true]
        intro x hx
        obtain ⟨j, hj⟩ := List.mem_iff_getElem?.1 hx
        have := HO.out j x (List.getElem?_eq_some_iff.1 hj).1 hj
        simp
        omega)
      clear hlt hd i0
      go_wp2_with (first | ((with_reducible refine gate_dst (N := 34) rfl ?_); refine Kd.R_lit (Kd.int .i64) _ 3 ?hg (N := 34) ?hd (xs := ([0, 1, 2, 4, 8, 1] : List Int)) (inner := [.int .i64 (0), .int .i64 (1), .int .i64 (2), .int .i64 (4), .int .i64 (8), .int .i64 (1)]) (ok := fun _ => True) (okp := fun _ => True) ?hr ?hp (fun _ hk => hk) trivial (Below.refl _ _) (Nat.le_refl _) (by simp) ?_; (case hd => rfl); (case hg => rfl); (case hr => first | (go_simp; done) | (go_simp; rfl)); (case hp => exact Reps.one (show Kd.M (Kd.int .i64) _ _ _ (0) [.int .i64 (0)] from rfl) (Reps.one (show Kd.M (Kd.int .i64) _ _ _ (1) [.int .i64 (1)] from rfl) (Reps.one (show Kd.M (Kd.int .i64) _ _ _ (2) [.int .i64 (2)] from rfl) (Reps.one (show Kd.M (Kd.int .i64) _ _ _ (4) [.int .i64 (4)] from rfl) (Reps.one (show Kd.M (Kd.int .i64) _ _ _ (8) [.int .i64 (8)] from rfl) (Reps.one (show Kd.M (Kd.int .i64) _ _ _ (1) [.int .i64 (1)] from rfl) (Reps.none _ _))))))); intro v34 w34 ho hb hg_ hnew_; have HG34 := Lib.hid hg_; have HNEW34 := Lib.hid hnew_; clear hg_ hnew_; have HO34 := Lib.hid (Kd.R_lower ho (below_size (by repeat (first | (with_reducible first | exact HB.out | apply below_alloc | apply pw_below_drewN | apply below_drew1) | exact HB.out)))); have HB := Lib.hid (below_step (by repeat (first | (with_reducible first | exact HB.out | apply below_alloc | apply pw_below_drewN | apply below_drew1) | exact HB.out)) hb); clear ho hb) | ((with_reducible refine gate_dst (N := 35) rfl ?_); refine Kd.R_lit (Kt) _ 48 ?hg (N := 35) ?hd (xs := []) (inner := []) (ok := fun _ => True) (okp := fun _ => True) ?hr ?hp (fun _ hk => hk) trivial (Below.refl _ _) (Nat.le_refl _) (by simp) ?_; (case hd => rfl); (case hg => rfl); (case hr => first | (go_simp; done) | (go_simp; rfl)); (case hp => exact Reps.none _ _); intro v35 w35 ho hb hg_ hnew_; have HG35 := Lib.hid hg_; have HNEW35 := Lib.hid hnew_; clear hg_ hnew_; have HO35 := Lib.hid (Kd.R_lower ho (below_size (by repeat (first | (with_reducible first | exact HB.out | apply below_alloc | apply pw_below_drewN | apply below_drew1) | exact HB.out)))); have HB := Lib.hid (below_step (by repeat (first | (with_reducible first | exact HB.out | apply below_alloc | apply pw_below_drewN | apply below_drew1) | exact HB.out)) hb); clear ho hb))
      have HSZr := Lib.hid (Kd.R_grown2 HO34.out rfl HG35.out (fun k hk => by cases hk))
      obtain ⟨S1, sc, hv, hsc, hsr⟩ := Kd.R_reads HSZr.out
      have hv' : v34 = .slice S1 6 sc := hv
      subst hv'
      have HAP0 : Hid (Apart (.slice S1 6 sc) v35) := Lib.hid (fun k hk he => by
        have h1 := Kd.R_lt HO34.out k hk
        obtain ⟨b, h2, h3⟩ := HNEW35.out
        rw [he] at h2
        injection h2 with h2
        omega)
      clear HO34 HG34 HG35 HNEW34 HNEW35 hsc hsr
      go_loopg [9, 10, 11, 12, 13, 14, 15] ks.length (fun kk v9 v10 v11 v12 v13 v14 v15 wq => ∃ (i : Nat) (vl : Value) (l : List It) (p : Nat), i ≤ ks.length ∧ kk = ks.length - i ∧ v11 = .int .i64 (i : Int) ∧ v10 = .int .i64 (p : Int) ∧ vl = v9 ∧ Hid (Took b ks i l p) ∧ Hid (Kd.R Kt 48 wq w.heap.size (fun _ => True) v9 l) ∧ Hid (Kd.R (Kd.int .i64) 3 wq w.heap.size (fun _ => True) (.slice S1 6 sc) [0, 1, 2, 4, 8, 1]) ∧ Hid (Apart (.slice S1 6 sc) v9) ∧ Hid (Below w.heap.size w wq))
      case atStart => exact ⟨0, _, [], 0, Nat.zero_le _, rfl, rfl, rfl, rfl, Lib.hid (Took.first b ks), HO35, HSZr, HAP0, HB⟩
      case round =>
        clear HO35 HSZr HAP0 HB
        obtain ⟨i, vl, l, p, hi, rfl, rfl, rfl, rfl, HTO, HW, HSZr, HAP, HB⟩ := hrel
        have i0 : (0 : Int) ≤ (i : Int) := Int.natCast_nonneg _
        have p0 : (0 : Int) ≤ (p : Int) := Int.natCast_nonneg _
        have hpb := HTO.out.2.2.1
        have b1 : (b.length : Int) ≤ 1000000 := by omega
        have p1 : (p : Int) ≤ (b.length : Int) := by omega
        have HLEN : Hid (l.length = i) := Lib.hid HTO.out.1
        by_cases hlt : i < ks.length
        · have hd : decide (i < ks.length) = true := decide_eq_true hlt
          have i1 : (i : Int) < (ks.length : Int) := by omega
          obtain ⟨k, hk⟩ : ∃ k, ks[i]? = some k := ⟨_, List.getElem?_eq_getElem hlt⟩
          obtain ⟨ad, rfl, y⟩ := Dsg.RdI_at' (Kd.C_below HK.out HB.out) hk
          have hok := HO.out i k hlt hk
          have HKI := Lib.hid hk
          clear hk
          have HPN : Hid (item1 b p k = none → takeR b ks = ([], 0, 4)) := Lib.hid (fun h => by
            unfold takeR
            rw [if_pos HKO.out, HTO.out.stop HKI.out h])
          have HRw := Lib.hid (Kd.C_below HR.out HB.out)
          have hcs : k = 4 ∨ k = 5 ∨ (∃ kn : Nat, k = (kn : Int) ∧ (kn = 1 ∨ kn = 2 ∨ kn = 3)) := by
            by_cases h4 : k = 4
            · exact .inl h4
            by_cases h5 : k = 5
            · exact .inr (.inl h5)
            exact .inr (.inr ⟨k.toNat, by omega, by omega⟩)
          have HSr := Lib.hid (Kd.R_reads' HSZr.out).2.2
          rcases hcs with rfl | rfl | ⟨kn, rfl, hk3⟩
          · -- a number
            obtain ⟨sd, rfl, z⟩ := Dsg.RdI_at' HSr.out (j := 4) (e := (8 : Int)) (by rfl)
            have z2 : wr.cell? ⟨sd.block, sd.off + 4, none⟩ = some (.int .i64 8) := z
            clear z
            by_cases hle : p + 8 ≤ b.length
            · have hd2 : decide ((b.length : Int) - (p : Int) < (8 : Int)) = false := decide_eq_false (by omega)
              go_wp2
              obtain ⟨ws, hws⟩ : ∃ ws, ws = wr := ⟨_, rfl⟩
              go_loopg [13, 14] 8 (fun kk v13 v14 wq => ∃ j : Nat, j ≤ 8 ∧ kk = 8 - j ∧ v14 = .int .i64 (j : Int) ∧ v13 = .int .u64 (num ((b.drop p).take j)) ∧ wq = ws)
              case atStart => exact ⟨0, Nat.zero_le _, rfl, rfl, rfl, hws.symm⟩
              case round =>
                subst hws
                obtain ⟨j, hj, rfl, rfl, rfl, rfl⟩ := hrel
                have j0 : (0 : Int) ≤ (j : Int) := Int.natCast_nonneg _
                by_cases hjm : j < 8
                · have hd3 : decide ((j : Int) < (8 : Int)) = true := decide_eq_true (by omega)
                  have hd3' : decide (j < 8) = true := decide_eq_true hjm
                  have hpj : p + j < b.length := by omega
                  obtain ⟨bd, rfl, hx⟩ := Kd.at_int HRw.out ((p + j : Nat) : Int) (by omega) (by omega)
                  rw [Int.toNat_natCast] at hx
                  have hrd : rd b ((p + j : Nat) : Int) = rd (b.drop p) (j : Int) := by
                    unfold rd
                    rw [Int.toNat_natCast, Int.toNat_natCast]
                    simp [List.getD_eq_getElem?_getD, List.getElem?_drop]
                  rw [hrd] at hx
                  have HS := Lib.hid (take_snoc (b.drop p) j (by rw [List.length_drop]; omega))
                  have hX := (HBy.out.drop p).at_ j (by rw [List.length_drop]; omega)
                  have hU := num_bd ((HBy.out.drop p).take j)
                  rw [List.length_take, List.length_drop, Nat.min_eq_left (by omega)] at hU
                  have hp56 := pow56 j (by omega)
                  have pj1 : (p : Int) + (j : Int) < (b.length : Int) := by omega
                  generalize rd (b.drop p) (j : Int) = x at *
                  generalize hu : num ((b.drop p).take j) = u at *
                  have HUE := Lib.hid hu
                  have u0 : 0 ≤ u := hU.1
                  have u1 : u < 72057594037927936 := by omega
                  have x0 : 0 ≤ x := hX.1
                  have x1 : x ≤ 255 := hX.2
                  clear hu hU hp56 hX hrd
                  go_wp2
                  go_roundg (8 - (j + 1))
                  case measure => omega
                  case rel => exact ⟨j + 1, by omega, rfl, by go_num, by rw [HS.out, num_snoc, HUE.out], rfl⟩
                · have hd3 : decide ((j : Int) < (8 : Int)) = false := decide_eq_false (by omega)
                  have hd3' : decide (j < 8) = false := decide_eq_false hjm
                  obtain rfl : 8 = j := by omega
                  have y2 : (wr.alloc (Obj.cells #[Value.int IntKind.i64 4, Value.int IntKind.i64 0, Value.float FloatKind.f64 0, Value.string ⟨#[]⟩] 48)).cell? (ad.add i) = some (.int .i64 4) := (World.cell?_alloc_lt _ _ _ (World.block_lt_of_cell? wr _ y)).trans y
                  clear HSr HRw
                  have hub := num_bd ((HBy.out.drop p).take 8)
                  rw [show ((b.drop p).take 8).length = 8 by rw [List.length_take, List.length_drop]; omega, show (256 : Int) ^ 8 = 18446744073709551616 by decide] at hub
                  have HT8 := Lib.hid (rt4 HBy.out hle)
                  have HEQ := Lib.hid (test_eq (a := ⟨4, 0, (num ((b.drop p).take 8)).toNat, ⟨#[]⟩⟩) (by rw [may_4, nil_toList]; rfl) ((HBy.out.drop p).take 8))
                  have HIT0 : Hid (item1 b p 4 = if p + 8 ≤ b.length ∧ Flt.val (num ((b.drop p).take 8)).toNat = (num ((b.drop p).take 8)).toNat then some (⟨4, 0, (num ((b.drop p).take 8)).toNat, ⟨#[]⟩⟩, p + 8) else none) := Lib.hid rfl
                  generalize num ((b.drop p).take 8) = u at *
                  have HMAY : Hid (may ⟨4, 0, u.toNat, ⟨#[]⟩⟩ = true) := Lib.hid (by rw [may_4, nil_toList]; rfl)
                  go_wp2_with fail
                  have HI3 := Lib.hid (OI.alloc wr ⟨4, 0, u.toNat, ⟨#[]⟩⟩)
                  have HW3 := Lib.hid (Kd.R_alloc HW.out (It.o ⟨4, 0, u.toNat, ⟨#[]⟩⟩))
                  have HS3 := Lib.hid (Kd.R_alloc HSZr.out (It.o ⟨4, 0, u.toNat, ⟨#[]⟩⟩))
                  have HB3 := Lib.hid (below_alloc HB.out (It.o ⟨4, 0, u.toNat, ⟨#[]⟩⟩))
                  generalize wr.alloc (It.o ⟨4, 0, u.toNat, ⟨#[]⟩⟩) = wX at HI3 HW3 HS3 HB3 ⊢
                  generalize wr.heap.size = g at *
                  clear y2 y HB HW HSZr
                  by_cases hval : Flt.val u.toNat = u.toNat
                  · have HTE : Hid (((strOfNums (one ⟨4, 0, u.toNat, ⟨#[]⟩⟩)).toList == (strOfNums ((b.drop p).take 8)).toList) = true) := Lib.hid (by rw [HEQ.out, HT8.out]; exact decide_eq_true hval)
                    have HIT : Hid (item1 b p 4 = some (⟨4, 0, u.toNat, ⟨#[]⟩⟩, p + 8)) := Lib.hid (by rw [HIT0.out, if_pos ⟨hle, hval⟩])
                    clear HEQ HT8 HIT0 hval
                    have MY := Lib.hid (fun wx => May_any ⟨4, 0, u.toNat, ⟨#[]⟩⟩ wx)
                    rw [HMAY.out] at MY
                    obtain ⟨Aq, hsl, hrdq⟩ := cut_b B c b p (8) (by omega) hc
                    rw [show (((8 : Nat)) : Int) = 8 by omega] at hsl
                    have hwp : wrap64 ((p : Int) + (8)) = (p : Int) + (8) := by first | (simp only [wrap64]; omega) | (unfold wrap64; split <;> omega) | go_num
                    have HCV : Hid (∀ wx, RdB wx B b → (convert 52 9 (.slice Aq (8) (c - p))).run Try.prog wx = .ok (.string (strOfNums ((b.drop p).take (8)))) wx) := Lib.hid (fun wx h => by
                      have h2 := conv_str (c - p) (hrdq wx h)
                      rwa [show ((b.drop p).take (8)).length = 8 by rw [List.length_take, List.length_drop]; omega] at h2)
                    clear hrdq
                    have HRX := Lib.hid (Kd.C_below HR.out HB3.out)
                    have ON := Lib.hid (fun wx => One_any ⟨4, 0, u.toNat, ⟨#[]⟩⟩ wx HMAY.out (by simp only; omega))
                    have hte := HTE.out
                    have hte2 : ((strOfNums (one ⟨4, 0, u.toNat, ⟨#[]⟩⟩)).toList != (strOfNums ((b.drop p).take (8))).toList) = false := by rw [bne, hte]; rfl
                    generalize strOfNums ((b.drop p).take (8)) = sy at *
                    have HBo := Lib.hid (below_drew1 (Below.refl wX.heap.size wX))
                    have HSx : Hid (∀ wx, Below wX.heap.size wX wx → HasIt wx g ⟨4, 0, u.toNat, ⟨#[]⟩⟩ ∧ (convert 52 9 (.slice Aq (8) (c - p))).run Try.prog wx = .ok (.string sy) wx) := Lib.hid (fun wx h => ⟨HI3.out.has.below h, HCV.out wx (Kd.C_below HRX.out h)⟩)
                    refine start_ (n := 16) (S := fun wx => HasIt wx g ⟨4, 0, u.toNat, ⟨#[]⟩⟩ ∧ (convert 52 9 (.slice Aq (8) (c - p))).run Try.prog wx = .ok (.string sy) wx) (ds := []) #[false, false, false, false, false, false, false, false, false, false, false, false, false, false, false, false] (by kernel_rfl) rfl rfl (HSx.out _ HBo.out) (fun hHeld => ?_)
                    refine with_tabW RT30x1a.tab RT30x1a.bits (fun HT_ HW_ => ?_)
                    generalize wX.drew = wD at HBo hHeld ⊢
                    refine take_ (i := 0) (N := (some 111)) (v := ?_) (a' := ?_) #[true, false, false, false, false, false, false, false, false, false, false, false, false, false, false, false] rfl rfl (take_ofW HT_.out HW_.out (by kernel_rfl)) (fun _ _ _ h => h) (Or.inl ⟨by rfl, ?_⟩) hHeld ?_ ?_
                    rotate_left
                    · rintro w' ⟨⟨s0, s1, s2, s3⟩, s4⟩
                      go_simp
                      with_reducible rfl
                    rotate_left
                    · simp only [Act.put, List.setIfInBounds_toArray, List.set_cons_zero, List.set_cons_succ, i64_w, i32_w]
                      rfl
                    refine one_ (i := 1) (N := (some 112)) #[true, true, false, false, false, false, false, false, false, false, false, false, false, false, false, false] rfl rfl (one_of HT_.out (by kernel_rfl)) (by decide) (fun K hK => ?_)
                    refine goes_ Try.func30 (by kernel_rfl) rfl #[(⟨4, 0, u.toNat, ⟨#[]⟩⟩ : It).v] (by rfl) rfl rfl (by (try simp only [List.map_toArray, List.map_cons, List.map_nil]); first | done | rfl) ?_
                    refine (MY.out _).mono ?_
                    rintro e w' ⟨rfl, hb'⟩
                    refine ⟨_, rfl, ?_⟩
                    have HBo := Lib.hid (below_step HBo.out hb')
                    clear hb'
                    refine hK.out _ _ (HSx.out _ HBo.out) (fun hHeld => ?_)
                    clear hK K
                    refine norm_ (a' := ?_) ?_ ?_
                    rotate_left
                    · show Act.put _ (some 112) _ = _
                      simp only [Act.put, List.setIfInBounds_toArray, List.set_cons_zero, List.set_cons_succ, i64_w, i32_w]
                      rfl
                    refine pure_ (i := 2) (N := (some 113)) (v := ?_) (a' := ?_) #[true, true, true, false, false, false, false, false, false, false, false, false, false, false, false, false] rfl rfl (any_of HT_.out (by kernel_rfl)) (fun _ _ _ h => h) (Or.inl ⟨by rfl, ?_⟩) ?_ ?_
                    rotate_left
                    · intro w'
                      go_simp
                      with_reducible rfl
                    rotate_left
                    · simp only [Act.put, List.setIfInBounds_toArray, List.set_cons_zero, List.set_cons_succ, i64_w, i32_w]
                      rfl
                    refine pure_ (i := 3) (N := (some 114)) (v := ?_) (a' := ?_) #[true, true, true, true, false, false, false, false, false, false, false, false, false, false, false, false] rfl rfl (any_of HT_.out (by kernel_rfl)) (fun _ _ _ h => h) (Or.inl ⟨by rfl, ?_⟩) ?_ ?_
                    rotate_left
                    · intro w'
                      go_simp
                      with_reducible rfl
                    rotate_left
                    · simp only [Act.put, List.setIfInBounds_toArray, List.set_cons_zero, List.set_cons_succ, i64_w, i32_w]
                      rfl
                    refine take_ (i := 4) (N := (some 115)) (v := ?_) (a' := ?_) #[true, true, true, true, true, false, false, false, false, false, false, false, false, false, false, false] rfl rfl (take_ofW HT_.out HW_.out (by kernel_rfl)) (fun _ _ _ h => h) (Or.inl ⟨by rfl, ?_⟩) hHeld ?_ ?_
                    rotate_left
                    · rintro w' ⟨⟨s0, s1, s2, s3⟩, s4⟩
                      go_simp
                      with_reducible rfl
                    rotate_left
                    · simp only [Act.put, List.setIfInBounds_toArray, List.set_cons_zero, List.set_cons_succ, i64_w, i32_w]
                      rfl
                    refine pure_ (i := 7) (N := (some 118)) (v := ?_) (a' := ?_) #[true, true, true, true, true, false, false, true, false, false, false, false, false, false, false, false] rfl rfl (any_of HT_.out (by kernel_rfl)) (fun _ _ _ h => h) (Or.inl ⟨by rfl, ?_⟩) ?_ ?_
                    rotate_left
                    · intro w'
                      go_simp
                      with_reducible rfl
                    rotate_left
                    · simp only [Act.put, List.setIfInBounds_toArray, List.set_cons_zero, List.set_cons_succ, i64_w, i32_w]
                      rfl
                    refine pure_ (i := 8) (N := (some 119)) (v := ?_) (a' := ?_) #[true, true, true, true, true, false, false, true, true, false, false, false, false, false, false, false] rfl rfl (any_of HT_.out (by kernel_rfl)) (fun _ _ _ h => h) (Or.inl ⟨by rfl, ?_⟩) ?_ ?_
                    rotate_left
                    · intro w'
                      go_simp
                      with_reducible rfl
                    rotate_left
                    · simp only [Act.put, List.setIfInBounds_toArray, List.set_cons_zero, List.set_cons_succ, i64_w, i32_w]
                      rfl
                    refine pure_ (i := 9) (N := (some 120)) (v := ?_) (a' := ?_) #[true, true, true, true, true, false, false, true, true, true, false, false, false, false, false, false] rfl rfl (any_of HT_.out (by kernel_rfl)) (fun _ _ _ h => h) (Or.inl ⟨by rfl, ?_⟩) ?_ ?_
                    rotate_left
                    · intro w'
                      go_simp
                      with_reducible rfl
                    rotate_left
                    · simp only [Act.put, List.setIfInBounds_toArray, List.set_cons_zero, List.set_cons_succ, i64_w, i32_w]
                      rfl
                    refine pure_ (i := 10) (N := (some 121)) (v := ?_) (a' := ?_) #[true, true, true, true, true, false, false, true, true, true, true, false, false, false, false, false] rfl rfl (any_of HT_.out (by kernel_rfl)) (fun _ _ _ h => h) (Or.inl ⟨by rfl, ?_⟩) ?_ ?_
                    rotate_left
                    · intro w'
                      go_simp
                      with_reducible rfl
                    rotate_left
                    · simp only [Act.put, List.setIfInBounds_toArray, List.set_cons_zero, List.set_cons_succ, i64_w, i32_w]
                      rfl
                    refine pure_ (i := 11) (N := (some 122)) (v := ?_) (a' := ?_) #[true, true, true, true, true, false, false, true, true, true, true, true, false, false, false, false] rfl rfl (any_of HT_.out (by kernel_rfl)) (fun _ _ _ h => h) (Or.inl ⟨by rfl, ?_⟩) ?_ ?_
                    rotate_left
                    · intro w'
                      go_simp
                      with_reducible rfl
                    rotate_left
                    · simp only [Act.put, List.setIfInBounds_toArray, List.set_cons_zero, List.set_cons_succ, i64_w, i32_w]
                      rfl
                    refine pure_ (i := 12) (N := (some 123)) (v := ?_) (a' := ?_) #[true, true, true, true, true, false, false, true, true, true, true, true, true, false, false, false] rfl rfl (any_of HT_.out (by kernel_rfl)) (fun _ _ _ h => h) (Or.inl ⟨by rfl, ?_⟩) ?_ ?_
                    rotate_left
                    · intro w'
                      go_simp
                      with_reducible rfl
                    rotate_left
                    · simp only [Act.put, List.setIfInBounds_toArray, List.set_cons_zero, List.set_cons_succ, i64_w, i32_w]
                      rfl
                    refine take_ (i := 13) (N := (some 124)) (v := ?_) (a' := ?_) #[true, true, true, true, true, false, false, true, true, true, true, true, true, true, false, false] rfl rfl (take_ofW HT_.out HW_.out (by kernel_rfl)) (fun _ _ _ h => h) (Or.inl ⟨by rfl, ?_⟩) hHeld ?_ ?_
                    rotate_left
                    · rintro w' ⟨⟨s0, s1, s2, s3⟩, s4⟩
                      go_simp
                      with_reducible rfl
                    rotate_left
                    · simp only [Act.put, List.setIfInBounds_toArray, List.set_cons_zero, List.set_cons_succ, i64_w, i32_w]
                      rfl
                    refine one_ (i := 5) (N := (some 116)) #[true, true, true, true, true, true, false, true, true, true, true, true, true, true, false, false] rfl rfl (one_of HT_.out (by kernel_rfl)) (by decide) (fun K hK => ?_)
                    refine goes_ Try.func60 (by kernel_rfl) rfl #[(⟨4, 0, u.toNat, ⟨#[]⟩⟩ : It).v] (by rfl) rfl rfl (by (try simp only [List.map_toArray, List.map_cons, List.map_nil]); first | done | rfl) ?_
                    refine (ON.out _).mono ?_
                    rintro e w6 ⟨v6, rfl, hR6, hb'⟩
                    refine ⟨_, rfl, ?_⟩
                    have HBo := Lib.hid (below_step HBo.out hb')
                    obtain ⟨A6, c6, rfl, _, hr6⟩ := Kd.R_reads hR6
                    have hcv6 := conv_str c6 hr6
                    clear hb' hR6 hr6
                    refine hK.out _ _ (HSx.out _ HBo.out) (fun hHeld => ?_)
                    clear hK K
                    refine norm_ (a' := ?_) ?_ ?_
                    rotate_left
                    · show Act.put _ (some 116) _ = _
                      simp only [Act.put, List.setIfInBounds_toArray, List.set_cons_zero, List.set_cons_succ, i64_w, i32_w]
                      rfl
                    refine one_ (i := 6) (N := (some 117)) #[true, true, true, true, true, true, true, true, true, true, true, true, true, true, false, false] rfl rfl (one_of HT_.out (by kernel_rfl)) (by decide) (fun K hK => ?_)
                    refine value_ (w1 := ?_) (v := ?_) (by rfl) rfl ?_ ?_
                    rotate_left 2
                    · go_simp
                      constructor
                      · rfl
                      · rfl
                    refine hK.out _ _ (HSx.out _ HBo.out) (fun hHeld => ?_)
                    clear hK K
                    refine norm_ (a' := ?_) ?_ ?_
                    rotate_left
                    · show Act.put _ (some 117) _ = _
                      simp only [Act.put, List.setIfInBounds_toArray, List.set_cons_zero, List.set_cons_succ, i64_w, i32_w]
                      rfl
                    refine pure_ (i := 14) (N := (some 125)) (v := ?_) (a' := ?_) #[true, true, true, true, true, true, true, true, true, true, true, true, true, true, true, false] rfl rfl (any_of HT_.out (by kernel_rfl)) (fun _ _ _ h => h) (Or.inl ⟨by rfl, ?_⟩) ?_ ?_
                    rotate_left
                    · intro w'
                      go_simp
                      with_reducible rfl
                    rotate_left
                    · simp only [Act.put, List.setIfInBounds_toArray, List.set_cons_zero, List.set_cons_succ, i64_w, i32_w]
                      rfl
                    refine pure_ (i := 15) (N := (some 126)) (v := ?_) (a' := ?_) #[true, true, true, true, true, true, true, true, true, true, true, true, true, true, true, true] rfl rfl (any_of HT_.out (by kernel_rfl)) (fun _ _ _ h => h) (Or.inl ⟨by rfl, ?_⟩) ?_ ?_
                    rotate_left
                    · intro w'
                      go_simp
                      with_reducible rfl
                    rotate_left
                    · simp only [Act.put, List.setIfInBounds_toArray, List.set_cons_zero, List.set_cons_succ, i64_w, i32_w]
                      rfl
                    refine done_ (done_of HT_.out (by kernel_rfl)) ?_
                    have HWn := Lib.hid (Kd.R_below HW3.out HBo.out)
                    have HSn := Lib.hid (Kd.R_below HS3.out HBo.out)
                    have HIn := Lib.hid (HI3.out.below HBo.out)
                    have HBn := Lib.hid (below_step HB3.out HBo.out)
                    clear HW3 HS3 HI3 HB3 HRX HCV HSx MY ON hHeld hte hte2 hsl HBo
                    have HB := HBn
                    clear HBn
                    obtain ⟨t0, t1, t2, t3⟩ := HIn.out.has
                    go_wp2_with (first | ((with_reducible refine gate_builtin (b := .append) (xs := #[.tmp 127, .tmp 129]) rfl ?_); at_builtin; refine Kd.R_append Kt (w0 := w) w.heap.size rfl (.tmp 127) (.tmp 129) 50 48 (.agg #[.int .i64 0, .int .i64 0, .float .f64 0, .string ⟨#[]⟩]) 40 rfl Try.underlying50 infoIt rfl (by decide) (by omega) vl l ((⟨4, 0, u.toNat, ⟨#[]⟩⟩ : It)) (It.cs ((⟨4, 0, u.toNat, ⟨#[]⟩⟩ : It))) (fun _ => True) (fun _ => False) rfl ?aX rfl (fun _ h => h.elim) (fun _ _ => trivial) HWn.out (by repeat (first | (with_reducible first | exact HB.out | apply below_alloc | apply pw_below_drewN | apply below_drew1) | exact HB.out)) (below_size (by repeat (first | (with_reducible first | exact HB.out | apply below_alloc | apply pw_below_drewN | apply below_drew1) | exact HB.out))) ?aL ?_; (case aX => first | rfl | (rw [World.size_setCell]; rfl)); (case aL => have := HLEN.out; omega); intro v130 w130 ho hb hg hat; have HG130 := Lib.hid hg; have HAT130 := Lib.hid hat; clear hg hat; have HO130 := Lib.hid ho; have HB := Lib.hid hb; clear ho hb; skip))
                    go_roundg (ks.length - (i + 1))
                    case measure => omega
                    case rel => exact ⟨i + 1, _, l ++ [⟨4, 0, u.toNat, ⟨#[]⟩⟩], p + (8), by omega, rfl, by go_num, by go_num, rfl, Lib.hid (HTO.out.step HBy.out HKI.out HIT.out), HO130, Lib.hid (Kd.R_grown2 HSn.out rfl HG130.out (fun k hk he => HAP.out k he.symm hk)), Lib.hid ((HAP.out.symm.step HAT130.out (Kd.R_lt HSn.out)).symm), HB⟩
                  · have HTE : Hid (((strOfNums (one ⟨4, 0, u.toNat, ⟨#[]⟩⟩)).toList == (strOfNums ((b.drop p).take 8)).toList) = false) := Lib.hid (by rw [HEQ.out, HT8.out]; exact decide_eq_false hval)
                    have HIT : Hid (item1 b p 4 = none) := Lib.hid (by rw [HIT0.out, if_neg (fun h => hval h.2)])
                    clear HEQ HT8 HIT0 hval
                    have MY := Lib.hid (fun wx => May_any ⟨4, 0, u.toNat, ⟨#[]⟩⟩ wx)
                    rw [HMAY.out] at MY
                    obtain ⟨Aq, hsl, hrdq⟩ := cut_b B c b p (8) (by omega) hc
                    rw [show (((8 : Nat)) : Int) = 8 by omega] at hsl
                    have hwp : wrap64 ((p : Int) + (8)) = (p : Int) + (8) := by first | (simp only [wrap64]; omega) | (unfold wrap64; split <;> omega) | go_num
                    have HCV : Hid (∀ wx, RdB wx B b → (convert 52 9 (.slice Aq (8) (c - p))).run Try.prog wx = .ok (.string (strOfNums ((b.drop p).take (8)))) wx) := Lib.hid (fun wx h => by
                      have h2 := conv_str (c - p) (hrdq wx h)
                      rwa [show ((b.drop p).take (8)).length = 8 by rw [List.length_take, List.length_drop]; omega] at h2)
                    clear hrdq
                    have HRX := Lib.hid (Kd.C_below HR.out HB3.out)
                    have ON := Lib.hid (fun wx => One_any ⟨4, 0, u.toNat, ⟨#[]⟩⟩ wx HMAY.out (by simp only; omega))
                    have hte := HTE.out
                    have hte2 : ((strOfNums (one ⟨4, 0, u.toNat, ⟨#[]⟩⟩)).toList != (strOfNums ((b.drop p).take (8))).toList) = true := by rw [bne, hte]; rfl
                    generalize strOfNums ((b.drop p).take (8)) = sy at *
                    have HBo := Lib.hid (below_drew1 (Below.refl wX.heap.size wX))
                    have HSx : Hid (∀ wx, Below wX.heap.size wX wx → HasIt wx g ⟨4, 0, u.toNat, ⟨#[]⟩⟩ ∧ (convert 52 9 (.slice Aq (8) (c - p))).run Try.prog wx = .ok (.string sy) wx) := Lib.hid (fun wx h => ⟨HI3.out.has.below h, HCV.out wx (Kd.C_below HRX.out h)⟩)
                    refine start_ (n := 16) (S := fun wx => HasIt wx g ⟨4, 0, u.toNat, ⟨#[]⟩⟩ ∧ (convert 52 9 (.slice Aq (8) (c - p))).run Try.prog wx = .ok (.string sy) wx) (ds := []) #[false, false, false, false, false, false, false, false, false, false, false, false, false, false, false, false] (by kernel_rfl) rfl rfl (HSx.out _ HBo.out) (fun hHeld => ?_)
                    refine with_tabW RT30x2b.tab RT30x2b.bits (fun HT_ HW_ => ?_)
                    generalize wX.drew = wD at HBo hHeld ⊢
                    refine take_ (i := 0) (N := (some 111)) (v := ?_) (a' := ?_) #[true, false, false, false, false, false, false, false, false, false, false, false, false, false, false, false] rfl rfl (take_ofW HT_.out HW_.out (by kernel_rfl)) (fun _ _ _ h => h) (Or.inl ⟨by rfl, ?_⟩) hHeld ?_ ?_
                    rotate_left
                    · rintro w' ⟨⟨s0, s1, s2, s3⟩, s4⟩
                      go_simp
                      with_reducible rfl
                    rotate_left
                    · simp only [Act.put, List.setIfInBounds_toArray, List.set_cons_zero, List.set_cons_succ, i64_w, i32_w]
                      rfl
                    refine one_ (i := 1) (N := (some 112)) #[true, true, false, false, false, false, false, false, false, false, false, false, false, false, false, false] rfl rfl (one_of HT_.out (by kernel_rfl)) (by decide) (fun K hK => ?_)
                    refine goes_ Try.func30 (by kernel_rfl) rfl #[(⟨4, 0, u.toNat, ⟨#[]⟩⟩ : It).v] (by rfl) rfl rfl (by (try simp only [List.map_toArray, List.map_cons, List.map_nil]); first | done | rfl) ?_
                    refine (MY.out _).mono ?_
                    rintro e w' ⟨rfl, hb'⟩
                    refine ⟨_, rfl, ?_⟩
                    have HBo := Lib.hid (below_step HBo.out hb')
                    clear hb'
                    refine hK.out _ _ (HSx.out _ HBo.out) (fun hHeld => ?_)
                    clear hK K
                    refine norm_ (a' := ?_) ?_ ?_
                    rotate_left
                    · show Act.put _ (some 112) _ = _
                      simp only [Act.put, List.setIfInBounds_toArray, List.set_cons_zero, List.set_cons_succ, i64_w, i32_w]
                      rfl
                    refine pure_ (i := 2) (N := (some 113)) (v := ?_) (a' := ?_) #[true, true, true, false, false, false, false, false, false, false, false, false, false, false, false, false] rfl rfl (any_of HT_.out (by kernel_rfl)) (fun _ _ _ h => h) (Or.inl ⟨by rfl, ?_⟩) ?_ ?_
                    rotate_left
                    · intro w'
                      go_simp
                      with_reducible rfl
                    rotate_left
                    · simp only [Act.put, List.setIfInBounds_toArray, List.set_cons_zero, List.set_cons_succ, i64_w, i32_w]
                      rfl
                    refine pure_ (i := 3) (N := (some 114)) (v := ?_) (a' := ?_) #[true, true, true, true, false, false, false, false, false, false, false, false, false, false, false, false] rfl rfl (any_of HT_.out (by kernel_rfl)) (fun _ _ _ h => h) (Or.inl ⟨by rfl, ?_⟩) ?_ ?_
                    rotate_left
                    · intro w'
                      go_simp
                      with_reducible rfl
                    rotate_left
                    · simp only [Act.put, List.setIfInBounds_toArray, List.set_cons_zero, List.set_cons_succ, i64_w, i32_w]
                      rfl
                    refine take_ (i := 4) (N := (some 115)) (v := ?_) (a' := ?_) #[true, true, true, true, true, false, false, false, false, false, false, false, false, false, false, false] rfl rfl (take_ofW HT_.out HW_.out (by kernel_rfl)) (fun _ _ _ h => h) (Or.inl ⟨by rfl, ?_⟩) hHeld ?_ ?_
                    rotate_left
                    · rintro w' ⟨⟨s0, s1, s2, s3⟩, s4⟩
                      go_simp
                      with_reducible rfl
                    rotate_left
                    · simp only [Act.put, List.setIfInBounds_toArray, List.set_cons_zero, List.set_cons_succ, i64_w, i32_w]
                      rfl
                    refine pure_ (i := 7) (N := (some 118)) (v := ?_) (a' := ?_) #[true, true, true, true, true, false, false, true, false, false, false, false, false, false, false, false] rfl rfl (any_of HT_.out (by kernel_rfl)) (fun _ _ _ h => h) (Or.inl ⟨by rfl, ?_⟩) ?_ ?_
                    rotate_left
                    · intro w'
                      go_simp
                      with_reducible rfl
                    rotate_left
                    · simp only [Act.put, List.setIfInBounds_toArray, List.set_cons_zero, List.set_cons_succ, i64_w, i32_w]
                      rfl
                    refine pure_ (i := 8) (N := (some 119)) (v := ?_) (a' := ?_) #[true, true, true, true, true, false, false, true, true, false, false, false, false, false, false, false] rfl rfl (any_of HT_.out (by kernel_rfl)) (fun _ _ _ h => h) (Or.inl ⟨by rfl, ?_⟩) ?_ ?_
                    rotate_left
                    · intro w'
                      go_simp
                      with_reducible rfl
                    rotate_left
                    · simp only [Act.put, List.setIfInBounds_toArray, List.set_cons_zero, List.set_cons_succ, i64_w, i32_w]
                      rfl
                    refine pure_ (i := 9) (N := (some 120)) (v := ?_) (a' := ?_) #[true, true, true, true, true, false, false, true, true, true, false, false, false, false, false, false] rfl rfl (any_of HT_.out (by kernel_rfl)) (fun _ _ _ h => h) (Or.inl ⟨by rfl, ?_⟩) ?_ ?_
                    rotate_left
                    · intro w'
                      go_simp
                      with_reducible rfl
                    rotate_left
                    · simp only [Act.put, List.setIfInBounds_toArray, List.set_cons_zero, List.set_cons_succ, i64_w, i32_w]
                      rfl
                    refine pure_ (i := 10) (N := (some 121)) (v := ?_) (a' := ?_) #[true, true, true, true, true, false, false, true, true, true, true, false, false, false, false, false] rfl rfl (any_of HT_.out (by kernel_rfl)) (fun _ _ _ h => h) (Or.inl ⟨by rfl, ?_⟩) ?_ ?_
                    rotate_left
                    · intro w'
                      go_simp
                      with_reducible rfl
                    rotate_left
                    · simp only [Act.put, List.setIfInBounds_toArray, List.set_cons_zero, List.set_cons_succ, i64_w, i32_w]
                      rfl
                    refine pure_ (i := 11) (N := (some 122)) (v := ?_) (a' := ?_) #[true, true, true, true, true, false, false, true, true, true, true, true, false, false, false, false] rfl rfl (any_of HT_.out (by kernel_rfl)) (fun _ _ _ h => h) (Or.inl ⟨by rfl, ?_⟩) ?_ ?_
                    rotate_left
                    · intro w'
                      go_simp
                      with_reducible rfl
                    rotate_left
                    · simp only [Act.put, List.setIfInBounds_toArray, List.set_cons_zero, List.set_cons_succ, i64_w, i32_w]
                      rfl
                    refine pure_ (i := 12) (N := (some 123)) (v := ?_) (a' := ?_) #[true, true, true, true, true, false, false, true, true, true, true, true, true, false, false, false] rfl rfl (any_of HT_.out (by kernel_rfl)) (fun _ _ _ h => h) (Or.inl ⟨by rfl, ?_⟩) ?_ ?_
                    rotate_left
                    · intro w'
                      go_simp
                      with_reducible rfl
                    rotate_left
                    · simp only [Act.put, List.setIfInBounds_toArray, List.set_cons_zero, List.set_cons_succ, i64_w, i32_w]
                      rfl
                    refine take_ (i := 13) (N := (some 124)) (v := ?_) (a' := ?_) #[true, true, true, true, true, false, false, true, true, true, true, true, true, true, false, false] rfl rfl (take_ofW HT_.out HW_.out (by kernel_rfl)) (fun _ _ _ h => h) (Or.inl ⟨by rfl, ?_⟩) hHeld ?_ ?_
                    rotate_left
                    · rintro w' ⟨⟨s0, s1, s2, s3⟩, s4⟩
                      go_simp
                      with_reducible rfl
                    rotate_left
                    · simp only [Act.put, List.setIfInBounds_toArray, List.set_cons_zero, List.set_cons_succ, i64_w, i32_w]
                      rfl
                    refine one_ (i := 5) (N := (some 116)) #[true, true, true, true, true, true, false, true, true, true, true, true, true, true, false, false] rfl rfl (one_of HT_.out (by kernel_rfl)) (by decide) (fun K hK => ?_)
                    refine goes_ Try.func60 (by kernel_rfl) rfl #[(⟨4, 0, u.toNat, ⟨#[]⟩⟩ : It).v] (by rfl) rfl rfl (by (try simp only [List.map_toArray, List.map_cons, List.map_nil]); first | done | rfl) ?_
                    refine (ON.out _).mono ?_
                    rintro e w6 ⟨v6, rfl, hR6, hb'⟩
                    refine ⟨_, rfl, ?_⟩
                    have HBo := Lib.hid (below_step HBo.out hb')
                    obtain ⟨A6, c6, rfl, _, hr6⟩ := Kd.R_reads hR6
                    have hcv6 := conv_str c6 hr6
                    clear hb' hR6 hr6
                    refine hK.out _ _ (HSx.out _ HBo.out) (fun hHeld => ?_)
                    clear hK K
                    refine norm_ (a' := ?_) ?_ ?_
                    rotate_left
                    · show Act.put _ (some 116) _ = _
                      simp only [Act.put, List.setIfInBounds_toArray, List.set_cons_zero, List.set_cons_succ, i64_w, i32_w]
                      rfl
                    refine one_ (i := 6) (N := (some 117)) #[true, true, true, true, true, true, true, true, true, true, true, true, true, true, false, false] rfl rfl (one_of HT_.out (by kernel_rfl)) (by decide) (fun K hK => ?_)
                    refine value_ (w1 := ?_) (v := ?_) (by rfl) rfl ?_ ?_
                    rotate_left 2
                    · go_simp
                      constructor
                      · rfl
                      · rfl
                    refine hK.out _ _ (HSx.out _ HBo.out) (fun hHeld => ?_)
                    clear hK K
                    refine norm_ (a' := ?_) ?_ ?_
                    rotate_left
                    · show Act.put _ (some 117) _ = _
                      simp only [Act.put, List.setIfInBounds_toArray, List.set_cons_zero, List.set_cons_succ, i64_w, i32_w]
                      rfl
                    refine pure_ (i := 14) (N := (some 125)) (v := ?_) (a' := ?_) #[true, true, true, true, true, true, true, true, true, true, true, true, true, true, true, false] rfl rfl (any_of HT_.out (by kernel_rfl)) (fun _ _ _ h => h) (Or.inl ⟨by rfl, ?_⟩) ?_ ?_
                    rotate_left
                    · intro w'
                      go_simp
                      with_reducible rfl
                    rotate_left
                    · simp only [Act.put, List.setIfInBounds_toArray, List.set_cons_zero, List.set_cons_succ, i64_w, i32_w]
                      rfl
                    refine pure_ (i := 15) (N := (some 126)) (v := ?_) (a' := ?_) #[true, true, true, true, true, true, true, true, true, true, true, true, true, true, true, true] rfl rfl (any_of HT_.out (by kernel_rfl)) (fun _ _ _ h => h) (Or.inl ⟨by rfl, ?_⟩) ?_ ?_
                    rotate_left
                    · intro w'
                      go_simp
                      with_reducible rfl
                    rotate_left
                    · simp only [Act.put, List.setIfInBounds_toArray, List.set_cons_zero, List.set_cons_succ, i64_w, i32_w]
                      rfl
                    refine done_ (done_of HT_.out (by kernel_rfl)) ?_
                    have HBn := Lib.hid (below_step HB3.out HBo.out)
                    have HRES := Lib.hid (HPN.out HIT.out)
                    go_wp2
                    go_ret3
                    refine ⟨.slice none 0 0, ?_, ?_, HBn.out⟩
                    all_goals rw [HRES.out]
                    all_goals first | rfl | exact GotT.nil _

            · have hd2 : decide ((b.length : Int) - (p : Int) < (8 : Int)) = true := decide_eq_true (by omega)
              have hres := HPN.out (by unfold item1; rw [if_pos rfl, if_neg (by omega)])
              have HRES := Lib.hid hres
              clear hres
              go_wp2
              go_ret3
              refine ⟨.slice none 0 0, ?_, ?_, HB.out⟩
              all_goals rw [HRES.out]
              all_goals first | rfl | exact GotT.nil _
          · -- a text
            obtain ⟨sd, rfl, z⟩ := Dsg.RdI_at' HSr.out (j := 5) (e := (1 : Int)) (by rfl)
            have z2 : wr.cell? ⟨sd.block, sd.off + 5, none⟩ = some (.int .i64 1) := z
            clear z
            by_cases hle : p + 1 ≤ b.length
            · have hd2 : decide ((b.length : Int) - (p : Int) < (1 : Int)) = false := decide_eq_false (by omega)
              go_wp2
              obtain ⟨ws, hws⟩ : ∃ ws, ws = wr := ⟨_, rfl⟩
              go_loopg [13, 14] 1 (fun kk v13 v14 wq => ∃ j : Nat, j ≤ 1 ∧ kk = 1 - j ∧ v14 = .int .i64 (j : Int) ∧ v13 = .int .u64 (num ((b.drop p).take j)) ∧ wq = ws)
              case atStart => exact ⟨0, Nat.zero_le _, rfl, rfl, rfl, hws.symm⟩
              case round =>
                subst hws
                obtain ⟨j, hj, rfl, rfl, rfl, rfl⟩ := hrel
                have j0 : (0 : Int) ≤ (j : Int) := Int.natCast_nonneg _
                by_cases hjm : j < 1
                · have hd3 : decide ((j : Int) < (1 : Int)) = true := decide_eq_true (by omega)
                  have hd3' : decide (j < 1) = true := decide_eq_true hjm
                  have hpj : p + j < b.length := by omega
                  obtain ⟨bd, rfl, hx⟩ := Kd.at_int HRw.out ((p + j : Nat) : Int) (by omega) (by omega)
                  rw [Int.toNat_natCast] at hx
                  have hrd : rd b ((p + j : Nat) : Int) = rd (b.drop p) (j : Int) := by
                    unfold rd
                    rw [Int.toNat_natCast, Int.toNat_natCast]
                    simp [List.getD_eq_getElem?_getD, List.getElem?_drop]
                  rw [hrd] at hx
                  have HS := Lib.hid (take_snoc (b.drop p) j (by rw [List.length_drop]; omega))
                  have hX := (HBy.out.drop p).at_ j (by rw [List.length_drop]; omega)
                  have hU := num_bd ((HBy.out.drop p).take j)
                  rw [List.length_take, List.length_drop, Nat.min_eq_left (by omega)] at hU
                  have hp56 := pow56 j (by omega)
                  have pj1 : (p : Int) + (j : Int) < (b.length : Int) := by omega
                  generalize rd (b.drop p) (j : Int) = x at *
                  generalize hu : num ((b.drop p).take j) = u at *
                  have HUE := Lib.hid hu
                  have u0 : 0 ≤ u := hU.1
                  have u1 : u < 72057594037927936 := by omega
                  have x0 : 0 ≤ x := hX.1
                  have x1 : x ≤ 255 := hX.2
                  clear hu hU hp56 hX hrd
                  go_wp2
                  go_roundg (1 - (j + 1))
                  case measure => omega
                  case rel => exact ⟨j + 1, by omega, rfl, by go_num, by rw [HS.out, num_snoc, HUE.out], rfl⟩
                · have hd3 : decide ((j : Int) < (1 : Int)) = false := decide_eq_false (by omega)
                  have hd3' : decide (j < 1) = false := decide_eq_false hjm
                  obtain rfl : 1 = j := by omega
                  have y2 : (wr.alloc (Obj.cells #[Value.int IntKind.i64 5, Value.int IntKind.i64 0, Value.float FloatKind.f64 0, Value.string ⟨#[]⟩] 48)).cell? (ad.add i) = some (.int .i64 5) := (World.cell?_alloc_lt _ _ _ (World.block_lt_of_cell? wr _ y)).trans y
                  clear HSr HRw
                  have hub := num_bd ((HBy.out.drop p).take 1)
                  rw [show ((b.drop p).take 1).length = 1 by rw [List.length_take, List.length_drop]; omega, show (256 : Int) ^ 1 = 256 by decide] at hub
                  obtain ⟨mm, hmm⟩ : ∃ mm : Nat, num ((b.drop p).take 1) = (mm : Int) := ⟨(num ((b.drop p).take 1)).toNat, by omega⟩
                  have HMM := Lib.hid hmm
                  have HIT0 : Hid (item1 b p 5 = if p + 1 ≤ b.length ∧ p + 1 + mm ≤ b.length then some (⟨5, 0, 0, strOfNums ((b.drop (p + 1)).take mm)⟩, p + 1 + mm) else none) := Lib.hid (by
                    unfold item1
                    rw [if_neg (show ¬ ((5 : Int) = 4) by decide), if_pos rfl, hmm, Int.toNat_natCast])
                  rw [hmm] at hub ⊢
                  clear hmm
                  have m0 : (0 : Int) ≤ (mm : Int) := hub.1
                  have m1 : (mm : Int) ≤ 255 := by omega
                  have b1 : (b.length : Int) ≤ 1000000 := by omega
                  have p1 : (p : Int) ≤ (b.length : Int) := by omega
                  clear hub
                  by_cases hle2 : p + 1 + mm ≤ b.length
                  · have hd5 : decide ((b.length : Int) - (p : Int) - 1 < (mm : Int)) = false := decide_eq_false (by omega)
                    have HIT : Hid (item1 b p 5 = some (⟨5, 0, 0, strOfNums ((b.drop (p + 1)).take mm)⟩, p + (1 + mm))) := Lib.hid (by rw [HIT0.out, if_pos ⟨hle, hle2⟩, Nat.add_assoc])
                    have HO5 := Lib.hid (rt5 HBy.out hle2 HMM.out)
                    have hlen : ((b.drop (p + 1)).take mm).length = mm := by rw [List.length_take, List.length_drop]; omega
                    have HMAY : Hid (may ⟨5, 0, 0, strOfNums ((b.drop (p + 1)).take mm)⟩ = true) := Lib.hid (by
                      rw [may_5, size_strOf, hlen]
                      simp
                      omega)
                    have HTE : Hid (((strOfNums (one ⟨5, 0, 0, strOfNums ((b.drop (p + 1)).take mm)⟩)).toList == (strOfNums ((b.drop p).take (1 + mm))).toList) = true) := Lib.hid (by rw [test_eq HMAY.out ((HBy.out.drop p).take (1 + mm))]; exact decide_eq_true HO5.out)
                    obtain ⟨A9, hsl9, hrd9⟩ := cut_b B c b (p + 1) mm hle2 hc
                    rw [show (((p + 1 : Nat)) : Int) = (p : Int) + 1 by omega] at hsl9
                    have hcv9 := conv_str (c - (p + 1)) (hrd9 _ (Kd.C_alloc (Kd.C_below HR.out HB.out) (Obj.cells #[Value.int IntKind.i64 5, Value.int IntKind.i64 0, Value.float FloatKind.f64 0, Value.string ⟨#[]⟩] 48)))
                    rw [hlen] at hcv9
                    clear hrd9 HO5 hlen HIT0 HMM
                    generalize strOfNums ((b.drop (p + 1)).take mm) = sx at *
                    go_wp2_with fail
                    have HI3 := Lib.hid (OI.alloc wr ⟨5, 0, 0, sx⟩)
                    have HW3 := Lib.hid (Kd.R_alloc HW.out (It.o ⟨5, 0, 0, sx⟩))
                    have HS3 := Lib.hid (Kd.R_alloc HSZr.out (It.o ⟨5, 0, 0, sx⟩))
                    have HB3 := Lib.hid (below_alloc HB.out (It.o ⟨5, 0, 0, sx⟩))
                    generalize wr.alloc (It.o ⟨5, 0, 0, sx⟩) = wX at HI3 HW3 HS3 HB3 ⊢
                    generalize wr.heap.size = g at *
                    clear y2 y HB HW HSZr
                    clear hcv9 hsl9
                    have MY := Lib.hid (fun wx => May_any ⟨5, 0, 0, sx⟩ wx)
                    rw [HMAY.out] at MY
                    obtain ⟨Aq, hsl, hrdq⟩ := cut_b B c b p (1 + mm) (by omega) hc
                    rw [show (((1 + mm : Nat)) : Int) = 1 + (mm : Int) by omega] at hsl
                    have hwp : wrap64 ((p : Int) + (1 + (mm : Int))) = (p : Int) + (1 + (mm : Int)) := by first | (simp only [wrap64]; omega) | (unfold wrap64; split <;> omega) | go_num
                    have HCV : Hid (∀ wx, RdB wx B b → (convert 52 9 (.slice Aq (1 + mm) (c - p))).run Try.prog wx = .ok (.string (strOfNums ((b.drop p).take (1 + mm)))) wx) := Lib.hid (fun wx h => by
                      have h2 := conv_str (c - p) (hrdq wx h)
                      rwa [show ((b.drop p).take (1 + mm)).length = 1 + mm by rw [List.length_take, List.length_drop]; omega] at h2)
                    clear hrdq
                    have HRX := Lib.hid (Kd.C_below HR.out HB3.out)
                    have ON := Lib.hid (fun wx => One_any ⟨5, 0, 0, sx⟩ wx HMAY.out (by simp))
                    have hte := HTE.out
                    have hte2 : ((strOfNums (one ⟨5, 0, 0, sx⟩)).toList != (strOfNums ((b.drop p).take (1 + mm))).toList) = false := by rw [bne, hte]; rfl
                    generalize strOfNums ((b.drop p).take (1 + mm)) = sy at *
                    have HBo := Lib.hid (below_drew1 (Below.refl wX.heap.size wX))
                    have HSx : Hid (∀ wx, Below wX.heap.size wX wx → HasIt wx g ⟨5, 0, 0, sx⟩ ∧ (convert 52 9 (.slice Aq (1 + mm) (c - p))).run Try.prog wx = .ok (.string sy) wx) := Lib.hid (fun wx h => ⟨HI3.out.has.below h, HCV.out wx (Kd.C_below HRX.out h)⟩)
                    refine start_ (n := 16) (S := fun wx => HasIt wx g ⟨5, 0, 0, sx⟩ ∧ (convert 52 9 (.slice Aq (1 + mm) (c - p))).run Try.prog wx = .ok (.string sy) wx) (ds := []) #[false, false, false, false, false, false, false, false, false, false, false, false, false, false, false, false] (by kernel_rfl) rfl rfl (HSx.out _ HBo.out) (fun hHeld => ?_)
                    refine with_tabW RT30x1e.tab RT30x1e.bits (fun HT_ HW_ => ?_)
                    generalize wX.drew = wD at HBo hHeld ⊢
                    refine take_ (i := 0) (N := (some 111)) (v := ?_) (a' := ?_) #[true, false, false, false, false, false, false, false, false, false, false, false, false, false, false, false] rfl rfl (take_ofW HT_.out HW_.out (by kernel_rfl)) (fun _ _ _ h => h) (Or.inl ⟨by rfl, ?_⟩) hHeld ?_ ?_
                    rotate_left
                    · rintro w' ⟨⟨s0, s1, s2, s3⟩, s4⟩
                      go_simp
                      with_reducible rfl
                    rotate_left
                    · simp only [Act.put, List.setIfInBounds_toArray, List.set_cons_zero, List.set_cons_succ, i64_w, i32_w]
                      rfl
                    refine one_ (i := 1) (N := (some 112)) #[true, true, false, false, false, false, false, false, false, false, false, false, false, false, false, false] rfl rfl (one_of HT_.out (by kernel_rfl)) (by decide) (fun K hK => ?_)
                    refine goes_ Try.func30 (by kernel_rfl) rfl #[(⟨5, 0, 0, sx⟩ : It).v] (by rfl) rfl rfl (by (try simp only [List.map_toArray, List.map_cons, List.map_nil]); first | done | rfl) ?_
                    refine (MY.out _).mono ?_
                    rintro e w' ⟨rfl, hb'⟩
                    refine ⟨_, rfl, ?_⟩
                    have HBo := Lib.hid (below_step HBo.out hb')
                    clear hb'
                    refine hK.out _ _ (HSx.out _ HBo.out) (fun hHeld => ?_)
                    clear hK K
                    refine norm_ (a' := ?_) ?_ ?_
                    rotate_left
                    · show Act.put _ (some 112) _ = _
                      simp only [Act.put, List.setIfInBounds_toArray, List.set_cons_zero, List.set_cons_succ, i64_w, i32_w]
                      rfl
                    refine pure_ (i := 2) (N := (some 113)) (v := ?_) (a' := ?_) #[true, true, true, false, false, false, false, false, false, false, false, false, false, false, false, false] rfl rfl (any_of HT_.out (by kernel_rfl)) (fun _ _ _ h => h) (Or.inl ⟨by rfl, ?_⟩) ?_ ?_
                    rotate_left
                    · intro w'
                      go_simp
                      with_reducible rfl
                    rotate_left
                    · simp only [Act.put, List.setIfInBounds_toArray, List.set_cons_zero, List.set_cons_succ, i64_w, i32_w]
                      rfl
                    refine pure_ (i := 3) (N := (some 114)) (v := ?_) (a' := ?_) #[true, true, true, true, false, false, false, false, false, false, false, false, false, false, false, false] rfl rfl (any_of HT_.out (by kernel_rfl)) (fun _ _ _ h => h) (Or.inl ⟨by rfl, ?_⟩) ?_ ?_
                    rotate_left
                    · intro w'
                      go_simp
                      with_reducible rfl
                    rotate_left
                    · simp only [Act.put, List.setIfInBounds_toArray, List.set_cons_zero, List.set_cons_succ, i64_w, i32_w]
                      rfl
                    refine take_ (i := 4) (N := (some 115)) (v := ?_) (a' := ?_) #[true, true, true, true, true, false, false, false, false, false, false, false, false, false, false, false] rfl rfl (take_ofW HT_.out HW_.out (by kernel_rfl)) (fun _ _ _ h => h) (Or.inl ⟨by rfl, ?_⟩) hHeld ?_ ?_
                    rotate_left
                    · rintro w' ⟨⟨s0, s1, s2, s3⟩, s4⟩
                      go_simp
                      with_reducible rfl
                    rotate_left
                    · simp only [Act.put, List.setIfInBounds_toArray, List.set_cons_zero, List.set_cons_succ, i64_w, i32_w]
                      rfl
                    refine pure_ (i := 7) (N := (some 118)) (v := ?_) (a' := ?_) #[true, true, true, true, true, false, false, true, false, false, false, false, false, false, false, false] rfl rfl (any_of HT_.out (by kernel_rfl)) (fun _ _ _ h => h) (Or.inl ⟨by rfl, ?_⟩) ?_ ?_
                    rotate_left
                    · intro w'
                      go_simp
                      with_reducible rfl
                    rotate_left
                    · simp only [Act.put, List.setIfInBounds_toArray, List.set_cons_zero, List.set_cons_succ, i64_w, i32_w]
                      rfl
                    refine pure_ (i := 8) (N := (some 119)) (v := ?_) (a' := ?_) #[true, true, true, true, true, false, false, true, true, false, false, false, false, false, false, false] rfl rfl (any_of HT_.out (by kernel_rfl)) (fun _ _ _ h => h) (Or.inl ⟨by rfl, ?_⟩) ?_ ?_
                    rotate_left
                    · intro w'
                      go_simp
                      with_reducible rfl
                    rotate_left
                    · simp only [Act.put, List.setIfInBounds_toArray, List.set_cons_zero, List.set_cons_succ, i64_w, i32_w]
                      rfl
                    refine pure_ (i := 9) (N := (some 120)) (v := ?_) (a' := ?_) #[true, true, true, true, true, false, false, true, true, true, false, false, false, false, false, false] rfl rfl (any_of HT_.out (by kernel_rfl)) (fun _ _ _ h => h) (Or.inl ⟨by rfl, ?_⟩) ?_ ?_
                    rotate_left
                    · intro w'
                      go_simp
                      with_reducible rfl
                    rotate_left
                    · simp only [Act.put, List.setIfInBounds_toArray, List.set_cons_zero, List.set_cons_succ, i64_w, i32_w]
                      rfl
                    refine pure_ (i := 10) (N := (some 121)) (v := ?_) (a' := ?_) #[true, true, true, true, true, false, false, true, true, true, true, false, false, false, false, false] rfl rfl (any_of HT_.out (by kernel_rfl)) (fun _ _ _ h => h) (Or.inl ⟨by rfl, ?_⟩) ?_ ?_
                    rotate_left
                    · intro w'
                      go_simp
                      with_reducible rfl
                    rotate_left
                    · simp only [Act.put, List.setIfInBounds_toArray, List.set_cons_zero, List.set_cons_succ, i64_w, i32_w]
                      rfl
                    refine pure_ (i := 11) (N := (some 122)) (v := ?_) (a' := ?_) #[true, true, true, true, true, false, false, true, true, true, true, true, false, false, false, false] rfl rfl (any_of HT_.out (by kernel_rfl)) (fun _ _ _ h => h) (Or.inl ⟨by rfl, ?_⟩) ?_ ?_
                    rotate_left
                    · intro w'
                      go_simp
                      with_reducible rfl
                    rotate_left
                    · simp only [Act.put, List.setIfInBounds_toArray, List.set_cons_zero, List.set_cons_succ, i64_w, i32_w]
                      rfl
                    refine pure_ (i := 12) (N := (some 123)) (v := ?_) (a' := ?_) #[true, true, true, true, true, false, false, true, true, true, true, true, true, false, false, false] rfl rfl (any_of HT_.out (by kernel_rfl)) (fun _ _ _ h => h) (Or.inl ⟨by rfl, ?_⟩) ?_ ?_
                    rotate_left
                    · intro w'
                      go_simp
                      with_reducible rfl
                    rotate_left
                    · simp only [Act.put, List.setIfInBounds_toArray, List.set_cons_zero, List.set_cons_succ, i64_w, i32_w]
                      rfl
                    refine take_ (i := 13) (N := (some 124)) (v := ?_) (a' := ?_) #[true, true, true, true, true, false, false, true, true, true, true, true, true, true, false, false] rfl rfl (take_ofW HT_.out HW_.out (by kernel_rfl)) (fun _ _ _ h => h) (Or.inl ⟨by rfl, ?_⟩) hHeld ?_ ?_
                    rotate_left
                    · rintro w' ⟨⟨s0, s1, s2, s3⟩, s4⟩
                      go_simp
                      with_reducible rfl
                    rotate_left
                    · simp only [Act.put, List.setIfInBounds_toArray, List.set_cons_zero, List.set_cons_succ, i64_w, i32_w]
                      rfl
                    refine one_ (i := 5) (N := (some 116)) #[true, true, true, true, true, true, false, true, true, true, true, true, true, true, false, false] rfl rfl (one_of HT_.out (by kernel_rfl)) (by decide) (fun K hK => ?_)
                    refine goes_ Try.func60 (by kernel_rfl) rfl #[(⟨5, 0, 0, sx⟩ : It).v] (by rfl) rfl rfl (by (try simp only [List.map_toArray, List.map_cons, List.map_nil]); first | done | rfl) ?_
                    refine (ON.out _).mono ?_
                    rintro e w6 ⟨v6, rfl, hR6, hb'⟩
                    refine ⟨_, rfl, ?_⟩
                    have HBo := Lib.hid (below_step HBo.out hb')
                    obtain ⟨A6, c6, rfl, _, hr6⟩ := Kd.R_reads hR6
                    have hcv6 := conv_str c6 hr6
                    clear hb' hR6 hr6
                    refine hK.out _ _ (HSx.out _ HBo.out) (fun hHeld => ?_)
                    clear hK K
                    refine norm_ (a' := ?_) ?_ ?_
                    rotate_left
                    · show Act.put _ (some 116) _ = _
                      simp only [Act.put, List.setIfInBounds_toArray, List.set_cons_zero, List.set_cons_succ, i64_w, i32_w]
                      rfl
                    refine one_ (i := 6) (N := (some 117)) #[true, true, true, true, true, true, true, true, true, true, true, true, true, true, false, false] rfl rfl (one_of HT_.out (by kernel_rfl)) (by decide) (fun K hK => ?_)
                    refine value_ (w1 := ?_) (v := ?_) (by rfl) rfl ?_ ?_
                    rotate_left 2
                    · go_simp
                      constructor
                      · rfl
                      · rfl
                    refine hK.out _ _ (HSx.out _ HBo.out) (fun hHeld => ?_)
                    clear hK K
                    refine norm_ (a' := ?_) ?_ ?_
                    rotate_left
                    · show Act.put _ (some 117) _ = _
                      simp only [Act.put, List.setIfInBounds_toArray, List.set_cons_zero, List.set_cons_succ, i64_w, i32_w]
                      rfl
                    refine pure_ (i := 14) (N := (some 125)) (v := ?_) (a' := ?_) #[true, true, true, true, true, true, true, true, true, true, true, true, true, true, true, false] rfl rfl (any_of HT_.out (by kernel_rfl)) (fun _ _ _ h => h) (Or.inl ⟨by rfl, ?_⟩) ?_ ?_
                    rotate_left
                    · intro w'
                      go_simp
                      with_reducible rfl
                    rotate_left
                    · simp only [Act.put, List.setIfInBounds_toArray, List.set_cons_zero, List.set_cons_succ, i64_w, i32_w]
                      rfl
                    refine pure_ (i := 15) (N := (some 126)) (v := ?_) (a' := ?_) #[true, true, true, true, true, true, true, true, true, true, true, true, true, true, true, true] rfl rfl (any_of HT_.out (by kernel_rfl)) (fun _ _ _ h => h) (Or.inl ⟨by rfl, ?_⟩) ?_ ?_
                    rotate_left
                    · intro w'
                      go_simp
                      with_reducible rfl
                    rotate_left
                    · simp only [Act.put, List.setIfInBounds_toArray, List.set_cons_zero, List.set_cons_succ, i64_w, i32_w]
                      rfl
                    refine done_ (done_of HT_.out (by kernel_rfl)) ?_
                    have HWn := Lib.hid (Kd.R_below HW3.out HBo.out)
                    have HSn := Lib.hid (Kd.R_below HS3.out HBo.out)
                    have HIn := Lib.hid (HI3.out.below HBo.out)
                    have HBn := Lib.hid (below_step HB3.out HBo.out)
                    clear HW3 HS3 HI3 HB3 HRX HCV HSx MY ON hHeld hte hte2 hsl HBo
                    have HB := HBn
                    clear HBn
                    obtain ⟨t0, t1, t2, t3⟩ := HIn.out.has
                    go_wp2_with (first | ((with_reducible refine gate_builtin (b := .append) (xs := #[.tmp 127, .tmp 129]) rfl ?_); at_builtin; refine Kd.R_append Kt (w0 := w) w.heap.size rfl (.tmp 127) (.tmp 129) 50 48 (.agg #[.int .i64 0, .int .i64 0, .float .f64 0, .string ⟨#[]⟩]) 40 rfl Try.underlying50 infoIt rfl (by decide) (by omega) vl l ((⟨5, 0, 0, sx⟩ : It)) (It.cs ((⟨5, 0, 0, sx⟩ : It))) (fun _ => True) (fun _ => False) rfl ?aX rfl (fun _ h => h.elim) (fun _ _ => trivial) HWn.out (by repeat (first | (with_reducible first | exact HB.out | apply below_alloc | apply pw_below_drewN | apply below_drew1) | exact HB.out)) (below_size (by repeat (first | (with_reducible first | exact HB.out | apply below_alloc | apply pw_below_drewN | apply below_drew1) | exact HB.out))) ?aL ?_; (case aX => first | rfl | (rw [World.size_setCell]; rfl)); (case aL => have := HLEN.out; omega); intro v130 w130 ho hb hg hat; have HG130 := Lib.hid hg; have HAT130 := Lib.hid hat; clear hg hat; have HO130 := Lib.hid ho; have HB := Lib.hid hb; clear ho hb; skip))
                    go_roundg (ks.length - (i + 1))
                    case measure => omega
                    case rel => exact ⟨i + 1, _, l ++ [⟨5, 0, 0, sx⟩], p + (1 + mm), by omega, rfl, by go_num, by go_num, rfl, Lib.hid (HTO.out.step HBy.out HKI.out HIT.out), HO130, Lib.hid (Kd.R_grown2 HSn.out rfl HG130.out (fun k hk he => HAP.out k he.symm hk)), Lib.hid ((HAP.out.symm.step HAT130.out (Kd.R_lt HSn.out)).symm), HB⟩
                  · have hd5 : decide ((b.length : Int) - (p : Int) - 1 < (mm : Int)) = true := decide_eq_true (by omega)
                    have HIT : Hid (item1 b p 5 = none) := Lib.hid (by rw [HIT0.out, if_neg (fun h => hle2 h.2)])
                    have HRES := Lib.hid (HPN.out HIT.out)
                    have HBn := Lib.hid (below_alloc HB.out (It.o ⟨5, 0, 0, ⟨#[]⟩⟩))
                    go_wp2
                    go_ret3
                    refine ⟨.slice none 0 0, ?_, ?_, HBn.out⟩
                    all_goals rw [HRES.out]
                    all_goals first | rfl | exact GotT.nil _

            · have hd2 : decide ((b.length : Int) - (p : Int) < (1 : Int)) = true := decide_eq_true (by omega)
              have hres := HPN.out (by unfold item1; rw [if_neg (show ¬ ((5 : Int) = 4) by decide), if_pos rfl, if_neg (fun h => by omega)])
              have HRES := Lib.hid hres
              clear hres
              go_wp2
              go_ret3
              refine ⟨.slice none 0 0, ?_, ?_, HB.out⟩
              all_goals rw [HRES.out]
              all_goals first | rfl | exact GotT.nil _
          · obtain ⟨m, hm4, hm1, hwm, hsz⟩ : ∃ m : Nat, m ≤ 4 ∧ 1 ≤ m ∧ wid (kn : Int) = (m : Int) ∧ ([0, 1, 2, 4, 8, 1] : List Int)[kn]? = some (m : Int) := by
              rcases hk3 with rfl | rfl | rfl
              · exact ⟨1, by omega, by omega, rfl, rfl⟩
              · exact ⟨2, by omega, by omega, rfl, rfl⟩
              · exact ⟨4, by omega, by omega, rfl, rfl⟩
            have hk3' : (kn : Int) = 1 ∨ (kn : Int) = 2 ∨ (kn : Int) = 3 := by omega
            have g4 : ((kn : Int) == 4) = false := by rw [beq_eq_false_iff_ne]; omega
            have g5 : ((kn : Int) == 5) = false := by rw [beq_eq_false_iff_ne]; omega
            have kn0 : (0 : Int) ≤ (kn : Int) := Int.natCast_nonneg _
            have kn1 : (kn : Int) ≤ 3 := by omega
            have m0 : (0 : Int) ≤ (m : Int) := Int.natCast_nonneg _
            have m8 : (m : Int) ≤ 4 := by omega
            have hsz := Lib.hid hsz
            obtain ⟨sd, rfl, z⟩ := Dsg.RdI_at' HSr.out (j := kn) (e := (m : Int)) (by exact hsz.out)
            by_cases hle : p + m ≤ b.length
            · have hd2 : decide ((b.length : Int) - (p : Int) < (m : Int)) = false := decide_eq_false (by omega)
              go_wp2
              obtain ⟨ws, hws⟩ : ∃ ws, ws = wr := ⟨_, rfl⟩
              go_loopg [13, 14] m (fun kk v13 v14 wq => ∃ j : Nat, j ≤ m ∧ kk = m - j ∧ v14 = .int .i64 (j : Int) ∧ v13 = .int .u64 (num ((b.drop p).take j)) ∧ wq = ws)
              case atStart => exact ⟨0, Nat.zero_le _, rfl, rfl, rfl, hws.symm⟩
              case round =>
                subst hws
                obtain ⟨j, hj, rfl, rfl, rfl, rfl⟩ := hrel
                have j0 : (0 : Int) ≤ (j : Int) := Int.natCast_nonneg _
                by_cases hjm : j < m
                · have hd3 : decide ((j : Int) < (m : Int)) = true := decide_eq_true (by omega)
                  have hd3' : decide (j < m) = true := decide_eq_true hjm
                  have hpj : p + j < b.length := by omega
                  obtain ⟨bd, rfl, hx⟩ := Kd.at_int HRw.out ((p + j : Nat) : Int) (by omega) (by omega)
                  rw [Int.toNat_natCast] at hx
                  have hrd : rd b ((p + j : Nat) : Int) = rd (b.drop p) (j : Int) := by
                    unfold rd
                    rw [Int.toNat_natCast, Int.toNat_natCast]
                    simp [List.getD_eq_getElem?_getD, List.getElem?_drop]
                  rw [hrd] at hx
                  have HS := Lib.hid (take_snoc (b.drop p) j (by rw [List.length_drop]; omega))
                  have hX := (HBy.out.drop p).at_ j (by rw [List.length_drop]; omega)
                  have hU := num_bd ((HBy.out.drop p).take j)
                  rw [List.length_take, List.length_drop, Nat.min_eq_left (by omega)] at hU
                  have hp56 := pow56 j (by omega)
                  have pj1 : (p : Int) + (j : Int) < (b.length : Int) := by omega
                  generalize rd (b.drop p) (j : Int) = x at *
                  generalize hu : num ((b.drop p).take j) = u at *
                  have HUE := Lib.hid hu
                  have u0 : 0 ≤ u := hU.1
                  have u1 : u < 72057594037927936 := by omega
                  have x0 : 0 ≤ x := hX.1
                  have x1 : x ≤ 255 := hX.2
                  clear hu hU hp56 hX hrd
                  go_wp2
                  go_roundg (m - (j + 1))
                  case measure => omega
                  case rel => exact ⟨j + 1, by omega, rfl, by go_num, by rw [HS.out, num_snoc, HUE.out], rfl⟩
                · have hd3 : decide ((j : Int) < (m : Int)) = false := decide_eq_false (by omega)
                  have hd3' : decide (j < m) = false := decide_eq_false hjm
                  obtain rfl : m = j := by omega
                  have y2 : (wr.alloc (Obj.cells #[Value.int IntKind.i64 (kn : Int), Value.int IntKind.i64 0, Value.float FloatKind.f64 0, Value.string ⟨#[]⟩] 48)).cell? (ad.add i) = some (.int .i64 (kn : Int)) := (World.cell?_alloc_lt _ _ _ (World.block_lt_of_cell? wr _ y)).trans y
                  clear HSr HRw
                  have hub := num_bd ((HBy.out.drop p).take m)
                  rw [show ((b.drop p).take m).length = m by rw [List.length_take, List.length_drop]; omega] at hub
                  have hp4 := pow32 m hm4
                  have HO3 := Lib.hid (rt3 HBy.out hle hk3' hwm)
                  generalize hu : num ((b.drop p).take m) = u at *
                  have HIT0 : Hid (item1 b p (kn : Int) = if p + m ≤ b.length ∧ may ⟨(kn : Int), u, 0, ⟨#[]⟩⟩ = true then some (⟨(kn : Int), u, 0, ⟨#[]⟩⟩, p + m) else none) := Lib.hid (by
                    rw [← hu]
                    unfold item1
                    rw [if_neg (by omega), if_neg (by omega), hwm, Int.toNat_natCast])
                  have u0 : 0 ≤ u := hub.1
                  have u1 : u < 4294967296 := by omega
                  clear hu hub hp4
                  go_wp2_with fail
                  have HI3 := Lib.hid (OI.alloc wr ⟨(kn : Int), u, 0, ⟨#[]⟩⟩)
                  have HW3 := Lib.hid (Kd.R_alloc HW.out (It.o ⟨(kn : Int), u, 0, ⟨#[]⟩⟩))
                  have HS3 := Lib.hid (Kd.R_alloc HSZr.out (It.o ⟨(kn : Int), u, 0, ⟨#[]⟩⟩))
                  have HB3 := Lib.hid (below_alloc HB.out (It.o ⟨(kn : Int), u, 0, ⟨#[]⟩⟩))
                  generalize wr.alloc (It.o ⟨(kn : Int), u, 0, ⟨#[]⟩⟩) = wX at HI3 HW3 HS3 HB3 ⊢
                  generalize wr.heap.size = g at *
                  clear y2 y HB HW HSZr
                  cases hmy : may ⟨(kn : Int), u, 0, ⟨#[]⟩⟩ with
                  | true =>
                    have HMAY := Lib.hid hmy
                    have HTE : Hid (((strOfNums (one ⟨(kn : Int), u, 0, ⟨#[]⟩⟩)).toList == (strOfNums ((b.drop p).take m)).toList) = true) := Lib.hid (by rw [test_eq hmy ((HBy.out.drop p).take m)]; exact decide_eq_true HO3.out)
                    have HIT : Hid (item1 b p (kn : Int) = some (⟨(kn : Int), u, 0, ⟨#[]⟩⟩, p + m)) := Lib.hid (by rw [HIT0.out, if_pos ⟨hle, hmy⟩])
                    clear HO3 HIT0 hmy
                    have MY := Lib.hid (fun wx => May_any ⟨(kn : Int), u, 0, ⟨#[]⟩⟩ wx)
                    rw [HMAY.out] at MY
                    obtain ⟨Aq, hsl, hrdq⟩ := cut_b B c b p (m) (by omega) hc
                    have hwp : wrap64 ((p : Int) + ((m : Int))) = (p : Int) + ((m : Int)) := by first | (simp only [wrap64]; omega) | (unfold wrap64; split <;> omega) | go_num
                    have HCV : Hid (∀ wx, RdB wx B b → (convert 52 9 (.slice Aq (m) (c - p))).run Try.prog wx = .ok (.string (strOfNums ((b.drop p).take (m)))) wx) := Lib.hid (fun wx h => by
                      have h2 := conv_str (c - p) (hrdq wx h)
                      rwa [show ((b.drop p).take (m)).length = m by rw [List.length_take, List.length_drop]; omega] at h2)
                    clear hrdq
                    have HRX := Lib.hid (Kd.C_below HR.out HB3.out)
                    have ON := Lib.hid (fun wx => One_any ⟨(kn : Int), u, 0, ⟨#[]⟩⟩ wx HMAY.out (by simp))
                    have hte := HTE.out
                    have hte2 : ((strOfNums (one ⟨(kn : Int), u, 0, ⟨#[]⟩⟩)).toList != (strOfNums ((b.drop p).take (m))).toList) = false := by rw [bne, hte]; rfl
                    generalize strOfNums ((b.drop p).take (m)) = sy at *
                    have HBo := Lib.hid (below_drew1 (Below.refl wX.heap.size wX))
                    have HSx : Hid (∀ wx, Below wX.heap.size wX wx → HasIt wx g ⟨(kn : Int), u, 0, ⟨#[]⟩⟩ ∧ (convert 52 9 (.slice Aq (m) (c - p))).run Try.prog wx = .ok (.string sy) wx) := Lib.hid (fun wx h => ⟨HI3.out.has.below h, HCV.out wx (Kd.C_below HRX.out h)⟩)
                    refine start_ (n := 16) (S := fun wx => HasIt wx g ⟨(kn : Int), u, 0, ⟨#[]⟩⟩ ∧ (convert 52 9 (.slice Aq (m) (c - p))).run Try.prog wx = .ok (.string sy) wx) (ds := []) #[false, false, false, false, false, false, false, false, false, false, false, false, false, false, false, false] (by kernel_rfl) rfl rfl (HSx.out _ HBo.out) (fun hHeld => ?_)
                    refine with_tabW RT30x1c.tab RT30x1c.bits (fun HT_ HW_ => ?_)
                    generalize wX.drew = wD at HBo hHeld ⊢
                    refine take_ (i := 0) (N := (some 111)) (v := ?_) (a' := ?_) #[true, false, false, false, false, false, false, false, false, false, false, false, false, false, false, false] rfl rfl (take_ofW HT_.out HW_.out (by kernel_rfl)) (fun _ _ _ h => h) (Or.inl ⟨by rfl, ?_⟩) hHeld ?_ ?_
                    rotate_left
                    · rintro w' ⟨⟨s0, s1, s2, s3⟩, s4⟩
                      go_simp
                      with_reducible rfl
                    rotate_left
                    · simp only [Act.put, List.setIfInBounds_toArray, List.set_cons_zero, List.set_cons_succ, i64_w, i32_w]
                      rfl
                    refine one_ (i := 1) (N := (some 112)) #[true, true, false, false, false, false, false, false, false, false, false, false, false, false, false, false] rfl rfl (one_of HT_.out (by kernel_rfl)) (by decide) (fun K hK => ?_)
                    refine goes_ Try.func30 (by kernel_rfl) rfl #[(⟨(kn : Int), u, 0, ⟨#[]⟩⟩ : It).v] (by rfl) rfl rfl (by (try simp only [List.map_toArray, List.map_cons, List.map_nil]); first | done | rfl) ?_
                    refine (MY.out _).mono ?_
                    rintro e w' ⟨rfl, hb'⟩
                    refine ⟨_, rfl, ?_⟩
                    have HBo := Lib.hid (below_step HBo.out hb')
                    clear hb'
                    refine hK.out _ _ (HSx.out _ HBo.out) (fun hHeld => ?_)
                    clear hK K
                    refine norm_ (a' := ?_) ?_ ?_
                    rotate_left
                    · show Act.put _ (some 112) _ = _
                      simp only [Act.put, List.setIfInBounds_toArray, List.set_cons_zero, List.set_cons_succ, i64_w, i32_w]
                      rfl
                    refine pure_ (i := 2) (N := (some 113)) (v := ?_) (a' := ?_) #[true, true, true, false, false, false, false, false, false, false, false, false, false, false, false, false] rfl rfl (any_of HT_.out (by kernel_rfl)) (fun _ _ _ h => h) (Or.inl ⟨by rfl, ?_⟩) ?_ ?_
                    rotate_left
                    · intro w'
                      go_simp
                      with_reducible rfl
                    rotate_left
                    · simp only [Act.put, List.setIfInBounds_toArray, List.set_cons_zero, List.set_cons_succ, i64_w, i32_w]
                      rfl
                    refine pure_ (i := 3) (N := (some 114)) (v := ?_) (a' := ?_) #[true, true, true, true, false, false, false, false, false, false, false, false, false, false, false, false] rfl rfl (any_of HT_.out (by kernel_rfl)) (fun _ _ _ h => h) (Or.inl ⟨by rfl, ?_⟩) ?_ ?_
                    rotate_left
                    · intro w'
                      go_simp
                      with_reducible rfl
                    rotate_left
                    · simp only [Act.put, List.setIfInBounds_toArray, List.set_cons_zero, List.set_cons_succ, i64_w, i32_w]
                      rfl
                    refine take_ (i := 4) (N := (some 115)) (v := ?_) (a' := ?_) #[true, true, true, true, true, false, false, false, false, false, false, false, false, false, false, false] rfl rfl (take_ofW HT_.out HW_.out (by kernel_rfl)) (fun _ _ _ h => h) (Or.inl ⟨by rfl, ?_⟩) hHeld ?_ ?_
                    rotate_left
                    · rintro w' ⟨⟨s0, s1, s2, s3⟩, s4⟩
                      go_simp
                      with_reducible rfl
                    rotate_left
                    · simp only [Act.put, List.setIfInBounds_toArray, List.set_cons_zero, List.set_cons_succ, i64_w, i32_w]
                      rfl
                    refine pure_ (i := 7) (N := (some 118)) (v := ?_) (a' := ?_) #[true, true, true, true, true, false, false, true, false, false, false, false, false, false, false, false] rfl rfl (any_of HT_.out (by kernel_rfl)) (fun _ _ _ h => h) (Or.inl ⟨by rfl, ?_⟩) ?_ ?_
                    rotate_left
                    · intro w'
                      go_simp
                      with_reducible rfl
                    rotate_left
                    · simp only [Act.put, List.setIfInBounds_toArray, List.set_cons_zero, List.set_cons_succ, i64_w, i32_w]
                      rfl
                    refine pure_ (i := 8) (N := (some 119)) (v := ?_) (a' := ?_) #[true, true, true, true, true, false, false, true, true, false, false, false, false, false, false, false] rfl rfl (any_of HT_.out (by kernel_rfl)) (fun _ _ _ h => h) (Or.inl ⟨by rfl, ?_⟩) ?_ ?_
                    rotate_left
                    · intro w'
                      go_simp
                      with_reducible rfl
                    rotate_left
                    · simp only [Act.put, List.setIfInBounds_toArray, List.set_cons_zero, List.set_cons_succ, i64_w, i32_w]
                      rfl
                    refine pure_ (i := 9) (N := (some 120)) (v := ?_) (a' := ?_) #[true, true, true, true, true, false, false, true, true, true, false, false, false, false, false, false] rfl rfl (any_of HT_.out (by kernel_rfl)) (fun _ _ _ h => h) (Or.inl ⟨by rfl, ?_⟩) ?_ ?_
                    rotate_left
                    · intro w'
                      go_simp
                      with_reducible rfl
                    rotate_left
                    · simp only [Act.put, List.setIfInBounds_toArray, List.set_cons_zero, List.set_cons_succ, i64_w, i32_w]
                      rfl
                    refine pure_ (i := 10) (N := (some 121)) (v := ?_) (a' := ?_) #[true, true, true, true, true, false, false, true, true, true, true, false, false, false, false, false] rfl rfl (any_of HT_.out (by kernel_rfl)) (fun _ _ _ h => h) (Or.inl ⟨by rfl, ?_⟩) ?_ ?_
                    rotate_left
                    · intro w'
                      go_simp
                      with_reducible rfl
                    rotate_left
                    · simp only [Act.put, List.setIfInBounds_toArray, List.set_cons_zero, List.set_cons_succ, i64_w, i32_w]
                      rfl
                    refine pure_ (i := 11) (N := (some 122)) (v := ?_) (a' := ?_) #[true, true, true, true, true, false, false, true, true, true, true, true, false, false, false, false] rfl rfl (any_of HT_.out (by kernel_rfl)) (fun _ _ _ h => h) (Or.inl ⟨by rfl, ?_⟩) ?_ ?_
                    rotate_left
                    · intro w'
                      go_simp
                      with_reducible rfl
                    rotate_left
                    · simp only [Act.put, List.setIfInBounds_toArray, List.set_cons_zero, List.set_cons_succ, i64_w, i32_w]
                      rfl
                    refine pure_ (i := 12) (N := (some 123)) (v := ?_) (a' := ?_) #[true, true, true, true, true, false, false, true, true, true, true, true, true, false, false, false] rfl rfl (any_of HT_.out (by kernel_rfl)) (fun _ _ _ h => h) (Or.inl ⟨by rfl, ?_⟩) ?_ ?_
                    rotate_left
                    · intro w'
                      go_simp
                      with_reducible rfl
                    rotate_left
                    · simp only [Act.put, List.setIfInBounds_toArray, List.set_cons_zero, List.set_cons_succ, i64_w, i32_w]
                      rfl
                    refine take_ (i := 13) (N := (some 124)) (v := ?_) (a' := ?_) #[true, true, true, true, true, false, false, true, true, true, true, true, true, true, false, false] rfl rfl (take_ofW HT_.out HW_.out (by kernel_rfl)) (fun _ _ _ h => h) (Or.inl ⟨by rfl, ?_⟩) hHeld ?_ ?_
                    rotate_left
                    · rintro w' ⟨⟨s0, s1, s2, s3⟩, s4⟩
                      go_simp
                      with_reducible rfl
                    rotate_left
                    · simp only [Act.put, List.setIfInBounds_toArray, List.set_cons_zero, List.set_cons_succ, i64_w, i32_w]
                      rfl
                    refine one_ (i := 5) (N := (some 116)) #[true, true, true, true, true, true, false, true, true, true, true, true, true, true, false, false] rfl rfl (one_of HT_.out (by kernel_rfl)) (by decide) (fun K hK => ?_)
                    refine goes_ Try.func60 (by kernel_rfl) rfl #[(⟨(kn : Int), u, 0, ⟨#[]⟩⟩ : It).v] (by rfl) rfl rfl (by (try simp only [List.map_toArray, List.map_cons, List.map_nil]); first | done | rfl) ?_
                    refine (ON.out _).mono ?_
                    rintro e w6 ⟨v6, rfl, hR6, hb'⟩
                    refine ⟨_, rfl, ?_⟩
                    have HBo := Lib.hid (below_step HBo.out hb')
                    obtain ⟨A6, c6, rfl, _, hr6⟩ := Kd.R_reads hR6
                    have hcv6 := conv_str c6 hr6
                    clear hb' hR6 hr6
                    refine hK.out _ _ (HSx.out _ HBo.out) (fun hHeld => ?_)
                    clear hK K
                    refine norm_ (a' := ?_) ?_ ?_
                    rotate_left
                    · show Act.put _ (some 116) _ = _
                      simp only [Act.put, List.setIfInBounds_toArray, List.set_cons_zero, List.set_cons_succ, i64_w, i32_w]
                      rfl
                    refine one_ (i := 6) (N := (some 117)) #[true, true, true, true, true, true, true, true, true, true, true, true, true, true, false, false] rfl rfl (one_of HT_.out (by kernel_rfl)) (by decide) (fun K hK => ?_)
                    refine value_ (w1 := ?_) (v := ?_) (by rfl) rfl ?_ ?_
                    rotate_left 2
                    · go_simp
                      constructor
                      · rfl
                      · rfl
                    refine hK.out _ _ (HSx.out _ HBo.out) (fun hHeld => ?_)
                    clear hK K
                    refine norm_ (a' := ?_) ?_ ?_
                    rotate_left
                    · show Act.put _ (some 117) _ = _
                      simp only [Act.put, List.setIfInBounds_toArray, List.set_cons_zero, List.set_cons_succ, i64_w, i32_w]
                      rfl
                    refine pure_ (i := 14) (N := (some 125)) (v := ?_) (a' := ?_) #[true, true, true, true, true, true, true, true, true, true, true, true, true, true, true, false] rfl rfl (any_of HT_.out (by kernel_rfl)) (fun _ _ _ h => h) (Or.inl ⟨by rfl, ?_⟩) ?_ ?_
                    rotate_left
                    · intro w'
                      go_simp
                      with_reducible rfl
                    rotate_left
                    · simp only [Act.put, List.setIfInBounds_toArray, List.set_cons_zero, List.set_cons_succ, i64_w, i32_w]
                      rfl
                    refine pure_ (i := 15) (N := (some 126)) (v := ?_) (a' := ?_) #[true, true, true, true, true, true, true, true, true, true, true, true, true, true, true, true] rfl rfl (any_of HT_.out (by kernel_rfl)) (fun _ _ _ h => h) (Or.inl ⟨by rfl, ?_⟩) ?_ ?_
                    rotate_left
                    · intro w'
                      go_simp
                      with_reducible rfl
                    rotate_left
                    · simp only [Act.put, List.setIfInBounds_toArray, List.set_cons_zero, List.set_cons_succ, i64_w, i32_w]
                      rfl
                    refine done_ (done_of HT_.out (by kernel_rfl)) ?_
                    have HWn := Lib.hid (Kd.R_below HW3.out HBo.out)
                    have HSn := Lib.hid (Kd.R_below HS3.out HBo.out)
                    have HIn := Lib.hid (HI3.out.below HBo.out)
                    have HBn := Lib.hid (below_step HB3.out HBo.out)
                    clear HW3 HS3 HI3 HB3 HRX HCV HSx MY ON hHeld hte hte2 hsl HBo
                    have HB := HBn
                    clear HBn
                    obtain ⟨t0, t1, t2, t3⟩ := HIn.out.has
                    go_wp2_with (first | ((with_reducible refine gate_builtin (b := .append) (xs := #[.tmp 127, .tmp 129]) rfl ?_); at_builtin; refine Kd.R_append Kt (w0 := w) w.heap.size rfl (.tmp 127) (.tmp 129) 50 48 (.agg #[.int .i64 0, .int .i64 0, .float .f64 0, .string ⟨#[]⟩]) 40 rfl Try.underlying50 infoIt rfl (by decide) (by omega) vl l ((⟨(kn : Int), u, 0, ⟨#[]⟩⟩ : It)) (It.cs ((⟨(kn : Int), u, 0, ⟨#[]⟩⟩ : It))) (fun _ => True) (fun _ => False) rfl ?aX rfl (fun _ h => h.elim) (fun _ _ => trivial) HWn.out (by repeat (first | (with_reducible first | exact HB.out | apply below_alloc | apply pw_below_drewN | apply below_drew1) | exact HB.out)) (below_size (by repeat (first | (with_reducible first | exact HB.out | apply below_alloc | apply pw_below_drewN | apply below_drew1) | exact HB.out))) ?aL ?_; (case aX => first | rfl | (rw [World.size_setCell]; rfl)); (case aL => have := HLEN.out; omega); intro v130 w130 ho hb hg hat; have HG130 := Lib.hid hg; have HAT130 := Lib.hid hat; clear hg hat; have HO130 := Lib.hid ho; have HB := Lib.hid hb; clear ho hb; skip))
                    go_roundg (ks.length - (i + 1))
                    case measure => omega
                    case rel => exact ⟨i + 1, _, l ++ [⟨(kn : Int), u, 0, ⟨#[]⟩⟩], p + (m), by omega, rfl, by go_num, by go_num, rfl, Lib.hid (HTO.out.step HBy.out HKI.out HIT.out), HO130, Lib.hid (Kd.R_grown2 HSn.out rfl HG130.out (fun k hk he => HAP.out k he.symm hk)), Lib.hid ((HAP.out.symm.step HAT130.out (Kd.R_lt HSn.out)).symm), HB⟩
                  | false =>
                    have HMAY := Lib.hid hmy
                    have HIT : Hid (item1 b p (kn : Int) = none) := Lib.hid (by rw [HIT0.out, if_neg (fun h => by rw [hmy] at h; cases h.2)])
                    clear HO3 HIT0 hmy
                    have MY := Lib.hid (fun wx => May_any ⟨(kn : Int), u, 0, ⟨#[]⟩⟩ wx)
                    rw [HMAY.out] at MY
                    obtain ⟨Aq, hsl, hrdq⟩ := cut_b B c b p (m) (by omega) hc
                    have hwp : wrap64 ((p : Int) + ((m : Int))) = (p : Int) + ((m : Int)) := by first | (simp only [wrap64]; omega) | (unfold wrap64; split <;> omega) | go_num
                    have HCV : Hid (∀ wx, RdB wx B b → (convert 52 9 (.slice Aq (m) (c - p))).run Try.prog wx = .ok (.string (strOfNums ((b.drop p).take (m)))) wx) := Lib.hid (fun wx h => by
                      have h2 := conv_str (c - p) (hrdq wx h)
                      rwa [show ((b.drop p).take (m)).length = m by rw [List.length_take, List.length_drop]; omega] at h2)
                    clear hrdq
                    have HRX := Lib.hid (Kd.C_below HR.out HB3.out)
                    generalize strOfNums ((b.drop p).take (m)) = sy at *
                    have HBo := Lib.hid (below_drew1 (Below.refl wX.heap.size wX))
                    have HSx : Hid (∀ wx, Below wX.heap.size wX wx → HasIt wx g ⟨(kn : Int), u, 0, ⟨#[]⟩⟩ ∧ (convert 52 9 (.slice Aq (m) (c - p))).run Try.prog wx = .ok (.string sy) wx) := Lib.hid (fun wx h => ⟨HI3.out.has.below h, HCV.out wx (Kd.C_below HRX.out h)⟩)
                    refine start_ (n := 16) (S := fun wx => HasIt wx g ⟨(kn : Int), u, 0, ⟨#[]⟩⟩ ∧ (convert 52 9 (.slice Aq (m) (c - p))).run Try.prog wx = .ok (.string sy) wx) (ds := []) #[false, false, false, false, false, false, false, false, false, false, false, false, false, false, false, false] (by kernel_rfl) rfl rfl (HSx.out _ HBo.out) (fun hHeld => ?_)
                    refine with_tabW RT30x3d.tab RT30x3d.bits (fun HT_ HW_ => ?_)
                    generalize wX.drew = wD at HBo hHeld ⊢
                    refine take_ (i := 0) (N := (some 111)) (v := ?_) (a' := ?_) #[true, false, false, false, false, false, false, false, false, false, false, false, false, false, false, false] rfl rfl (take_ofW HT_.out HW_.out (by kernel_rfl)) (fun _ _ _ h => h) (Or.inl ⟨by rfl, ?_⟩) hHeld ?_ ?_
                    rotate_left
                    · rintro w' ⟨⟨s0, s1, s2, s3⟩, s4⟩
                      go_simp
                      with_reducible rfl
                    rotate_left
                    · simp only [Act.put, List.setIfInBounds_toArray, List.set_cons_zero, List.set_cons_succ, i64_w, i32_w]
                      rfl
                    refine one_ (i := 1) (N := (some 112)) #[true, true, false, false, false, false, false, false, false, false, false, false, false, false, false, false] rfl rfl (one_of HT_.out (by kernel_rfl)) (by decide) (fun K hK => ?_)
                    refine goes_ Try.func30 (by kernel_rfl) rfl #[(⟨(kn : Int), u, 0, ⟨#[]⟩⟩ : It).v] (by rfl) rfl rfl (by (try simp only [List.map_toArray, List.map_cons, List.map_nil]); first | done | rfl) ?_
                    refine (MY.out _).mono ?_
                    rintro e w' ⟨rfl, hb'⟩
                    refine ⟨_, rfl, ?_⟩
                    have HBo := Lib.hid (below_step HBo.out hb')
                    clear hb'
                    refine hK.out _ _ (HSx.out _ HBo.out) (fun hHeld => ?_)
                    clear hK K
                    refine norm_ (a' := ?_) ?_ ?_
                    rotate_left
                    · show Act.put _ (some 112) _ = _
                      simp only [Act.put, List.setIfInBounds_toArray, List.set_cons_zero, List.set_cons_succ, i64_w, i32_w]
                      rfl
                    refine pure_ (i := 2) (N := (some 113)) (v := ?_) (a' := ?_) #[true, true, true, false, false, false, false, false, false, false, false, false, false, false, false, false] rfl rfl (any_of HT_.out (by kernel_rfl)) (fun _ _ _ h => h) (Or.inl ⟨by rfl, ?_⟩) ?_ ?_
                    rotate_left
                    · intro w'
                      go_simp
                      with_reducible rfl
                    rotate_left
                    · simp only [Act.put, List.setIfInBounds_toArray, List.set_cons_zero, List.set_cons_succ, i64_w, i32_w]
                      rfl
                    refine pure_ (i := 3) (N := (some 114)) (v := ?_) (a' := ?_) #[true, true, true, true, false, false, false, false, false, false, false, false, false, false, false, false] rfl rfl (any_of HT_.out (by kernel_rfl)) (fun _ _ _ h => h) (Or.inl ⟨by rfl, ?_⟩) ?_ ?_
                    rotate_left
                    · intro w'
                      go_simp
                      with_reducible rfl
                    rotate_left
                    · simp only [Act.put, List.setIfInBounds_toArray, List.set_cons_zero, List.set_cons_succ, i64_w, i32_w]
                      rfl
                    refine pure_ (i := 4) (N := (some 115)) (v := undef) (a' := ?_) #[true, true, true, true, true, false, false, false, false, false, false, false, false, false, false, false] rfl rfl (any_of HT_.out (by kernel_rfl)) (fun _ _ _ h => h) (Or.inr ⟨by rfl, rfl⟩) ?_ ?_
                    rotate_left
                    · simp only [Act.put, List.setIfInBounds_toArray, List.set_cons_zero, List.set_cons_succ, i64_w, i32_w]
                      rfl
                    refine pure_ (i := 5) (N := (some 116)) (v := undef) (a' := ?_) #[true, true, true, true, true, true, false, false, false, false, false, false, false, false, false, false] rfl rfl (any_of HT_.out (by kernel_rfl)) (fun _ _ _ h => h) (Or.inr ⟨by rfl, rfl⟩) ?_ ?_
                    rotate_left
                    · simp only [Act.put, List.setIfInBounds_toArray, List.set_cons_zero, List.set_cons_succ, i64_w, i32_w]
                      rfl
                    refine pure_ (i := 6) (N := (some 117)) (v := undef) (a' := ?_) #[true, true, true, true, true, true, true, false, false, false, false, false, false, false, false, false] rfl rfl (any_of HT_.out (by kernel_rfl)) (fun _ _ _ h => h) (Or.inr ⟨by rfl, rfl⟩) ?_ ?_
                    rotate_left
                    · simp only [Act.put, List.setIfInBounds_toArray, List.set_cons_zero, List.set_cons_succ, i64_w, i32_w]
                      rfl
                    refine pure_ (i := 7) (N := (some 118)) (v := undef) (a' := ?_) #[true, true, true, true, true, true, true, true, false, false, false, false, false, false, false, false] rfl rfl (any_of HT_.out (by kernel_rfl)) (fun _ _ _ h => h) (Or.inr ⟨by rfl, rfl⟩) ?_ ?_
                    rotate_left
                    · simp only [Act.put, List.setIfInBounds_toArray, List.set_cons_zero, List.set_cons_succ, i64_w, i32_w]
                      rfl
                    refine pure_ (i := 8) (N := (some 119)) (v := undef) (a' := ?_) #[true, true, true, true, true, true, true, true, true, false, false, false, false, false, false, false] rfl rfl (any_of HT_.out (by kernel_rfl)) (fun _ _ _ h => h) (Or.inr ⟨by rfl, rfl⟩) ?_ ?_
                    rotate_left
                    · simp only [Act.put, List.setIfInBounds_toArray, List.set_cons_zero, List.set_cons_succ, i64_w, i32_w]
                      rfl
                    refine pure_ (i := 9) (N := (some 120)) (v := undef) (a' := ?_) #[true, true, true, true, true, true, true, true, true, true, false, false, false, false, false, false] rfl rfl (any_of HT_.out (by kernel_rfl)) (fun _ _ _ h => h) (Or.inr ⟨by rfl, rfl⟩) ?_ ?_
                    rotate_left
                    · simp only [Act.put, List.setIfInBounds_toArray, List.set_cons_zero, List.set_cons_succ, i64_w, i32_w]
                      rfl
                    refine pure_ (i := 10) (N := (some 121)) (v := undef) (a' := ?_) #[true, true, true, true, true, true, true, true, true, true, true, false, false, false, false, false] rfl rfl (any_of HT_.out (by kernel_rfl)) (fun _ _ _ h => h) (Or.inr ⟨by rfl, rfl⟩) ?_ ?_
                    rotate_left
                    · simp only [Act.put, List.setIfInBounds_toArray, List.set_cons_zero, List.set_cons_succ, i64_w, i32_w]
                      rfl
                    refine pure_ (i := 11) (N := (some 122)) (v := undef) (a' := ?_) #[true, true, true, true, true, true, true, true, true, true, true, true, false, false, false, false] rfl rfl (any_of HT_.out (by kernel_rfl)) (fun _ _ _ h => h) (Or.inr ⟨by rfl, rfl⟩) ?_ ?_
                    rotate_left
                    · simp only [Act.put, List.setIfInBounds_toArray, List.set_cons_zero, List.set_cons_succ, i64_w, i32_w]
                      rfl
                    refine pure_ (i := 12) (N := (some 123)) (v := undef) (a' := ?_) #[true, true, true, true, true, true, true, true, true, true, true, true, true, false, false, false] rfl rfl (any_of HT_.out (by kernel_rfl)) (fun _ _ _ h => h) (Or.inr ⟨by rfl, rfl⟩) ?_ ?_
                    rotate_left
                    · simp only [Act.put, List.setIfInBounds_toArray, List.set_cons_zero, List.set_cons_succ, i64_w, i32_w]
                      rfl
                    refine pure_ (i := 13) (N := (some 124)) (v := undef) (a' := ?_) #[true, true, true, true, true, true, true, true, true, true, true, true, true, true, false, false] rfl rfl (any_of HT_.out (by kernel_rfl)) (fun _ _ _ h => h) (Or.inr ⟨by rfl, rfl⟩) ?_ ?_
                    rotate_left
                    · simp only [Act.put, List.setIfInBounds_toArray, List.set_cons_zero, List.set_cons_succ, i64_w, i32_w]
                      rfl
                    refine pure_ (i := 14) (N := (some 125)) (v := undef) (a' := ?_) #[true, true, true, true, true, true, true, true, true, true, true, true, true, true, true, false] rfl rfl (any_of HT_.out (by kernel_rfl)) (fun _ _ _ h => h) (Or.inr ⟨by rfl, rfl⟩) ?_ ?_
                    rotate_left
                    · simp only [Act.put, List.setIfInBounds_toArray, List.set_cons_zero, List.set_cons_succ, i64_w, i32_w]
                      rfl
                    refine pure_ (i := 15) (N := (some 126)) (v := ?_) (a' := ?_) #[true, true, true, true, true, true, true, true, true, true, true, true, true, true, true, true] rfl rfl (any_of HT_.out (by kernel_rfl)) (fun _ _ _ h => h) (Or.inl ⟨by rfl, ?_⟩) ?_ ?_
                    rotate_left
                    · intro w'
                      go_simp
                      with_reducible rfl
                    rotate_left
                    · simp only [Act.put, List.setIfInBounds_toArray, List.set_cons_zero, List.set_cons_succ, i64_w, i32_w]
                      rfl
                    refine done_ (done_of HT_.out (by kernel_rfl)) ?_
                    have HBn := Lib.hid (below_step HB3.out HBo.out)
                    have HRES := Lib.hid (HPN.out HIT.out)
                    go_wp2
                    go_ret3
                    refine ⟨.slice none 0 0, ?_, ?_, HBn.out⟩
                    all_goals rw [HRES.out]
                    all_goals first | rfl | exact GotT.nil _

            · have hd2 : decide ((b.length : Int) - (p : Int) < (m : Int)) = true := decide_eq_true (by omega)
              have hres := HPN.out (by unfold item1; rw [if_neg (by omega), if_neg (by omega), hwm, Int.toNat_natCast, if_neg (by omega)])
              have HRES := Lib.hid hres
              clear hres
              go_wp2
              go_ret3
              refine ⟨.slice none 0 0, ?_, ?_, HB.out⟩
              all_goals rw [HRES.out]
              all_goals first | rfl | exact GotT.nil _
        · have hd : decide (i < ks.length) = false := decide_eq_false hlt
          obtain rfl : ks.length = i := by omega
          have hres : Hid (takeR b ks = (l, (p : Int), 0)) := Lib.hid (by
            unfold takeR
            rw [if_pos HKO.out, HTO.out.last])
          go_wp2
          go_ret3
          refine ⟨vl, ?_, ?_, HB.out⟩
          · rw [hres.out]; rfl
          · rw [hres.out]; exact GotT.of_R HW.out HTO.out.2.1
end Go.Proofs.Ytbmcbhpkefjhbaa.Pac
