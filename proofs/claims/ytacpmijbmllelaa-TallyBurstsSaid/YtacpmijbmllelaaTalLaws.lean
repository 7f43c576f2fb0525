/- The walks of the statements of layer 2. -/
import Derived.Test.YtacpmijbmllelaaTalWalks
import Derived.Deep.RegionHeld3
import Derived.Deep.RegionWith
import Derived.Deep.DeepCutAuto
namespace Go.Proofs.Ytacpmijbmllelaa.Tal
open Go.RowKit Go.Proofs.Ytacpmijbmllelaa.Mem Go.Proofs.YtacpmijbmllelaaW.PrintWords Go.Proofs.YtacpmijbmllelaaW.PrintLast Go.Proofs.YtacpmijbmllelaaW.PrintMore
/-- the bytes that are turned -/
def x3 (l0 l1 l2 : List Int) (j : Nat) : Int := Go.bits .xor .u8 (Go.bits .xor .u8 (rd l0 j) (rd l1 j)) (rd l2 j)
def xs3 (l0 l1 l2 : List Int) (i : Nat) : List Int := (List.range i).map (x3 l0 l1 l2)
theorem xs3_succ (l0 l1 l2 : List Int) (i : Nat) : xs3 l0 l1 l2 (i + 1) = xs3 l0 l1 l2 i ++ [x3 l0 l1 l2 i] := by unfold xs3; rw [List.range_succ, List.map_append]; rfl
theorem xs3_length (l0 l1 l2 : List Int) (i : Nat) : (xs3 l0 l1 l2 i).length = i := by unfold xs3; simp
theorem xor_u8 (x y : Int) (hx : 0 ≤ x ∧ x ≤ 255) (hy : 0 ≤ y ∧ y ≤ 255) : Go.bits .xor .u8 x y = ((x.toNat ^^^ y.toNat : Nat) : Int) ∧ x.toNat ^^^ y.toNat < 256 := by
  obtain ⟨a, rfl⟩ := Int.eq_ofNat_of_zero_le hx.1
  obtain ⟨b, rfl⟩ := Int.eq_ofNat_of_zero_le hy.1
  have hlt : a ^^^ b < 2 ^ 8 := Nat.xor_lt_two_pow (by omega) (by omega)
  refine ⟨?_, hlt⟩
  have e1 : ∀ n : Nat, BitVec.ofInt IntKind.u8.bits (n : Int) = BitVec.ofNat 8 n := fun n => by rw [BitVec.ofInt_natCast]; rfl
  have ex : (BitVec.ofNat 8 a ^^^ BitVec.ofNat 8 b).toNat = a ^^^ b := by
    rw [BitVec.toNat_xor, BitVec.toNat_ofNat, BitVec.toNat_ofNat, Nat.mod_eq_of_lt (by omega), Nat.mod_eq_of_lt (by omega)]
  have w8 : ∀ n : Nat, n < 256 → IntKind.u8.wrap (n : Int) = n := fun n hn => by
    simp only [IntKind.wrap, IntKind.bits, IntKind.signed]; simp; omega
  unfold Go.bits
  rw [e1, e1]
  refine Eq.trans (congrArg (fun z : Nat => IntKind.u8.wrap (z : Int)) ex) ?_
  exact w8 _ (by omega)
theorem x3_nat (l0 l1 l2 : List Int) (j : Nat) (h0 : 0 ≤ rd l0 j ∧ rd l0 j ≤ 255) (h1 : 0 ≤ rd l1 j ∧ rd l1 j ≤ 255) (h2 : 0 ≤ rd l2 j ∧ rd l2 j ≤ 255) :
    x3 l0 l1 l2 j = (((rd l0 j).toNat ^^^ (rd l1 j).toNat ^^^ (rd l2 j).toNat : Nat) : Int) ∧ 0 ≤ x3 l0 l1 l2 j ∧ x3 l0 l1 l2 j ≤ 255 := by
  obtain ⟨e1, b1⟩ := xor_u8 (rd l0 j) (rd l1 j) h0 h1
  obtain ⟨e2, b2⟩ := xor_u8 (((rd l0 j).toNat ^^^ (rd l1 j).toNat : Nat) : Int) (rd l2 j) ⟨by omega, by omega⟩ h2
  unfold x3
  rw [e1, e2, Int.toNat_natCast]
  rw [Int.toNat_natCast] at b2
  exact ⟨rfl, by omega, by omega⟩
theorem xs3_bytes {l0 l1 l2 : List Int} {n : Nat} (h0 : Bytes l0) (h1 : Bytes l1) (h2 : Bytes l2) (e0 : n ≤ l0.length) (e1 : n ≤ l1.length) (e2 : n ≤ l2.length) : Bytes (xs3 l0 l1 l2 n) := by
  intro x hx
  unfold xs3 at hx
  obtain ⟨j, hj, rfl⟩ := List.mem_map.1 hx
  have hj' := List.mem_range.1 hj
  exact (x3_nat l0 l1 l2 j (h0.at_ j (by omega)) (h1.at_ j (by omega)) (h2.at_ j (by omega))).2
theorem xs3_bits {l0 l1 l2 : List Int} (h0 : Bytes l0) (h1 : Bytes l1) (h2 : Bytes l2) (e1 : l0.length = l1.length) (e2 : l0.length = l2.length) :
    Crc.tb (xs3 l0 l1 l2 l0.length) = List.zipWith (· ^^ ·) (List.zipWith (· ^^ ·) (Crc.tb l0) (Crc.tb l1)) (Crc.tb l2) := by
  apply List.ext_getElem?
  intro i
  rw [List.getElem?_zipWith, List.getElem?_zipWith]
  by_cases hi : i < 8 * l0.length
  · rw [Crc.tb_get _ i (by rw [xs3_length]; exact hi), Crc.tb_get l0 i hi, Crc.tb_get l1 i (by omega), Crc.tb_get l2 i (by omega)]
    have hj : i / 8 < l0.length := by omega
    have ex : (xs3 l0 l1 l2 l0.length).getD (i / 8) 0 = x3 l0 l1 l2 (i / 8) := by
      unfold xs3; simp [List.getD_eq_getElem?_getD, hj]
    rw [ex, (x3_nat l0 l1 l2 (i / 8) (h0.at_ _ hj) (h1.at_ _ (by omega)) (h2.at_ _ (by omega))).1, Int.toNat_natCast, Nat.testBit_xor, Nat.testBit_xor]
    rfl
  · rw [List.getElem?_eq_none (by rw [Crc.tb_length, xs3_length]; omega), List.getElem?_eq_none (by rw [Crc.tb_length]; omega)]
theorem xs3_sum {l0 l1 l2 : List Int} (h0 : Bytes l0) (h1 : Bytes l1) (h2 : Bytes l2) (e1 : l0.length = l1.length) (e2 : l0.length = l2.length) :
    sum (xs3 l0 l1 l2 l0.length) = sum l0 ^^^ sum l1 ^^^ sum l2 := by
  unfold sum Crc.crc
  rw [xs3_bits h0 h1 h2 e1 e2]
  have he : ones = ones ^^^ ones ^^^ ones := by decide
  have l1l : (Crc.tb l0).length = (Crc.tb l1).length := by rw [Crc.tb_length, Crc.tb_length, e1]
  have l2l : (List.zipWith (· ^^ ·) (Crc.tb l0) (Crc.tb l1)).length = (Crc.tb l2).length := by rw [List.length_zipWith, Crc.tb_length, Crc.tb_length, Crc.tb_length]; omega
  rw [← Crc.run_xor _ _ l1l, ← Crc.run_xor _ _ l2l, ← he]

theorem TallyTurns_walk (w : World) (a0 : Option Addr) (n0 c0 : Nat) (z0 : List Int) (r0 : IsRow .u8 w a0 n0 c0 z0) (s0 : n0 * 1 ≤ 140737488351232) (a1 : Option Addr) (n1 c1 : Nat) (z1 : List Int) (r1 : IsRow .u8 w a1 n1 c1 z1) (s1 : n1 * 1 ≤ 140737488351232) (a2 : Option Addr) (n2 c2 : Nat) (z2 : List Int) (r2 : IsRow .u8 w a2 n2 c2 z2) (s2 : n2 * 1 ≤ 140737488351232) :
    Calls Try.prog 3 #[.slice a0 n0 c0, .slice a1 n1 c1, .slice a2 n2 c2] w fun e w' => e = .returned (.bool true) ∧ Below w.heap.size w w' := by
  obtain ⟨l0, rfl, hc0, hr0, hb0, hs0⟩ := row_bytes r0 s0
  obtain ⟨l1, rfl, hc1, hr1, hb1, hs1⟩ := row_bytes r1 s1
  obtain ⟨l2, rfl, hc2, hr2, hb2, hs2⟩ := row_bytes r2 s2
  clear r0 r1 r2 s0 s1 s2 z0 z1 z2
  have HB := Lib.hid (Below.refl w.heap.size w)
  have AW := fun w => Lib.hid (awake_any w)
  by_cases g1 : l0.length = l1.length
  · by_cases g2 : l0.length = l2.length
    · have d1 : (((l0.length : Nat) : Int) != ((l1.length : Nat) : Int)) = false := by rw [bne_eq_false_iff_eq]; omega
      have d2 : (((l0.length : Nat) : Int) != ((l2.length : Nat) : Int)) = false := by rw [bne_eq_false_iff_eq]; omega
      by_cases g3 : 2000 < l0.length
      · have d3 : decide ((2000 : Int) < ((l0.length : Nat) : Int)) = true := decide_eq_true (by omega)
        clear hr0 hr1 hr2 hb0 hb1 hb2 g1 g2
        go_enter Try.func3, Try.ntmps3
        go_wp2_with (first | (go_at_call 13; refine ((AW _).out).mono ?_; rintro e w1 ⟨rfl, hb⟩; have HB1 := Lib.hid hb; clear hb))
        go_ret
        exact ⟨rfl, HB1.out⟩
      · have d3 : decide ((2000 : Int) < ((l0.length : Nat) : Int)) = false := decide_eq_false (by omega)
        have HR0 := Lib.hid hr0
        have HR1 := Lib.hid hr1
        have HR2 := Lib.hid hr2
        have HE := Lib.hid (And.intro g1 g2)
        clear hr0 hr1 hr2 g1 g2
        go_enter Try.func3, Try.ntmps3
        go_wp2_with ((with_reducible refine gate_dst (N := 27) rfl ?_); refine Kd.R_lit (Kd.int .u8) _ 5 ?hg (N := 27) ?hd (xs := ([] : List Int)) (inner := []) (ok := fun _ => True) (okp := fun _ => True) ?hr ?hp (fun _ hk => hk) trivial (Below.refl _ _) (Nat.le_refl _) (by simp) ?_; (case hd => rfl); (case hg => rfl); (case hr => first | (go_simp; done) | (go_simp; rfl)); (case hp => exact Reps.none _ _); intro v1 w1 ho hb hg_ hnew_; clear hg_ hnew_; have HO := Lib.hid ho; have HB1 := Lib.hid hb; clear ho hb)
        go_loopg [7, 8] l0.length (fun k v7 v8 wr => ∃ i : Nat, i ≤ l0.length ∧ k = l0.length - i ∧ v8 = .int .i64 (i : Int) ∧ Hid (Kd.R (Kd.int .u8) 5 wr w.heap.size (fun _ => True) v7 (xs3 l0 l1 l2 i)) ∧ Hid (Below w.heap.size w wr))
        case atStart => exact ⟨0, Nat.zero_le _, by omega, rfl, HO, HB1⟩
        case round =>
          clear HO HB1
          obtain ⟨i, hi, rfl, rfl, HO, HB1⟩ := hrel
          by_cases hlt : i < l0.length
          · have hd : decide (i < l0.length) = true := decide_eq_true hlt
            obtain ⟨ad0, rfl, hx0⟩ := Kd.at_int HR0.out (i : Int) (by omega) (by omega)
            obtain ⟨ad1, rfl, hx1⟩ := Kd.at_int HR1.out (i : Int) (by omega) (by have := HE.out; omega)
            obtain ⟨ad2, rfl, hx2⟩ := Kd.at_int HR2.out (i : Int) (by omega) (by have := HE.out; omega)
            rw [Int.toNat_natCast] at hx0 hx1 hx2
            have y0 := (HB1.out.cell (World.block_lt_of_cell? w _ hx0)).trans hx0
            have y1 := (HB1.out.cell (World.block_lt_of_cell? w _ hx1)).trans hx1
            have y2 := (HB1.out.cell (World.block_lt_of_cell? w _ hx2)).trans hx2
            have p0 : (0 : Int) ≤ (i : Int) := Int.natCast_nonneg _
            have p1 : (i : Int) < (l0.length : Int) := by omega
            have p2 : (i : Int) < (l1.length : Int) := by have := HE.out; omega
            have p3 : (i : Int) < (l2.length : Int) := by have := HE.out; omega
            go_wp2_with fail
            go_region_held3 (fun w' => w'.cell? (ad0.add i) = some (.int .u8 (rd l0 i)) ∧ w'.cell? (ad1.add i) = some (.int .u8 (rd l1 i)) ∧ w'.cell? (ad2.add i) = some (.int .u8 (rd l2 i)))
              (first | exact ⟨(hb.cell (World.block_lt_of_cell? w _ hx0)).trans hx0, (hb.cell (World.block_lt_of_cell? w _ hx1)).trans hx1, (hb.cell (World.block_lt_of_cell? w _ hx2)).trans hx2⟩ | go_keep)
              ((refine Kd.R_append_step (Kd.int .u8) (w0 := w) w.heap.size (by rfl) _ _ 22 5 (.int .u8 0) 1 (by rfl) Try.underlying22 info8 rfl (by decide) (by omega) _ (xs3 l0 l1 l2 i) (x3 l0 l1 l2 i) [.int .u8 (x3 l0 l1 l2 i)] (fun _ => True) (fun _ => False) (by rfl) (by rfl) rfl (fun _ h => h.elim) (fun _ _ => trivial) (Kd.R_drew HO.out) (below_drew1 HB1.out) (below_size (below_drew1 HB1.out)) (by rw [xs3_length]; omega) ?_; intro v2 w2 ho hb hg hat))
            have HO2 := Lib.hid ho
            have HB2 := Lib.hid hb
            clear ho hb hg hat HO HB1
            go_wp2
            go_roundg (l0.length - (i + 1))
            case measure => omega
            case rel => exact ⟨i + 1, by omega, rfl, by go_num, Lib.hid (by rw [xs3_succ]; exact HO2.out), HB2⟩
          · have hd : decide (i < l0.length) = false := decide_eq_false hlt
            obtain rfl : i = l0.length := by omega
            have hlx : Hid ((xs3 l0 l1 l2 l0.length).length = l0.length) := Lib.hid (xs3_length _ _ _ _)
            have hbx := Lib.hid (xs3_bytes hb0 hb1 hb2 (Nat.le_refl _) (by have := HE.out; omega) (by have := HE.out; omega))
            have hsum := xs3_sum hb0 hb1 hb2 HE.out.1 HE.out.2
            obtain ⟨Ax, cx, rfl, hcx, hrx⟩ := GotB.of_R HO.out
            have HRX := Lib.hid hrx
            clear hrx HO
            generalize xs3 l0 l1 l2 l0.length = xs at *
            have hq : (((sum xs).toNat : Int) == Go.bits .xor .u32 (Go.bits .xor .u32 ((sum l0).toNat : Int) ((sum l1).toNat : Int)) ((sum l2).toNat : Int)) = true := by
              rw [Crc.xor32, Crc.xor32, ← hsum]; simp
            clear hsum
            have Sx := Lib.hid (Sum_any Ax cx xs wr HRX.out hbx.out (by have := hlx.out; omega))
            have Sy := fun w' (h : Below w.heap.size w w') => Lib.hid (Sum_any a0 c0 l0 w' (Kd.C_below HR0.out h) hb0 (by omega))
            have Sz := fun w' (h : Below w.heap.size w w') => Lib.hid (Sum_any a1 c1 l1 w' (Kd.C_below HR1.out h) hb1 (by omega))
            have Su := fun w' (h : Below w.heap.size w w') => Lib.hid (Sum_any a2 c2 l2 w' (Kd.C_below HR2.out h) hb2 (by omega))
            clear hb0 hb1 hb2
            go_wp2_with fail
            refine Sx.out.mono ?_
            rintro e w' ⟨rfl, hw⟩
            have HB2 := Lib.hid (below_draws HB1.out hw)
            clear hw
            go_wp2_with fail
            refine (Sy _ HB2.out).out.mono ?_
            rintro e w' ⟨rfl, hw⟩
            have HB3 := Lib.hid (below_draws HB2.out hw)
            clear hw
            go_wp2_with fail
            refine (Sz _ HB3.out).out.mono ?_
            rintro e w' ⟨rfl, hw⟩
            have HB4 := Lib.hid (below_draws HB3.out hw)
            clear hw
            go_wp2_with fail
            refine (Su _ HB4.out).out.mono ?_
            rintro e w' ⟨rfl, hw⟩
            have HB5 := Lib.hid (below_draws HB4.out hw)
            clear hw
            go_wp2_with (first | (go_at_call 13; refine ((AW _).out).mono ?_; rintro e w6 ⟨rfl, hb⟩; have HB6 := Lib.hid (below_step HB5.out hb); clear hb))
            go_ret
            exact ⟨rfl, HB6.out⟩
    · have d1 : (((l0.length : Nat) : Int) != ((l1.length : Nat) : Int)) = false := by rw [bne_eq_false_iff_eq]; omega
      have d2 : (((l0.length : Nat) : Int) != ((l2.length : Nat) : Int)) = true := by rw [bne_iff_ne]; omega
      clear hr0 hr1 hr2 hb0 hb1 hb2 g1 g2
      go_enter Try.func3, Try.ntmps3
      go_wp2_with (first | (go_at_call 13; refine ((AW _).out).mono ?_; rintro e w1 ⟨rfl, hb⟩; have HB1 := Lib.hid hb; clear hb))
      go_ret
      exact ⟨rfl, HB1.out⟩
  · have d1 : (((l0.length : Nat) : Int) != ((l1.length : Nat) : Int)) = true := by rw [bne_iff_ne]; omega
    clear hr0 hr1 hr2 hb0 hb1 hb2 g1
    go_enter Try.func3, Try.ntmps3
    go_wp2_with (first | (go_at_call 13; refine ((AW _).out).mono ?_; rintro e w1 ⟨rfl, hb⟩; have HB1 := Lib.hid hb; clear hb))
    go_ret
    exact ⟨rfl, HB1.out⟩

set_option maxHeartbeats 1000000 in
theorem TallyOpens_walk (w : World) (a0 : Option Addr) (n0 c0 : Nat) (z0 : List Int) (r0 : IsRow .u8 w a0 n0 c0 z0) (s0 : n0 * 1 ≤ 140737488351232) :
    Calls Try.prog 5 #[.slice a0 n0 c0] w fun e w' => e = .returned (.bool true) ∧ Below w.heap.size w w' := by
  obtain ⟨l, rfl, hc, hr, hb, hs⟩ := row_bytes r0 s0
  clear r0 s0 z0
  have HB := Lib.hid (Below.refl w.heap.size w)
  have AW := fun w => Lib.hid (awake_any w)
  by_cases g3 : 3000 < l.length
  · have d3 : decide ((3000 : Int) < ((l.length : Nat) : Int)) = true := decide_eq_true (by omega)
    clear hr hb
    go_enter Try.func5, Try.ntmps5
    go_wp2_with (first | (go_at_call 13; refine ((AW _).out).mono ?_; rintro e w1 ⟨rfl, hb⟩; have HB1 := Lib.hid hb; clear hb))
    go_ret
    exact ⟨rfl, HB1.out⟩
  · have d3 : decide ((3000 : Int) < ((l.length : Nat) : Int)) = false := decide_eq_false (by omega)
    have HR := Lib.hid hr
    have OP := fun A c w' hr hc => Lib.hid (Open_any A c l w' hr hc hb (by omega))
    clear hr
    have kE := Lib.hid (show openE l = if l.length < 4 then 4 else if four (sum (l.drop 4)) = l.take 4 then 0 else 5 from rfl)
    have kL := Lib.hid (show openL l = if openE l = 0 then l.drop 4 else [] from rfl)
    by_cases h4 : l.length < 4
    · have e1 : openE l = 4 := by rw [kE.out, if_pos h4]
      have e2 : openL l = [] := by rw [kL.out, e1, if_neg (by decide)]
      rw [e1, e2] at OP
      have d4 : decide ((l.length : Int) < 4) = true := decide_eq_true (by omega)
      clear kE kL e1 e2 h4
      go_enter Try.func5, Try.ntmps5
      go_wp2_with (first | ((with_reducible refine gate_dst (N := 10) rfl ?_); refine Kd.R_lit (Kd.int .u8) _ 5 ?hg (N := 10) ?hd (xs := ([] : List Int)) (inner := []) (ok := fun _ => True) (okp := fun _ => True) ?hr ?hp (fun _ hk => hk) trivial (Below.refl _ _) (Nat.le_refl _) (by simp) ?_; (case hd => rfl); (case hg => rfl); (case hr => first | (go_simp; done) | (go_simp; rfl)); (case hp => exact Reps.none _ _); intro v10 w10 ho hb hg_ hnew_; clear hg_ hnew_; have HO10 := Lib.hid (Kd.R_lower ho (below_size (by repeat (first | (with_reducible first | exact HB.out | apply below_alloc | apply pw_below_drewN | apply below_drew1) | exact HB.out)))); have HB := Lib.hid (below_step (by repeat (first | (with_reducible first | exact HB.out | apply below_alloc | apply pw_below_drewN | apply below_drew1) | exact HB.out)) hb); clear ho hb) | ((with_reducible refine gate_builtin (b := .append) (xs := #[.tmp 10, .tmp 11]) rfl ?_); at_builtin; refine Kd.R_append_rows (Kd.int .u8) (w0 := w) w.heap.size rfl (.tmp 10) (.tmp 11) 22 5 (.int .u8 0) 1 rfl Try.underlying22 info8 rfl (by decide) (by omega) v10 ([] : List Int) l _ _ _ (fun _ => True) (fun _ => False) rfl rfl (by (with_reducible repeat (first | apply Kd.R_alloc | apply Kd.R_drewN | apply Kd.R_drew)); exact HO10.out) (Kd.C_below HR.out (by repeat (first | (with_reducible first | exact HB.out | apply below_alloc | apply pw_below_drewN | apply below_drew1) | exact HB.out))) (fun _ _ h => h) (fun _ h => h.elim) (fun _ _ => trivial) (by repeat (first | (with_reducible first | exact HB.out | apply below_alloc | apply pw_below_drewN | apply below_drew1) | exact HB.out)) (below_size (by repeat (first | (with_reducible first | exact HB.out | apply below_alloc | apply pw_below_drewN | apply below_drew1) | exact HB.out))) ?aL ?_; (case aL => simp only [List.length_nil]; omega); intro v12 w12 ho hb hg hat; clear hg hat; rw [List.nil_append] at ho; obtain ⟨Ax, cx, rfl, hcx, hrx⟩ := GotB.of_R ho; have HX := Lib.hid (And.intro hcx hrx); clear hcx hrx; have HO12 := Lib.hid ho; have HB := Lib.hid hb; clear ho hb) | (go_at_call 16; refine ((OP _ _ _ HX.out.2 HX.out.1).out).mono ?_; rintro e w' ⟨v, rfl, hg, hb'⟩; obtain ⟨Ay, cy, rfl, hcy, hry⟩ := hg; have HY := Lib.hid hry; have HB := Lib.hid (below_step (by repeat (first | (with_reducible first | exact HB.out | apply below_alloc | apply pw_below_drewN | apply below_drew1) | exact HB.out)) hb'); clear hb' hry hcy) | (go_at_call 13; refine ((AW _).out).mono ?_; rintro e w' ⟨rfl, hb⟩; have HB := Lib.hid (below_step (by repeat (first | (with_reducible first | exact HB.out | apply below_alloc | apply pw_below_drewN | apply below_drew1) | exact HB.out)) hb); clear hb))
      go_ret
      exact ⟨rfl, HB.out⟩
    · have d4 : decide ((l.length : Int) < 4) = false := decide_eq_false (by omega)
      have kE' : openE l = if four (sum (l.drop 4)) = l.take 4 then 0 else 5 := by rw [kE.out, if_neg h4]
      obtain ⟨A', hcut, hrd, hcc⟩ := cut_lo a0 c0 l 4 (by omega) hc
      have hcut' : ∀ W : World, (Instr.slice 22 (.slice a0 l.length c0) (some (.int .i64 4)) none none).run Try.prog W = .ok (.slice A' (l.drop 4).length (c0 - 4)) W := hcut
      have hsl : sealed (l.drop 4) = l ↔ four (sum (l.drop 4)) = l.take 4 := by
        unfold sealed
        constructor
        · intro h
          have := congrArg (List.take 4) h
          rw [List.take_append_of_le_length (by simp [four])] at this
          exact this
        · intro h; rw [h, List.take_append_drop]
      have RS := fun w' hr => Lib.hid (rSeal_any A' (c0 - 4) (l.drop 4) w' hr (hb.drop 4) (by rw [List.length_drop]; omega))
      have HRD := Lib.hid (fun w' h => hrd w' (Kd.C_below HR.out h))
      have hq := str_eq (sealed_bytes (hb.drop 4)) hb
      have hbd := Lib.hid (hb.drop 4)
      clear hcut hrd kE h4
      generalize l.drop 4 = d at *
      by_cases he : four (sum d) = l.take 4
      · have e1 : openE l = 0 := by rw [kE', if_pos he]
        have e2 : openL l = d := by rw [kL.out, e1, if_pos rfl]
        rw [e1, e2] at OP
        have hq1 : ((strOfNums (sealed d)).toList == (strOfNums l).toList) = true := by rw [hq]; exact decide_eq_true (hsl.2 he)
        have hq2 : ((strOfNums (sealed d)).toList != (strOfNums l).toList) = false := by unfold bne; rw [hq1]; rfl
        clear kE' kL e1 e2 he hq hsl
        generalize sealed d = sd at *
        go_enter Try.func5, Try.ntmps5
        go_upto_region 6 with ((first | ((with_reducible refine gate_dst (N := 10) rfl ?_); refine Kd.R_lit (Kd.int .u8) _ 5 ?hg (N := 10) ?hd (xs := ([] : List Int)) (inner := []) (ok := fun _ => True) (okp := fun _ => True) ?hr ?hp (fun _ hk => hk) trivial (Below.refl _ _) (Nat.le_refl _) (by simp) ?_; (case hd => rfl); (case hg => rfl); (case hr => first | (go_simp; done) | (go_simp; rfl)); (case hp => exact Reps.none _ _); intro v10 w10 ho hb hg_ hnew_; clear hg_ hnew_; have HO10 := Lib.hid (Kd.R_lower ho (below_size (by repeat (first | (with_reducible first | exact HB.out | apply below_alloc | apply pw_below_drewN | apply below_drew1) | exact HB.out)))); have HB := Lib.hid (below_step (by repeat (first | (with_reducible first | exact HB.out | apply below_alloc | apply pw_below_drewN | apply below_drew1) | exact HB.out)) hb); clear ho hb) | ((with_reducible refine gate_builtin (b := .append) (xs := #[.tmp 10, .tmp 11]) rfl ?_); at_builtin; refine Kd.R_append_rows (Kd.int .u8) (w0 := w) w.heap.size rfl (.tmp 10) (.tmp 11) 22 5 (.int .u8 0) 1 rfl Try.underlying22 info8 rfl (by decide) (by omega) v10 ([] : List Int) l _ _ _ (fun _ => True) (fun _ => False) rfl rfl (by (with_reducible repeat (first | apply Kd.R_alloc | apply Kd.R_drewN | apply Kd.R_drew)); exact HO10.out) (Kd.C_below HR.out (by repeat (first | (with_reducible first | exact HB.out | apply below_alloc | apply pw_below_drewN | apply below_drew1) | exact HB.out))) (fun _ _ h => h) (fun _ h => h.elim) (fun _ _ => trivial) (by repeat (first | (with_reducible first | exact HB.out | apply below_alloc | apply pw_below_drewN | apply below_drew1) | exact HB.out)) (below_size (by repeat (first | (with_reducible first | exact HB.out | apply below_alloc | apply pw_below_drewN | apply below_drew1) | exact HB.out))) ?aL ?_; (case aL => simp only [List.length_nil]; omega); intro v12 w12 ho hb hg hat; clear hg hat; rw [List.nil_append] at ho; obtain ⟨Ax, cx, rfl, hcx, hrx⟩ := GotB.of_R ho; have HX := Lib.hid (And.intro hcx hrx); clear hcx hrx; have HO12 := Lib.hid ho; have HB := Lib.hid hb; clear ho hb) | (go_at_call 16; refine ((OP _ _ _ HX.out.2 HX.out.1).out).mono ?_; rintro e wo ⟨v, rfl, hg, hb'⟩; obtain ⟨Ay, cy, rfl, hcy, hry⟩ := hg; have HY := Lib.hid hry; have HB := Lib.hid (below_step (by repeat (first | (with_reducible first | exact HB.out | apply below_alloc | apply pw_below_drewN | apply below_drew1) | exact HB.out)) hb'); clear hb' hry hcy)))
        go_cut [35] (fun s35 wx => s35 = .bool false ∧ Hid (Below wo.heap.size wo wx))
        case first =>
          have hcv : ∀ wx, Below w.heap.size w wx → (convert 22 9 (.slice a0 l.length c0)).run Try.prog wx = .ok (.string (strOfNums l)) wx := fun wx h => conv_str c0 (Kd.C_below HR.out h)
          have hbw := HB.out
          have hbw2 := below_drew1 HB.out
          go_region_with (go_at_call 19; refine (RS _ (HRD.out _ (by repeat (first | (with_reducible first | exact HB.out | apply below_alloc | apply pw_below_drewN | apply below_drew1) | exact HB.out)))).out.mono ?_; rintro e w2 ⟨v2, rfl, hR, hb2⟩; obtain ⟨As, cs, rfl, hcs, hrs⟩ := GotB.of_R hR; have cv := conv_str cs hrs; have hbw3 := below_step (by repeat (first | (with_reducible first | exact HB.out | apply below_alloc | apply pw_below_drewN | apply below_drew1) | exact HB.out)) hb2; have hbo2 := Lib.hid (below_step (below_drew1 (Below.refl wo.heap.size wo)) hb2); clear hR hb2 hcs hrs)
          all_goals (go_wp2_with fail; go_meet; exact ⟨rfl, hbo2⟩)
        case rest =>
          obtain ⟨rfl, hbo⟩ := hcut
          have HW := HB
          have HB := Lib.hid (below_step HW.out hbo.out)
          go_wp2_with fail
          go_region_held3 (fun wx => (convert 22 9 (.slice A' d.length (c0 - 4))).run Try.prog wx = .ok (.string (strOfNums d)) wx ∧ (convert 22 9 (.slice Ay d.length cy)).run Try.prog wx = .ok (.string (strOfNums d)) wx)
            (first | exact ⟨conv_str (c0 - 4) (HRD.out _ (below_drew1 HB.out)), conv_str cy (Kd.C_below HY.out (below_drew1 hbo.out))⟩ | exact ⟨conv_str (c0 - 4) (HRD.out _ HB.out), conv_str cy (Kd.C_below HY.out (below_step (below_drew1 hbo.out) hb9))⟩)
            ((first | (go_at_call 13; refine ((AW _).out).mono ?_; rintro e w9 ⟨rfl, hb9⟩; have HB := Lib.hid (below_step (below_drew1 HB.out) hb9))))
          go_wp2_with fail
          go_ret
          exact ⟨rfl, HB.out⟩
      · have e1 : openE l = 5 := by rw [kE', if_neg he]
        have e2 : openL l = [] := by rw [kL.out, e1, if_neg (by decide)]
        rw [e1, e2] at OP
        have hq1 : ((strOfNums (sealed d)).toList == (strOfNums l).toList) = false := by rw [hq]; exact decide_eq_false (fun h => he (hsl.1 h))
        have hq2 : ((strOfNums (sealed d)).toList != (strOfNums l).toList) = true := by unfold bne; rw [hq1]; rfl
        clear kE' kL e1 e2 he hq hsl
        generalize sealed d = sd at *
        go_enter Try.func5, Try.ntmps5
        go_upto_region 6 with ((first | ((with_reducible refine gate_dst (N := 10) rfl ?_); refine Kd.R_lit (Kd.int .u8) _ 5 ?hg (N := 10) ?hd (xs := ([] : List Int)) (inner := []) (ok := fun _ => True) (okp := fun _ => True) ?hr ?hp (fun _ hk => hk) trivial (Below.refl _ _) (Nat.le_refl _) (by simp) ?_; (case hd => rfl); (case hg => rfl); (case hr => first | (go_simp; done) | (go_simp; rfl)); (case hp => exact Reps.none _ _); intro v10 w10 ho hb hg_ hnew_; clear hg_ hnew_; have HO10 := Lib.hid (Kd.R_lower ho (below_size (by repeat (first | (with_reducible first | exact HB.out | apply below_alloc | apply pw_below_drewN | apply below_drew1) | exact HB.out)))); have HB := Lib.hid (below_step (by repeat (first | (with_reducible first | exact HB.out | apply below_alloc | apply pw_below_drewN | apply below_drew1) | exact HB.out)) hb); clear ho hb) | ((with_reducible refine gate_builtin (b := .append) (xs := #[.tmp 10, .tmp 11]) rfl ?_); at_builtin; refine Kd.R_append_rows (Kd.int .u8) (w0 := w) w.heap.size rfl (.tmp 10) (.tmp 11) 22 5 (.int .u8 0) 1 rfl Try.underlying22 info8 rfl (by decide) (by omega) v10 ([] : List Int) l _ _ _ (fun _ => True) (fun _ => False) rfl rfl (by (with_reducible repeat (first | apply Kd.R_alloc | apply Kd.R_drewN | apply Kd.R_drew)); exact HO10.out) (Kd.C_below HR.out (by repeat (first | (with_reducible first | exact HB.out | apply below_alloc | apply pw_below_drewN | apply below_drew1) | exact HB.out))) (fun _ _ h => h) (fun _ h => h.elim) (fun _ _ => trivial) (by repeat (first | (with_reducible first | exact HB.out | apply below_alloc | apply pw_below_drewN | apply below_drew1) | exact HB.out)) (below_size (by repeat (first | (with_reducible first | exact HB.out | apply below_alloc | apply pw_below_drewN | apply below_drew1) | exact HB.out))) ?aL ?_; (case aL => simp only [List.length_nil]; omega); intro v12 w12 ho hb hg hat; clear hg hat; rw [List.nil_append] at ho; obtain ⟨Ax, cx, rfl, hcx, hrx⟩ := GotB.of_R ho; have HX := Lib.hid (And.intro hcx hrx); clear hcx hrx; have HO12 := Lib.hid ho; have HB := Lib.hid hb; clear ho hb) | (go_at_call 16; refine ((OP _ _ _ HX.out.2 HX.out.1).out).mono ?_; rintro e wo ⟨v, rfl, hg, hb'⟩; obtain ⟨Ay, cy, rfl, hcy, hry⟩ := hg; have HY := Lib.hid hry; have HB := Lib.hid (below_step (by repeat (first | (with_reducible first | exact HB.out | apply below_alloc | apply pw_below_drewN | apply below_drew1) | exact HB.out)) hb'); clear hb' hry hcy)))
        go_cut [35] (fun s35 wx => s35 = .bool true ∧ Hid (Below wo.heap.size wo wx))
        case first =>
          have hcv : ∀ wx, Below w.heap.size w wx → (convert 22 9 (.slice a0 l.length c0)).run Try.prog wx = .ok (.string (strOfNums l)) wx := fun wx h => conv_str c0 (Kd.C_below HR.out h)
          have hbw := HB.out
          have hbw2 := below_drew1 HB.out
          go_region_with (go_at_call 19; refine (RS _ (HRD.out _ (by repeat (first | (with_reducible first | exact HB.out | apply below_alloc | apply pw_below_drewN | apply below_drew1) | exact HB.out)))).out.mono ?_; rintro e w2 ⟨v2, rfl, hR, hb2⟩; obtain ⟨As, cs, rfl, hcs, hrs⟩ := GotB.of_R hR; have cv := conv_str cs hrs; have hbw3 := below_step (by repeat (first | (with_reducible first | exact HB.out | apply below_alloc | apply pw_below_drewN | apply below_drew1) | exact HB.out)) hb2; have hbo2 := Lib.hid (below_step (below_drew1 (Below.refl wo.heap.size wo)) hb2); clear hR hb2 hcs hrs)
          all_goals (go_wp2_with fail; go_meet; exact ⟨rfl, hbo2⟩)
        case rest =>
          obtain ⟨rfl, hbo⟩ := hcut
          have HW := HB
          have HB := Lib.hid (below_step HW.out hbo.out)
          go_wp2_with (first | (go_at_call 13; refine ((AW _).out).mono ?_; rintro e w' ⟨rfl, hb⟩; have HB := Lib.hid (below_step (by repeat (first | (with_reducible first | exact HB.out | apply below_alloc | apply pw_below_drewN | apply below_drew1) | exact HB.out)) hb); clear hb))
          go_ret
          exact ⟨rfl, HB.out⟩

end Go.Proofs.Ytacpmijbmllelaa.Tal
