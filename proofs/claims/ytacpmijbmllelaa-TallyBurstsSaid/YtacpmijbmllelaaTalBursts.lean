/- The walk of TallyBursts. -/
import Derived.Test.YtacpmijbmllelaaTalBits
set_option linter.unusedVariables false
set_option linter.unusedSimpArgs false
namespace Go.Proofs.Ytacpmijbmllelaa.Tal
open Go.RowKit Go.Proofs.Ytacpmijbmllelaa.Mem Go.Proofs.YtacpmijbmllelaaW.PrintWords Go.Proofs.YtacpmijbmllelaaW.PrintLast Go.Proofs.YtacpmijbmllelaaW.PrintMore
/-- a pattern's bit, as the law takes it -/
theorem pat_bit (P : Nat) (i : Nat) : ((((P : Int) / 2 ^ i).tmod 2 == 1) = true ↔ P.testBit i = true) := by
  have h := Crc.bit_of (P : Int) i (by omega)
  rw [Int.toNat_natCast] at h
  rw [h]
  cases P.testBit i <;> decide
theorem enc_u8 (l : List Int) : encs (Value.int .u8) l = nums .u8 l := rfl
theorem flips_succ_yes {L : List Int} {k P i : Nat} (h : P.testBit i = true) : flips L k P (i + 1) = flipBit (flips L k P i) (k + i) := by show (if P.testBit i = true then _ else _) = _; rw [if_pos h]
theorem flips_succ_no {L : List Int} {k P i : Nat} (h : ¬ P.testBit i = true) : flips L k P (i + 1) = flips L k P i := by show (if P.testBit i = true then _ else _) = _; rw [if_neg h]
theorem tn_succ_yes {P i : Nat} (h : P.testBit i = true) : tn P (i + 1) = true := by show (tn P i || P.testBit i) = true; rw [h, Bool.or_true]
theorem tn_succ_no {P i : Nat} (h : ¬ P.testBit i = true) : tn P (i + 1) = tn P i := by show (tn P i || P.testBit i) = _; rw [show P.testBit i = false by simpa using h, Bool.or_false]
set_option maxHeartbeats 2000000 in
set_option maxRecDepth 100000 in
theorem TallyBursts_body (w : World) (a0 : Option Addr) (c0 : Nat) (l : List Int) (hc : l.length ≤ c0) (hr : RdB w a0 l) (hb : Bytes l) (hs : l.length ≤ 3000) (P : Nat) (hP : P < 4294967296)
    (x1 : Int) (hx : 0 ≤ x1 ∧ x1 ≤ 65535) (k TO : Nat)
    (hG : (((x1 % 2 == 1) = true ∨ ((x1 % 2 == 1) = false ∧ ((l.length : Int) == 0) = true)) ∧ x1 / 2 % 32 = (k : Int) ∧ k < 32 ∧ TO = 32) ∨
      ((x1 % 2 == 1) = false ∧ ((l.length : Int) == 0) = false ∧ (0 ≤ x1 / 2 % (8 * ((sealed l).length : Int) - 32) ∧ x1 / 2 % (8 * ((sealed l).length : Int) - 32) ≤ 24000 ∧ 0 < 8 * ((sealed l).length : Int) - 32) ∧ 32 + x1 / 2 % (8 * ((sealed l).length : Int) - 32) = (k : Int) ∧ 32 ≤ k ∧ k < 8 * (l.length + 4) ∧ TO = 8 * (l.length + 4))) :
    Calls Try.prog 6 #[.slice a0 l.length c0, .int .u16 x1, .int .u32 (P : Int)] w fun e w' => e = .returned (.bool true) ∧ Below w.heap.size w w' := by
  have HB := Lib.hid (Below.refl w.heap.size w)
  have AW := fun w => Lib.hid (awake_any w)
  have d3 : decide ((3000 : Int) < ((l.length : Nat) : Int)) = false := decide_eq_false (by omega)
  have SL := Lib.hid (Seal_any a0 c0 l w hr hb (by omega))
  have hsl := sealed_length l
  have HSB := Lib.hid (sealed_bytes hb)
  have BU := fun m => Lib.hid (bursts l hb k P m)
  obtain ⟨L, hL⟩ : ∃ L, L = sealed l := ⟨_, rfl⟩
  rw [← hL] at SL hsl HSB hG
  rw [← hL] at BU
  have HSL := Lib.hid hsl
  clear hr
  have g2 : ((L.length : Int) != (l.length : Int) + 4) = false := by rw [bne_eq_false_iff_eq]; omega
  have hP0 : (0 : Int) ≤ (P : Int) := Int.natCast_nonneg _
  have hP1 : (P : Int) ≤ 4294967295 := by omega
  have lim : Hid (k < TO ∧ k + 32 ≤ 30000 ∧ (TO ≤ 8 * L.length) ∧ (TO = 32 ∨ (32 ≤ k ∧ TO = 8 * l.length + 32))) := by
    rcases hG with ⟨_, _, _, _⟩ | ⟨_, _, _, _, _, _, _⟩
    · exact Lib.hid ⟨by omega, by omega, by omega, .inl (by omega)⟩
    · exact Lib.hid ⟨by omega, by omega, by omega, .inr ⟨by omega, by omega⟩⟩
  have k0 : (0 : Int) ≤ (k : Int) := Int.natCast_nonneg _
  have k1 : (k : Int) ≤ 30000 := by have := lim.out; omega
  have hLl : (L.length : Int) ≤ 4000 := by omega
  have hL0 : (0 : Int) ≤ (L.length : Int) := Int.natCast_nonneg _
  have hL4 : (4 : Int) ≤ (L.length : Int) := by omega
  obtain ⟨q, hq, hq0, hq1⟩ : ∃ q : Int, q = x1 / 2 ∧ 0 ≤ q ∧ q ≤ 32767 := ⟨x1 / 2, rfl, by omega, by omega⟩
  rw [← hq] at hG
  have hqw : IntKind.u16.wrap (x1.tdiv 2) = q := by
    rw [Int.tdiv_eq_ediv_of_nonneg hx.1, ← hq]
    simp only [IntKind.wrap, IntKind.bits, IntKind.signed]; simp; omega
  clear hL hsl hq
  rcases hG with ⟨hg | ⟨hg, hg'⟩, hk, hk2, rfl⟩ | ⟨hg, hg', ⟨hk0, hk1, hk9⟩, hk, hk2, hk3, rfl⟩
  · have hdec : Hid (∀ i : Nat, (k + i < 32 → decide ((k : Int) + (i : Int) < 32) = true) ∧ (¬ k + i < 32 → decide ((k : Int) + (i : Int) < 32) = false)) := Lib.hid (fun i => ⟨fun h => decide_eq_true (by have := HSL.out; omega), fun h => decide_eq_false (by have := HSL.out; omega)⟩)
    clear hk2
    go_enter Try.func6, Try.ntmps6
    go_wp2_with (go_at_call 15; refine SL.out.mono ?_; rintro e w1 ⟨v, rfl, hR, hB⟩; obtain ⟨g, cp, rfl, hg1, hg2, _⟩ := Kd.R_form hR (by have := HSL.out; omega); have HO := Lib.hid (Kd.own_of_R hR); have HB1 := Lib.hid hB; clear hR hB)
    clear hk hqw hg SL
    go_loopg [11, 12] 32 (fun kq v11 v12 wr => ∃ i : Nat, i ≤ 32 ∧ kq = 32 - i ∧ k + i ≤ 32 ∧ v11 = .bool (tn P i) ∧ v12 = .int .i64 (i : Int) ∧ Hid (wr.ownsRow w.heap.size 5 1 (.slice (some ⟨g, 0, none⟩) L.length cp) L.length (nums .u8 (flips L k P i))) ∧ Hid (Below w.heap.size w wr))
    case atStart => exact ⟨0, by omega, by omega, by have := lim.out; omega, rfl, rfl, HO, HB1⟩
    case round =>
      clear HO HB1
      obtain ⟨i, hi, rfl, hki, rfl, rfl, HO, HB1⟩ := hrel
      have i0 : (0 : Int) ≤ (i : Int) := Int.natCast_nonneg _
      have i1 : (i : Int) ≤ 32 := by omega
      by_cases c1 : i < 32 ∧ k + i < 32
      · have e1 : decide ((i : Int) < 32) = true := decide_eq_true (by omega)
        have e2 := (hdec.out i).1 c1.2
        have hpb := pat_bit P i
        have hlim : Hid ((k + i) / 8 < L.length) := Lib.hid (by have := lim.out; omega)
        clear hi
        by_cases c2 : P.testBit i = true
        · have e3 : (((P : Int) / 2 ^ i).tmod 2 == 1) = true := hpb.2 c2
          have HF := Lib.hid (flips_succ_yes (L := L) (k := k) c2)
          have HT := Lib.hid (tn_succ_yes c2)
          have hcf := own_at HO.out (((k + i) / 8 : Nat) : Int) (by omega) (by have := hlim.out; omega)
          rw [Int.toNat_natCast] at hcf
          obtain ⟨hcell, hfroz⟩ := hcf
          have HY : Hid (flipBit (flips L k P i) (k + i) = (flips L k P i).set ((k + i) / 8) (Go.bits .xor .u8 (rd (flips L k P i) (((k + i) / 8 : Nat) : Int)) ((2 ^ (7 - (k + i) % 8) : Nat) : Int))) := Lib.hid rfl
          have hl1 : ((k : Int) + (i : Int)) / 8 < (L.length : Int) := by have := hlim.out; omega
          have hl0 : 0 ≤ ((k : Int) + (i : Int)) / 8 := by omega
          generalize rd (flips L k P i) (((k + i) / 8 : Nat) : Int) = y at *
          have hpw : Hid (∀ x : Int, x = y → Go.bits .xor .u8 x ((2 ^ (7 - (k + i) % 8) : Nat) : Int) = Go.bits .xor .u8 y (2 ^ (7 - (k + i) % 8) % 256)) := Lib.hid (fun x hx => by
            rw [hx]
            congr 1
            have h2 := pow_small ((k + i) % 8) (Nat.mod_lt _ (by decide))
            have h3 : ((2 ^ (7 - (k + i) % 8) : Nat) : Int) = (2 : Int) ^ (7 - (k + i) % 8) := by simp
            rw [← h3]; omega)
          have HS := Lib.hid (fun x => own_store HO.out (((k + i) / 8 : Nat) : Int) x)
          clear hpb c2
          go_wp2
          go_roundg (32 - (i + 1))
          case measure => omega
          case rel =>
            refine ⟨i + 1, by omega, rfl, by omega, by rw [HT.out], by go_num, Lib.hid ?_, Lib.hid (HB1.out.setCell hg1 _)⟩
            have h := (HS.out (Go.bits .xor .u8 y (2 ^ (7 - (k + i) % 8) % 256))).1
            rw [Int.toNat_natCast] at h
            rw [HF.out, HY.out, hpw.out y rfl]
            exact h
        · have e3 : (((P : Int) / 2 ^ i).tmod 2 == 1) = false := by cases h : (((P : Int) / 2 ^ i).tmod 2 == 1); rfl; exact absurd (hpb.1 h) c2
          have HF := Lib.hid (flips_succ_no (L := L) (k := k) c2)
          have HT := Lib.hid (tn_succ_no c2)
          clear hpb c2
          go_wp2
          go_roundg (32 - (i + 1))
          case measure => omega
          case rel => exact ⟨i + 1, by omega, rfl, by omega, by rw [HT.out], by go_num, Lib.hid (by rw [HF.out]; exact HO.out), HB1⟩
      · have HBU := (BU i).out (by omega) (by have := lim.out; omega)
        have hlF : Hid ((flips L k P i).length = L.length) := Lib.hid (flips_length _ _ _ _)
        have HFB := Lib.hid (flips_bytes HSB.out k P i (by have := lim.out; omega))
        have hrd := (Kd.R_reads' (Kd.R_of_own (enc := Value.int .u8) (h1 := fun _ => rfl) (by rw [hlF.out]; exact HO.out) (ok := fun _ => True) (fun _ _ => trivial))).2
        have op := Open_any (some ⟨g, 0, none⟩) cp (flips L k P i) wr hrd.2 (by rw [hlF.out]; exact hrd.1) HFB.out (by have := hlF.out; omega)
        rw [hlF.out] at op
        have OP := Lib.hid op
        clear op hrd
        have hEq : (tn P i = false ∧ openE (flips L k P i) = 0) ∨ (tn P i = true ∧ openE (flips L k P i) = 5) := by
          cases ht : tn P i
          · exact .inl ⟨rfl, HBU.1.2 ht⟩
          · rcases HBU.2 with h | h
            · have := HBU.1.1 h; rw [ht] at this; exact absurd this (by decide)
            · exact .inr ⟨rfl, h⟩
        clear HBU HO
        generalize flips L k P i = F at *
        generalize openE F = E at *
        generalize tn P i = tb at *
        by_cases c2 : i < 32
        · have e1 : decide ((i : Int) < 32) = true := decide_eq_true (by omega)
          have e2 := (hdec.out i).2 (fun h => c1 ⟨c2, h⟩)
          clear c1 c2 hi
          rcases hEq with ⟨rfl, rfl⟩ | ⟨rfl, rfl⟩ <;> go_wp2_with (first | (go_at_call 16; refine (OP.out).mono ?_; rintro e wo ⟨v, rfl, hg9, hb9⟩; obtain ⟨Ay, cy, rfl, hcy, hry⟩ := hg9; have HB := Lib.hid (below_step HB1.out hb9); clear hb9 hry hcy) | (go_at_call 13; refine ((AW _).out).mono ?_; rintro e w' ⟨rfl, hb⟩; have HB := Lib.hid (below_step (by repeat (first | (with_reducible first | exact HB.out | apply below_alloc | apply pw_below_drewN | apply below_drew1) | exact HB.out)) hb); clear hb))
          all_goals go_ret
          all_goals exact ⟨rfl, HB.out⟩
        · have e1 : decide ((i : Int) < 32) = false := decide_eq_false (by omega)
          clear c1 c2 hi
          rcases hEq with ⟨rfl, rfl⟩ | ⟨rfl, rfl⟩ <;> go_wp2_with (first | (go_at_call 16; refine (OP.out).mono ?_; rintro e wo ⟨v, rfl, hg9, hb9⟩; obtain ⟨Ay, cy, rfl, hcy, hry⟩ := hg9; have HB := Lib.hid (below_step HB1.out hb9); clear hb9 hry hcy) | (go_at_call 13; refine ((AW _).out).mono ?_; rintro e w' ⟨rfl, hb⟩; have HB := Lib.hid (below_step (by repeat (first | (with_reducible first | exact HB.out | apply below_alloc | apply pw_below_drewN | apply below_drew1) | exact HB.out)) hb); clear hb))
          all_goals go_ret
          all_goals exact ⟨rfl, HB.out⟩
  · have hdec : Hid (∀ i : Nat, (k + i < 32 → decide ((k : Int) + (i : Int) < 32) = true) ∧ (¬ k + i < 32 → decide ((k : Int) + (i : Int) < 32) = false)) := Lib.hid (fun i => ⟨fun h => decide_eq_true (by have := HSL.out; omega), fun h => decide_eq_false (by have := HSL.out; omega)⟩)
    clear hk2
    go_enter Try.func6, Try.ntmps6
    go_wp2_with (go_at_call 15; refine SL.out.mono ?_; rintro e w1 ⟨v, rfl, hR, hB⟩; obtain ⟨g, cp, rfl, hg1, hg2, _⟩ := Kd.R_form hR (by have := HSL.out; omega); have HO := Lib.hid (Kd.own_of_R hR); have HB1 := Lib.hid hB; clear hR hB)
    clear hk hqw hg hg' SL
    go_loopg [11, 12] 32 (fun kq v11 v12 wr => ∃ i : Nat, i ≤ 32 ∧ kq = 32 - i ∧ k + i ≤ 32 ∧ v11 = .bool (tn P i) ∧ v12 = .int .i64 (i : Int) ∧ Hid (wr.ownsRow w.heap.size 5 1 (.slice (some ⟨g, 0, none⟩) L.length cp) L.length (nums .u8 (flips L k P i))) ∧ Hid (Below w.heap.size w wr))
    case atStart => exact ⟨0, by omega, by omega, by have := lim.out; omega, rfl, rfl, HO, HB1⟩
    case round =>
      clear HO HB1
      obtain ⟨i, hi, rfl, hki, rfl, rfl, HO, HB1⟩ := hrel
      have i0 : (0 : Int) ≤ (i : Int) := Int.natCast_nonneg _
      have i1 : (i : Int) ≤ 32 := by omega
      by_cases c1 : i < 32 ∧ k + i < 32
      · have e1 : decide ((i : Int) < 32) = true := decide_eq_true (by omega)
        have e2 := (hdec.out i).1 c1.2
        have hpb := pat_bit P i
        have hlim : Hid ((k + i) / 8 < L.length) := Lib.hid (by have := lim.out; omega)
        clear hi
        by_cases c2 : P.testBit i = true
        · have e3 : (((P : Int) / 2 ^ i).tmod 2 == 1) = true := hpb.2 c2
          have HF := Lib.hid (flips_succ_yes (L := L) (k := k) c2)
          have HT := Lib.hid (tn_succ_yes c2)
          have hcf := own_at HO.out (((k + i) / 8 : Nat) : Int) (by omega) (by have := hlim.out; omega)
          rw [Int.toNat_natCast] at hcf
          obtain ⟨hcell, hfroz⟩ := hcf
          have HY : Hid (flipBit (flips L k P i) (k + i) = (flips L k P i).set ((k + i) / 8) (Go.bits .xor .u8 (rd (flips L k P i) (((k + i) / 8 : Nat) : Int)) ((2 ^ (7 - (k + i) % 8) : Nat) : Int))) := Lib.hid rfl
          have hl1 : ((k : Int) + (i : Int)) / 8 < (L.length : Int) := by have := hlim.out; omega
          have hl0 : 0 ≤ ((k : Int) + (i : Int)) / 8 := by omega
          generalize rd (flips L k P i) (((k + i) / 8 : Nat) : Int) = y at *
          have hpw : Hid (∀ x : Int, x = y → Go.bits .xor .u8 x ((2 ^ (7 - (k + i) % 8) : Nat) : Int) = Go.bits .xor .u8 y (2 ^ (7 - (k + i) % 8) % 256)) := Lib.hid (fun x hx => by
            rw [hx]
            congr 1
            have h2 := pow_small ((k + i) % 8) (Nat.mod_lt _ (by decide))
            have h3 : ((2 ^ (7 - (k + i) % 8) : Nat) : Int) = (2 : Int) ^ (7 - (k + i) % 8) := by simp
            rw [← h3]; omega)
          have HS := Lib.hid (fun x => own_store HO.out (((k + i) / 8 : Nat) : Int) x)
          clear hpb c2
          go_wp2
          go_roundg (32 - (i + 1))
          case measure => omega
          case rel =>
            refine ⟨i + 1, by omega, rfl, by omega, by rw [HT.out], by go_num, Lib.hid ?_, Lib.hid (HB1.out.setCell hg1 _)⟩
            have h := (HS.out (Go.bits .xor .u8 y (2 ^ (7 - (k + i) % 8) % 256))).1
            rw [Int.toNat_natCast] at h
            rw [HF.out, HY.out, hpw.out y rfl]
            exact h
        · have e3 : (((P : Int) / 2 ^ i).tmod 2 == 1) = false := by cases h : (((P : Int) / 2 ^ i).tmod 2 == 1); rfl; exact absurd (hpb.1 h) c2
          have HF := Lib.hid (flips_succ_no (L := L) (k := k) c2)
          have HT := Lib.hid (tn_succ_no c2)
          clear hpb c2
          go_wp2
          go_roundg (32 - (i + 1))
          case measure => omega
          case rel => exact ⟨i + 1, by omega, rfl, by omega, by rw [HT.out], by go_num, Lib.hid (by rw [HF.out]; exact HO.out), HB1⟩
      · have HBU := (BU i).out (by omega) (by have := lim.out; omega)
        have hlF : Hid ((flips L k P i).length = L.length) := Lib.hid (flips_length _ _ _ _)
        have HFB := Lib.hid (flips_bytes HSB.out k P i (by have := lim.out; omega))
        have hrd := (Kd.R_reads' (Kd.R_of_own (enc := Value.int .u8) (h1 := fun _ => rfl) (by rw [hlF.out]; exact HO.out) (ok := fun _ => True) (fun _ _ => trivial))).2
        have op := Open_any (some ⟨g, 0, none⟩) cp (flips L k P i) wr hrd.2 (by rw [hlF.out]; exact hrd.1) HFB.out (by have := hlF.out; omega)
        rw [hlF.out] at op
        have OP := Lib.hid op
        clear op hrd
        have hEq : (tn P i = false ∧ openE (flips L k P i) = 0) ∨ (tn P i = true ∧ openE (flips L k P i) = 5) := by
          cases ht : tn P i
          · exact .inl ⟨rfl, HBU.1.2 ht⟩
          · rcases HBU.2 with h | h
            · have := HBU.1.1 h; rw [ht] at this; exact absurd this (by decide)
            · exact .inr ⟨rfl, h⟩
        clear HBU HO
        generalize flips L k P i = F at *
        generalize openE F = E at *
        generalize tn P i = tb at *
        by_cases c2 : i < 32
        · have e1 : decide ((i : Int) < 32) = true := decide_eq_true (by omega)
          have e2 := (hdec.out i).2 (fun h => c1 ⟨c2, h⟩)
          clear c1 c2 hi
          rcases hEq with ⟨rfl, rfl⟩ | ⟨rfl, rfl⟩ <;> go_wp2_with (first | (go_at_call 16; refine (OP.out).mono ?_; rintro e wo ⟨v, rfl, hg9, hb9⟩; obtain ⟨Ay, cy, rfl, hcy, hry⟩ := hg9; have HB := Lib.hid (below_step HB1.out hb9); clear hb9 hry hcy) | (go_at_call 13; refine ((AW _).out).mono ?_; rintro e w' ⟨rfl, hb⟩; have HB := Lib.hid (below_step (by repeat (first | (with_reducible first | exact HB.out | apply below_alloc | apply pw_below_drewN | apply below_drew1) | exact HB.out)) hb); clear hb))
          all_goals go_ret
          all_goals exact ⟨rfl, HB.out⟩
        · have e1 : decide ((i : Int) < 32) = false := decide_eq_false (by omega)
          clear c1 c2 hi
          rcases hEq with ⟨rfl, rfl⟩ | ⟨rfl, rfl⟩ <;> go_wp2_with (first | (go_at_call 16; refine (OP.out).mono ?_; rintro e wo ⟨v, rfl, hg9, hb9⟩; obtain ⟨Ay, cy, rfl, hcy, hry⟩ := hg9; have HB := Lib.hid (below_step HB1.out hb9); clear hb9 hry hcy) | (go_at_call 13; refine ((AW _).out).mono ?_; rintro e w' ⟨rfl, hb⟩; have HB := Lib.hid (below_step (by repeat (first | (with_reducible first | exact HB.out | apply below_alloc | apply pw_below_drewN | apply below_drew1) | exact HB.out)) hb); clear hb))
          all_goals go_ret
          all_goals exact ⟨rfl, HB.out⟩
  · have hdec : Hid (∀ i : Nat, (k + i < 8 * (l.length + 4) → decide ((k : Int) + (i : Int) < 8 * (L.length : Int)) = true) ∧ (¬ k + i < 8 * (l.length + 4) → decide ((k : Int) + (i : Int) < 8 * (L.length : Int)) = false)) := Lib.hid (fun i => ⟨fun h => decide_eq_true (by have := HSL.out; omega), fun h => decide_eq_false (by have := HSL.out; omega)⟩)
    go_enter Try.func6, Try.ntmps6
    go_wp2_with (go_at_call 15; refine SL.out.mono ?_; rintro e w1 ⟨v, rfl, hR, hB⟩; obtain ⟨g, cp, rfl, hg1, hg2, _⟩ := Kd.R_form hR (by have := HSL.out; omega); have HO := Lib.hid (Kd.own_of_R hR); have HB1 := Lib.hid hB; clear hR hB)
    clear hk hqw hg hg' hk0 hk1 hk9 hk2 hk3 SL
    go_loopg [11, 12] 32 (fun kq v11 v12 wr => ∃ i : Nat, i ≤ 32 ∧ kq = 32 - i ∧ k + i ≤ 8 * (l.length + 4) ∧ v11 = .bool (tn P i) ∧ v12 = .int .i64 (i : Int) ∧ Hid (wr.ownsRow w.heap.size 5 1 (.slice (some ⟨g, 0, none⟩) L.length cp) L.length (nums .u8 (flips L k P i))) ∧ Hid (Below w.heap.size w wr))
    case atStart => exact ⟨0, by omega, by omega, by have := lim.out; omega, rfl, rfl, HO, HB1⟩
    case round =>
      clear HO HB1
      obtain ⟨i, hi, rfl, hki, rfl, rfl, HO, HB1⟩ := hrel
      have i0 : (0 : Int) ≤ (i : Int) := Int.natCast_nonneg _
      have i1 : (i : Int) ≤ 32 := by omega
      by_cases c1 : i < 32 ∧ k + i < 8 * (l.length + 4)
      · have e1 : decide ((i : Int) < 32) = true := decide_eq_true (by omega)
        have e2 := (hdec.out i).1 c1.2
        have hpb := pat_bit P i
        have hlim : Hid ((k + i) / 8 < L.length) := Lib.hid (by have := lim.out; omega)
        clear hi
        by_cases c2 : P.testBit i = true
        · have e3 : (((P : Int) / 2 ^ i).tmod 2 == 1) = true := hpb.2 c2
          have HF := Lib.hid (flips_succ_yes (L := L) (k := k) c2)
          have HT := Lib.hid (tn_succ_yes c2)
          have hcf := own_at HO.out (((k + i) / 8 : Nat) : Int) (by omega) (by have := hlim.out; omega)
          rw [Int.toNat_natCast] at hcf
          obtain ⟨hcell, hfroz⟩ := hcf
          have HY : Hid (flipBit (flips L k P i) (k + i) = (flips L k P i).set ((k + i) / 8) (Go.bits .xor .u8 (rd (flips L k P i) (((k + i) / 8 : Nat) : Int)) ((2 ^ (7 - (k + i) % 8) : Nat) : Int))) := Lib.hid rfl
          have hl1 : ((k : Int) + (i : Int)) / 8 < (L.length : Int) := by have := hlim.out; omega
          have hl0 : 0 ≤ ((k : Int) + (i : Int)) / 8 := by omega
          generalize rd (flips L k P i) (((k + i) / 8 : Nat) : Int) = y at *
          have hpw : Hid (∀ x : Int, x = y → Go.bits .xor .u8 x ((2 ^ (7 - (k + i) % 8) : Nat) : Int) = Go.bits .xor .u8 y (2 ^ (7 - (k + i) % 8) % 256)) := Lib.hid (fun x hx => by
            rw [hx]
            congr 1
            have h2 := pow_small ((k + i) % 8) (Nat.mod_lt _ (by decide))
            have h3 : ((2 ^ (7 - (k + i) % 8) : Nat) : Int) = (2 : Int) ^ (7 - (k + i) % 8) := by simp
            rw [← h3]; omega)
          have HS := Lib.hid (fun x => own_store HO.out (((k + i) / 8 : Nat) : Int) x)
          clear hpb c2
          go_wp2
          go_roundg (32 - (i + 1))
          case measure => omega
          case rel =>
            refine ⟨i + 1, by omega, rfl, by omega, by rw [HT.out], by go_num, Lib.hid ?_, Lib.hid (HB1.out.setCell hg1 _)⟩
            have h := (HS.out (Go.bits .xor .u8 y (2 ^ (7 - (k + i) % 8) % 256))).1
            rw [Int.toNat_natCast] at h
            rw [HF.out, HY.out, hpw.out y rfl]
            exact h
        · have e3 : (((P : Int) / 2 ^ i).tmod 2 == 1) = false := by cases h : (((P : Int) / 2 ^ i).tmod 2 == 1); rfl; exact absurd (hpb.1 h) c2
          have HF := Lib.hid (flips_succ_no (L := L) (k := k) c2)
          have HT := Lib.hid (tn_succ_no c2)
          clear hpb c2
          go_wp2
          go_roundg (32 - (i + 1))
          case measure => omega
          case rel => exact ⟨i + 1, by omega, rfl, by omega, by rw [HT.out], by go_num, Lib.hid (by rw [HF.out]; exact HO.out), HB1⟩
      · have HBU := (BU i).out (by omega) (by have := lim.out; omega)
        have hlF : Hid ((flips L k P i).length = L.length) := Lib.hid (flips_length _ _ _ _)
        have HFB := Lib.hid (flips_bytes HSB.out k P i (by have := lim.out; omega))
        have hrd := (Kd.R_reads' (Kd.R_of_own (enc := Value.int .u8) (h1 := fun _ => rfl) (by rw [hlF.out]; exact HO.out) (ok := fun _ => True) (fun _ _ => trivial))).2
        have op := Open_any (some ⟨g, 0, none⟩) cp (flips L k P i) wr hrd.2 (by rw [hlF.out]; exact hrd.1) HFB.out (by have := hlF.out; omega)
        rw [hlF.out] at op
        have OP := Lib.hid op
        clear op hrd
        have hEq : (tn P i = false ∧ openE (flips L k P i) = 0) ∨ (tn P i = true ∧ openE (flips L k P i) = 5) := by
          cases ht : tn P i
          · exact .inl ⟨rfl, HBU.1.2 ht⟩
          · rcases HBU.2 with h | h
            · have := HBU.1.1 h; rw [ht] at this; exact absurd this (by decide)
            · exact .inr ⟨rfl, h⟩
        clear HBU HO
        generalize flips L k P i = F at *
        generalize openE F = E at *
        generalize tn P i = tb at *
        by_cases c2 : i < 32
        · have e1 : decide ((i : Int) < 32) = true := decide_eq_true (by omega)
          have e2 := (hdec.out i).2 (fun h => c1 ⟨c2, h⟩)
          clear c1 c2 hi
          rcases hEq with ⟨rfl, rfl⟩ | ⟨rfl, rfl⟩ <;> go_wp2_with (first | (go_at_call 16; refine (OP.out).mono ?_; rintro e wo ⟨v, rfl, hg9, hb9⟩; obtain ⟨Ay, cy, rfl, hcy, hry⟩ := hg9; have HB := Lib.hid (below_step HB1.out hb9); clear hb9 hry hcy) | (go_at_call 13; refine ((AW _).out).mono ?_; rintro e w' ⟨rfl, hb⟩; have HB := Lib.hid (below_step (by repeat (first | (with_reducible first | exact HB.out | apply below_alloc | apply pw_below_drewN | apply below_drew1) | exact HB.out)) hb); clear hb))
          all_goals go_ret
          all_goals exact ⟨rfl, HB.out⟩
        · have e1 : decide ((i : Int) < 32) = false := decide_eq_false (by omega)
          clear c1 c2 hi
          rcases hEq with ⟨rfl, rfl⟩ | ⟨rfl, rfl⟩ <;> go_wp2_with (first | (go_at_call 16; refine (OP.out).mono ?_; rintro e wo ⟨v, rfl, hg9, hb9⟩; obtain ⟨Ay, cy, rfl, hcy, hry⟩ := hg9; have HB := Lib.hid (below_step HB1.out hb9); clear hb9 hry hcy) | (go_at_call 13; refine ((AW _).out).mono ?_; rintro e w' ⟨rfl, hb⟩; have HB := Lib.hid (below_step (by repeat (first | (with_reducible first | exact HB.out | apply below_alloc | apply pw_below_drewN | apply below_drew1) | exact HB.out)) hb); clear hb))
          all_goals go_ret
          all_goals exact ⟨rfl, HB.out⟩

set_option maxRecDepth 100000 in
theorem TallyBursts_walk (w : World) (a0 : Option Addr) (n0 c0 : Nat) (z0 : List Int) (r0 : IsRow .u8 w a0 n0 c0 z0) (s0 : n0 * 1 ≤ 140737488351232) (x1 : Int) (h1 : (Lit.int .u16 x1).wf = true) (x2 : Int) (h2 : (Lit.int .u32 x2).wf = true) :
    Calls Try.prog 6 #[.slice a0 n0 c0, .int .u16 x1, .int .u32 x2] w fun e w' => e = .returned (.bool true) ∧ Below w.heap.size w w' := by
  obtain ⟨l, rfl, hc, hr, hb, hs⟩ := row_bytes r0 s0
  clear r0 s0 z0
  have hx1 : 0 ≤ x1 ∧ x1 ≤ 65535 := by simp [Lit.wf, IntKind.min, IntKind.max, IntKind.signed, IntKind.bits] at h1; omega
  have hx2 : 0 ≤ x2 ∧ x2 < 4294967296 := by simp [Lit.wf, IntKind.min, IntKind.max, IntKind.signed, IntKind.bits] at h2; omega
  by_cases g3 : 3000 < l.length
  · have d3 : decide ((3000 : Int) < ((l.length : Nat) : Int)) = true := decide_eq_true (by omega)
    have AW := fun w => Lib.hid (awake_any w)
    clear hr hb
    go_enter Try.func6, Try.ntmps6
    go_wp2_with (first | (go_at_call 13; refine ((AW _).out).mono ?_; rintro e w1 ⟨rfl, hb⟩; have HB1 := Lib.hid hb; clear hb))
    go_ret
    exact ⟨rfl, HB1.out⟩
  · clear h1 h2
    obtain ⟨hx2, hx3⟩ := hx2
    obtain ⟨P, rfl⟩ : ∃ P : Nat, x2 = (P : Int) := ⟨x2.toNat, by omega⟩
    have hsl := sealed_length l
    have hq : 0 ≤ x1 / 2 := by omega
    by_cases c1 : x1 % 2 = 1
    · have hm := Int.emod_nonneg (x1 / 2) (show (32 : Int) ≠ 0 by decide)
      have hm2 := Int.emod_lt_of_pos (x1 / 2) (show (0 : Int) < 32 by decide)
      exact TallyBursts_body w a0 c0 l hc hr hb (by omega) P (by omega) x1 hx1 (x1 / 2 % 32).toNat 32 (.inl ⟨.inl (by simpa using c1), by omega, by omega, rfl⟩)
    · have e1 : (x1 % 2 == 1) = false := by simpa using c1
      by_cases c2 : l.length = 0
      · exact TallyBursts_body w a0 c0 l hc hr hb (by omega) P (by omega) x1 hx1 (x1 / 2 % 32).toNat 32 (.inl ⟨.inr ⟨e1, by rw [c2]; rfl⟩, by omega, by omega, rfl⟩)
      · have e2 : ((l.length : Int) == 0) = false := by simpa using c2
        have hm := Int.emod_nonneg (x1 / 2) (show (8 * ((sealed l).length : Int) - 32) ≠ 0 by omega)
        have hm2 := Int.emod_lt_of_pos (x1 / 2) (show (0 : Int) < 8 * ((sealed l).length : Int) - 32 by omega)
        exact TallyBursts_body w a0 c0 l hc hr hb (by omega) P (by omega) x1 hx1 (32 + x1 / 2 % (8 * ((sealed l).length : Int) - 32)).toNat (8 * (l.length + 4)) (.inr ⟨e1, e2, ⟨hm, by omega, by omega⟩, by omega, by omega, by omega, rfl⟩)
end Go.Proofs.Ytacpmijbmllelaa.Tal
