/- Bits that are turned in sealed bytes: plain facts, with no program in sight. -/
import Derived.Test.YtacpmijbmllelaaTalLaws
set_option linter.unusedVariables false
set_option linter.unusedSimpArgs false
namespace Go.Proofs.Ytacpmijbmllelaa.Tal
open Go.RowKit Go.Proofs.Ytacpmijbmllelaa.Mem Go.Proofs.YtacpmijbmllelaaW.PrintWords Go.Proofs.YtacpmijbmllelaaW.PrintLast Go.Proofs.YtacpmijbmllelaaW.PrintMore
/-- a bit of a row of bytes, the highest of each byte first -/
def bitAt (L : List Int) (p : Nat) : Bool := (rd L ((p / 8 : Nat) : Int)).toNat.testBit (7 - p % 8)
def flipBit (L : List Int) (p : Nat) : List Int := L.set (p / 8) (Go.bits .xor .u8 (rd L ((p / 8 : Nat) : Int)) ((2 ^ (7 - p % 8) : Nat) : Int))
def flips (L : List Int) (k pat : Nat) : Nat → List Int
  | 0 => L
  | i + 1 => if pat.testBit i = true then flipBit (flips L k pat i) (k + i) else flips L k pat i
def tn (pat : Nat) : Nat → Bool
  | 0 => false
  | i + 1 => tn pat i || pat.testBit i

theorem rd_set (L : List Int) (j i : Nat) (x : Int) (hj : j < L.length) : rd (L.set j x) (i : Int) = if j = i then x else rd L (i : Int) := by
  unfold rd
  rw [Int.toNat_natCast]
  simp only [List.getD_eq_getElem?_getD, List.getElem?_set]
  by_cases e : j = i
  · subst e; simp [hj]
  · simp [e]
theorem flipBit_length (L : List Int) (p : Nat) : (flipBit L p).length = L.length := by unfold flipBit; simp
theorem flips_length (L : List Int) (k pat m : Nat) : (flips L k pat m).length = L.length := by
  induction m with
  | zero => rfl
  | succ m ih => unfold flips; split
                 · rw [flipBit_length, ih]
                 · exact ih
theorem pow_small : ∀ j, j < 8 → 0 ≤ ((2 ^ (7 - j) : Nat) : Int) ∧ ((2 ^ (7 - j) : Nat) : Int) ≤ 255 := by decide
theorem flip_val (L : List Int) (p : Nat) (hp : p / 8 < L.length) (hb : Bytes L) :
    Go.bits .xor .u8 (rd L ((p / 8 : Nat) : Int)) ((2 ^ (7 - p % 8) : Nat) : Int) = (((rd L ((p / 8 : Nat) : Int)).toNat ^^^ 2 ^ (7 - p % 8) : Nat) : Int) ∧ (rd L ((p / 8 : Nat) : Int)).toNat ^^^ 2 ^ (7 - p % 8) < 256 := by
  have h1 := hb.at_ (p / 8) hp
  have h2 := pow_small (p % 8) (Nat.mod_lt _ (by decide))
  have := xor_u8 _ _ h1 h2
  rw [Int.toNat_natCast] at this
  exact this
theorem flipBit_bytes {L : List Int} (hb : Bytes L) (p : Nat) (hp : p / 8 < L.length) : Bytes (flipBit L p) := by
  intro x hx
  unfold flipBit at hx
  rcases List.mem_or_eq_of_mem_set hx with h | h
  · exact hb x h
  · have hv := flip_val L p hp hb
    rw [h, hv.1]; omega
theorem flips_bytes {L : List Int} (hb : Bytes L) (k pat m : Nat) (h : k + m ≤ 8 * L.length) : Bytes (flips L k pat m) := by
  induction m with
  | zero => exact hb
  | succ m ih =>
    unfold flips
    split
    · exact flipBit_bytes (ih (by omega)) _ (by rw [flips_length]; omega)
    · exact ih (by omega)
theorem bitAt_flip (L : List Int) (q p : Nat) (hq : q / 8 < L.length) (hb : Bytes L) : bitAt (flipBit L q) p = (bitAt L p ^^ decide (p = q)) := by
  unfold bitAt flipBit
  rw [rd_set _ _ _ _ hq]
  by_cases e : q / 8 = p / 8
  · rw [if_pos e, (flip_val L q hq hb).1, Int.toNat_natCast, Nat.testBit_xor, Nat.testBit_two_pow, e]
    congr 1
    rw [Bool.eq_iff_iff]; simp only [decide_eq_true_eq]; omega
  · rw [if_neg e]
    have : decide (p = q) = false := decide_eq_false (fun h => e (by rw [h]))
    rw [this, Bool.xor_false]
theorem bitAt_flips (L : List Int) (k pat m : Nat) (hb : Bytes L) (h : k + m ≤ 8 * L.length) (p : Nat) : bitAt (flips L k pat m) p = (bitAt L p ^^ decide (k ≤ p ∧ p < k + m ∧ pat.testBit (p - k) = true)) := by
  induction m with
  | zero => unfold flips; rw [decide_eq_false (by omega), Bool.xor_false]
  | succ m ih =>
    unfold flips
    have ih := ih (by omega)
    by_cases c : pat.testBit m = true
    · rw [if_pos c, bitAt_flip _ _ _ (by rw [flips_length]; omega) (flips_bytes hb k pat m (by omega)), ih, Bool.xor_assoc]
      congr 1
      by_cases e : p = k + m
      · subst e
        rw [decide_eq_false (by omega), decide_eq_true rfl, decide_eq_true ⟨by omega, by omega, by rw [Nat.add_sub_cancel_left]; exact c⟩]; rfl
      · rw [decide_eq_false e, Bool.xor_false]
        rw [Bool.eq_iff_iff]; simp only [decide_eq_true_eq]
        constructor
        · rintro ⟨a, b, d⟩; exact ⟨a, by omega, d⟩
        · rintro ⟨a, b, d⟩; exact ⟨a, by omega, d⟩
    · rw [if_neg c, ih]
      congr 1
      rw [Bool.eq_iff_iff]; simp only [decide_eq_true_eq]
      constructor
      · rintro ⟨a, b, d⟩; exact ⟨a, by omega, d⟩
      · rintro ⟨a, b, d⟩
        refine ⟨a, ?_, d⟩
        rcases Nat.lt_or_ge p (k + m) with h' | h'
        · exact h'
        · exfalso; rw [show p - k = m by omega] at d; exact c d
theorem tn_iff (pat m : Nat) : tn pat m = true ↔ ∃ j, j < m ∧ pat.testBit j = true := by
  induction m with
  | zero => simp [tn]
  | succ m ih =>
    unfold tn
    rw [Bool.or_eq_true, ih]
    constructor
    · rintro (⟨j, h1, h2⟩ | h)
      · exact ⟨j, by omega, h2⟩
      · exact ⟨m, by omega, h⟩
    · rintro ⟨j, h1, h2⟩
      rcases Nat.lt_or_ge j m with h | h
      · exact .inl ⟨j, h, h2⟩
      · exact .inr (by rw [show m = j by omega]; exact h2)
theorem flips_none (L : List Int) (k pat m : Nat) (h : tn pat m = false) : flips L k pat m = L := by
  induction m with
  | zero => rfl
  | succ m ih =>
    unfold tn at h
    rw [Bool.or_eq_false_iff] at h
    unfold flips
    rw [if_neg (by rw [h.2]; decide), ih h.1]

theorem bitAt_take (L : List Int) (n p : Nat) (h : p < 8 * n) : bitAt (L.take n) p = bitAt L p := by
  unfold bitAt rd
  rw [Int.toNat_natCast]
  simp only [List.getD_eq_getElem?_getD]
  rw [List.getElem?_take_of_lt (by omega)]
theorem bitAt_drop (L : List Int) (n p : Nat) : bitAt (L.drop n) p = bitAt L (8 * n + p) := by
  unfold bitAt rd
  rw [Int.toNat_natCast, Int.toNat_natCast]
  simp only [List.getD_eq_getElem?_getD, List.getElem?_drop]
  rw [show (8 * n + p) / 8 = n + p / 8 by omega, show (8 * n + p) % 8 = p % 8 by omega]
theorem tb_bitAt (L : List Int) (p : Nat) (h : p < 8 * L.length) : (Crc.tb L)[p]? = some (bitAt L p) := Crc.tb_get L p h
theorem tb_ext {L M : List Int} (hl : L.length = M.length) (h : ∀ p, p < 8 * L.length → bitAt L p = bitAt M p) : Crc.tb L = Crc.tb M := by
  apply List.ext_getElem?
  intro p
  by_cases c : p < 8 * L.length
  · rw [tb_bitAt L p c, tb_bitAt M p (by omega), h p c]
  · rw [List.getElem?_eq_none (by rw [Crc.tb_length]; omega), List.getElem?_eq_none (by rw [Crc.tb_length]; omega)]

theorem four_inj {v u : BitVec 32} (h : four v = four u) : v = u := by
  unfold four at h
  simp only [List.cons.injEq, and_true] at h
  apply BitVec.eq_of_toNat_eq
  have h1 := v.isLt
  have h2 := u.isLt
  omega

/-- THE THEOREM OF BURSTS: some bits are turned, all within 32 in a row behind the sum, or some of the sum's own: what Open tells is an error. -/
theorem bursts (l : List Int) (hb : Bytes l) (k pat m : Nat) (hm : m ≤ 32) (hk : (k + m ≤ 32) ∨ (32 ≤ k ∧ k + m ≤ 8 * l.length + 32)) :
    (openE (flips (sealed l) k pat m) = 0 ↔ tn pat m = false) ∧ (openE (flips (sealed l) k pat m) = 0 ∨ openE (flips (sealed l) k pat m) = 5) := by
  have hL : (sealed l).length = l.length + 4 := sealed_length l
  have hB := sealed_bytes hb
  have hkm : k + m ≤ 8 * (sealed l).length := by omega
  have hE : openE (flips (sealed l) k pat m) = if four (sum ((flips (sealed l) k pat m).drop 4)) = (flips (sealed l) k pat m).take 4 then 0 else 5 := by
    unfold openE; rw [if_neg (by rw [flips_length]; omega)]
  refine ⟨?_, by rw [hE]; split <;> simp⟩
  constructor
  · intro h0
    cases ht : tn pat m
    · rfl
    · exfalso
      obtain ⟨j, hj, hbit⟩ := (tn_iff pat m).1 ht
      have heq : four (sum ((flips (sealed l) k pat m).drop 4)) = (flips (sealed l) k pat m).take 4 := by
        rw [hE] at h0
        by_cases c : four (sum ((flips (sealed l) k pat m).drop 4)) = (flips (sealed l) k pat m).take 4
        · exact c
        · rw [if_neg c] at h0; exact absurd h0 (by decide)
      have hlenD : ((flips (sealed l) k pat m).drop 4).length = l.length := by rw [List.length_drop, flips_length, hL]; omega
      rcases hk with hA | ⟨hB1, hB2⟩
      · have hd : Crc.tb ((flips (sealed l) k pat m).drop 4) = Crc.tb l := by
          apply tb_ext hlenD
          intro p hp
          rw [bitAt_drop, bitAt_flips _ _ _ _ hB hkm, decide_eq_false (by omega), Bool.xor_false, ← bitAt_drop, sealed_drop]
        have hs : sum ((flips (sealed l) k pat m).drop 4) = sum l := by unfold sum Crc.crc; rw [hd]
        rw [hs] at heq
        have hx := congrArg (fun L => bitAt L (k + j)) heq
        rw [bitAt_take _ 4 _ (by omega), bitAt_flips _ _ _ _ hB hkm, decide_eq_true ⟨by omega, by omega, by rw [Nat.add_sub_cancel_left]; exact hbit⟩, ← bitAt_take (sealed l) 4 _ (by omega), sealed_take] at hx
        revert hx
        cases bitAt (four (sum l)) (k + j) <;> decide
      · have hT : (flips (sealed l) k pat m).take 4 = four (sum l) := by
          rw [← sealed_take l]
          have key : ∀ i, i < 4 → rd (flips (sealed l) k pat m) ((i : Nat) : Int) = rd (sealed l) ((i : Nat) : Int) := by
            intro i hi
            clear heq hbit hj ht h0 hE hlenD
            have : ∀ m, k + m ≤ 8 * (sealed l).length → rd (flips (sealed l) k pat m) ((i : Nat) : Int) = rd (sealed l) ((i : Nat) : Int) := by
              intro m
              induction m with
              | zero => intro _; rfl
              | succ m ih =>
                intro h
                unfold flips
                split
                · unfold flipBit
                  rw [rd_set _ _ _ _ (by rw [flips_length]; omega), if_neg (by omega)]
                  exact ih (by omega)
                · exact ih (by omega)
            exact this m hkm
          apply List.ext_getElem?
          intro i
          by_cases hi : i < 4
          · rw [List.getElem?_take_of_lt hi, List.getElem?_take_of_lt hi]
            have := key i hi
            unfold rd at this
            rw [Int.toNat_natCast] at this
            simp only [List.getD_eq_getElem?_getD] at this
            rw [List.getElem?_eq_getElem (by rw [flips_length]; omega), List.getElem?_eq_getElem (by omega)] at this ⊢
            simpa using this
          · rw [List.getElem?_eq_none (by rw [List.length_take]; omega), List.getElem?_eq_none (by rw [List.length_take]; omega)]
        rw [hT] at heq
        have hs := four_inj heq
        obtain ⟨a, ha⟩ : ∃ a, k = 32 + a := ⟨k - 32, by omega⟩
        have hM : Crc.tb ((flips (sealed l) k pat m).drop 4) = List.zipWith (· ^^ ·) (Crc.tb l) (List.replicate a false ++ (List.range m).map (fun i => pat.testBit i) ++ List.replicate (8 * l.length - a - m) false) := by
          apply List.ext_getElem?
          intro p
          rw [List.getElem?_zipWith]
          by_cases c : p < 8 * l.length
          · rw [tb_bitAt _ p (by rw [hlenD]; exact c), tb_bitAt l p c, bitAt_drop, bitAt_flips _ _ _ _ hB hkm, ← bitAt_drop, sealed_drop]
            have hmask : (List.replicate a false ++ (List.range m).map (fun i => pat.testBit i) ++ List.replicate (8 * l.length - a - m) false)[p]? = some (decide (k ≤ 8 * 4 + p ∧ 8 * 4 + p < k + m ∧ pat.testBit (8 * 4 + p - k) = true)) := by
              by_cases c1 : p < a
              · rw [List.append_assoc, List.getElem?_append_left (by simpa using c1), List.getElem?_replicate, if_pos c1, decide_eq_false (by omega)]
              · by_cases c2 : p < a + m
                · rw [List.getElem?_append_left (by simp; exact c2), List.getElem?_append_right (by simp; omega), List.length_replicate, List.getElem?_map, List.getElem?_range (by omega)]
                  simp only [Option.map_some]
                  congr 1
                  rw [Bool.eq_iff_iff]
                  simp only [decide_eq_true_eq]
                  rw [show 8 * 4 + p - k = p - a by omega]
                  constructor
                  · intro h; exact ⟨by omega, by omega, h⟩
                  · intro h; exact h.2.2
                · rw [List.getElem?_append_right (by simp; omega), List.getElem?_replicate, if_pos (by simp; omega), decide_eq_false (by omega)]
            rw [hmask]
          · rw [List.getElem?_eq_none (by rw [Crc.tb_length, hlenD]; omega), List.getElem?_eq_none (l := Crc.tb l) (by rw [Crc.tb_length]; omega)]
        have hx : sum ((flips (sealed l) k pat m).drop 4) = sum l ^^^ Crc.run 0#32 (List.replicate a false ++ (List.range m).map (fun i => pat.testBit i) ++ List.replicate (8 * l.length - a - m) false) := by
          unfold sum Crc.crc
          rw [hM, ← Crc.run_xor _ _ (by rw [Crc.tb_length]; simp; omega), BitVec.xor_zero]
        rw [hx] at hs
        have hz : Crc.run 0#32 (List.replicate a false ++ (List.range m).map (fun i => pat.testBit i) ++ List.replicate (8 * l.length - a - m) false) = 0#32 := by
          have h2 := congrArg (fun v => sum l ^^^ v) hs
          simp only [← BitVec.xor_assoc, BitVec.xor_self, BitVec.zero_xor] at h2
          exact h2
        exact Crc.burst a (8 * l.length - a - m) _ (by simpa using hm) (List.mem_map.2 ⟨j, List.mem_range.2 hj, hbit⟩) hz
  · intro ht
    rw [flips_none _ _ _ _ ht]
    unfold openE
    rw [if_neg (by rw [sealed_length]; omega), sealed_drop, sealed_take, if_pos rfl]

end Go.Proofs.Ytacpmijbmllelaa.Tal
