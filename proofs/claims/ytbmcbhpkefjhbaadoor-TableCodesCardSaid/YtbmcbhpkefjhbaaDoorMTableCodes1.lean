/- Put together by wip/prune.py out of this claim's texts. -/
import Derived.Laws.Entries
import Derived.RowKit
namespace Go.Proofs.YtbmcbhpkefjhbaaDoor.Crc
def poly : BitVec 32 := 0x814141AB#32
def s (r : BitVec 32) : BitVec 32 := (r <<< 1) ^^^ (if r.msb then poly else 0#32)
def bitw (b : Bool) : BitVec 32 := if b then 0x80000000#32 else 0#32
def st (r : BitVec 32) (b : Bool) : BitVec 32 := s (r ^^^ bitw b)
def run (r : BitVec 32) (l : List Bool) : BitVec 32 := l.foldl st r
theorem s_xor (a b : BitVec 32) : s (a ^^^ b) = s a ^^^ s b := by
  unfold s
  rw [BitVec.msb_xor, BitVec.shiftLeft_xor_distrib]
  cases a.msb <;> cases b.msb <;> simp
  · rw [BitVec.xor_assoc]
  · rw [BitVec.xor_assoc, BitVec.xor_assoc]; congr 1; exact BitVec.xor_comm _ _
  · rw [BitVec.xor_assoc, ← BitVec.xor_assoc poly, BitVec.xor_comm poly, BitVec.xor_assoc, BitVec.xor_self]; simp
theorem run_append (r : BitVec 32) (l m : List Bool) : run r (l ++ m) = run (run r l) m := by simp [run]
theorem run_cons (r : BitVec 32) (a : Bool) (l : List Bool) : run r (a :: l) = run (st r a) l := rfl
theorem run_nil (r : BitVec 32) : run r [] = r := rfl
def sn : Nat → BitVec 32 → BitVec 32
  | 0, r => r
  | n+1, r => sn n (s r)
def pack : List Bool → BitVec 32
  | [] => 0#32
  | b :: l => bitw b ^^^ (pack l >>> 1)
theorem pack_low (l : List Bool) (k : Nat) (h : l.length + k ≤ 31) : (pack l).getLsbD k = false := by
  induction l generalizing k with
  | nil => simp [pack]
  | cons b l ih =>
    simp only [List.length_cons] at h
    rw [pack, BitVec.getLsbD_xor, BitVec.getLsbD_ushiftRight, show 1 + k = k + 1 by omega, ih (k + 1) (by omega)]
    cases b with
    | false => simp [bitw]
    | true =>
      simp only [bitw, if_true, Bool.bne_false]
      have : ∀ k : Nat, k < 31 → (0x80000000#32).getLsbD k = false := by decide
      exact this k (by omega)
theorem s_shift (x : BitVec 32) (h : x.getLsbD 0 = false) : s (x >>> 1) = x := by
  unfold s
  have hm : (x >>> 1).msb = false := by simp [BitVec.msb_ushiftRight]
  rw [hm]
  simp only [Bool.false_eq_true, if_false, BitVec.xor_zero]
  apply BitVec.eq_of_getLsbD_eq
  intro i hi
  rw [BitVec.getLsbD_shiftLeft, BitVec.getLsbD_ushiftRight]
  cases i with
  | zero => simp; exact h
  | succ i => simp [hi, show 1 + i = i + 1 by omega]
theorem run_pack (l : List Bool) (h : l.length ≤ 32) (r : BitVec 32) : run r l = sn l.length (r ^^^ pack l) := by
  induction l generalizing r with
  | nil => simp [run_nil, sn, pack]
  | cons b l ih =>
    simp only [List.length_cons] at h
    rw [run_cons, ih (by omega), List.length_cons, sn, pack, ← BitVec.xor_assoc, s_xor, s_shift _ (pack_low l 0 (by omega))]
    rfl
def b8 (x : Int) : List Bool := [x.toNat.testBit 7, x.toNat.testBit 6, x.toNat.testBit 5, x.toNat.testBit 4, x.toNat.testBit 3, x.toNat.testBit 2, x.toNat.testBit 1, x.toNat.testBit 0]
def tb (l : List Int) : List Bool := l.flatMap b8
def crc (r : BitVec 32) (l : List Int) : BitVec 32 := run r (tb l)
theorem tb_cons (x : Int) (l : List Int) : tb (x :: l) = b8 x ++ tb l := rfl
theorem crc_cons (r : BitVec 32) (x : Int) (l : List Int) : crc r (x :: l) = crc (run r (b8 x)) l := by
  unfold crc; rw [tb_cons, run_append]
theorem pack_b8 : ∀ n, n < 256 → pack (b8 (n : Nat)) = BitVec.ofNat 32 (n * 16777216) := by decide +kernel
theorem run_b8 (r : BitVec 32) (x : Int) (h0 : 0 ≤ x) (h1 : x ≤ 255) : run r (b8 x) = sn 8 (r ^^^ BitVec.ofNat 32 (x.toNat * 16777216)) := by
  rw [run_pack _ (by simp [b8])]
  obtain ⟨n, rfl⟩ := Int.eq_ofNat_of_zero_le h0
  rw [pack_b8 n (by omega)]
  rfl
theorem xor32 (a b : BitVec 32) : Go.bits .xor .u32 (a.toNat : Int) (b.toNat : Int) = ((a ^^^ b).toNat : Int) := by
  have h := (a ^^^ b).isLt
  have e : ∀ n : Nat, n < 4294967296 → IntKind.u32.wrap (n : Int) = n := fun n hn => by
    simp only [IntKind.wrap, IntKind.bits, IntKind.signed]; simp; omega
  have e1 : BitVec.ofInt IntKind.u32.bits (a.toNat : Int) = a := by rw [BitVec.ofInt_natCast]; exact BitVec.ofNat_toNat 32 a
  have e2 : BitVec.ofInt IntKind.u32.bits (b.toNat : Int) = b := by rw [BitVec.ofInt_natCast]; exact BitVec.ofNat_toNat 32 b
  unfold Go.bits
  rw [e1, e2]
  exact e _ h
theorem dbl (r : BitVec 32) : (r.toNat : Int) * (2 : Int) % (4294967296 : Int) = ((r <<< 1).toNat : Int) := by
  rw [BitVec.toNat_shiftLeft, Nat.shiftLeft_eq]; omega
theorem step_hi (r : BitVec 32) (h : (r.toNat : Int) / (2147483648 : Int) = 1) : Go.bits .xor .u32 ((r.toNat : Int) * (2 : Int) % (4294967296 : Int)) 2168537515 = ((s r).toNat : Int) := by
  have hm : r.msb = true := by rw [BitVec.msb_eq_decide]; simp; omega
  have e2 : (2168537515 : Int) = (poly.toNat : Int) := rfl
  rw [dbl, e2, xor32]
  unfold s
  rw [hm]
  simp
theorem step_lo (r : BitVec 32) (h : ¬ (r.toNat : Int) / (2147483648 : Int) = 1) : (r.toNat : Int) * (2 : Int) % (4294967296 : Int) = ((s r).toNat : Int) := by
  have hr := r.isLt
  have hm : r.msb = false := by rw [BitVec.msb_eq_decide]; simp; omega
  rw [dbl]
  unfold s
  rw [hm]
  simp
theorem b8_length (x : Int) : (b8 x).length = 8 := rfl
theorem tb_length (l : List Int) : (tb l).length = 8 * l.length := by
  induction l with
  | nil => rfl
  | cons x l ih => rw [tb_cons, List.length_append, ih, b8_length, List.length_cons]; omega
theorem b8_get (x : Int) (i : Nat) (h : i < 8) : (b8 x)[i]? = some (x.toNat.testBit (7 - i)) := by
  rcases (by omega : i = 0 ∨ i = 1 ∨ i = 2 ∨ i = 3 ∨ i = 4 ∨ i = 5 ∨ i = 6 ∨ i = 7) with rfl | rfl | rfl | rfl | rfl | rfl | rfl | rfl <;> rfl
theorem tb_get (l : List Int) : ∀ i, i < 8 * l.length → (tb l)[i]? = some ((l.getD (i / 8) 0).toNat.testBit (7 - i % 8)) := by
  induction l with
  | nil => intro i h; simp at h
  | cons x l ih =>
    intro i h
    rw [tb_cons]
    by_cases c : i < 8
    · rw [List.getElem?_append_left (by rw [b8_length]; exact c), b8_get x i c, Nat.div_eq_of_lt c, Nat.mod_eq_of_lt c]
      rfl
    · rw [List.getElem?_append_right (by rw [b8_length]; omega), b8_length, ih (i - 8) (by simp only [List.length_cons] at h; omega)]
      obtain ⟨k, hk⟩ : ∃ k, i / 8 = k + 1 := ⟨i / 8 - 1, by omega⟩
      rw [hk, show (i - 8) / 8 = k by omega, show (i - 8) % 8 = i % 8 by omega]
      rfl
theorem tb_take (l : List Int) (i : Nat) (h : i < 8 * l.length) : (tb l).take (i + 1) = (tb l).take i ++ [(l.getD (i / 8) 0).toNat.testBit (7 - i % 8)] := by
  have hg := tb_get l i h
  obtain ⟨hl, he⟩ := List.getElem?_eq_some_iff.1 hg
  rw [List.take_succ_eq_append_getElem hl, he]
theorem run_snoc (r : BitVec 32) (l : List Bool) (b : Bool) : run r (l ++ [b]) = st (run r l) b := by rw [run_append]; rfl
theorem xor_u64 (a b : Nat) (ha : a < 18446744073709551616) (hb : b < 18446744073709551616) : Go.bits .xor .u64 (a : Int) (b : Int) = ((a ^^^ b : Nat) : Int) := by
  have w64 : ∀ n : Nat, n < 18446744073709551616 → IntKind.u64.wrap (n : Int) = n := fun n hn => by
    simp only [IntKind.wrap, IntKind.bits, IntKind.signed]; simp; omega
  have e1 : ∀ n : Nat, BitVec.ofInt IntKind.u64.bits (n : Int) = BitVec.ofNat 64 n := fun n => by rw [BitVec.ofInt_natCast]; rfl
  have ex : (BitVec.ofNat 64 a ^^^ BitVec.ofNat 64 b).toNat = a ^^^ b := by
    rw [BitVec.toNat_xor, BitVec.toNat_ofNat, BitVec.toNat_ofNat, Nat.mod_eq_of_lt (by omega), Nat.mod_eq_of_lt (by omega)]
  have hx : a ^^^ b < 2 ^ 64 := Nat.xor_lt_two_pow (by omega) (by omega)
  unfold Go.bits
  rw [e1, e1]
  refine Eq.trans (congrArg (fun z : Nat => IntKind.u64.wrap (z : Int)) ex) ?_
  exact w64 _ (by omega)
theorem st_eq (q : BitVec 32) (b : Bool) : st q b = (q <<< 1) ^^^ (if (q.msb ^^ b) then poly else 0#32) := by
  unfold st s
  rw [BitVec.msb_xor, BitVec.shiftLeft_xor_distrib]
  have h0 : (bitw b <<< 1) = 0#32 := by cases b <;> decide
  have h1 : (bitw b).msb = b := by cases b <;> decide
  rw [h0, h1, BitVec.xor_zero]
theorem msb_div (q : BitVec 32) : (q.toNat : Int) / 2147483648 = if q.msb then 1 else 0 := by
  have h := q.isLt
  have hm : q.msb = decide (2 ^ 31 ≤ q.toNat) := BitVec.msb_eq_decide q
  rw [hm]
  by_cases c : 2 ^ 31 ≤ q.toNat
  · rw [decide_eq_true c]; simp only [if_true]; omega
  · rw [decide_eq_false c]; simp only [Bool.false_eq_true, if_false]; omega
theorem ref_same (q : BitVec 32) (b : Bool) (h : ((q.toNat : Int) / 2147483648 != (if b then 1 else 0)) = false) : (q.toNat : Int) * 2 % 4294967296 = ((st q b).toNat : Int) := by
  rw [msb_div] at h
  have e : q.msb = b := by revert h; cases q.msb <;> cases b <;> decide
  rw [st_eq, e, Bool.xor_self]
  simp only [Bool.false_eq_true, if_false, BitVec.xor_zero]
  exact dbl q
theorem ref_other (q : BitVec 32) (b : Bool) (h : ((q.toNat : Int) / 2147483648 != (if b then 1 else 0)) = true) : Go.bits .xor .u64 ((q.toNat : Int) * 2 % 4294967296) 2168537515 = ((st q b).toNat : Int) := by
  rw [msb_div] at h
  have e : (q.msb ^^ b) = true := by revert h; cases q.msb <;> cases b <;> decide
  rw [st_eq, e]
  simp only [if_true]
  have d := dbl q
  have e3 : (2168537515 : Int) = ((2168537515 : Nat) : Int) := rfl
  rw [d, e3, xor_u64 _ _ (by have := (q <<< 1).isLt; omega) (by omega), BitVec.toNat_xor]
  rfl
theorem bit_of (x : Int) (k : Nat) (h0 : 0 ≤ x) : (x / 2 ^ k).tmod 2 = if x.toNat.testBit k then 1 else 0 := by
  obtain ⟨n, rfl⟩ := Int.eq_ofNat_of_zero_le h0
  rw [Int.toNat_natCast, Nat.testBit_eq_decide_div_mod_eq]
  have e : (n : Int) / 2 ^ k = ((n / 2 ^ k : Nat) : Int) := by
    rw [Int.natCast_ediv]; simp
  rw [e]
  generalize n / 2 ^ k = m
  have e2 : ((m : Int)).tmod 2 = ((m % 2 : Nat) : Int) := by rw [Int.tmod_eq_emod_of_nonneg (by omega)]; omega
  rw [e2]
  rcases Nat.mod_two_eq_zero_or_one m with h | h <;> rw [h] <;> rfl
end Go.Proofs.YtbmcbhpkefjhbaaDoor.Crc
