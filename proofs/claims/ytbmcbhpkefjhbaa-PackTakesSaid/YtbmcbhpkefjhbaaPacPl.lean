/- Layer 3: what is put is taken (no program in sight), and light. -/
import Derived.Test.YtbmcbhpkefjhbaaPacTake
set_option linter.unusedVariables false
set_option linter.unusedSimpArgs false
namespace Go.Proofs.Ytbmcbhpkefjhbaa.Pac
open Go.RowKit Go.Proofs.Ytbmcbhpkefjhbaa Go.Proofs.Ytbmcbhpkefjhbaa.Mem Go.Proofs.YtbmcbhpkefjhbaaW.PrintWords Go.Proofs.YtbmcbhpkefjhbaaW.PrintLast Go.Proofs.YtbmcbhpkefjhbaaW.PrintMore
theorem bigs_bytes (u : Int) : ∀ n, Bytes (bigs u n) := by
  intro n
  induction n with
  | zero => intro x hx; cases hx
  | succ n ih =>
    intro x hx
    rcases List.mem_cons.1 hx with rfl | h
    · omega
    · exact ih x h
theorem bytesOf_bytes (s : ByteArray) : Bytes (bytesOf s) := by
  intro x hx
  unfold bytesOf at hx
  obtain ⟨y, _, rfl⟩ := List.mem_map.1 hx
  have := y.toNat_lt
  omega
theorem str_bytesOf (s : ByteArray) : strOfNums (bytesOf s) = s := by
  obtain ⟨d⟩ := s
  obtain ⟨d⟩ := d
  unfold strOfNums bytesOf
  have e : ((fun n : Int => UInt8.ofNat n.toNat) ∘ fun b : UInt8 => ((b.toNat : Nat) : Int)) = id := by
    funext b
    simp
  simp [e]
theorem foldl_bigs (u : Int) : ∀ (n : Nat) (acc : Int), (bigs u n).foldl (fun u c => u * 256 + c) acc = acc * 256 ^ n + u % 256 ^ n := by
  intro n
  induction n with
  | zero => intro acc; simp [bigs, Int.emod_one]
  | succ n ih =>
    intro acc
    show (bigs u n).foldl _ (acc * 256 + u / 2 ^ (8 * n) % 256) = _
    rw [ih]
    have e : (2 : Int) ^ (8 * n) = 256 ^ n := by rw [Int.pow_mul]; rfl
    rw [e, Int.pow_succ]
    generalize hm : (256 : Int) ^ n = m
    have hm0 : 0 < m := by rw [← hm]; exact Int.pow_pos (by decide)
    have h1 : u % (m * 256) = m * (u / m % 256) + u % m := by
      have a1 := Int.emod_add_mul_ediv u m
      have a2 := Int.emod_add_mul_ediv (u / m) 256
      have a3 := Int.emod_nonneg u (show m ≠ 0 by omega)
      have a4 := Int.emod_lt_of_pos u hm0
      have a5 := Int.emod_nonneg (u / m) (show (256 : Int) ≠ 0 by decide)
      have a6 := Int.emod_lt_of_pos (u / m) (show (0 : Int) < 256 by decide)
      have a7 : m * (u / m % 256) ≤ m * 255 := Int.mul_le_mul_of_nonneg_left (by omega) (by omega)
      have a8 : 0 ≤ m * (u / m % 256) := Int.mul_nonneg (by omega) a5
      have a9 : u = m * (u / m % 256) + u % m + m * 256 * (u / m / 256) := by
        have : m * (u / m) = m * (u / m % 256) + m * 256 * (u / m / 256) := by
          rw [Int.mul_assoc, ← Int.mul_add, a2]
        omega
      have b1 : u % (m * 256) = (m * (u / m % 256) + u % m + m * 256 * (u / m / 256)) % (m * 256) := congrArg (· % (m * 256)) a9
      rw [b1, Int.add_mul_emod_self_left, Int.emod_eq_of_lt (by omega) (by omega)]
    rw [h1, Int.add_mul, Int.mul_assoc, Int.mul_comm 256 m, Int.mul_comm (u / m % 256) m]
    omega
theorem num_bigs (u : Int) (n : Nat) (h0 : 0 ≤ u) (h1 : u < 256 ^ n) : num (bigs u n) = u := by
  unfold num
  rw [foldl_bigs, Int.emod_eq_of_lt h0 h1]
  omega
def norm (a : It) : It := ⟨a.k, a.n, Flt.val a.x, a.s⟩
theorem val0 : Flt.val 0 = 0 := by kernel_rfl
theorem sz0 {s : ByteArray} (h : s.toList.isEmpty = true) : s = ⟨#[]⟩ := by
  have h1 : s.toList = [] := by simpa using h
  have h2 := str_bytesOf s
  have h3 : bytesOf s = [] := by
    unfold bytesOf
    have : s.data.toList = s.toList := by rw [Go.Lib.toList_data]
    rw [this, h1]; rfl
  rw [h3] at h2
  rw [← h2]; rfl
theorem take_app {α : Type} (x y : List α) (n : Nat) (h : x.length = n) : (x ++ y).take n = x := by rw [← h, List.take_left]
theorem item1_one {a : It} (hm : may a = true) (hx : a.x < 18446744073709551616) (pre suf : List Int) : item1 (pre ++ one a ++ suf) pre.length a.k = some (norm a, pre.length + (one a).length) := by
  have hd : (pre ++ one a ++ suf).drop pre.length = one a ++ suf := by rw [List.append_assoc, List.drop_left]
  have hl : (pre ++ one a ++ suf).length = pre.length + (one a).length + suf.length := by rw [List.length_append, List.length_append]
  have hk := may_kind hm
  obtain ⟨k, n, x, s⟩ := a
  simp only at hk hx
  have hcs : k = 1 ∨ k = 2 ∨ k = 3 ∨ k = 4 ∨ k = 5 := by omega
  have ints : ∀ (m : Nat), (k = 1 ∨ k = 2 ∨ k = 3) → wid k = (m : Int) → one ⟨k, n, x, s⟩ = bigs n m → 0 ≤ n → n < 256 ^ m → x = 0 → s.toList.isEmpty = true → item1 (pre ++ one ⟨k, n, x, s⟩ ++ suf) pre.length k = some (norm ⟨k, n, x, s⟩, pre.length + (one ⟨k, n, x, s⟩).length) := by
    intro m hk3 hw ho h0 h1 hx0 hs
    have hs' := sz0 hs
    subst hs'
    subst hx0
    have hon : (one ⟨k, n, 0, ⟨#[]⟩⟩).length = m := by rw [ho, bigs_length]
    unfold item1
    rw [if_neg (by omega), if_neg (by omega), hw, Int.toNat_natCast, hd, take_app _ _ _ hon, ho, num_bigs n m h0 h1, if_pos ⟨by rw [← ho, hl]; omega, hm⟩, bigs_length]
    unfold norm
    rw [val0]
  rcases hcs with rfl | rfl | rfl | rfl | rfl
  · rw [may_1] at hm
    simp only [Bool.and_eq_true, decide_eq_true_eq, beq_iff_eq] at hm
    exact ints 1 (by omega) rfl rfl (by omega) (by rw [show (256 : Int) ^ 1 = 256 by decide]; omega) (by omega) hm.2
  · rw [may_2] at hm
    simp only [Bool.and_eq_true, decide_eq_true_eq, beq_iff_eq] at hm
    exact ints 2 (by omega) rfl rfl (by omega) (by rw [show (256 : Int) ^ 2 = 65536 by decide]; omega) (by omega) hm.2
  · rw [may_3] at hm
    simp only [Bool.and_eq_true, decide_eq_true_eq, beq_iff_eq] at hm
    exact ints 4 (by omega) rfl rfl (by omega) (by rw [show (256 : Int) ^ 4 = 4294967296 by decide]; omega) (by omega) hm.2
  · rw [may_4] at hm
    simp only [Bool.and_eq_true, beq_iff_eq] at hm
    obtain ⟨rfl, hs⟩ := hm
    have hs' := sz0 hs
    subst hs'
    have ho : one ⟨4, 0, x, ⟨#[]⟩⟩ = bigs (Flt.val x : Int) 8 := rfl
    have hon : (one ⟨4, 0, x, ⟨#[]⟩⟩).length = 8 := by rw [ho, bigs_length]
    have hv := val_bd hx
    unfold item1
    rw [if_pos rfl, hd, take_app _ _ _ hon, ho, num_bigs _ 8 (Int.natCast_nonneg _) (by rw [show (256 : Int) ^ 8 = 18446744073709551616 by decide]; omega), Int.toNat_natCast, if_pos ⟨by rw [← ho, hl]; omega, Flt.val_val x⟩, bigs_length]
    rfl
  · rw [may_5] at hm
    simp only [Bool.and_eq_true, decide_eq_true_eq, beq_iff_eq] at hm
    obtain ⟨⟨rfl, hx0⟩, hs⟩ := hm
    obtain rfl : x = 0 := by omega
    have ho : one ⟨5, 0, 0, s⟩ = (s.size : Int) :: bytesOf s := rfl
    have hon : (one ⟨5, 0, 0, s⟩).length = 1 + s.size := by rw [ho, List.length_cons, bytesOf_length]; omega
    have h1 : ((pre ++ one ⟨5, 0, 0, s⟩ ++ suf).drop pre.length).take 1 = [(s.size : Int)] := by rw [hd, ho]; rfl
    have h2 : (pre ++ one ⟨5, 0, 0, s⟩ ++ suf).drop (pre.length + 1) = bytesOf s ++ suf := by rw [← List.drop_drop, hd, ho]; rfl
    have h3 : num [(s.size : Int)] = (s.size : Int) := by simp [num]
    unfold item1
    rw [if_neg (show ¬ ((5 : Int) = 4) by decide), if_pos rfl, h1, h3, Int.toNat_natCast, h2, take_app _ _ _ (bytesOf_length s), str_bytesOf, if_pos ⟨by rw [hl]; omega, by rw [hl]; omega⟩, hon]
    unfold norm
    rw [val0, Nat.add_assoc]
theorem takes_ones : ∀ (l : List It), (∀ a ∈ l, may a = true) → (∀ a ∈ l, a.x < 18446744073709551616) → ∀ (pre suf : List Int), takes (pre ++ ones l ++ suf) pre.length (l.map (·.k)) = some (l.map norm, pre.length + (ones l).length) := by
  intro l
  induction l with
  | nil => intro _ _ pre suf; simp [takes, ones]
  | cons a l ih =>
    intro hm hx pre suf
    have h1 := item1_one (hm a List.mem_cons_self) (hx a List.mem_cons_self) pre (ones l ++ suf)
    have h2 := ih (fun b hb => hm b (List.mem_cons_of_mem _ hb)) (fun b hb => hx b (List.mem_cons_of_mem _ hb)) (pre ++ one a) suf
    have e : pre ++ ones (a :: l) ++ suf = pre ++ one a ++ (ones l ++ suf) := by unfold ones; rw [List.flatMap_cons]; simp [List.append_assoc]
    rw [List.length_append, show pre ++ one a ++ ones l ++ suf = pre ++ one a ++ (ones l ++ suf) by simp [List.append_assoc]] at h2
    rw [e, List.map_cons]
    simp only [takes, h1, h2]
    rw [List.map_cons]
    congr 2
    unfold ones
    rw [List.flatMap_cons, List.length_append]
    omega
theorem one_bytes {a : It} (h : may a = true) : Bytes (one a) := by
  have hk := may_kind h
  obtain ⟨k, n, x, s⟩ := a
  simp only at hk
  have : k = 1 ∨ k = 2 ∨ k = 3 ∨ k = 4 ∨ k = 5 := by omega
  rcases this with rfl | rfl | rfl | rfl | rfl
  · exact bigs_bytes n 1
  · exact bigs_bytes n 2
  · exact bigs_bytes n 4
  · exact bigs_bytes _ 8
  · rw [may_5] at h
    simp only [Bool.and_eq_true, decide_eq_true_eq] at h
    exact Bytes.cons (Int.natCast_nonneg _) (by simp only; omega) (bytesOf_bytes s)
theorem ones_bytes {l : List It} (h : ∀ a ∈ l, may a = true) : Bytes (ones l) := by
  intro x hx
  obtain ⟨a, ha, hxa⟩ := List.mem_flatMap.1 hx
  exact one_bytes (h a ha) x hxa
theorem kinds_ok {l : List It} (h : ∀ a ∈ l, may a = true) : kindsOk (l.map (·.k)) = true := by
  unfold kindsOk
  rw [List.all_eq_true]
  intro x hx
  obtain ⟨a, ha, rfl⟩ := List.mem_map.1 hx
  have := may_kind (h a ha)
  simp
  omega
theorem takeR_ones {l : List It} (hm : ∀ a ∈ l, may a = true) (hx : ∀ a ∈ l, a.x < 18446744073709551616) (suf : List Int) : takeR (ones l ++ suf) (l.map (·.k)) = (l.map norm, ((ones l).length : Int), 0) := by
  have h := takes_ones l hm hx [] suf
  rw [List.nil_append, List.length_nil, Nat.zero_add] at h
  unfold takeR
  rw [if_pos (kinds_ok hm), h]
theorem alike_self (l : List It) : alike l l = true := alike_iff.2 ⟨rfl, fun j a b ha hb => by
  have := ha.symm.trans hb
  injection this with this
  rw [this]
  exact same_self b⟩
set_option maxRecDepth 100000 in
theorem light_any (A : Option Addr) (c : Nat) (l : List It) (w : World) (hr : RdT w A l) : Calls Try.prog 26 #[.slice A l.length c] w fun e w' => ∃ q : Bool, e = .returned (.bool q) ∧ (q = true → l.length ≤ 60) ∧ w = w' := by
  have HR := Lib.hid hr
  clear hr
  have l0 : (0 : Int) ≤ (l.length : Int) := Int.natCast_nonneg _
  go_enter Try.func26, Try.ntmps26
  go_wp2
  go_loopg [3] l.length (fun kk v3 wq => ∃ i : Nat, i ≤ l.length ∧ i ≤ 60 ∧ kk = l.length - i ∧ v3 = .int .i64 (i : Int) ∧ w = wq)
  case atStart => exact ⟨0, Nat.zero_le _, by omega, rfl, rfl, rfl⟩
  case round =>
    obtain ⟨i, hi, hi6, rfl, rfl, rfl⟩ := hrel
    have i0 : (0 : Int) ≤ (i : Int) := Int.natCast_nonneg _
    by_cases hlt : i < l.length ∧ i < 60
    · have hd : decide (i < l.length) = true := decide_eq_true hlt.1
      have hd2 : decide ((i : Int) < 60) = true := decide_eq_true (by omega)
      have i1 : (i : Int) < (l.length : Int) := by omega
      have i6 : (i : Int) < 60 := by omega
      have hlt1 := hlt.1
      have hlt2 := hlt.2
      obtain ⟨a, ha⟩ : ∃ a, l[i]? = some a := ⟨_, List.getElem?_eq_getElem hlt.1⟩
      obtain ⟨ad, rfl, ⟨x0, x1, x2, x3⟩, _⟩ := HR.out i a ha
      clear ha hlt
      have hcs : decide ((600 : Int) < (a.s.size : Int)) = true ∨ decide ((600 : Int) < (a.s.size : Int)) = false := by cases decide ((600 : Int) < (a.s.size : Int)) <;> simp
      rcases hcs with h6 | h6
      · go_wp2
        go_ret
        exact ⟨false, rfl, fun h => (by cases h), rfl⟩
      · go_wp2
        go_roundg (l.length - (i + 1))
        case measure => omega
        case rel => exact ⟨i + 1, by omega, by omega, rfl, by go_num, rfl⟩
    · have hcs : decide (i < l.length) = false ∨ (decide (i < l.length) = true ∧ decide ((i : Int) < 60) = false) := by
        by_cases h : i < l.length
        · exact .inr ⟨decide_eq_true h, decide_eq_false (by omega)⟩
        · exact .inl (decide_eq_false h)
      clear hlt
      have hq : ∃ q : Bool, decide (l.length ≤ 60) = q := ⟨_, rfl⟩
      rcases hcs with h1 | ⟨h1, h2⟩
      all_goals go_wp2
      all_goals go_ret
      all_goals refine ⟨_, rfl, fun h => ?_, rfl⟩
      all_goals have := of_decide_eq_true h
      all_goals omega
end Go.Proofs.Ytbmcbhpkefjhbaa.Pac
