/- Layer 3: the reference's Take of any bytes. -/
import Derived.Test.YtbmcbhpkefjhbaaPacJoin
set_option linter.unusedVariables false
set_option linter.unusedSimpArgs false
namespace Go.Proofs.Ytbmcbhpkefjhbaa.Pac
open Go.RowKit Go.Proofs.Ytbmcbhpkefjhbaa Go.Proofs.Ytbmcbhpkefjhbaa.Mem Go.Proofs.YtbmcbhpkefjhbaaW.PrintWords Go.Proofs.YtbmcbhpkefjhbaaW.PrintLast Go.Proofs.YtbmcbhpkefjhbaaW.PrintMore
theorem foldl_acc : ∀ (t : List Int) (acc : Int), t.foldl (fun u c => u * 256 + c) acc = acc * 256 ^ t.length + num t := by
  intro t
  induction t with
  | nil => intro acc; simp [num]
  | cons x t ih =>
    intro acc
    show t.foldl _ (acc * 256 + x) = _
    have h2 : num (x :: t) = x * 256 ^ t.length + num t := by
      show t.foldl _ (0 * 256 + x) = _
      rw [ih]; simp
    rw [ih, h2, List.length_cons, Int.pow_succ, Int.add_mul, Int.mul_assoc, Int.mul_comm 256 (256 ^ t.length)]
    omega
theorem bigs_add (z y : Int) (n : Nat) : ∀ j, j ≤ n → bigs (z * 256 ^ n + y) j = bigs y j := by
  intro j
  induction j with
  | zero => intro _; rfl
  | succ j ih =>
    intro hj
    show ((z * 256 ^ n + y) / 2 ^ (8 * j) % 256) :: bigs _ j = (y / 2 ^ (8 * j) % 256) :: bigs y j
    rw [ih (by omega)]
    congr 1
    have e : (2 : Int) ^ (8 * j) = 256 ^ j := by rw [Int.pow_mul]; rfl
    obtain ⟨q, rfl⟩ : ∃ q, n = j + 1 + q := ⟨n - (j + 1), by omega⟩
    rw [e, show z * 256 ^ (j + 1 + q) = 256 ^ j * (256 * (z * 256 ^ q)) by
      rw [Int.pow_add, Int.pow_succ]
      simp only [Int.mul_assoc, Int.mul_left_comm, Int.mul_comm]]
    have hp : (256 : Int) ^ j ≠ 0 := Int.ne_of_gt (Int.pow_pos (by decide))
    rw [Int.add_comm, Int.add_mul_ediv_left _ _ hp, Int.add_mul_emod_self_left]
theorem bigs_num : ∀ (l : List Int), Bytes l → bigs (num l) l.length = l := by
  intro l
  induction l with
  | nil => intro _; rfl
  | cons x t ih =>
    intro hb
    have hx := hb x List.mem_cons_self
    have ht : Bytes t := fun y hy => hb y (List.mem_cons_of_mem _ hy)
    have hn := num_bd ht
    have e1 : num (x :: t) = x * 256 ^ t.length + num t := by
      show t.foldl _ (0 * 256 + x) = _
      rw [foldl_acc]; simp
    rw [e1]
    show ((x * 256 ^ t.length + num t) / 2 ^ (8 * t.length) % 256) :: bigs _ t.length = _
    rw [bigs_add _ _ _ _ (Nat.le_refl _), ih ht]
    congr 1
    have e : (2 : Int) ^ (8 * t.length) = 256 ^ t.length := by rw [Int.pow_mul]; rfl
    have hp : (256 : Int) ^ t.length ≠ 0 := Int.ne_of_gt (Int.pow_pos (by decide))
    rw [e, Int.add_comm, Int.add_mul_ediv_right _ _ hp, Int.ediv_eq_zero_of_lt hn.1 hn.2]
    omega
theorem bytesOf_str {l : List Int} (h : Bytes l) : bytesOf (strOfNums l) = l := by
  unfold bytesOf strOfNums
  simp only [List.map_map]
  conv => rhs; rw [← List.map_id l]
  refine List.map_congr_left (fun x hx => ?_)
  have := h x hx
  simp only [Function.comp, id, UInt8.toNat_ofNat']
  omega
theorem test_eq {a : It} (hm : may a = true) {t : List Int} (ht : Bytes t) : ((strOfNums (one a)).toList == (strOfNums t).toList) = decide (one a = t) := str_eq (one_bytes hm) ht
theorem rt4 {b : List Int} {p : Nat} (hb : Bytes b) (h : p + 8 ≤ b.length) : decide (one ⟨4, 0, (num ((b.drop p).take 8)).toNat, ⟨#[]⟩⟩ = (b.drop p).take 8) = decide (Flt.val (num ((b.drop p).take 8)).toNat = (num ((b.drop p).take 8)).toNat) := by
  have hbs : Bytes ((b.drop p).take 8) := (hb.drop p).take 8
  have hl : ((b.drop p).take 8).length = 8 := by rw [List.length_take, List.length_drop]; omega
  have hn := num_bd hbs
  rw [hl, show (256 : Int) ^ 8 = 18446744073709551616 by decide] at hn
  have hbn := bigs_num _ hbs
  rw [hl] at hbn
  generalize (b.drop p).take 8 = t at *
  have ho : one ⟨4, 0, (num t).toNat, ⟨#[]⟩⟩ = bigs (Flt.val (num t).toNat : Int) 8 := rfl
  rw [ho]
  rw [decide_eq_decide]
  constructor
  · intro h
    have h2 := congrArg num h
    have hv := val_bd (x := (num t).toNat) (by omega)
    rw [num_bigs _ 8 (Int.natCast_nonneg _) (by rw [show (256 : Int) ^ 8 = 18446744073709551616 by decide]; omega)] at h2
    omega
  · intro h
    rw [h, Int.toNat_of_nonneg hn.1]
    exact hbn
theorem rt5 {b : List Int} {p m : Nat} (hb : Bytes b) (h : p + 1 + m ≤ b.length) (hm : num ((b.drop p).take 1) = (m : Int)) : one ⟨5, 0, 0, strOfNums ((b.drop (p + 1)).take m)⟩ = (b.drop p).take (1 + m) := by
  have ho : one ⟨5, 0, 0, strOfNums ((b.drop (p + 1)).take m)⟩ = ((strOfNums ((b.drop (p + 1)).take m)).size : Int) :: bytesOf (strOfNums ((b.drop (p + 1)).take m)) := rfl
  have hl : ((b.drop (p + 1)).take m).length = m := by rw [List.length_take, List.length_drop]; omega
  rw [ho, bytesOf_str ((hb.drop (p + 1)).take m), size_strOf, hl]
  obtain ⟨x, hx⟩ : ∃ x, b[p]? = some x := ⟨_, List.getElem?_eq_getElem (by omega)⟩
  have hd : b.drop p = x :: b.drop (p + 1) := drop_cons hx
  rw [hd] at hm ⊢
  have : num [x] = x := by simp [num]
  rw [show (x :: b.drop (p + 1)).take 1 = [x] from rfl, this] at hm
  rw [Nat.add_comm 1 m, List.take_succ_cons, hm]
theorem rt3 {b : List Int} {p m : Nat} {k : Int} (hb : Bytes b) (h : p + m ≤ b.length) (hk : k = 1 ∨ k = 2 ∨ k = 3) (hw : wid k = (m : Int)) : one ⟨k, num ((b.drop p).take m), 0, ⟨#[]⟩⟩ = (b.drop p).take m := by
  have hl : ((b.drop p).take m).length = m := by rw [List.length_take, List.length_drop]; omega
  have hbn := bigs_num _ ((hb.drop p).take m)
  rw [hl] at hbn
  unfold one
  rw [if_pos hk]
  simp only
  rw [hw, Int.toNat_natCast]
  exact hbn
end Go.Proofs.Ytbmcbhpkefjhbaa.Pac
