/- Layer 26, plainly: the order by numbers of those ahead, and the order by definition, are one. -/
import Derived.Test.YtbmcbhpkefjhbaaMem
set_option linter.unusedVariables false
set_option linter.unusedSimpArgs false
namespace Go.Proofs.Ytbmcbhpkefjhbaa.Dsg
/-- a row's element; 0 past its end -/
abbrev gt (l : List Int) (i : Nat) : Int := l.getD i 0
abbrev gb (l : List Bool) (i : Nat) : Bool := l.getD i false
/-- may a pair be among n? -/
def okp (n : Nat) (p : Int × Int) : Bool := !(decide (p.1 < 0) || decide ((n : Int) ≤ p.1) || decide (p.2 < 0) || decide ((n : Int) ≤ p.2) || (p.1 == p.2))
theorem okp_iff {n : Nat} {p : Int × Int} : okp n p = true ↔ 0 ≤ p.1 ∧ p.1 < n ∧ 0 ≤ p.2 ∧ p.2 < n ∧ p.1 ≠ p.2 := by
  simp [okp, Bool.or_eq_true, not_or]
  omega
/-- may i be the next one? -/
def free (done : List Bool) (l : List (Int × Int)) (i : Nat) : Bool := !(gb done i) && l.all (fun p => !(p.2 == (i : Int) && !(gb done p.1.toNat)))
/-- the least that may be the next one -/
def pick (n : Nat) (done : List Bool) (l : List (Int × Int)) : Option Nat := (List.range n).find? (free done l)
def go (n : Nat) (l : List (Int × Int)) : Nat → List Bool → List Int → Option (List Int)
  | 0, _, out => some out
  | k + 1, done, out => match pick n done l with
    | none => none
    | some i => go n l k (done.set i true) (out ++ [(i : Int)])
/-- how many pairs lead to j from those that are not done -/
def cnt (done : List Bool) (l : List (Int × Int)) (j : Nat) : Nat := l.countP (fun p => p.2 == (j : Int) && !(gb done p.1.toNat))
/-- one pair's turn, when i is done -/
def dec1 (i : Nat) (b : List Int) (p : Int × Int) : List Int := if p.1 = (i : Int) then b.set p.2.toNat (gt b p.2.toNat - 1) else b
def decs (i : Nat) (l : List (Int × Int)) (b : List Int) : List Int := l.foldl (dec1 i) b
theorem dec1_length (i : Nat) (b : List Int) (p : Int × Int) : (dec1 i b p).length = b.length := by unfold dec1; split <;> simp
theorem decs_length (i : Nat) (l : List (Int × Int)) (b : List Int) : (decs i l b).length = b.length := by
  induction l generalizing b with
  | nil => rfl
  | cons p l ih => show (decs i l (dec1 i b p)).length = _; rw [ih, dec1_length]
theorem dec1_at (i : Nat) (b : List Int) (p : Int × Int) (n : Nat) (hb : b.length = n) (hp : okp n p = true) (j : Nat) (hj : j < n) : gt (dec1 i b p) j = gt b j - (if p.1 = (i : Int) ∧ p.2 = (j : Int) then 1 else 0) := by
  obtain ⟨h1, h2, h3, h4, h5⟩ := okp_iff.1 hp
  unfold dec1 gt
  by_cases c : p.1 = (i : Int)
  · rw [if_pos c]
    by_cases c2 : p.2 = (j : Int)
    · rw [if_pos ⟨c, c2⟩]
      have : p.2.toNat = j := by omega
      rw [this]
      simp [List.getD_eq_getElem?_getD, List.getElem?_set, hb, hj]
    · rw [if_neg (fun h => c2 h.2)]
      have : p.2.toNat ≠ j := by omega
      simp [List.getD_eq_getElem?_getD, List.getElem?_set, this]
  · rw [if_neg c, if_neg (fun h => c h.1)]; omega
theorem decs_at (i : Nat) (l : List (Int × Int)) (n : Nat) (hl : ∀ p ∈ l, okp n p = true) (j : Nat) (hj : j < n) : ∀ b : List Int, b.length = n → gt (decs i l b) j = gt b j - (l.countP (fun p => p.1 == (i : Int) && p.2 == (j : Int)) : Nat) := by
  induction l with
  | nil => intro b _; show gt b j = gt b j - ((0 : Nat) : Int); omega
  | cons p l ih =>
    intro b hb
    show gt (decs i l (dec1 i b p)) j = _
    rw [ih (fun q hq => hl q (List.mem_cons_of_mem _ hq)) (dec1 i b p) (by rw [dec1_length]; exact hb), dec1_at i b p n hb (hl p (List.mem_cons_self ..)) j hj, List.countP_cons]
    by_cases c : p.1 = (i : Int) ∧ p.2 = (j : Int)
    · rw [if_pos c, if_pos (by simp [c.1, c.2])]; omega
    · rw [if_neg c, if_neg (by simpa using fun h1 h2 => c ⟨h1, h2⟩)]; omega
/-- what the numbers tell -/
def Inv (n : Nat) (l : List (Int × Int)) (b : List Int) (done : List Bool) : Prop := b.length = n ∧ done.length = n ∧ ∀ j < n, if gb done j = true then gt b j < 0 else gt b j = (cnt done l j : Int)
theorem free_iff {n : Nat} {l : List (Int × Int)} {b : List Int} {done : List Bool} (h : Inv n l b done) (j : Nat) (hj : j < n) : free done l j = (gt b j == 0) := by
  have hI := h.2.2 j hj
  unfold free
  by_cases c : gb done j = true
  · rw [if_pos c] at hI
    have e : (gt b j == 0) = false := beq_eq_false_iff_ne.2 (by omega)
    rw [c, e]; rfl
  · rw [if_neg c] at hI
    have c' : gb done j = false := by simpa using c
    rw [c', hI]
    unfold cnt
    have : (l.all fun p => !(p.2 == (j : Int) && !(gb done p.1.toNat))) = decide (l.countP (fun p => p.2 == (j : Int) && !(gb done p.1.toNat)) = 0) := by
      rw [Bool.eq_iff_iff, decide_eq_true_iff, List.countP_eq_zero, List.all_eq_true]
      constructor
      · intro h p hp; have := h p hp; revert this; cases (p.2 == (j : Int)) <;> cases (gb done p.1.toNat) <;> decide
      · intro h p hp; have := h p hp; revert this; cases (p.2 == (j : Int)) <;> cases (gb done p.1.toNat) <;> decide
    rw [this]
    by_cases z : l.countP (fun p => p.2 == (j : Int) && !(gb done p.1.toNat)) = 0
    · rw [z]; rfl
    · rw [decide_eq_false z]; simp; simpa using z
theorem pick_some {n : Nat} {done : List Bool} {l : List (Int × Int)} {i : Nat} (h : pick n done l = some i) : i < n ∧ free done l i = true ∧ ∀ j < i, free done l j = false := by
  unfold pick at h
  have h1 := List.find?_some h
  have h2 := List.mem_of_find?_eq_some h
  refine ⟨List.mem_range.1 h2, h1, fun j hj => ?_⟩
  rw [List.find?_range_eq_some] at h
  have := h.2.2 j hj
  simpa using this
theorem pick_none {n : Nat} {done : List Bool} {l : List (Int × Int)} (h : pick n done l = none) : ∀ j < n, free done l j = false := by
  intro j hj
  unfold pick at h
  rw [List.find?_range_eq_none] at h
  simpa using h j hj
theorem pick_eq {n : Nat} {done : List Bool} {l : List (Int × Int)} {i : Nat} (hi : i < n) (h1 : free done l i = true) (h2 : ∀ j < i, free done l j = false) : pick n done l = some i := by
  unfold pick
  rw [List.find?_range_eq_some]
  exact ⟨h1, List.mem_range.2 hi, fun j hj => by simpa using h2 j hj⟩
theorem pick_eq_none {n : Nat} {done : List Bool} {l : List (Int × Int)} (h : ∀ j < n, free done l j = false) : pick n done l = none := by
  unfold pick
  rw [List.find?_range_eq_none]
  intro j hj; simpa using h j hj
theorem gb_set {done : List Bool} {n i j : Nat} (hd : done.length = n) (hi : i < n) : gb (done.set i true) j = if j = i then true else gb done j := by
  unfold gb
  by_cases c : j = i
  · subst c; simp [List.getD_eq_getElem?_getD, hd, hi]
  · rw [if_neg c]; simp [List.getD_eq_getElem?_getD, List.getElem?_set, Ne.symm c]
theorem Inv.step {n : Nat} {l : List (Int × Int)} {b : List Int} {done : List Bool} (hl : ∀ p ∈ l, okp n p = true) (h : Inv n l b done) {i : Nat} (hi : i < n) (hf : free done l i = true) :
    Inv n l (decs i l (b.set i (-1))) (done.set i true) := by
  obtain ⟨hb, hd, hI⟩ := h
  have hdi : gb done i = false := by unfold free at hf; simp at hf; simpa using hf.1
  refine ⟨by rw [decs_length, List.length_set, hb], by rw [List.length_set, hd], fun j hj => ?_⟩
  have hat := decs_at i l n hl j hj (b.set i (-1)) (by rw [List.length_set, hb])
  rw [gb_set hd hi, hat]
  by_cases c : j = i
  · subst c
    simp only [if_true]
    have : gt (b.set j (-1)) j = -1 := by unfold gt; simp [List.getD_eq_getElem?_getD, hb, hj]
    rw [this]; omega
  · have e : gt (b.set i (-1)) j = gt b j := by unfold gt; simp [List.getD_eq_getElem?_getD, List.getElem?_set, Ne.symm c]
    rw [e, if_neg c]
    have hj' := hI j hj
    by_cases c2 : gb done j = true
    · rw [if_pos c2] at hj' ⊢; omega
    · rw [if_neg c2] at hj' ⊢
      rw [hj']
      have key : ∀ m : List (Int × Int), cnt done m j = cnt (done.set i true) m j + m.countP (fun p => p.1 == (i : Int) && p.2 == (j : Int)) ∨ ∃ p ∈ m, p.1 < 0 := by
        intro m
        induction m with
        | nil => exact .inl rfl
        | cons p m ih =>
          rcases ih with ih | ⟨q, hq, hq0⟩
          · by_cases hp : p.1 < 0
            · exact .inr ⟨p, List.mem_cons_self .., hp⟩
            · left
              unfold cnt at ih ⊢
              rw [List.countP_cons, List.countP_cons, List.countP_cons, ih]
              have hg := gb_set (j := p.1.toNat) hd hi
              by_cases a1 : p.2 = (j : Int)
              · by_cases a2 : p.1 = (i : Int)
                · have a3 : p.1.toNat = i := by omega
                  rw [a3] at hg ⊢
                  rw [hg, hdi]
                  simp [a1, a2]
                  omega
                · have a3 : p.1.toNat ≠ i := by omega
                  rw [hg, if_neg a3]
                  simp [a1, a2]
                  omega
              · simp [a1]
          · exact .inr ⟨q, List.mem_cons_of_mem _ hq, hq0⟩
      rcases key l with key | ⟨p, hp, hp0⟩
      · rw [key]; push_cast; omega
      · have := (okp_iff.1 (hl p hp)).1; omega
def inc1 (b : List Int) (p : Int × Int) : List Int := b.set p.2.toNat (gt b p.2.toNat + 1)
def incs (l : List (Int × Int)) (b : List Int) : List Int := l.foldl inc1 b
theorem incs_length (l : List (Int × Int)) (b : List Int) : (incs l b).length = b.length := by
  induction l generalizing b with
  | nil => rfl
  | cons p l ih => show (incs l (inc1 b p)).length = _; rw [ih]; simp [inc1]
theorem incs_at (l : List (Int × Int)) (n : Nat) (hl : ∀ p ∈ l, okp n p = true) (j : Nat) (hj : j < n) : ∀ b : List Int, b.length = n → gt (incs l b) j = gt b j + (l.countP (fun p => p.2 == (j : Int)) : Nat) := by
  induction l with
  | nil => intro b _; show gt b j = gt b j + ((0 : Nat) : Int); omega
  | cons p l ih =>
    intro b hb
    show gt (incs l (inc1 b p)) j = _
    rw [ih (fun q hq => hl q (List.mem_cons_of_mem _ hq)) (inc1 b p) (by unfold inc1; rw [List.length_set]; exact hb), List.countP_cons]
    obtain ⟨h1, h2, h3, h4, h5⟩ := okp_iff.1 (hl p (List.mem_cons_self ..))
    by_cases c : p.2 = (j : Int)
    · have e : p.2.toNat = j := by omega
      have : gt (inc1 b p) j = gt b j + 1 := by unfold inc1 gt; rw [e]; simp [List.getD_eq_getElem?_getD, hb, hj]
      rw [this, if_pos (by simp [c])]; omega
    · have e : p.2.toNat ≠ j := by omega
      have : gt (inc1 b p) j = gt b j := by unfold inc1 gt; simp [List.getD_eq_getElem?_getD, List.getElem?_set, e]
      rw [this, if_neg (by simpa using c)]; omega
theorem gt_zeros (n j : Nat) : gt (List.replicate n 0) j = 0 := by
  unfold gt
  by_cases h : j < n
  · simp [List.getD_eq_getElem?_getD, h]
  · simp [List.getD_eq_getElem?_getD, h]
theorem incs_bd (l : List (Int × Int)) (n : Nat) (hl : ∀ p ∈ l, okp n p = true) (j : Nat) (hj : j < n) : 0 ≤ gt (incs l (List.replicate n 0)) j ∧ gt (incs l (List.replicate n 0)) j ≤ l.length := by
  rw [incs_at l n hl j hj _ (by simp), gt_zeros]
  have := List.countP_le_length (p := fun p : Int × Int => p.2 == (j : Int)) (l := l)
  omega
theorem gb_zeros (n j : Nat) : gb (List.replicate n false) j = false := by
  unfold gb
  by_cases h : j < n
  · simp [List.getD_eq_getElem?_getD, h]
  · simp [List.getD_eq_getElem?_getD, h]
theorem Inv.first (l : List (Int × Int)) (n : Nat) (hl : ∀ p ∈ l, okp n p = true) : Inv n l (incs l (List.replicate n 0)) (List.replicate n false) := by
  refine ⟨by rw [incs_length]; simp, by simp, fun j hj => ?_⟩
  rw [if_neg (by rw [gb_zeros]; decide), incs_at l n hl j hj _ (by simp), gt_zeros]
  unfold cnt
  have : (fun p : Int × Int => p.2 == (j : Int) && !gb (List.replicate n false) p.1.toNat) = fun p => p.2 == (j : Int) := by
    funext p; rw [gb_zeros]; simp
  rw [this]; omega
theorem decs_bd (i : Nat) (l : List (Int × Int)) (n : Nat) (hl : ∀ p ∈ l, okp n p = true) (j : Nat) (hj : j < n) (b : List Int) (hb : b.length = n) : gt b j - l.length ≤ gt (decs i l b) j ∧ gt (decs i l b) j ≤ gt b j := by
  rw [decs_at i l n hl j hj b hb]
  have := List.countP_le_length (p := fun p : Int × Int => p.1 == (i : Int) && p.2 == (j : Int)) (l := l)
  omega
theorem take_next {α : Type} {l : List α} {i : Nat} {p : α} (h : l[i]? = some p) : l.take (i + 1) = l.take i ++ [p] := by
  obtain ⟨h1, h2⟩ := List.getElem?_eq_some_iff.1 h
  rw [List.take_succ_eq_append_getElem h1, h2]
theorem incs_next {l : List (Int × Int)} {i : Nat} {p : Int × Int} (h : l[i]? = some p) (b : List Int) : incs (l.take (i + 1)) b = inc1 (incs (l.take i) b) p := by rw [take_next h]; unfold incs; rw [List.foldl_append]; rfl
theorem decs_next {l : List (Int × Int)} {i : Nat} {p : Int × Int} (h : l[i]? = some p) (q : Nat) (b : List Int) : decs q (l.take (i + 1)) b = dec1 q (decs q (l.take i) b) p := by rw [take_next h]; unfold decs; rw [List.foldl_append]; rfl
theorem ok_next {l : List (Int × Int)} {i n : Nat} {p : Int × Int} (h : l[i]? = some p) (hv : ∀ q ∈ l.take i, okp n q = true) (hp : okp n p = true) : ∀ q ∈ l.take (i + 1), okp n q = true := by
  rw [take_next h]
  intro q hq
  rcases List.mem_append.1 hq with h | h
  · exact hv q h
  · rw [List.mem_singleton.1 h]; exact hp
/-- the order -/
def ord (n : Nat) (l : List (Int × Int)) : Option (List Int) := if l.all (okp n) = true then go n l n (List.replicate n false) [] else none
theorem ord_bad {n : Nat} {l : List (Int × Int)} {i : Nat} {p : Int × Int} (h : l[i]? = some p) (hp : okp n p = false) : ord n l = none := by
  unfold ord
  rw [if_neg]
  intro ha
  rw [List.all_eq_true] at ha
  obtain ⟨h1, h2⟩ := List.getElem?_eq_some_iff.1 h
  have := ha p (h2 ▸ List.getElem_mem h1)
  rw [hp] at this; exact absurd this (by decide)
theorem ord_good {n : Nat} {l : List (Int × Int)} (hv : ∀ q ∈ l, okp n q = true) : ord n l = go n l n (List.replicate n false) [] := by
  unfold ord
  rw [if_pos (by rw [List.all_eq_true]; exact hv)]
def AtZero (l : List Int) (r : Int) : Prop := (∃ i : Nat, r = (i : Int) ∧ i < l.length ∧ gt l i = 0 ∧ ∀ j < i, gt l j ≠ 0) ∨ (r = -1 ∧ ∀ j < l.length, gt l j ≠ 0)
theorem pick_of {n : Nat} {l : List (Int × Int)} {b : List Int} {done : List Bool} (h : Inv n l b done) {r : Int} (hr : AtZero b r) : (∃ i : Nat, r = (i : Int) ∧ i < n ∧ pick n done l = some i ∧ free done l i = true) ∨ (r = -1 ∧ pick n done l = none) := by
  rcases hr with ⟨i, rfl, hi, h0, hlt⟩ | ⟨rfl, hn⟩
  · left
    rw [h.1] at hi
    have hf : free done l i = true := by rw [free_iff h i hi, h0]; rfl
    refine ⟨i, rfl, hi, pick_eq hi hf (fun j hj => ?_), hf⟩
    rw [free_iff h j (by omega)]
    exact beq_eq_false_iff_ne.2 (hlt j hj)
  · right
    refine ⟨rfl, pick_eq_none (fun j hj => ?_)⟩
    rw [free_iff h j hj]
    exact beq_eq_false_iff_ne.2 (hn j (by rw [h.1]; exact hj))
end Go.Proofs.Ytbmcbhpkefjhbaa.Dsg
