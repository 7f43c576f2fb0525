/- Layer 26, plainly: an order is found just if no way leads back. -/
import Derived.Test.YtbmcbhpkefjhbaaDsgAwake
set_option linter.unusedVariables false
set_option linter.unusedSimpArgs false
namespace Go.Proofs.Ytbmcbhpkefjhbaa.Dsg
theorem count_set {l : List Bool} {i : Nat} (hi : i < l.length) (h : gb l i = false) : (l.set i true).count true = l.count true + 1 := by
  induction l generalizing i with
  | nil => simp at hi
  | cons b l ih =>
    cases i with
    | zero =>
      have hb : b = false := by simpa [gb] using h
      subst hb
      simp
    | succ i =>
      have h2 : gb l i = false := by simpa [gb] using h
      have := ih (by simpa using hi) h2
      simp only [List.set_cons_succ, List.count_cons, this]
      omega
/-- what the order has kept so far -/
structure Kept (n : Nat) (l : List (Int × Int)) (done : List Bool) (out : List Int) : Prop where
  len : done.length = n
  cnt : done.count true = out.length
  nodup : out.Nodup
  mem : ∀ x : Nat, x < n → (gb done x = true ↔ (x : Int) ∈ out)
  rng : ∀ e ∈ out, 0 ≤ e ∧ e < (n : Int)
  pre : ∀ j e, out[j]? = some e → ∀ p ∈ l, p.2 = e → p.1 ∈ out.take j
theorem Kept.first (n : Nat) (l : List (Int × Int)) : Kept n l (List.replicate n false) [] where
  len := by simp
  cnt := by simp [List.count_replicate]
  nodup := List.nodup_nil
  mem := fun x hx => by rw [gb_zeros]; simp
  rng := fun e he => by simp at he
  pre := fun j e he => by simp at he
theorem Kept.step {n : Nat} {l : List (Int × Int)} {done : List Bool} {out : List Int} {i : Nat} (hl : ∀ p ∈ l, okp n p = true) (h : Kept n l done out) (hi : i < n) (hf : free done l i = true) : Kept n l (done.set i true) (out ++ [(i : Int)]) := by
  have hdi : gb done i = false := by unfold free at hf; simp at hf; simpa using hf.1
  have hni : (i : Int) ∉ out := fun hm => by have := (h.mem i hi).2 hm; rw [hdi] at this; exact absurd this (by decide)
  have hall : ∀ p ∈ l, p.2 = (i : Int) → p.1 ∈ out := by
    intro p hp he
    unfold free at hf
    rw [Bool.and_eq_true] at hf
    have := (List.all_eq_true.1 hf.2) p hp
    obtain ⟨h1, h2, _⟩ := okp_iff.1 (hl p hp)
    have hg : gb done p.1.toNat = true := by
      revert this
      rw [beq_iff_eq.2 he]
      cases gb done p.1.toNat <;> decide
    have := (h.mem p.1.toNat (by omega)).1 hg
    rwa [Int.toNat_of_nonneg h1] at this
  refine ⟨by rw [List.length_set]; exact h.len, ?_, ?_, ?_, ?_, ?_⟩
  · rw [count_set (by rw [h.len]; exact hi) hdi, h.cnt, List.length_append]; rfl
  · rw [List.nodup_append]
    refine ⟨h.nodup, by simp, ?_⟩
    intro a ha b hb
    rw [List.mem_singleton] at hb
    rw [hb]
    intro e; exact hni (e ▸ ha)
  · intro x hx
    rw [gb_set h.len hi, List.mem_append, List.mem_singleton]
    by_cases c : x = i
    · rw [if_pos c, c]; simp
    · rw [if_neg c, h.mem x hx]
      constructor
      · exact Or.inl
      · rintro (h | h)
        · exact h
        · omega
  · intro e he
    rcases List.mem_append.1 he with he | he
    · exact h.rng e he
    · rw [List.mem_singleton.1 he]; omega
  · intro j e he p hp hpe
    by_cases hj : j < out.length
    · rw [List.getElem?_append_left hj] at he
      rw [List.take_append_of_le_length (by omega)]
      exact h.pre j e he p hp hpe
    · rw [List.getElem?_append_right (by omega)] at he
      have hj0 : j - out.length = 0 := by
        cases hq : j - out.length with
        | zero => rfl
        | succ q => rw [hq] at he; simp at he
      rw [hj0] at he
      have hei : (i : Int) = e := by simpa using he
      have : j = out.length := by omega
      rw [this, List.take_append_of_le_length (Nat.le_refl _), List.take_length]
      exact hall p hp (by rw [hpe, hei])
theorem go_kept {n : Nat} {l : List (Int × Int)} (hl : ∀ p ∈ l, okp n p = true) : ∀ (k : Nat) (done : List Bool) (out o : List Int), Kept n l done out → go n l k done out = some o → ∃ d2, Kept n l d2 o ∧ o.length = out.length + k := by
  intro k
  induction k with
  | zero =>
    intro done out o h hg
    have : out = o := by simpa [go] using hg
    subst this
    exact ⟨done, h, rfl⟩
  | succ k ih =>
    intro done out o h hg
    cases hp : pick n done l with
    | none => rw [go_none (Nat.succ_pos _) hp] at hg; cases hg
    | some i =>
      rw [go_some (Nat.succ_pos _) hp] at hg
      obtain ⟨hi, hf, _⟩ := pick_some hp
      obtain ⟨d2, h2, hlen⟩ := ih _ _ o (h.step hl hi hf) hg
      refine ⟨d2, h2, ?_⟩
      rw [hlen, List.length_append, List.length_singleton]; omega
/-- an order that was found: everyone is in it once, and each pair stands in it -/
theorem ord_some {n : Nat} {l : List (Int × Int)} (hl : ∀ p ∈ l, okp n p = true) {o : List Int} (h : ord n l = some o) : o.length = n ∧ o.Nodup ∧ (∀ e ∈ o, 0 ≤ e ∧ e < (n : Int)) ∧ (∀ x : Nat, x < n → (x : Int) ∈ o) ∧ ∀ j e, o[j]? = some e → ∀ p ∈ l, p.2 = e → p.1 ∈ o.take j := by
  rw [ord_good hl] at h
  obtain ⟨d2, hk, hlen⟩ := go_kept hl n _ _ o (Kept.first n l) h
  have hlen : o.length = n := by simpa using hlen
  refine ⟨hlen, hk.nodup, hk.rng, fun x hx => ?_, hk.pre⟩
  rw [← hk.mem x hx]
  have hc : d2.count true = d2.length := by rw [hk.cnt, hlen, hk.len]
  rw [List.count_eq_length] at hc
  have hxl : x < d2.length := by rw [hk.len]; exact hx
  have := hc d2[x] (List.getElem_mem hxl)
  unfold gb
  simp [List.getD_eq_getElem?_getD, hxl, ← this]
/-- where none is found, there are some each of whom has one of them ahead -/
theorem go_stuck {n : Nat} {l : List (Int × Int)} (hl : ∀ p ∈ l, okp n p = true) : ∀ (k : Nat) (done : List Bool) (out : List Int), Kept n l done out → out.length + k = n → go n l k done out = none → ∃ S : Nat → Prop, (∃ x, S x) ∧ (∀ x, S x → x < n) ∧ ∀ x, S x → ∃ p ∈ l, p.2 = (x : Int) ∧ S p.1.toNat := by
  intro k
  induction k with
  | zero => intro done out h hn hg; simp [go] at hg
  | succ k ih =>
    intro done out h hn hg
    cases hp : pick n done l with
    | some i =>
      rw [go_some (Nat.succ_pos _) hp] at hg
      obtain ⟨hi, hf, _⟩ := pick_some hp
      exact ih _ _ (h.step hl hi hf) (by rw [List.length_append, List.length_singleton]; omega) hg
    | none =>
      have hno := pick_none hp
      refine ⟨fun x => x < n ∧ gb done x = false, ?_, fun x hx => hx.1, ?_⟩
      · apply Classical.byContradiction
        intro hne
        have hall : ∀ b ∈ done, true = b := by
          intro b hb
          obtain ⟨x, hx, rfl⟩ := List.mem_iff_getElem.1 hb
          have hxn : x < n := by rw [← h.len]; exact hx
          cases hg2 : gb done x with
          | false => exact absurd ⟨x, hxn, hg2⟩ hne
          | true =>
            unfold gb at hg2
            simpa [List.getD_eq_getElem?_getD, hx] using hg2.symm
        have := (List.count_eq_length (a := true) (l := done)).2 hall
        rw [h.cnt, h.len] at this
        omega
      · intro x hx
        have hfx := hno x hx.1
        unfold free at hfx
        rw [hx.2] at hfx
        simp only [Bool.not_false, Bool.true_and] at hfx
        have hna : ¬ ∀ p ∈ l, (!(p.2 == (x : Int) && !gb done p.1.toNat)) = true := by
          intro ha
          rw [List.all_eq_true.2 ha] at hfx
          cases hfx
        apply Classical.byContradiction
        intro hne
        apply hna
        intro p hp2
        by_cases he : p.2 = (x : Int)
        · cases hgp : gb done p.1.toNat with
          | true => simp
          | false =>
            exfalso
            apply hne
            obtain ⟨h1, h2, _⟩ := okp_iff.1 (hl p hp2)
            exact ⟨p, hp2, he, by omega, hgp⟩
        · rw [beq_eq_false_iff_ne.2 he]; rfl
theorem ord_none {n : Nat} {l : List (Int × Int)} (hl : ∀ p ∈ l, okp n p = true) (h : ord n l = none) : ∃ S : Nat → Prop, (∃ x, S x) ∧ (∀ x, S x → x < n) ∧ ∀ x, S x → ∃ p ∈ l, p.2 = (x : Int) ∧ S p.1.toNat := by
  rw [ord_good hl] at h
  exact go_stuck hl n _ _ (Kept.first n l) (by simp) h
/-- who reaches whom, as it lies in memory -/
abbrev rm (rs : List Bool) (a b : Nat) : Bool := gb rs (a * 12 + b)
theorem rm_set {rs : List Bool} (hl : rs.length = 144) {a b c d : Nat} (ha : a < 12) (hb : b < 12) (hc : c < 12) (hd : d < 12) : rm (rs.set (a * 12 + b) true) c d = if c = a ∧ d = b then true else rm rs c d := by
  unfold rm
  rw [gb_set hl (by omega)]
  by_cases h : c = a ∧ d = b
  · rw [if_pos h, if_pos (by omega)]
  · rw [if_neg h, if_neg (by omega)]
def Sound (l : List (Int × Int)) (rs : List Bool) : Prop := ∀ pl : Nat → Nat, (∀ p ∈ l, pl p.1.toNat < pl p.2.toNat) → ∀ a b, a < 12 → b < 12 → rm rs a b = true → pl a < pl b
theorem Sound.set {l : List (Int × Int)} {rs : List Bool} (hl : rs.length = 144) (h : Sound l rs) {a b : Nat} (ha : a < 12) (hb : b < 12) (hp : ∀ pl : Nat → Nat, (∀ p ∈ l, pl p.1.toNat < pl p.2.toNat) → pl a < pl b) : Sound l (rs.set (a * 12 + b) true) := by
  intro pl hpl c d hc hd hr
  rw [rm_set hl ha hb hc hd] at hr
  by_cases e : c = a ∧ d = b
  · rw [e.1, e.2]; exact hp pl hpl
  · rw [if_neg e] at hr; exact h pl hpl c d hc hd hr
theorem Sound.more {l m : List (Int × Int)} {rs : List Bool} (h : Sound l rs) (hs : ∀ p ∈ l, p ∈ m) : Sound m rs := fun pl hpl => h pl (fun p hp => hpl p (hs p hp))
def Elim (k m : Nat) (rs : List Bool) : Prop := (∃ a, a < k ∧ rm rs a a = true) ∨ ∃ S : Nat → Prop, (∃ x, S x) ∧ (∀ x, S x → m ≤ x ∧ x < k) ∧ ∀ x, S x → ∃ y, S y ∧ rm rs y x = true
theorem Elim.first {k : Nat} {l : List (Int × Int)} {rs : List Bool} (hl : ∀ p ∈ l, okp k p = true) (h : ord k l = none) (hr : ∀ p ∈ l, rm rs p.1.toNat p.2.toNat = true) : Elim k 0 rs := by
  obtain ⟨S, h1, h2, h3⟩ := ord_none hl h
  refine .inr ⟨S, h1, fun x hx => ⟨Nat.zero_le _, h2 x hx⟩, fun x hx => ?_⟩
  obtain ⟨p, hp, he, hs⟩ := h3 x hx
  refine ⟨p.1.toNat, hs, ?_⟩
  have := hr p hp
  rwa [he, Int.toNat_natCast] at this
theorem Elim.step {k m : Nat} {rs rs1 : List Bool} (h : Elim k m rs) (hg : ∀ a b, a < k → b < k → rm rs a b = true → rm rs1 a b = true) (ht : ∀ a b, a < k → b < k → rm rs a m = true → rm rs m b = true → rm rs1 a b = true) : Elim k (m + 1) rs1 := by
  rcases h with ⟨a, ha, hr⟩ | ⟨S, ⟨x0, hx0⟩, h2, h3⟩
  · exact .inl ⟨a, ha, hg a a ha ha hr⟩
  · by_cases hm : S m
    · obtain ⟨q, hq, hqr⟩ := h3 m hm
      by_cases hqm : q = m
      · subst hqm
        exact .inl ⟨q, (h2 q hm).2, hg q q (h2 q hm).2 (h2 q hm).2 hqr⟩
      · refine .inr ⟨fun x => S x ∧ x ≠ m, ⟨q, hq, hqm⟩, fun x hx => ?_, fun x hx => ?_⟩
        · have := h2 x hx.1
          have := hx.2
          omega
        · obtain ⟨y, hy, hyr⟩ := h3 x hx.1
          by_cases hym : y = m
          · subst hym
            exact ⟨q, ⟨hq, hqm⟩, ht q x (h2 q hq).2 (h2 x hx.1).2 hqr hyr⟩
          · exact ⟨y, ⟨hy, hym⟩, hg y x (h2 y hy).2 (h2 x hx.1).2 hyr⟩
    · refine .inr ⟨S, ⟨x0, hx0⟩, fun x hx => ?_, fun x hx => ?_⟩
      · have := h2 x hx
        have : x ≠ m := fun e => hm (e ▸ hx)
        omega
      · obtain ⟨y, hy, hyr⟩ := h3 x hx
        exact ⟨y, hy, hg y x (h2 y hy).2 (h2 x hx).2 hyr⟩
theorem Elim.last {k : Nat} {rs : List Bool} (h : Elim k k rs) : ∃ a, a < k ∧ rm rs a a = true := by
  rcases h with h | ⟨S, ⟨x, hx⟩, h2, _⟩
  · exact h
  · have := h2 x hx; omega
/-- an order that was found stands against any way back -/
theorem ord_away {n : Nat} {l : List (Int × Int)} (hl : ∀ p ∈ l, okp n p = true) {o : List Int} (h : ord n l = some o) : ∃ pl : Nat → Nat, (∀ p ∈ l, pl p.1.toNat < pl p.2.toNat) ∧ ∀ j e, o[j]? = some e → pl e.toNat = j := by
  obtain ⟨h1, h2, h3, h4, h5⟩ := ord_some hl h
  have hidx : ∀ j e, o[j]? = some e → o.idxOf e = j := by
    intro j e he
    obtain ⟨hj, rfl⟩ := List.getElem?_eq_some_iff.1 he
    exact h2.idxOf_getElem j hj
  refine ⟨fun x => o.idxOf (x : Int), fun p hp => ?_, fun j e he => ?_⟩
  · obtain ⟨q1, q2, q3, q4, _⟩ := okp_iff.1 (hl p hp)
    simp only
    rw [Int.toNat_of_nonneg q1, Int.toNat_of_nonneg q3]
    have hb := h4 p.2.toNat (by omega)
    rw [Int.toNat_of_nonneg q3] at hb
    obtain ⟨j, hj, hje⟩ := List.mem_iff_getElem.1 hb
    have hbj : o[j]? = some p.2 := by rw [List.getElem?_eq_getElem hj, hje]
    have ha := h5 j p.2 hbj p hp rfl
    obtain ⟨i, hi, hie⟩ := List.mem_iff_getElem.1 ha
    have hi2 : i < j := by have := hi; rw [List.length_take] at this; omega
    have hai : o[i]? = some p.1 := by
      rw [List.getElem_take] at hie
      rw [List.getElem?_eq_getElem (by omega), hie]
    rw [hidx j _ hbj, hidx i _ hai]
    exact hi2
  · have := h3 e (List.mem_of_getElem? he)
    simp only
    rw [Int.toNat_of_nonneg this.1]
    exact hidx j e he
end Go.Proofs.Ytbmcbhpkefjhbaa.Dsg
