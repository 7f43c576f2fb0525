/- by wip/prune.py -/
import Derived.Test.YtjigckhopkclgaaMLeafFour3
import Derived.Test.YtjigckhopkclgaaMLeafFour12
import Derived.Test.YtjigckhopkclgaaMLeafFour13
import Derived.Test.YtjigckhopkclgaaMLeafFour14
set_option linter.unusedSimpArgs false
set_option linter.unusedVariables false
namespace Go.Proofs.Ytjigckhopkclgaa.P
open Go.RowKit Ytjigckhopkclgaa Ytjigckhopkclgaa.Mem YtjigckhopkclgaaW.PrintWords YtjigckhopkclgaaW.PrintLast YtjigckhopkclgaaW.PrintMore
theorem idx4_at (p : Int → Bool) (a b c d : Int) : (idx4 p a b c d = -1 ∧ ∀ y ∈ [a, b, c, d], p y = false) ∨ ∃ u : Nat, u < 4 ∧ idx4 p a b c d = (u : Int) ∧ ∃ v, [a, b, c, d][u]? = some v ∧ p v = true := by
  unfold idx4
  cases ha : p a with
  | true => exact Or.inr ⟨0, by decide, rfl, a, rfl, ha⟩
  | false =>
    cases hb : p b with
    | true => exact Or.inr ⟨1, by decide, rfl, b, rfl, hb⟩
    | false =>
      cases hc : p c with
      | true => exact Or.inr ⟨2, by decide, rfl, c, rfl, hc⟩
      | false =>
        cases hd : p d with
        | true => exact Or.inr ⟨3, by decide, rfl, d, rfl, hd⟩
        | false =>
          refine Or.inl ⟨rfl, fun y hy => ?_⟩
          simp only [List.mem_cons, List.not_mem_nil, or_false] at hy
          rcases hy with rfl | rfl | rfl | rfl
          · exact ha
          · exact hb
          · exact hc
          · exact hd
theorem joinL_spec {a b c d w : Int} {live : List Int} (h1 : 1 ≤ w) (h2 : w ≤ 2147483647) (hn : ∀ y ∈ [a, b, c, d], y ≠ w) :
    ((∀ y ∈ [a, b, c, d], y ≠ 0 ∧ lives live y = true) → joinL a b c d w live = ([a, b, c, d], 8)) ∧
    ((∃ y ∈ [a, b, c, d], y = 0 ∨ lives live y = false) → ∃ (u : Nat) (v : Int), u < 4 ∧ [a, b, c, d][u]? = some v ∧ (v = 0 ∨ lives live v = false) ∧ joinL a b c d w live = ([a, b, c, d].set u w, 0)) := by
  have hn' : ¬ (w = a ∨ w = b ∨ w = c ∨ w = d) := by
    rintro (h | h | h | h)
    · exact hn a (by simp) h.symm
    · exact hn b (by simp) h.symm
    · exact hn c (by simp) h.symm
    · exact hn d (by simp) h.symm
  unfold joinL
  rw [if_neg (by omega), if_neg hn']
  rcases idx4_at (fun x => 0 == x) a b c d with ⟨e1, n1⟩ | ⟨u, hu, e1, v, hv, pv⟩
  · rw [if_pos (by omega)]
    rcases idx4_at (fun x => !(lives live x)) a b c d with ⟨e2, n2⟩ | ⟨u, hu, e2, v, hv, pv⟩
    · rw [if_pos (by omega)]
      refine ⟨fun _ => rfl, fun ⟨y, hy, hh⟩ => ?_⟩
      rcases hh with rfl | hh
      · exact absurd (n1 0 hy) (by decide)
      · have := n2 y hy
        simp only [hh] at this
        exact absurd this (by decide)
    · rw [if_neg (by omega), e2, Int.toNat_natCast]
      have pv' : lives live v = false := by cases hl : lives live v <;> simp_all
      exact ⟨fun h => absurd (h v (List.mem_of_getElem? hv)).2 (by rw [pv']; decide), fun _ => ⟨u, v, hu, hv, Or.inr pv', rfl⟩⟩
  · rw [if_neg (by omega), e1, Int.toNat_natCast]
    have pv' : v = 0 := (beq_iff_eq.mp pv).symm
    exact ⟨fun h => absurd pv' (h v (List.mem_of_getElem? hv)).1, fun _ => ⟨u, v, hu, hv, Or.inl pv', rfl⟩⟩
theorem lives5 {p q r s t y : Int} : lives [p, q, r, s, t] y = true ↔ (y = p ∨ y = q ∨ y = r ∨ y = s ∨ y = t) := by
  unfold lives; simp [List.any_cons]
theorem lives4 {q r s t y : Int} : lives [q, r, s, t] y = true ↔ (y = q ∨ y = r ∨ y = s ∨ y = t) := by
  unfold lives; simp [List.any_cons]
structure Five (p q r s t : Int) : Prop where
  p0 : 1 ≤ p
  pq : p < q
  qr : q < r
  rs : r < s
  st : s < t
  t1 : t ≤ 2147483647
theorem Five.rng {p q r s t : Int} (h : Five p q r s t) {y : Int} (hy : y ∈ [p, q, r, s, t]) : 1 ≤ y ∧ y ≤ 2147483647 := by
  obtain ⟨h1, h2, h3, h4, h5, h6⟩ := h
  simp only [List.mem_cons, List.not_mem_nil, or_false] at hy
  omega
structure Now (O S' : List Int) (J : List Int) (C : List Int) : Prop where
  from_ : ∀ y ∈ J, y ∈ O ∨ y ∈ C
  in_ : ∀ y ∈ C, y ∈ J
theorem Now.step {O S' J C : List Int} (h : Now O S' J C) {live : List Int} {u : Nat} {v w : Int} (hv : J[u]? = some v) (hf : v = 0 ∨ lives live v = false) (hC : ∀ y ∈ C, y ≠ 0 ∧ lives live y = true) : Now O S' (J.set u w) (C ++ [w]) := by
  refine ⟨fun y hy => ?_, fun y hy => ?_⟩
  · rcases List.mem_or_eq_of_mem_set hy with q | q
    · rcases h.from_ y q with q | q
      · exact Or.inl q
      · exact Or.inr (List.mem_append_left _ q)
    · exact Or.inr (by rw [q]; exact List.mem_append_right _ (List.mem_singleton.2 rfl))
  · rcases List.mem_append.1 hy with q | q
    · obtain ⟨m, hm⟩ := List.mem_iff_getElem?.1 (h.in_ y q)
      have hne : u ≠ m := by
        rintro rfl;have e := hv.symm.trans hm
        injection e with e
        subst e;have := hC v q
        rcases hf with q1 | q1
        · exact this.1 q1
        · rw [this.2] at q1; cases q1
      apply List.mem_of_getElem? (i := m);rw [List.getElem?_set_ne hne]; exact hm
    · rw [List.mem_singleton.1 q]
      apply List.mem_of_getElem? (i := u);rw [List.getElem?_set_self (List.getElem?_eq_some_iff.1 hv).1]
theorem four_l2 {live O J : List Int} {S : List (List Int)} {i : Nat} (hi : i < 4) (hO : O.length = 4) (hl : live.length = 5) : ∀ (n j k : Nat), n = 4 - j → j ≤ 4 → 2 * n + 800 ≤ k →
    humuslaw08_LeafFour.l2 k live (i : Int) (j : Int) O S J S = some true ∨ ((∀ m : Nat, j ≤ m → m < 4 → rd O (m : Int) ≠ rd live (i : Int) ∧ rd O (m : Int) ≠ rd live 4) ∧ ∃ k', k ≤ k' + 2 * n + 1 ∧ humuslaw08_LeafFour.l2 k live (i : Int) (j : Int) O S J S = (leaf_Join.f k' J S (rd live (i : Int)) live).bind fun bt => humuslaw08_LeafFour.j8 k' live (i : Int) (bt.2.2 != 0) O S bt.1 bt.2.1) := by
  intro n
  induction n with
  | zero =>
    intro j k hn hj hk
    obtain ⟨k, rfl⟩ : ∃ m, k = m + 1 := ⟨k - 1, by omega⟩
    refine Or.inr ⟨fun m h1 h2 => by omega, k, by omega, ?_⟩
    rw [humuslaw08_LeafFour.l2, if_neg (by omega), if_pos (by omega), if_pos (by omega)]
  | succ n ih =>
    intro j k hn hj hk
    obtain ⟨k, rfl⟩ : ∃ m, k = m + 2 := ⟨k - 2, by omega⟩
    have hw : wrap64 ((j : Int) + 1) = ((j + 1 : Nat) : Int) := by unfold wrap64; omega
    rw [humuslaw08_LeafFour.l2, if_pos (by omega), if_pos (by omega), if_pos (by omega), if_pos (by omega), if_pos (by omega), hw]
    by_cases h1 : rd O (j : Int) = rd live (i : Int)
    · rw [if_pos h1, awake08_ev (by omega), Option.bind_some]; exact Or.inl rfl
    · rw [if_neg h1, if_pos (by omega)]
      by_cases h2 : rd O (j : Int) = rd live 4
      · rw [if_pos h2, awake08_ev (by omega), Option.bind_some]; exact Or.inl rfl
      · rw [if_neg h2, humuslaw08_LeafFour.j7]
        rcases ih (j + 1) k (by omega) (by omega) (by omega) with h | ⟨h, k', hk', he⟩
        · exact Or.inl h
        · refine Or.inr ⟨fun m q1 q2 => ?_, k', by omega, he⟩
          by_cases e : m = j
          · rw [e]; exact ⟨h1, h2⟩
          · exact h m (by omega) q2
theorem mem4_rd {O : List Int} (hO : O.length = 4) {P : Int → Prop} (h : ∀ m : Nat, 0 ≤ m → m < 4 → P (rd O (m : Int))) : ∀ y ∈ O, P y := by
  intro y hy;obtain ⟨m, hm⟩ := List.mem_iff_getElem?.1 hy;have hm' := (List.getElem?_eq_some_iff.1 hm).1;have e := (rdB_at hm').symm.trans hm
  injection e with e
  rw [← e]; exact h m (Nat.zero_le _) (by omega)
theorem or3a {y a b c d : Int} (h : y = a ∨ y = b ∨ y = c ∨ y = d) (n : y ≠ a) : y = b ∨ y = c ∨ y = d := h.resolve_left n
theorem or3b {y a b c d : Int} (h : y = a ∨ y = b ∨ y = c ∨ y = d) (n : y ≠ b) : y = a ∨ y = c ∨ y = d := h.imp id (fun h => h.resolve_left n)
theorem or3c {y a b c d : Int} (h : y = a ∨ y = b ∨ y = c ∨ y = d) (n : y ≠ c) : y = a ∨ y = b ∨ y = d := h.imp id (fun h => h.imp id (fun h => h.resolve_left n))
theorem or3d {y a b c d : Int} (h : y = a ∨ y = b ∨ y = c ∨ y = d) (n : y ≠ d) : y = a ∨ y = b ∨ y = c := h.imp id (fun h => h.imp id (fun h => h.resolve_right n))
theorem pig3 {a b c d x y z : Int} (ha : a = x ∨ a = y ∨ a = z) (hb : b = x ∨ b = y ∨ b = z) (hc : c = x ∨ c = y ∨ c = z) (hd : d = x ∨ d = y ∨ d = z) (ab : b ≠ a) (ac : c ≠ a) (bc : c ≠ b) (ad : d ≠ a) (bd : d ≠ b) (cd : d ≠ c) : False := by
  rcases ha with rfl | rfl | rfl
  · rcases hb with h | rfl | rfl
    · exact ab h
    · rcases hc with h | h | rfl
      · exact ac h
      · exact bc h
      · rcases hd with h | h | h
        · exact ad h
        · exact bd h
        · exact cd h
    · rcases hc with h | rfl | h
      · exact ac h
      · rcases hd with h | h | h
        · exact ad h
        · exact cd h
        · exact bd h
      · exact bc h
  · rcases hb with rfl | h | rfl
    · rcases hc with h | h | rfl
      · exact bc h
      · exact ac h
      · rcases hd with h | h | h
        · exact bd h
        · exact ad h
        · exact cd h
    · exact ab h
    · rcases hc with rfl | h | h
      · rcases hd with h | h | h
        · exact cd h
        · exact ad h
        · exact bd h
      · exact ac h
      · exact bc h
  · rcases hb with rfl | rfl | h
    · rcases hc with h | rfl | h
      · exact bc h
      · rcases hd with h | h | h
        · exact bd h
        · exact cd h
        · exact ad h
      · exact ac h
    · rcases hc with rfl | h | h
      · rcases hd with h | h | h
        · exact cd h
        · exact bd h
        · exact ad h
      · exact bc h
      · exact ac h
    · exact ab h
theorem four_join {p q r s t : Int} (h5 : Five p q r s t) {O J C : List Int} {S : List (List Int)} (hM : MayL J S) (hN : Now O [] J C) {w : Int} (hw : w ∈ [p, q, r, s]) (hO : ∀ y ∈ O, y ≠ w ∧ y ≠ t) (hC : ∀ y ∈ C, y ∈ [p, q, r, s] ∧ y ≠ w) :
    ∃ u v, J[u]? = some v ∧ (v = 0 ∨ lives [p, q, r, s, t] v = false) ∧ ∀ k, 1040 ≤ k → leaf_Join.f k J S w [p, q, r, s, t] = some (J.set u w, S, 0) ∧ MayL (J.set u w) S := by
  obtain ⟨⟨a, b, c, d, rfl, ho⟩, hS⟩ := id hM
  have hs : Small S := ⟨by have := hS.1; omega, fun x hx => by have := hS.2.2.1 x hx; omega⟩
  have hJ : ∀ y ∈ [a, b, c, d], y ≠ w ∧ y ≠ t := by
    intro y hy
    rcases hN.from_ y hy with h | h
    · exact hO y h
    · refine ⟨(hC y h).2, ?_⟩
      have := (hC y h).1;obtain ⟨h1, h2, h3, h4, h5, h6⟩ := h5
      simp only [List.mem_cons, List.not_mem_nil, or_false] at this
      omega
  have hr : 1 ≤ w ∧ w ≤ 2147483647 := h5.rng (by simp only [List.mem_cons, List.not_mem_nil, or_false] at hw ⊢; omega)
  have hsp := joinL_spec (live := [p, q, r, s, t]) hr.1 hr.2 (fun y hy => (hJ y hy).1)
  have hex : ∃ y ∈ [a, b, c, d], y = 0 ∨ lives [p, q, r, s, t] y = false := by
    by_cases hh : ∃ y ∈ [a, b, c, d], y = 0 ∨ lives [p, q, r, s, t] y = false
    · exact hh
    · exfalso
      have all : ∀ y ∈ [a, b, c, d], y ≠ 0 ∧ (y = p ∨ y = q ∨ y = r ∨ y = s) := by
        intro y hy
        have h0 : y ≠ 0 := fun e => hh ⟨y, hy, Or.inl e⟩
        have h1 : lives [p, q, r, s, t] y = true := by
          cases hl : lives [p, q, r, s, t] y with
          | true => rfl
          | false => exact absurd ⟨y, hy, Or.inr hl⟩ hh
        have h2 := (hJ y hy).2;have h3 := lives5.1 h1;refine ⟨h0, ?_⟩
        rcases h3 with h | h | h | h | h
        · exact Or.inl h
        · exact Or.inr (Or.inl h)
        · exact Or.inr (Or.inr (Or.inl h))
        · exact Or.inr (Or.inr (Or.inr h))
        · exact absurd h h2
      have A := all a (by simp)
      have B := all b (by simp)
      have C := all c (by simp)
      have D := all d (by simp)
      have wa := (hJ a (by simp)).1
      have wb := (hJ b (by simp)).1
      have wc := (hJ c (by simp)).1
      have wd := (hJ d (by simp)).1
      obtain ⟨oa, ob, oc, od, o1, o2, o3⟩ := ho
      have x1 := o1 (by omega)
      have x2 := o2 (by omega)
      have x3 := o3 (by omega)
      simp only [List.mem_cons, List.not_mem_nil, or_false] at hw
      clear all hh hsp hJ hN hC hO hM hS hs o1 o2 o3 oa ob oc od hr h5
      rcases hw with rfl | rfl | rfl | rfl
      · exact pig3 (x := q) (y := r) (z := s) (or3a A.2 wa) (or3a B.2 wb) (or3a C.2 wc) (or3a D.2 wd) x1 x2.1 x2.2 x3.1 x3.2.1 x3.2.2
      · exact pig3 (x := p) (y := r) (z := s) (or3b A.2 wa) (or3b B.2 wb) (or3b C.2 wc) (or3b D.2 wd) x1 x2.1 x2.2 x3.1 x3.2.1 x3.2.2
      · exact pig3 (x := p) (y := q) (z := s) (or3c A.2 wa) (or3c B.2 wb) (or3c C.2 wc) (or3c D.2 wd) x1 x2.1 x2.2 x3.1 x3.2.1 x3.2.2
      · exact pig3 (x := p) (y := q) (z := r) (or3d A.2 wa) (or3d B.2 wb) (or3d C.2 wc) (or3d D.2 wd) x1 x2.1 x2.2 x3.1 x3.2.1 x3.2.2
  obtain ⟨u, v, hu, hv, hf, hj⟩ := hsp.2 hex
  refine ⟨u, v, hv, hf, fun k hk => ?_⟩
  have h1 := Join_ev hM hs w (live := [p, q, r, s, t]) (by simp) hk
  rw [hj] at h1;have h2 := joinL_may (w := w) (live := [p, q, r, s, t]) hM;rw [hj] at h2;exact ⟨h1, h2⟩
theorem four_end {p q r s t : Int} (h5 : Five p q r s t) {O J : List Int} {S : List (List Int)} (hM : MayL J S) (hN : Now O [] J [p, q, r, s]) (hO : ∀ y ∈ O, y ≠ t) {k : Nat} (hk : 1040 ≤ k) :
    leaf_Join.f k J S t [p, q, r, s, t] = some (J, S, 8) ∧ ∃ J', leaf_Join.f k J S t [q, r, s, t] = some (J', S, 0) := by
  obtain ⟨⟨a, b, c, d, rfl, ho⟩, hS⟩ := id hM
  have hs : Small S := ⟨by have := hS.1; omega, fun x hx => by have := hS.2.2.1 x hx; omega⟩
  have hJ : ∀ y ∈ [a, b, c, d], y ≠ t := by
    intro y hy
    rcases hN.from_ y hy with h | h
    · exact hO y h
    · obtain ⟨h1, h2, h3, h4, h5, h6⟩ := h5
      simp only [List.mem_cons, List.not_mem_nil, or_false] at h
      omega
  have ip := hN.in_ p (by simp)
  have iq := hN.in_ q (by simp)
  have ir := hN.in_ r (by simp)
  have is := hN.in_ s (by simp)
  have hr : 1 ≤ t ∧ t ≤ 2147483647 := h5.rng (by simp)
  have all : ∀ y ∈ [a, b, c, d], y ≠ 0 ∧ lives [p, q, r, s, t] y = true := by
    have key : (a = p ∨ a = q ∨ a = r ∨ a = s) ∧ (b = p ∨ b = q ∨ b = r ∨ b = s) ∧ (c = p ∨ c = q ∨ c = r ∨ c = s) ∧ (d = p ∨ d = q ∨ d = r ∨ d = s) := by
      simp only [List.mem_cons, List.not_mem_nil, or_false] at ip iq ir is
      have e1 : q ≠ p := by have := h5.pq; omega
      have e2 : r ≠ p := by have := h5.pq; have := h5.qr; omega
      have e3 : r ≠ q := by have := h5.qr; omega
      have e4 : s ≠ p := by have := h5.pq; have := h5.qr; have := h5.rs; omega
      have e5 : s ≠ q := by have := h5.qr; have := h5.rs; omega
      have e6 : s ≠ r := by have := h5.rs; omega
      clear hJ hN hO hM hS hs ho hr h5;refine ⟨?_, ?_, ?_, ?_⟩
      · by_cases hh : a = p ∨ a = q ∨ a = r ∨ a = s
        · exact hh
        · exact (pig3 (or3a ip (by omega)) (or3a iq (by omega)) (or3a ir (by omega)) (or3a is (by omega)) e1 e2 e3 e4 e5 e6).elim
      · by_cases hh : b = p ∨ b = q ∨ b = r ∨ b = s
        · exact hh
        · exact (pig3 (or3b ip (by omega)) (or3b iq (by omega)) (or3b ir (by omega)) (or3b is (by omega)) e1 e2 e3 e4 e5 e6).elim
      · by_cases hh : c = p ∨ c = q ∨ c = r ∨ c = s
        · exact hh
        · exact (pig3 (or3c ip (by omega)) (or3c iq (by omega)) (or3c ir (by omega)) (or3c is (by omega)) e1 e2 e3 e4 e5 e6).elim
      · by_cases hh : d = p ∨ d = q ∨ d = r ∨ d = s
        · exact hh
        · exact (pig3 (or3d ip (by omega)) (or3d iq (by omega)) (or3d ir (by omega)) (or3d is (by omega)) e1 e2 e3 e4 e5 e6).elim
    obtain ⟨h1, h2, h3, h4, h5, h6⟩ := h5;obtain ⟨ka, kb, kc, kd⟩ := key;intro y hy
    simp only [List.mem_cons, List.not_mem_nil, or_false] at hy
    have hy' : y = p ∨ y = q ∨ y = r ∨ y = s := by
      rcases hy with rfl | rfl | rfl | rfl
      · exact ka
      · exact kb
      · exact kc
      · exact kd
    exact ⟨by omega, lives5.2 (by omega)⟩
  have e1 := (joinL_spec (live := [p, q, r, s, t]) hr.1 hr.2 hJ).1 all
  obtain ⟨u, v, _, _, _, e2⟩ := (joinL_spec (live := [q, r, s, t]) hr.1 hr.2 hJ).2 ⟨p, ip, Or.inr (by
    cases hl : lives [q, r, s, t] p with
    | false => rfl
    | true =>
      obtain ⟨h1, h2, h3, h4, h5, h6⟩ := h5;have := lives4.1 hl
      omega)⟩
  have j1 := Join_ev hM hs t (live := [p, q, r, s, t]) (by simp) hk
  have j2 := Join_ev hM hs t (live := [q, r, s, t]) (by simp) hk
  rw [e1] at j1;rw [e2] at j2;exact ⟨j1, _, j2⟩
theorem four_round {p q r s t : Int} (h5 : Five p q r s t) {O J C : List Int} {S : List (List Int)} (hM : MayL J S) (hN : Now O [] J C) (hOl : O.length = 4) {i : Nat} (hi : i < 4) {w : Int} (hwi : rd [p, q, r, s, t] (i : Int) = w) (hw : w ∈ [p, q, r, s]) (hC : ∀ y ∈ C, y ∈ [p, q, r, s] ∧ y ≠ w) {k : Nat} (hk : 2000 ≤ k) :
    humuslaw08_LeafFour.l1 k [p, q, r, s, t] (i : Int) O S J S = some true ∨ (∃ k' J', k ≤ k' + 20 ∧ MayL J' S ∧ Now O [] J' (C ++ [w]) ∧ (∀ y ∈ O, y ≠ w ∧ y ≠ t) ∧ humuslaw08_LeafFour.l1 k [p, q, r, s, t] (i : Int) O S J S = humuslaw08_LeafFour.l1 k' [p, q, r, s, t] ((i + 1 : Nat) : Int) O S J' S) := by
  obtain ⟨k, rfl⟩ : ∃ m, k = m + 2 := ⟨k - 2, by omega⟩
  have hw1 : wrap64 ((i : Int) + 1) = ((i + 1 : Nat) : Int) := by unfold wrap64; omega
  rw [humuslaw08_LeafFour.l1, if_pos (by omega), humuslaw08_LeafFour.j5]
  rcases four_l2 (live := [p, q, r, s, t]) (O := O) (J := J) (S := S) hi hOl rfl 4 0 k rfl (by decide) (by omega) with h | ⟨h, k', hk', he⟩
  · exact Or.inl h
  · have hO : ∀ y ∈ O, y ≠ w ∧ y ≠ t := mem4_rd hOl (fun m h1 h2 => by
      have := h m h1 h2;rw [hwi] at this
      exact this)
    obtain ⟨u, v, hv, hf, hj⟩ := four_join h5 hM hN hw hO hC
    obtain ⟨j1, j2⟩ := hj k' (by omega)
    obtain ⟨k', rfl⟩ : ∃ m, k' = m + 1 := ⟨k' - 1, by omega⟩
    rw [hwi, j1, Option.bind_some] at he
    dsimp only at he
    rw [humuslaw08_LeafFour.j8, if_neg (by decide), hw1] at he
    refine Or.inr ⟨k', J.set u w, by omega, j2, hN.step hv hf (fun y hy => ?_), hO, he⟩
    have h1 := (hC y hy).1;obtain ⟨g1, g2, g3, g4, g5, g6⟩ := h5
    simp only [List.mem_cons, List.not_mem_nil, or_false] at h1
    exact ⟨by omega, lives5.2 (by omega)⟩
theorem four_all {p q r s t : Int} (h5 : Five p q r s t) {O : List Int} {S : List (List Int)} (hM : MayL O S) (hOl : O.length = 4) {k : Nat} (hk : 4000 ≤ k) : humuslaw08_LeafFour.l1 k [p, q, r, s, t] 0 O S O S = some true := by
  have g := h5;obtain ⟨h1, h2, h3, h4, h5', h6⟩ := g
  have n0 : Now O [] O [] := ⟨fun y hy => Or.inl hy, fun y hy => by cases hy⟩
  rcases four_round h5 hM n0 hOl (i := 0) (by decide) (w := p) rfl (by simp) (fun y hy => by cases hy) (k := k) (by omega) with h | ⟨k1, J1, q1, m1, n1, o1, e1⟩
  · exact h
  refine Eq.trans e1 ?_
  rcases four_round h5 m1 n1 hOl (i := 1) (by decide) (w := q) rfl (by simp) (fun y hy => by
    simp only [List.nil_append, List.mem_singleton] at hy
    exact ⟨by rw [hy]; simp, by omega⟩) (k := k1) (by omega) with h | ⟨k2, J2, q2, m2, n2, o2, e2⟩
  · exact h
  refine Eq.trans e2 ?_
  rcases four_round h5 m2 n2 hOl (i := 2) (by decide) (w := r) rfl (by simp) (fun y hy => by
    simp only [List.nil_append, List.cons_append, List.mem_cons, List.not_mem_nil, or_false] at hy ⊢
    omega) (k := k2) (by omega) with h | ⟨k3, J3, q3, m3, n3, o3, e3⟩
  · exact h
  refine Eq.trans e3 ?_
  rcases four_round h5 m3 n3 hOl (i := 3) (by decide) (w := s) rfl (by simp) (fun y hy => by
    simp only [List.nil_append, List.cons_append, List.mem_cons, List.not_mem_nil, or_false] at hy ⊢
    omega) (k := k3) (by omega) with h | ⟨k4, J4, q4, m4, n4, o4, e4⟩
  · exact h
  refine Eq.trans e4 ?_
  obtain ⟨k4, rfl⟩ : ∃ m, k4 = m + 2 := ⟨k4 - 2, by omega⟩
  obtain ⟨f1, J', f2⟩ := four_end h5 m4 n4 (fun y hy => (o4 y hy).2) (k := k4 + 1) (by omega)
  rw [humuslaw08_LeafFour.l1, if_neg (by decide), if_pos (show (4 : Int) < (([p, q, r, s, t] : List Int).length : Int) by simp)]
  have r4 : rd [p, q, r, s, t] 4 = t := rfl;have d1 : ([p, q, r, s, t] : List Int).drop 1 = [q, r, s, t] := rfl
  rw [r4, d1, f1, Option.bind_some, if_pos (show (1 : Int) ≤ (([p, q, r, s, t] : List Int).length : Int) by simp), f2, Option.bind_some]
  dsimp only
  rw [if_pos rfl, if_pos rfl, awake08_ev (by omega), Option.bind_some, humuslaw08_LeafFour.j4]
theorem LeafFour_f {I : List Int} {S : List (List Int)} (hlS : S.length ≤ maxLen) {a b c d e : Int} (ha : 0 ≤ a ∧ a ≤ 255) (hb : 0 ≤ b ∧ b ≤ 255) (hc : 0 ≤ c ∧ c ≤ 255) (hd : 0 ≤ d ∧ d ≤ 255) (he : 0 ≤ e ∧ e ≤ 255) : humuslaw08_LeafFour.f 20008 I S a b c d e = some true := by
  obtain ⟨x, hx, hh⟩ := @Light_ev 20008 I S hlS (by decide)
  unfold humuslaw08_LeafFour.f
  rw [hx, Option.bind_some]
  have aw : humuslaw08_LeafFour.j0 20008 true I S a b c d e = some true := by
    rw [humuslaw08_LeafFour.j0, if_pos rfl, awake08_ev (by omega), Option.bind_some]
  cases x with
  | false => rw [if_neg (by decide)]; exact aw
  | true =>
    obtain ⟨h6, h8, h2⟩ := hh rfl
    have hs : Small S := ⟨by omega, fun s hm => by have := h6 s hm; omega⟩
    rw [if_pos rfl]
    by_cases hM : MayL I S
    · rw [(May_ev hs (by omega)).1 hM, Option.bind_some, humuslaw08_LeafFour.j0, if_neg (by decide), humuslaw08_LeafFour.j1]
      have w0 : wrap64 (wrap64 (1000000 + wrap64 (1000 * 0)) + wrap64 (rd [a, b, c, d, e] 0)) = 1000000 + a := by show wrap64 (wrap64 (1000000 + wrap64 (1000 * 0)) + wrap64 a) = _; unfold wrap64; omega
      have w1 : wrap64 (wrap64 (1000000 + wrap64 (1000 * 1)) + wrap64 (rd [a, b, c, d, e] 1)) = 1001000 + b := by show wrap64 (wrap64 (1000000 + wrap64 (1000 * 1)) + wrap64 b) = _; unfold wrap64; omega
      have w2 : wrap64 (wrap64 (1000000 + wrap64 (1000 * 2)) + wrap64 (rd [a, b, c, d, e] 2)) = 1002000 + c := by show wrap64 (wrap64 (1000000 + wrap64 (1000 * 2)) + wrap64 c) = _; unfold wrap64; omega
      have w3 : wrap64 (wrap64 (1000000 + wrap64 (1000 * 3)) + wrap64 (rd [a, b, c, d, e] 3)) = 1003000 + d := by show wrap64 (wrap64 (1000000 + wrap64 (1000 * 3)) + wrap64 d) = _; unfold wrap64; omega
      have w4 : wrap64 (wrap64 (1000000 + wrap64 (1000 * 4)) + wrap64 (rd [a, b, c, d, e] 4)) = 1004000 + e := by show wrap64 (wrap64 (1000000 + wrap64 (1000 * 4)) + wrap64 e) = _; unfold wrap64; omega
      have v0 : wrap64 (0 + 1) = 1 := by unfold wrap64; omega
      have v1 : wrap64 (1 + 1) = 2 := by unfold wrap64; omega
      have v2 : wrap64 (2 + 1) = 3 := by unfold wrap64; omega
      have v3 : wrap64 (3 + 1) = 4 := by unfold wrap64; omega
      have v4 : wrap64 (4 + 1) = 5 := by unfold wrap64; omega
      rw [humuslaw08_LeafFour.l0, if_pos (by decide), if_pos (by decide), if_pos (by decide), if_pos (by simp), w0, v0]
      rw [humuslaw08_LeafFour.l0, if_pos (by decide), if_pos (by decide), if_pos (by decide), if_pos (by simp), w1, v1]
      rw [humuslaw08_LeafFour.l0, if_pos (by decide), if_pos (by decide), if_pos (by decide), if_pos (by simp), w2, v2]
      rw [humuslaw08_LeafFour.l0, if_pos (by decide), if_pos (by decide), if_pos (by decide), if_pos (by simp), w3, v3]
      rw [humuslaw08_LeafFour.l0, if_pos (by decide), if_pos (by decide), if_pos (by decide), if_pos (by simp), w4, v4]
      rw [humuslaw08_LeafFour.l0, if_neg (by decide)]
      have h4 : I.length = 4 := by obtain ⟨⟨a, b, c, d, rfl, _⟩, _⟩ := hM; rfl
      exact four_all ⟨by omega, by omega, by omega, by omega, by omega, by omega⟩ hM h4 (by omega)
    · rw [(May_ev hs (by omega)).2 hM, Option.bind_some]; exact aw
theorem V_of_C4 {α : Type} {d : Kd α} (hd : Kd.Heap d) {e base : Nat} {w : World} {A : Option Addr} {c : Nat} {xs : List α} (hc : xs.length ≤ c) (h : Kd.C d w A xs.length xs) : Kd.V d e w base (fun _ => True) (.slice A xs.length c) xs :=
  Kd.V_mk hc (fun W' hW => hd.C (fun k hk => hW k trivial hk) h)
theorem LeafFour_walk {w : World} (I : List Int) (S : List (List Int)) (A : Option Addr) (c : Nat) (B : Option Addr) (d : Nat) (h1 : I.length ≤ c) (h2 : Kd.C (Kd.int .i64) w A I.length I) (h3 : S.length ≤ d) (h4 : Kd.C (Kd.slice 5 (Kd.int .u8)) w B S.length S) (g1 : goodW I) (g2 : goodR S) (x0 x1 x2 x3 x4 : Int) (y0 : 0 ≤ x0 ∧ x0 ≤ 255) (y1 : 0 ≤ x1 ∧ x1 ≤ 255) (y2 : 0 ≤ x2 ∧ x2 ≤ 255) (y3 : 0 ≤ x3 ∧ x3 ≤ 255) (y4 : 0 ≤ x4 ∧ x4 ≤ 255) :
    Calls Try.prog 6 #[.agg #[.slice A I.length c, .slice B S.length d], .agg #[.int .u8 x0, .int .u8 x1, .int .u8 x2, .int .u8 x3, .int .u8 x4]] w fun e w' => e = .returned (.bool true) ∧ Below w.heap.size w w' :=
  humuslaw08_LeafFour.calls 20008 (fun _ => True) A c I (fun _ => True) B d S x0 x1 x2 x3 x4 true w (V_of_C4 (Kd.heap_int .i64) h1 h2) (V_of_C4 (Kd.heap_slice 5 (Kd.heap_int .u8)) h3 h4) (LeafFour_f g2.2 y0 y1 y2 y3 y4)
end Go.Proofs.Ytjigckhopkclgaa.P
