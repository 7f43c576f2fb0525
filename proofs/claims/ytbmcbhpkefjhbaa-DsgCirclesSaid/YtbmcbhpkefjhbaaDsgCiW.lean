/- The walk of DsgCircles. -/
import Derived.Test.YtbmcbhpkefjhbaaDsgCirc
import Derived.Deep.WholeRow
set_option linter.unusedVariables false
set_option linter.unusedSimpArgs false
namespace Go.Proofs.Ytbmcbhpkefjhbaa.Dsg
open Go.RowKit Go.Proofs.Ytbmcbhpkefjhbaa.Mem Go.Proofs.YtbmcbhpkefjhbaaW.PrintWords Go.Proofs.YtbmcbhpkefjhbaaW.PrintLast Go.Proofs.YtbmcbhpkefjhbaaW.PrintMore
abbrev Kp : Kd (Int × Int) := Kd.pair (Kd.int .i64) (Kd.int .i64)
theorem info2 : (Try.prog.info? 33).map (fun i => (i.zero, i.size, i.bytes)) = some (some (.agg #[.int .i64 0, .int .i64 0]), 2, 16) := by kernel_rfl
/-- a row of pairs of bytes that is read -/
def RdQ (w : World) (A : Option Addr) (l : List (Int × Int)) : Prop := ∀ j p, l[j]? = some p → ∃ ad, A = some ad ∧ w.cell? (ad.add (j * 2)) = some (.int .u8 p.1) ∧ w.cell? ⟨(ad.add (j * 2)).block, (ad.add (j * 2)).off + 1, none⟩ = some (.int .u8 p.2) ∧ (0 ≤ p.1 ∧ p.1 ≤ 255) ∧ (0 ≤ p.2 ∧ p.2 ≤ 255)
theorem RdP.of_C {w : World} {A : Option Addr} {l : List (Int × Int)} (h : Kd.C Kp w A l.length l) : RdP w A l := by
  intro j p hj
  obtain ⟨hjl, hje⟩ := List.getElem?_eq_some_iff.1 hj
  obtain ⟨ad, c, e, hc, hK, hcell⟩ := Kd.C_get h (0, 0) (j : Int) (by omega) (by omega)
  rw [Int.toNat_natCast] at hK hcell
  have hp : l.getD j (0, 0) = p := by simp [List.getD_eq_getElem?_getD, hj]
  rw [hp] at hK
  obtain ⟨c0, c1, rfl, h0, h1⟩ := hK
  have h0' : c0 = [.int .i64 p.1] := h0
  have h1' : c1 = [.int .i64 p.2] := h1
  subst h0' h1'
  have x0 := hcell 0 _ rfl
  have x1 := hcell 1 _ rfl
  refine ⟨ad, e, x0, ?_⟩
  have : (⟨(ad.add (j * 2)).block, (ad.add (j * 2)).off + 1, none⟩ : Addr) = ad.add (j * 2 + 1) := by
    rw [Addr.add_succ']
    unfold Addr.add
    split <;> simp_all <;> omega
  rw [this]
  exact x1
theorem mat_at {w : World} {e base g : Nat} {ok : Nat → Prop} {rs : List Bool} (h : Kd.R Kd.bool e w base ok (.slice (some ⟨g, 0, none⟩) 144 144) rs) (hl : rs.length = 144) (u v : Nat) (hu : u < 12) (hv : v < 12) : w.cell? ⟨g, u * 12 + v, none⟩ = some (.bool (rm rs u v)) ∧ w.frozen? ⟨g, u * 12 + v, none⟩ = false := by
  have how := Kd.own_of_R (enc := Value.bool) h
  rw [hl] at how
  have hcf := own_at_of (enc := Value.bool) (d := false) how ((u * 12 + v : Nat) : Int) (by omega) (by omega)
  rw [Int.toNat_natCast] at hcf
  refine ⟨?_, hcf.2⟩
  rw [hcf.1]
  unfold rdOf rm gb
  rw [Int.toNat_natCast]
theorem mat_set {w : World} {e base g : Nat} {ok : Nat → Prop} {rs : List Bool} (h : Kd.R Kd.bool e w base ok (.slice (some ⟨g, 0, none⟩) 144 144) rs) (hl : rs.length = 144) (u v : Nat) : Kd.R Kd.bool e (w.setCell ⟨g, u * 12 + v, none⟩ (.bool true)) base (fun _ => True) (.slice (some ⟨g, 0, none⟩) 144 144) (rs.set (u * 12 + v) true) ∧ w.grownBy (w.setCell ⟨g, u * 12 + v, none⟩ (.bool true)) (some g) := by
  have how := Kd.own_of_R (enc := Value.bool) h
  rw [hl] at how
  have hs := own_store_of (enc := Value.bool) how ((u * 12 + v : Nat) : Int) true
  rw [Int.toNat_natCast] at hs
  refine ⟨Kd.R_of_own (enc := Value.bool) (h1 := fun _ => rfl) ?_ (fun _ _ => trivial), hs.2⟩
  rw [List.length_set, hl]
  exact hs.1
theorem gt_set {ps : List Int} {n u : Nat} (hl : ps.length = n) (hu : u < n) (z : Int) (j : Nat) : gt (ps.set u z) j = if j = u then z else gt ps j := by
  unfold gt
  by_cases h : j = u
  · rw [if_pos h, h]; simp [List.getD_eq_getElem?_getD, hl, hu]
  · rw [if_neg h]; simp [List.getD_eq_getElem?_getD, List.getElem?_set, Ne.symm h]
theorem plc_at {w : World} {e base g : Nat} {ok : Nat → Prop} {ps : List Int} (h : Kd.R (Kd.int .i64) e w base ok (.slice (some ⟨g, 0, none⟩) 12 12) ps) (hl : ps.length = 12) (u : Nat) (hu : u < 12) : w.cell? ⟨g, u, none⟩ = some (.int .i64 (gt ps u)) ∧ w.frozen? ⟨g, u, none⟩ = false := by
  have how := Kd.own_of_R (enc := Value.int .i64) h
  rw [hl] at how
  have hcf := own_at_of (enc := Value.int .i64) (d := (0 : Int)) how ((u : Nat) : Int) (by omega) (by omega)
  rw [Int.toNat_natCast] at hcf
  refine ⟨?_, hcf.2⟩
  rw [hcf.1]
  unfold rdOf gt
  rw [Int.toNat_natCast]
theorem plc_set {w : World} {e base g : Nat} {ok : Nat → Prop} {ps : List Int} (h : Kd.R (Kd.int .i64) e w base ok (.slice (some ⟨g, 0, none⟩) 12 12) ps) (hl : ps.length = 12) (u : Nat) (z : Int) : Kd.R (Kd.int .i64) e (w.setCell ⟨g, u, none⟩ (.int .i64 z)) base (fun _ => True) (.slice (some ⟨g, 0, none⟩) 12 12) (ps.set u z) := by
  have how := Kd.own_of_R (enc := Value.int .i64) h
  rw [hl] at how
  have hs := own_store_of (enc := Value.int .i64) how ((u : Nat) : Int) z
  rw [Int.toNat_natCast] at hs
  refine Kd.R_of_own (enc := Value.int .i64) (h1 := fun _ => rfl) ?_ (fun _ _ => trivial)
  rw [List.length_set, hl]
  exact hs.1
theorem RdI_at {w : World} {A : Option Addr} {l : List Int} (h : RdI w A l) {j : Nat} {e : Int} (hj : l[j]? = some e) : ∃ ad, A = some ad ∧ w.cell? (ad.add j) = some (.int .i64 e) := by
  obtain ⟨hjl, hje⟩ := List.getElem?_eq_some_iff.1 hj
  obtain ⟨ad, e1, hx⟩ := Kd.at_int h (j : Int) (by omega) (by omega)
  rw [Int.toNat_natCast, rd_gt] at hx
  refine ⟨ad, e1, ?_⟩
  rw [hx]
  simp [gt, List.getD_eq_getElem?_getD, hj]
/-- what Order answers, beside the round that was found -/
theorem tail_facts {k : Nat} {prs : List (Int × Int)} {rs : List Bool} {r : Bool} (hk : k ≤ 12) (hl : ∀ p ∈ prs, okp k p = true) (hs : Sound prs rs) (he : ord k prs = none → Elim k k rs) (hr : r = true ↔ ∃ c, c < k ∧ rm rs c c = true) :
    (r = false ∧ ∃ o, res (k : Int) prs = (o, true) ∧ o.length = k ∧ (∃ pl : Nat → Nat, (∀ p ∈ prs, pl p.1.toNat < pl p.2.toNat) ∧ ∀ j e, o[j]? = some e → pl e.toNat = j) ∧ (∀ e ∈ o, 0 ≤ e ∧ e < (k : Int)) ∧ ∀ x : Nat, x < k → (x : Int) ∈ o) ∨ (r = true ∧ res (k : Int) prs = ([], false)) := by
  have hres : res (k : Int) prs = (match ord k prs with | none => ([], false) | some o => (o, true)) := by
    unfold res
    rw [if_pos (by omega), Int.toNat_natCast]
    cases ord k prs <;> rfl
  cases ho : ord k prs with
  | none =>
    right
    rw [ho] at hres
    refine ⟨hr.2 ((he ho).last), hres⟩
  | some o =>
    left
    rw [ho] at hres
    obtain ⟨h1, h2, h3, h4, h5⟩ := ord_some hl ho
    obtain ⟨pl, hp1, hp2⟩ := ord_away hl ho
    refine ⟨?_, o, hres, h1, ⟨pl, hp1, hp2⟩, h3, h4⟩
    cases hb : r with
    | false => rfl
    | true =>
      obtain ⟨c, hc, hm⟩ := hr.1 hb
      exact absurd (hs pl hp1 c c (by omega) (by omega) hm) (Nat.lt_irrefl _)
set_option maxHeartbeats 4000000 in
set_option maxRecDepth 100000 in
theorem Circ_test (x : Int) (hx : 0 ≤ x ∧ x ≤ 255) (A : Option Addr) (c : Nat) (q : List (Int × Int)) (w : World) (hr : RdQ w A q) :
    Calls Try.prog 4 #[.int .u8 x, .slice A q.length c] w fun e w' => e = .returned (.bool true) ∧ Below w.heap.size w w' := by
  have HB := Lib.hid (Below.refl w.heap.size w)
  have HR := Lib.hid hr
  clear hr
  obtain ⟨hx0, hx1⟩ := hx
  have x0 : (0 : Int) ≤ x := hx0
  have hst : ∀ W : World, (storeCells ⟨W.heap.size, 0, none⟩ Try.zeroCells31.toList).run Try.prog (W.alloc (.cells Try.zeroCells31 31)) = .ok () (W.alloc (.cells Try.zeroCells31 31)) := fun W => run_storeCells_new W _ _ _ (by kernel_rfl) rfl (by kernel_rfl)
  have hz : Try.zeroCells31 = (encs Value.bool (List.replicate 144 false)).toArray := by kernel_rfl
  have HZ := Lib.hid hz
  clear hz
  have AW := fun w => Lib.hid (awake_any w)
  obtain ⟨k, hk, hk1, hk2⟩ : ∃ k : Nat, 1 + x % 12 = (k : Int) ∧ 1 ≤ k ∧ k ≤ 12 := ⟨(1 + x % 12).toNat, by omega, by omega, by omega⟩
  go_enter Try.func4, Try.ntmps4
  go_wp2_with (first | ((with_reducible refine gate_dst (N := 25) rfl ?_); refine Kd.R_lit (Kp) _ 33 ?hg (N := 25) ?hd (xs := []) (inner := []) (ok := fun _ => True) (okp := fun _ => True) ?hr ?hp (fun _ hk => hk) trivial (Below.refl _ _) (Nat.le_refl _) (by simp) ?_; (case hd => rfl); (case hg => rfl); (case hr => first | (go_simp; done) | (go_simp; rfl)); (case hp => exact Reps.none _ _); intro v25 w25 ho hb hg_ hnew_; have HG25 := Lib.hid hg_; have HNEW25 := Lib.hid hnew_; clear hg_ hnew_; have HO25 := Lib.hid (Kd.R_lower ho (below_size (by repeat (first | (with_reducible first | exact HB.out | apply below_alloc | apply pw_below_drewN | apply below_drew1) | exact HB.out)))); have HB := Lib.hid (below_step (by repeat (first | (with_reducible first | exact HB.out | apply below_alloc | apply pw_below_drewN | apply below_drew1) | exact HB.out)) hb); clear ho hb))
  generalize hw3 : w25.alloc (.cells Try.zeroCells31 31) = w3
  have HRS : Hid (Kd.R Kd.bool 31 w3 w.heap.size (fun _ => True) (.slice (some ⟨w25.heap.size, 0, none⟩) 144 144) (List.replicate 144 false)) := Lib.hid (by
    have h := World.ownsRow_lit (base := w.heap.size) (e := 31) (size := 1) w25 (encs Value.bool (List.replicate 144 false)).toArray 144 (below_size HB.out) (by decide) (by simp [encs])
    rw [← HZ.out, hw3] at h
    refine Kd.R_of_own (enc := Value.bool) (h1 := fun _ => rfl) ?_ (fun _ _ => trivial)
    simpa [HZ.out] using h)
  have HPR : Hid (Kd.R Kp 33 w3 w.heap.size (fun _ => True) v25 []) := Lib.hid (by rw [← hw3]; exact Kd.R_alloc HO25.out _)
  have HB3 : Hid (Below w.heap.size w w3) := Lib.hid (by rw [← hw3]; exact below_alloc HB.out _)
  have HNE : Hid (v25.ownBlock = none ∨ v25.ownBlock ≠ some w25.heap.size) := Lib.hid (by
    right
    intro he
    exact absurd (Kd.R_lt HO25.out _ he) (Nat.lt_irrefl _))
  have HG0 : Hid (w.heap.size ≤ w25.heap.size) := Lib.hid (below_size HB.out)
  clear hw3 hst HB HO25 HG25 HNEW25 HZ
  generalize w25.heap.size = g at *
  go_loopg [6, 8] q.length (fun kk v6 v8 wr => ∃ (i : Nat) (vp : Value) (prs : List (Int × Int)) (rs : List Bool), i ≤ q.length ∧ kk = q.length - i ∧ v8 = .int .i64 (i : Int) ∧ vp = v6 ∧ i ≤ 60 ∧ Hid (Kd.R Kp 33 wr w.heap.size (fun _ => True) vp prs) ∧ Hid (prs.length ≤ i) ∧ Hid (∀ p ∈ prs, okp k p = true) ∧ Hid (Kd.R Kd.bool 31 wr w.heap.size (fun _ => True) (.slice (some ⟨g, 0, none⟩) 144 144) rs) ∧ Hid (rs.length = 144) ∧ Hid (Sound prs rs) ∧ Hid (∀ p ∈ prs, rm rs p.1.toNat p.2.toNat = true) ∧ Hid (vp.ownBlock = none ∨ vp.ownBlock ≠ some g) ∧ Hid (Below w.heap.size w wr))
  case atStart => exact ⟨0, _, [], _, Nat.zero_le _, rfl, rfl, rfl, by omega, HPR, Lib.hid (Nat.le_refl _), Lib.hid (fun p hp => by cases hp), HRS, Lib.hid (by simp), Lib.hid (fun pl _ a b _ _ hr => by rw [show rm (List.replicate 144 false) a b = false from gb_zeros _ _] at hr; cases hr), Lib.hid (fun p hp => by cases hp), HNE, HB3⟩
  case round =>
    clear HRS HPR HB3 HNE
    obtain ⟨i, vp, prs, rs, hi, rfl, rfl, rfl, hi6, HP, HPL, HPO, HRS, HRL, HS, HIN, HNE, HB⟩ := hrel
    have p0 : (0 : Int) ≤ (i : Int) := Int.natCast_nonneg _
    by_cases hlt : i < q.length ∧ i < 60
    · have hd : decide (i < q.length) = true := decide_eq_true hlt.1
      have hd2 : decide ((i : Int) < 60) = true := decide_eq_true (by omega)
      have p1 : (i : Int) < (q.length : Int) := by omega
      obtain ⟨⟨a, b⟩, hp⟩ : ∃ p, q[i]? = some p := ⟨_, List.getElem?_eq_getElem hlt.1⟩
      obtain ⟨ad, rfl, x0, x1, ⟨a0, a1⟩, ⟨b0, b1⟩⟩ := HR.out i (a, b) hp
      have y0 := (HB.out.cell (World.block_lt_of_cell? w _ x0)).trans x0
      have y1 := (HB.out.cell (World.block_lt_of_cell? w _ x1)).trans x1
      simp only at a0 a1 b0 b1
      have k0 : (0 : Int) < (k : Int) := by omega
      have hi60 := hlt.2
      clear hp x0 x1 hlt
      go_wp2_with fail
      go_quiet (fail)
      obtain ⟨u, hu, u0, u1⟩ : ∃ u : Nat, a % (k : Int) = (u : Int) ∧ u < k ∧ u < 12 := ⟨(a % (k : Int)).toNat, by have := Int.emod_nonneg a (show (k : Int) ≠ 0 by omega); omega, by have := Int.emod_nonneg a (show (k : Int) ≠ 0 by omega); have := Int.emod_lt_of_pos a k0; omega, by have := Int.emod_nonneg a (show (k : Int) ≠ 0 by omega); have := Int.emod_lt_of_pos a k0; omega⟩
      obtain ⟨v, hv, v0, v1⟩ : ∃ u : Nat, b % (k : Int) = (u : Int) ∧ u < k ∧ u < 12 := ⟨(b % (k : Int)).toNat, by have := Int.emod_nonneg b (show (k : Int) ≠ 0 by omega); omega, by have := Int.emod_nonneg b (show (k : Int) ≠ 0 by omega); have := Int.emod_lt_of_pos b k0; omega, by have := Int.emod_nonneg b (show (k : Int) ≠ 0 by omega); have := Int.emod_lt_of_pos b k0; omega⟩
      rw [hu, hv]
      clear hu hv y0 y1
      by_cases huv : u = v
      · have e1 : ((u : Int) != (v : Int)) = false := by rw [bne_eq_false_iff_eq]; omega
        have e2 : (u != v) = false := by rw [bne_eq_false_iff_eq]; exact huv
        have HB2 := Lib.hid (pw_below_drewN HB.out nq)
        go_wp2
        go_roundg (q.length - (i + 1))
        case measure => omega
        case rel => exact ⟨i + 1, vp, prs, rs, by omega, rfl, by go_num, rfl, by omega, Lib.hid (Kd.R_drewN HP.out _), Lib.hid (by have := HPL.out; omega), HPO, Lib.hid (Kd.R_drewN HRS.out _), HRL, HS, HIN, HNE, HB2⟩
      · have e1 : ((u : Int) != (v : Int)) = true := by rw [bne_iff_ne]; omega
        have e2 : (u != v) = true := by rw [bne_iff_ne]; exact huv
        have HB2 := Lib.hid (pw_below_drewN HB.out nq)
        have HP2 := Lib.hid (Kd.R_drewN HP.out nq)
        have HRS2 := Lib.hid (Kd.R_drewN HRS.out nq)
        clear HB HP HRS
        generalize wr.drewN nq = wa at *
        have HB := HB2
        clear HB2
        go_wp2_with (first | ((with_reducible refine gate_builtin (b := .append) (xs := #[.tmp 56, .tmp 60]) rfl ?_); at_builtin; refine Kd.R_append Kp (w0 := w) w.heap.size rfl (.tmp 56) (.tmp 60) 22 33 (.agg #[.int .i64 0, .int .i64 0]) 16 rfl Try.underlying22 info2 rfl (by decide) (by omega) vp prs ((u : Int), (v : Int)) [.int .i64 ((u : Int)), .int .i64 ((v : Int))] (fun _ => True) (fun _ => False) rfl ?aX ⟨[_], [_], rfl, rfl, rfl⟩ (fun _ h => h.elim) (fun _ _ => trivial) HP2.out (by repeat (first | (with_reducible first | exact HB.out | apply below_alloc | apply pw_below_drewN | apply below_drew1) | exact HB.out)) (below_size (by repeat (first | (with_reducible first | exact HB.out | apply below_alloc | apply pw_below_drewN | apply below_drew1) | exact HB.out))) ?aL ?_; (case aX => first | rfl | (rw [World.size_setCell]; rfl)); (case aL => have := HPL.out; omega); intro v61 w61 ho hb hg hat; have HG61 := Lib.hid hg; have HAT61 := Lib.hid hat; clear hg hat; have HO61 := Lib.hid ho; have HB := Lib.hid hb; clear ho hb; have HRS3 := Lib.hid (Kd.R_grown2 HRS2.out rfl HG61.out (fun k hk he => by rcases HNE.out with h | h; (rw [h] at hk; cases hk); exact h (hk.trans he))); obtain ⟨hcell, hfroz⟩ := mat_at HRS3.out HRL.out u v u1 v1))
        have hM := mat_set HRS3.out HRL.out u v
        have HN61 : v61.ownBlock = none ∨ v61.ownBlock ≠ some g := by
          rcases HAT61.out with h | ⟨b, h1, h2⟩
          · rw [h]; exact HNE.out
          · right
            rw [h1]
            intro he
            have : b = g := by injection he
            have := Kd.R_lt HRS2.out g rfl
            omega
        have hok : okp k ((u : Int), (v : Int)) = true := okp_iff.2 ⟨by omega, by simp only; omega, by simp only; omega, by simp only; omega, by simp only; omega⟩
        go_roundg (q.length - (i + 1))
        case measure => omega
        case rel =>
          refine ⟨i + 1, _, prs ++ [((u : Int), (v : Int))], rs.set (u * 12 + v) true, by omega, rfl, by go_num, rfl, by omega, Lib.hid (Kd.R_grown2 HO61.out rfl hM.2 ?_), Lib.hid ?_, Lib.hid ?_, Lib.hid hM.1, Lib.hid (by rw [List.length_set]; exact HRL.out), Lib.hid ?_, Lib.hid ?_, Lib.hid ?_, Lib.hid (HB.out.setCell HG0.out _)⟩
          · intro k2 hk2 he
            injection hk2 with hk2
            subst hk2
            rcases HN61 with h | h
            · rw [h] at he; cases he
            · exact h he.symm
          · rw [List.length_append]; have := HPL.out; simp; omega
          · intro p hp
            rcases List.mem_append.1 hp with h | h
            · exact HPO.out p h
            · rw [List.mem_singleton.1 h]; exact hok
          · refine (HS.out.more (fun p hp => List.mem_append_left _ hp)).set HRL.out u1 v1 (fun pl hpl => ?_)
            have := hpl ((u : Int), (v : Int)) (List.mem_append_right _ (List.mem_singleton.2 rfl))
            simpa using this
          · intro p hp
            rcases List.mem_append.1 hp with h | h
            · obtain ⟨q1, q2, q3, q4, _⟩ := okp_iff.1 (HPO.out p h)
              rw [rm_set HRL.out u1 v1 (by omega) (by omega)]
              split
              · rfl
              · exact HIN.out p h
            · rw [List.mem_singleton.1 h]
              simp only [Int.toNat_natCast]
              rw [rm_set HRL.out u1 v1 u1 v1, if_pos ⟨rfl, rfl⟩]
          · exact HN61
    · have hcs : decide (i < q.length) = false ∨ (decide (i < q.length) = true ∧ decide ((i : Int) < 60) = false) := by
        by_cases h : i < q.length
        · right
          exact ⟨decide_eq_true h, decide_eq_false (by omega)⟩
        · exact .inl (decide_eq_false h)
      have HKL : Hid (prs.length ≤ 60) := Lib.hid (by have := HPL.out; omega)
      clear hlt hi HPL HR
      rcases hcs with f1 | ⟨f1, f2⟩
      all_goals go_wp2
      all_goals go_loopg [11, 12, 13] k (fun kk v11 v12 v13 wr => ∃ (m : Nat) (rs : List Bool), m ≤ k ∧ kk = k - m ∧ v11 = .int .i64 (m : Int) ∧ Hid (Kd.R Kp 33 wr w.heap.size (fun _ => True) vp prs) ∧ Hid (Kd.R Kd.bool 31 wr w.heap.size (fun _ => True) (.slice (some ⟨g, 0, none⟩) 144 144) rs) ∧ Hid (rs.length = 144) ∧ Hid (Sound prs rs) ∧ Hid (ord k prs = none → Elim k m rs) ∧ Hid (Below w.heap.size w wr))
      all_goals first
        | (case atStart => exact ⟨0, rs, Nat.zero_le _, rfl, rfl, HP, HRS, HRL, HS, Lib.hid (fun h => Elim.first HPO.out h HIN.out), HB⟩)
        | skip
      all_goals
        clear HP HRS HRL HS HIN HB
        obtain ⟨m, rs, hm, rfl, rfl, HP, HRS, HRL, HS, HE, HB⟩ := hrel
        have m0 : (0 : Int) ≤ (m : Int) := Int.natCast_nonneg _
        by_cases hmk : m < k
        · have hd3 : decide (m < k) = true := decide_eq_true hmk
          have m12 : m < 12 := by omega
          go_wp2
          go_loopg [12, 13] k (fun kk v12 v13 wr => ∃ (a : Nat) (r2 : List Bool), a ≤ k ∧ kk = k - a ∧ v12 = .int .i64 (a : Int) ∧ Hid (Kd.R Kp 33 wr w.heap.size (fun _ => True) vp prs) ∧ Hid (Kd.R Kd.bool 31 wr w.heap.size (fun _ => True) (.slice (some ⟨g, 0, none⟩) 144 144) r2) ∧ Hid (r2.length = 144) ∧ Hid (Sound prs r2) ∧ Hid (∀ c d, c < k → d < k → rm rs c d = true → rm r2 c d = true) ∧ Hid (∀ c d, c < a → d < k → rm rs c m = true → rm rs m d = true → rm r2 c d = true) ∧ Hid (Below w.heap.size w wr))
          case atStart => exact ⟨0, rs, Nat.zero_le _, rfl, rfl, HP, HRS, HRL, HS, Lib.hid (fun c d _ _ h => h), Lib.hid (fun c d h => absurd h (Nat.not_lt_zero _)), HB⟩
          case round =>
            clear HP HRS HRL HS HB
            obtain ⟨a, r2, ha, rfl, rfl, HP, HRS, HRL, HS, HGR, HDO, HB⟩ := hrel
            have a0 : (0 : Int) ≤ (a : Int) := Int.natCast_nonneg _
            by_cases hak : a < k
            · have hd4 : decide (a < k) = true := decide_eq_true hak
              have a12 : a < 12 := by omega
              go_wp2
              go_loopg [13] k (fun kk v13 wr => ∃ (b : Nat) (r3 : List Bool), b ≤ k ∧ kk = k - b ∧ v13 = .int .i64 (b : Int) ∧ Hid (Kd.R Kp 33 wr w.heap.size (fun _ => True) vp prs) ∧ Hid (Kd.R Kd.bool 31 wr w.heap.size (fun _ => True) (.slice (some ⟨g, 0, none⟩) 144 144) r3) ∧ Hid (r3.length = 144) ∧ Hid (Sound prs r3) ∧ Hid (∀ c d, c < k → d < k → rm rs c d = true → rm r3 c d = true) ∧ Hid (∀ c d, (c < a ∧ d < k ∨ c = a ∧ d < b) → rm rs c m = true → rm rs m d = true → rm r3 c d = true) ∧ Hid (Below w.heap.size w wr))
              case atStart => exact ⟨0, r2, Nat.zero_le _, rfl, rfl, HP, HRS, HRL, HS, HGR, Lib.hid (fun c d h => HDO.out c d (by omega) (by omega)), HB⟩
              case round =>
                clear HP HRS HRL HS HGR HDO HB
                obtain ⟨b, r3, hb, rfl, rfl, HP, HRS, HRL, HS, HGR, HDO, HB⟩ := hrel
                have b0 : (0 : Int) ≤ (b : Int) := Int.natCast_nonneg _
                by_cases hbk : b < k
                · have hd5 : decide (b < k) = true := decide_eq_true hbk
                  have b12 : b < 12 := by omega
                  obtain ⟨z1, f1⟩ := mat_at HRS.out HRL.out a m a12 m12
                  obtain ⟨z2, f2⟩ := mat_at HRS.out HRL.out m b m12 b12
                  obtain ⟨z3, f3⟩ := mat_at HRS.out HRL.out a b a12 b12
                  have hfalse : (rm r3 a m = false ∨ rm r3 m b = false) → ∀ c d, (c < a ∧ d < k ∨ c = a ∧ d < b + 1) → rm rs c m = true → rm rs m d = true → rm r3 c d = true := by
                    intro hno c d hcd e1 e2
                    by_cases h : c = a ∧ d = b
                    · obtain ⟨rfl, rfl⟩ := h
                      have w1 := HGR.out c m hak hmk e1
                      have w2 := HGR.out m d hmk hbk e2
                      rcases hno with h | h
                      · rw [w1] at h; cases h
                      · rw [w2] at h; cases h
                    · exact HDO.out c d (by omega) e1 e2
                  have hF := Lib.hid hfalse
                  clear hfalse
                  cases h1 : rm r3 a m with
                  | true =>
                    cases h2 : rm r3 m b with
                    | true =>
                      rw [h1] at z1
                      rw [h2] at z2
                      have HM := Lib.hid (mat_set HRS.out HRL.out a b)
                      have H12 := Lib.hid (And.intro h1 h2)
                      clear h1 h2
                      go_wp2
                      go_roundg (k - (b + 1))
                      case measure => omega
                      case rel =>
                        refine ⟨b + 1, r3.set (a * 12 + b) true, by omega, rfl, by go_num, Lib.hid (Kd.R_grown2 HP.out rfl HM.out.2 ?_), Lib.hid HM.out.1, Lib.hid (by rw [List.length_set]; exact HRL.out), Lib.hid (HS.out.set HRL.out a12 b12 (fun pl hpl => Nat.lt_trans (HS.out pl hpl a m a12 m12 H12.out.1) (HS.out pl hpl m b m12 b12 H12.out.2))), Lib.hid ?_, Lib.hid ?_, Lib.hid (HB.out.setCell HG0.out _)⟩
                        · intro k2 hk2 he
                          injection hk2 with hk2
                          subst hk2
                          rcases HNE.out with h | h
                          · rw [h] at he; cases he
                          · exact h he.symm
                        · intro c d hc hd h
                          rw [rm_set HRL.out a12 b12 (by omega) (by omega)]
                          split
                          · rfl
                          · exact HGR.out c d hc hd h
                        · intro c d hcd e1 e2
                          rw [rm_set HRL.out a12 b12 (by omega) (by omega)]
                          split
                          · rfl
                          · exact HDO.out c d (by omega) e1 e2
                    | false =>
                      rw [h1] at z1
                      rw [h2] at z2
                      have HF := Lib.hid (hF.out (.inr h2))
                      clear h1 h2
                      go_wp2
                      go_roundg (k - (b + 1))
                      case measure => omega
                      case rel => exact ⟨b + 1, r3, by omega, rfl, by go_num, HP, HRS, HRL, HS, HGR, HF, HB⟩
                  | false =>
                    rw [h1] at z1
                    have HF := Lib.hid (hF.out (.inl h1))
                    clear h1
                    go_wp2
                    go_roundg (k - (b + 1))
                    case measure => omega
                    case rel => exact ⟨b + 1, r3, by omega, rfl, by go_num, HP, HRS, HRL, HS, HGR, HF, HB⟩
                · have hd5 : decide (b < k) = false := decide_eq_false hbk
                  obtain rfl : k = b := by omega
                  go_wp2
                  go_roundg (k - (a + 1))
                  case measure => omega
                  case rel => exact ⟨a + 1, r3, by omega, rfl, by go_num, HP, HRS, HRL, HS, HGR, Lib.hid (fun c d h1 h2 => HDO.out c d (by omega)), HB⟩
            · have hd4 : decide (a < k) = false := decide_eq_false hak
              obtain rfl : k = a := by omega
              go_wp2
              go_roundg (k - (m + 1))
              case measure => omega
              case rel => exact ⟨m + 1, r2, by omega, rfl, by go_num, HP, HRS, HRL, HS, Lib.hid (fun h => (HE.out h).step HGR.out (fun c d h1 h2 => HDO.out c d h1 h2)), HB⟩
        · have hd3 : decide (m < k) = false := decide_eq_false hmk
          obtain rfl : k = m := by omega
          obtain ⟨ws, hws⟩ : ∃ ws, ws = wr := ⟨_, rfl⟩
          go_wp2
          go_loopg [14, 15] k (fun kk v14 v15 wq => ∃ (a : Nat) (r : Bool), a ≤ k ∧ kk = k - a ∧ v15 = .int .i64 (a : Int) ∧ v14 = .bool r ∧ Hid (r = true ↔ ∃ c, c < a ∧ rm rs c c = true) ∧ wq = ws)
          case atStart => exact ⟨0, false, Nat.zero_le _, rfl, rfl, rfl, Lib.hid ⟨(fun h => by cases h), (fun ⟨c, h, _⟩ => absurd h (Nat.not_lt_zero _))⟩, hws.symm⟩
          case round =>
            subst hws
            obtain ⟨a, r, ha, rfl, rfl, rfl, HRO, rfl⟩ := hrel
            have a0 : (0 : Int) ≤ (a : Int) := Int.natCast_nonneg _
            by_cases hak : a < k
            · have hd4 : decide (a < k) = true := decide_eq_true hak
              obtain ⟨z1, f1⟩ := mat_at HRS.out HRL.out a a (by omega) (by omega)
              have HN5 : Hid ((r || rm rs a a) = true ↔ ∃ c, c < a + 1 ∧ rm rs c c = true) := Lib.hid (by
                rw [Bool.or_eq_true, HRO.out]
                constructor
                · rintro (⟨c, h1, h2⟩ | h)
                  · exact ⟨c, by omega, h2⟩
                  · exact ⟨a, by omega, h⟩
                · rintro ⟨c, h1, h2⟩
                  by_cases e : c = a
                  · right; rw [← e]; exact h2
                  · left; exact ⟨c, by omega, h2⟩)
              generalize rm rs a a = ra at *
              cases r with
              | true =>
                go_wp2
                go_roundg (k - (a + 1))
                case measure => omega
                case rel => exact ⟨a + 1, true, by omega, rfl, by go_num, rfl, Lib.hid (by have := HN5.out; simpa using this), rfl⟩
              | false =>
                go_wp2
                go_roundg (k - (a + 1))
                case measure => omega
                case rel => exact ⟨a + 1, ra, by omega, rfl, by go_num, rfl, Lib.hid (by have := HN5.out; simpa using this), rfl⟩
            · have hd4 : decide (a < k) = false := decide_eq_false hak
              obtain rfl : k = a := by omega
              have HT := tail_facts (by omega) HPO.out HS.out HE.out HRO.out
              obtain ⟨Ap, cp, rfl, hcp, hrp⟩ := Kd.R_reads HP.out
              have HRP := Lib.hid (RdP.of_C hrp)
              have O1 := Lib.hid (Order_res Ap cp prs (k : Int) wr HRP.out (by have := HKL.out; omega))
              clear hcp hrp HP HS HE HRO HRL HRS HNE
              rcases HT with ⟨rfl, o, hres, hok, hpl, hbd, hin⟩ | ⟨rfl, hres⟩
              · have O2 : Hid (Calls Try.prog 14 #[.int .i64 (k : Int), .slice Ap prs.length cp] wr fun e w' => ∃ v, e = .returned (.tuple #[v, .bool true]) ∧ GotI w' v o ∧ o.length ≤ 200 ∧ Below wr.heap.size wr w') := Lib.hid (O1.out.mono (fun e w' h => by unfold ResPost at h; rw [hres] at h; exact h))
                have HPL2 := Lib.hid hpl
                have HBD := Lib.hid hbd
                have HIO := Lib.hid hin
                clear O1 hres hpl hbd hin
                go_wp2_with fail
                refine O2.out.mono ?_
                rintro e w1 ⟨v1, rfl, ⟨A1, c1, rfl, hc1, hr1⟩, ho, hb1⟩
                have HB1 := Lib.hid (below_step HB.out hb1)
                have HR1 := Lib.hid hr1
                have HRP1 := Lib.hid (HRP.out.below hb1)
                have HOK := Lib.hid hok
                have e1 : ((o.length : Int) != (k : Int)) = false := by rw [bne_eq_false_iff_eq]; omega
                have e2 : (o.length != k) = false := by rw [bne_eq_false_iff_eq]; exact hok
                clear hb1 hr1 hc1 ho HB HRP O2 hok
                go_wp2
                generalize hw5 : w1.alloc (.cells (Array.mk [.int .i64 0, .int .i64 0, .int .i64 0, .int .i64 0, .int .i64 0, .int .i64 0, .int .i64 0, .int .i64 0, .int .i64 0, .int .i64 0, .int .i64 0, .int .i64 0]) 34) = w5
                have HPS : Hid (Kd.R (Kd.int .i64) 34 w5 w1.heap.size (fun _ => True) (.slice (some ⟨w1.heap.size, 0, none⟩) 12 12) (List.replicate 12 0)) := Lib.hid (by
                  have h := World.ownsRow_lit (base := w1.heap.size) (e := 34) (size := 1) w1 (encs (Value.int .i64) (List.replicate 12 0)).toArray 12 (Nat.le_refl _) (by decide) (by simp [encs])
                  refine Kd.R_of_own (enc := Value.int .i64) (h1 := fun _ => rfl) ?_ (fun _ _ => trivial)
                  rw [← hw5]
                  exact h)
                have HW : Hid (Below w1.heap.size w1 w5) := Lib.hid (by rw [← hw5]; exact below_alloc (Below.refl _ _) _)
                clear hw5
                obtain ⟨g2, hg2⟩ : ∃ g2, w1.heap.size = g2 := ⟨_, rfl⟩
                rw [hg2] at HPS HW
                simp only [hg2]
                have HG2 := Lib.hid hg2
                clear hg2
                go_loopg [19] o.length (fun kk v19 wq => ∃ (j : Nat) (ps : List Int), j ≤ o.length ∧ kk = o.length - j ∧ v19 = .int .i64 (j : Int) ∧ Hid (Kd.R (Kd.int .i64) 34 wq g2 (fun _ => True) (.slice (some ⟨g2, 0, none⟩) 12 12) ps) ∧ Hid (ps.length = 12) ∧ Hid (∀ i e, i < j → o[i]? = some e → gt ps e.toNat = (i : Int)) ∧ Hid (Below g2 w1 wq))
                case atStart => exact ⟨0, _, Nat.zero_le _, rfl, rfl, HPS, Lib.hid (by simp), Lib.hid (fun i e h => absurd h (Nat.not_lt_zero _)), HW⟩
                case round =>
                  clear HPS HW
                  obtain ⟨j, ps, hj, rfl, rfl, HPS, HPN, HPJ, HW⟩ := hrel
                  have j0 : (0 : Int) ≤ (j : Int) := Int.natCast_nonneg _
                  by_cases hjo : j < o.length
                  · have hd6 : decide (j < o.length) = true := decide_eq_true hjo
                    have j1 : (j : Int) < (o.length : Int) := by omega
                    have jb : (j : Int) < 12 := by have := HOK.out; omega
                    obtain ⟨e, he⟩ : ∃ e, o[j]? = some e := ⟨_, List.getElem?_eq_getElem hjo⟩
                    obtain ⟨b0, b1⟩ := HBD.out e (List.mem_of_getElem? he)
                    obtain ⟨u, rfl⟩ : ∃ u : Nat, e = (u : Int) := ⟨e.toNat, by omega⟩
                    have u12 : u < 12 := by omega
                    have u0 : (0 : Int) ≤ (u : Int) := Int.natCast_nonneg _
                    obtain ⟨ad, rfl, y⟩ := RdI_at (Kd.C_below HR1.out (by rw [HG2.out]; exact HW.out)) he
                    obtain ⟨z1, f1⟩ := plc_at HPS.out HPN.out u u12
                    have HM := Lib.hid (plc_set HPS.out HPN.out u (j : Int))
                    have HE := Lib.hid he
                    clear he b1
                    go_wp2
                    go_roundg (o.length - (j + 1))
                    case measure => omega
                    case rel =>
                      refine ⟨j + 1, ps.set u (j : Int), by omega, rfl, by go_num, HM, Lib.hid (by rw [List.length_set]; exact HPN.out), Lib.hid ?_, Lib.hid (HW.out.setCell (Nat.le_refl _) _)⟩
                      intro i e hi hie
                      rw [gt_set HPN.out u12]
                      obtain ⟨pl, _, hp2⟩ := HPL2.out
                      by_cases hie2 : e.toNat = u
                      · rw [if_pos hie2]
                        have a1 := hp2 i e hie
                        have a2 := hp2 j _ HE.out
                        rw [hie2] at a1
                        rw [Int.toNat_natCast] at a2
                        omega
                      · rw [if_neg hie2]
                        refine HPJ.out i e ?_ hie
                        have : i ≠ j := by
                          intro h
                          subst h
                          have := hie.symm.trans HE.out
                          injection this with this
                          exact hie2 (by rw [this, Int.toNat_natCast])
                        omega
                  · have hd6 : decide (j < o.length) = false := decide_eq_false hjo
                    obtain rfl : o.length = j := by omega
                    go_wp2
                    go_loopg [20] prs.length (fun kk v20 wq => ∃ (i : Nat), i ≤ prs.length ∧ kk = prs.length - i ∧ v20 = .int .i64 (i : Int) ∧ Hid (Kd.R (Kd.int .i64) 34 wq g2 (fun _ => True) (.slice (some ⟨g2, 0, none⟩) 12 12) ps) ∧ Hid (Below g2 w1 wq))
                    case atStart => exact ⟨0, Nat.zero_le _, rfl, rfl, HPS, HW⟩
                    case round =>
                      clear HPS HW
                      obtain ⟨i, hi, rfl, rfl, HPS, HW⟩ := hrel
                      have i0 : (0 : Int) ≤ (i : Int) := Int.natCast_nonneg _
                      by_cases hip : i < prs.length
                      · have hd7 : decide (i < prs.length) = true := decide_eq_true hip
                        have i1 : (i : Int) < (prs.length : Int) := by omega
                        have ib : (i : Int) < 60 := by have := HKL.out; omega
                        obtain ⟨⟨a, b⟩, hp⟩ : ∃ p, prs[i]? = some p := ⟨_, List.getElem?_eq_getElem hip⟩
                        obtain ⟨q1, q2, q3, q4, _⟩ := okp_iff.1 (HPO.out (a, b) (List.mem_of_getElem? hp))
                        simp only at q1 q2 q3 q4
                        obtain ⟨u, rfl⟩ : ∃ u : Nat, a = (u : Int) := ⟨a.toNat, by omega⟩
                        obtain ⟨v, rfl⟩ : ∃ u : Nat, b = (u : Int) := ⟨b.toNat, by omega⟩
                        obtain ⟨ad, rfl, y0, y1⟩ := (HRP1.out.below (by rw [HG2.out]; exact HW.out)) i _ hp
                        have u12 : u < 12 := by omega
                        have v12 : v < 12 := by omega
                        obtain ⟨z1, f1⟩ := plc_at HPS.out HPN.out u u12
                        obtain ⟨z2, f2⟩ := plc_at HPS.out HPN.out v v12
                        obtain ⟨pl, hp1, hp2⟩ := HPL2.out
                        obtain ⟨ju, hju, hju2⟩ : ∃ j, o[j]? = some (u : Int) ∧ j < o.length := by
                          obtain ⟨j, hj⟩ := List.mem_iff_getElem?.1 (HIO.out u (by omega))
                          exact ⟨j, hj, (List.getElem?_eq_some_iff.1 hj).1⟩
                        obtain ⟨jv, hjv, hjv2⟩ : ∃ j, o[j]? = some (v : Int) ∧ j < o.length := by
                          obtain ⟨j, hj⟩ := List.mem_iff_getElem?.1 (HIO.out v (by omega))
                          exact ⟨j, hj, (List.getElem?_eq_some_iff.1 hj).1⟩
                        have g1 := HPJ.out ju _ hju2 hju
                        have g2' := HPJ.out jv _ hjv2 hjv
                        rw [Int.toNat_natCast] at g1 g2'
                        rw [g1] at z1
                        rw [g2'] at z2
                        have lt : ju < jv := by
                          have a1 := hp2 ju _ hju
                          have a2 := hp2 jv _ hjv
                          rw [Int.toNat_natCast] at a1 a2
                          have := hp1 _ (List.mem_of_getElem? hp)
                          simp only [Int.toNat_natCast] at this
                          omega
                        have hd8 : decide (jv ≤ ju) = false := decide_eq_false (by omega)
                        clear hp g1 g2' hju hjv hp1 hp2 q2 q4
                        go_wp2_with fail
                        go_quiet (fail)
                        have HPS2 := Lib.hid (Kd.R_drewN HPS.out nq)
                        have HW2 := Lib.hid (pw_below_drewN HW.out nq)
                        clear HPS HW
                        go_wp2
                        go_roundg (prs.length - (i + 1))
                        case measure => omega
                        case rel => exact ⟨i + 1, by omega, rfl, by go_num, HPS2, HW2⟩
                      · have hd7 : decide (i < prs.length) = false := decide_eq_false hip
                        obtain rfl : prs.length = i := by omega
                        have HB := Lib.hid (below_step HB1.out (by rw [HG2.out]; exact HW.out))
                        go_wp2_with (first | (go_at_call 13; refine ((AW _).out).mono ?_; rintro e w' ⟨rfl, hb⟩; have HB := Lib.hid (below_step (by repeat (first | (with_reducible first | exact HB.out | apply below_alloc | apply pw_below_drewN | apply below_drew1) | exact HB.out)) hb); clear hb))
                        go_ret
                        exact ⟨rfl, HB.out⟩
              · have O2 : Hid (Calls Try.prog 14 #[.int .i64 (k : Int), .slice Ap prs.length cp] wr fun e w' => ∃ v, e = .returned (.tuple #[v, .bool false]) ∧ GotI w' v [] ∧ ([] : List Int).length ≤ 200 ∧ Below wr.heap.size wr w') := Lib.hid (O1.out.mono (fun e w' h => by unfold ResPost at h; rw [hres] at h; exact h))
                clear O1 hres
                go_wp2_with fail
                refine O2.out.mono ?_
                rintro e w1 ⟨v1, rfl, ⟨A1, c1, rfl, hc1, hr1⟩, ho, hb1⟩
                have HB1 := Lib.hid (below_step HB.out hb1)
                clear hb1 hr1 hc1 ho HB HRP O2
                go_wp2
                generalize hw5 : w1.alloc (.cells (Array.mk [.int .i64 0, .int .i64 0, .int .i64 0, .int .i64 0, .int .i64 0, .int .i64 0, .int .i64 0, .int .i64 0, .int .i64 0, .int .i64 0, .int .i64 0, .int .i64 0]) 34) = w5
                have HB : Hid (Below w.heap.size w w5) := Lib.hid (by rw [← hw5]; exact below_alloc HB1.out _)
                clear hw5
                go_loopg [19] 0 (fun kk v19 wq => kk = 0 ∧ v19 = .int .i64 0 ∧ wq = w5)
                case atStart => exact ⟨rfl, rfl, rfl⟩
                case round =>
                  obtain ⟨rfl, rfl, rfl⟩ := hrel
                  go_wp2
                  obtain ⟨ws, hws⟩ : ∃ ws, ws = wr := ⟨_, rfl⟩
                  go_loopg [20] 0 (fun kk v20 wq => kk = 0 ∧ v20 = .int .i64 0 ∧ wq = ws)
                  case atStart => exact ⟨rfl, rfl, hws.symm⟩
                  case round =>
                    subst hws
                    obtain ⟨rfl, rfl, rfl⟩ := hrel
                    have hcs : decide (0 < prs.length) = true ∨ decide (0 < prs.length) = false := by
                      cases decide (0 < prs.length) <;> simp
                    rcases hcs with f7 | f7
                    all_goals go_wp2_with (first | (go_at_call 13; refine ((AW _).out).mono ?_; rintro e w' ⟨rfl, hb⟩; have HB := Lib.hid (below_step (by repeat (first | (with_reducible first | exact HB.out | apply below_alloc | apply pw_below_drewN | apply below_drew1) | exact HB.out)) hb); clear hb))
                    all_goals go_ret
                    all_goals exact ⟨rfl, HB.out⟩
end Go.Proofs.Ytbmcbhpkefjhbaa.Dsg
