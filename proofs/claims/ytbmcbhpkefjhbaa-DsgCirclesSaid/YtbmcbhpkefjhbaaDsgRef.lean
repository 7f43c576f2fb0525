/- humusref26.Order. -/
import Derived.Test.YtbmcbhpkefjhbaaDsgOrd
set_option linter.unusedVariables false
set_option linter.unusedSimpArgs false
namespace Go.Proofs.Ytbmcbhpkefjhbaa.Dsg
open Go.RowKit Go.Proofs.Ytbmcbhpkefjhbaa.Mem Go.Proofs.YtbmcbhpkefjhbaaW.PrintWords Go.Proofs.YtbmcbhpkefjhbaaW.PrintLast Go.Proofs.YtbmcbhpkefjhbaaW.PrintMore
theorem free_next {done : List Bool} {l : List (Int × Int)} {m i : Nat} {p : Int × Int} (h : l[m]? = some p) : free done (l.take (m + 1)) i = (free done (l.take m) i && !(p.2 == (i : Int) && !(gb done p.1.toNat))) := by
  rw [take_next h]
  unfold free
  rw [List.all_append, Bool.and_assoc]
  simp
theorem free_none {done : List Bool} {l : List (Int × Int)} {i : Nat} : free done (l.take 0) i = !(gb done i) := by
  unfold free; simp
/-- what the search from above has found -/
def Seen (n : Nat) (done : List Bool) (l : List (Int × Int)) (j : Nat) (r : Int) : Prop := (r = -1 ∧ ∀ x, j ≤ x → x < n → free done l x = false) ∨ (∃ x0 : Nat, r = (x0 : Int) ∧ j ≤ x0 ∧ x0 < n ∧ free done l x0 = true ∧ ∀ x, j ≤ x → x < x0 → free done l x = false)
theorem Seen.none_ (n : Nat) (done : List Bool) (l : List (Int × Int)) : Seen n done l n (-1) := .inl ⟨rfl, fun x h1 h2 => by omega⟩
theorem Seen.yes {n : Nat} {done : List Bool} {l : List (Int × Int)} {j : Nat} {r : Int} (h : Seen n done l (j + 1) r) (hj : j < n) (hf : free done l j = true) : Seen n done l j (j : Int) := .inr ⟨j, rfl, Nat.le_refl _, hj, hf, fun x h1 h2 => by omega⟩
theorem Seen.no {n : Nat} {done : List Bool} {l : List (Int × Int)} {j : Nat} {r : Int} (h : Seen n done l (j + 1) r) (hf : free done l j = false) : Seen n done l j r := by
  rcases h with ⟨rfl, h⟩ | ⟨x0, rfl, h1, h2, h3, h4⟩
  · refine .inl ⟨rfl, fun x hx hn => ?_⟩
    by_cases e : x = j
    · rw [e]; exact hf
    · exact h x (by omega) hn
  · refine .inr ⟨x0, rfl, by omega, h2, h3, fun x hx hn => ?_⟩
    by_cases e : x = j
    · rw [e]; exact hf
    · exact h4 x (by omega) hn
theorem Seen.pick {n : Nat} {done : List Bool} {l : List (Int × Int)} {r : Int} (h : Seen n done l 0 r) : (∃ i : Nat, r = (i : Int) ∧ i < n ∧ pick n done l = some i) ∨ (r = -1 ∧ pick n done l = none) := by
  rcases h with ⟨rfl, h⟩ | ⟨x0, rfl, h1, h2, h3, h4⟩
  · exact .inr ⟨rfl, pick_eq_none (fun j hj => h j (Nat.zero_le _) hj)⟩
  · exact .inl ⟨x0, rfl, h2, pick_eq h2 h3 (fun j hj => h4 j (Nat.zero_le _) hj)⟩
theorem Seen.lt {n : Nat} {done : List Bool} {l : List (Int × Int)} {j : Nat} {r : Int} (h : Seen n done l j r) : -1 ≤ r ∧ r < (n : Int) := by
  rcases h with ⟨rfl, h⟩ | ⟨x0, rfl, h1, h2, h3, h4⟩ <;> omega
set_option maxHeartbeats 4000000 in
set_option maxRecDepth 100000 in
theorem rOrder_any (A : Option Addr) (c : Nat) (l : List (Int × Int)) (n : Nat) (w : World) (hr : RdP w A l) (hl : l.length ≤ 200) (hn : n ≤ 200) :
    Calls Try.prog 15 #[.int .i64 (n : Int), .slice A l.length c] w fun e w' => OrdPost n l w e w' := by
  have n0 : (0 : Int) ≤ (n : Int) := Int.natCast_nonneg _
  have n1 : (n : Int) ≤ 200 := by omega
  have HB := Lib.hid (Below.refl w.heap.size w)
  have HR := Lib.hid hr
  clear hr
  have e1 : decide ((n : Int) < 0) = false := decide_eq_false (by omega)
  have e2 : decide ((200 : Int) < (n : Int)) = false := decide_eq_false (by omega)
  go_enter Try.func15, Try.ntmps15
  go_wp2
  go_loopg [6] l.length (fun k v6 wr => ∃ i : Nat, i ≤ l.length ∧ k = l.length - i ∧ v6 = .int .i64 (i : Int) ∧ Hid (∀ p ∈ l.take i, okp n p = true) ∧ Hid (Below w.heap.size w wr))
  case atStart => exact ⟨0, Nat.zero_le _, by omega, rfl, Lib.hid (fun p hp => by cases hp), HB⟩
  case round =>
    clear HB
    obtain ⟨i, hi, rfl, rfl, HV, HB⟩ := hrel
    by_cases hlt : i < l.length
    · have hd : decide (i < l.length) = true := decide_eq_true hlt
      have p0 : (0 : Int) ≤ (i : Int) := Int.natCast_nonneg _
      have p1 : (i : Int) < (l.length : Int) := by omega
      obtain ⟨⟨a, b⟩, hp⟩ : ∃ p, l[i]? = some p := ⟨_, List.getElem?_eq_getElem hlt⟩
      have HP := Lib.hid hp
      obtain ⟨ad, rfl, x0, x1⟩ := HR.out i (a, b) hp
      have y0 := (HB.out.cell (World.block_lt_of_cell? w _ x0)).trans x0
      have y1 := (HB.out.cell (World.block_lt_of_cell? w _ x1)).trans x1
      clear hp x0 x1
      cases hok : okp n (a, b) with
      | true =>
        have HK := Lib.hid hok
        obtain ⟨h1, h2, h3, h4, h5⟩ := okp_iff.1 hok
        simp only at h1 h2 h3 h4 h5
        have f1 : decide (a < 0) = false := decide_eq_false (by omega)
        have f2 : decide ((n : Int) ≤ a) = false := decide_eq_false (by omega)
        have f3 : decide (b < 0) = false := decide_eq_false (by omega)
        have f4 : decide ((n : Int) ≤ b) = false := decide_eq_false (by omega)
        have f5 : (a == b) = false := beq_eq_false_iff_ne.2 h5
        clear hok h1 h2 h3 h4 h5
        go_wp2_with fail
        go_quiet (fail)
        go_wp2
        go_roundg (l.length - (i + 1))
        case measure => omega
        case rel => exact ⟨i + 1, by omega, rfl, by go_num, Lib.hid (ok_next HP.out HV.out HK.out), Lib.hid (pw_below_drewN HB.out _)⟩
      | false =>
        have HK := Lib.hid hok
        have hcs : decide (a < 0) = true ∨ (decide (a < 0) = false ∧ decide (b < 0) = true) ∨ (decide (a < 0) = false ∧ decide (b < 0) = false ∧ decide ((n : Int) ≤ a) = true) ∨ (decide (a < 0) = false ∧ decide (b < 0) = false ∧ decide ((n : Int) ≤ a) = false ∧ decide ((n : Int) ≤ b) = true) ∨ (decide (a < 0) = false ∧ decide (b < 0) = false ∧ decide ((n : Int) ≤ a) = false ∧ decide ((n : Int) ≤ b) = false ∧ (a == b) = true) := by
          have h : (!(decide (a < 0) || decide ((n : Int) ≤ a) || decide (b < 0) || decide ((n : Int) ≤ b) || (a == b))) = false := hok
          revert h
          cases decide (a < 0) <;> cases decide ((n : Int) ≤ a) <;> cases decide (b < 0) <;> cases decide ((n : Int) ≤ b) <;> cases (a == b) <;> simp
        clear hok
        rcases hcs with f1 | ⟨f1, f2⟩ | ⟨f1, f2, f3⟩ | ⟨f1, f2, f3, f4⟩ | ⟨f1, f2, f3, f4, f5⟩
        all_goals go_wp2_with fail
        all_goals go_quiet (fail)
        all_goals go_wp2
        all_goals go_ret2
        all_goals exact ⟨_, _, rfl, .inl ⟨ord_bad HP.out HK.out, rfl, rfl⟩, pw_below_drewN HB.out _⟩
    · have hd : decide (i < l.length) = false := decide_eq_false hlt
      obtain rfl : i = l.length := by omega
      have HV' : Hid (∀ p ∈ l, okp n p = true) := Lib.hid (by have h := HV.out; rwa [List.take_length] at h)
      clear HV
      go_wp2_with (first | ((with_reducible refine gate_dst (N := 71) rfl ?_); refine Kd.R_lit (Kd.int .i64) _ 3 ?hg (N := 71) ?hd (xs := ([] : List Int)) (inner := []) (ok := fun _ => True) (okp := fun _ => True) ?hr ?hp (fun _ hk => hk) trivial (Below.refl _ _) (Nat.le_refl _) (by simp) ?_; (case hd => rfl); (case hg => rfl); (case hr => first | (go_simp; done) | (go_simp; rfl)); (case hp => exact Reps.none _ _); intro v71 w71 ho hb hg_ hnew_; have HG71 := Lib.hid hg_; have HNEW71 := Lib.hid hnew_; clear hg_ hnew_; have HO71 := Lib.hid (Kd.R_lower ho (below_size (by repeat (first | (with_reducible first | exact HB.out | apply below_alloc | apply pw_below_drewN | apply below_drew1) | exact HB.out)))); have HB := Lib.hid (below_step (by repeat (first | (with_reducible first | exact HB.out | apply below_alloc | apply pw_below_drewN | apply below_drew1) | exact HB.out)) hb); clear ho hb) | ((with_reducible refine gate_dst (N := 73) rfl ?_); refine Kd.R_make (Kd.bool) (w0 := w) w.heap.size 4 rfl rfl 81 (.tmp 72) (.tmp 72) rfl ((n : Int)) rfl rfl Try.underlying81 (.bool false) 1 bool_info rfl (by decide) (by decide) false (okp := fun _ => True) (ok := fun _ => True) ?aZ (fun _ h => h) trivial n0 ?aL (by repeat (first | (with_reducible first | exact HB.out | apply below_alloc | apply pw_below_drewN | apply below_drew1) | exact HB.out)) (below_size (by repeat (first | (with_reducible first | exact HB.out | apply below_alloc | apply pw_below_drewN | apply below_drew1) | exact HB.out))) ?_; (case aZ => rfl); (case aL => omega); intro v73 w73 ho hb hg hat; have HG73 := Lib.hid hg; have HAT73 := Lib.hid hat; clear hg hat; have HO73 := Lib.hid ho; have HB := Lib.hid hb; clear ho hb))
      have HU := Lib.hid (Kd.R_grown2 HO71.out rfl HG73.out (fun k hk => by cases hk))
      have HN0 : Hid (v71.ownBlock = none ∨ v71.ownBlock ≠ v73.ownBlock) := Lib.hid (by
        obtain ⟨b1, h1, _⟩ := HNEW71.out
        obtain ⟨b2, h2, h3⟩ := HAT73.out
        have := Kd.R_lt HO71.out b1 h1
        right
        rw [h1, h2]
        intro he
        have : b1 = b2 := by injection he
        omega)
      clear HO71 HG71 HNEW71 HG73 HAT73
      go_loopg [7, 9] n (fun k v7 v9 wr => ∃ (q : Nat) (out : List Int) (done : List Bool) (vo : Value), q ≤ n ∧ k = n - q ∧ v9 = .int .i64 (q : Int) ∧ vo = v7 ∧ Hid (done.length = n) ∧ Hid (out.length = q) ∧ Hid (ord n l = go n l (n - q) done out) ∧ Hid (Kd.R Kd.bool 4 wr w.heap.size (fun _ => True) v73 done) ∧ Hid (Kd.R (Kd.int .i64) 3 wr w.heap.size (fun _ => True) vo out) ∧ Hid (vo.ownBlock = none ∨ vo.ownBlock ≠ v73.ownBlock) ∧ Hid (Below w.heap.size w wr))
      case atStart => exact ⟨0, [], List.replicate n false, _, Nat.zero_le _, rfl, rfl, rfl, Lib.hid (by simp), Lib.hid rfl, Lib.hid (ord_good HV'.out), HO73, HU, HN0, HB⟩
      case round =>
        clear HB HO73 HU HN0
        obtain ⟨q, out, done, vo, hq, rfl, rfl, rfl, HDL, HL, HG, HO, HU, HN, HB⟩ := hrel
        have q0 : (0 : Int) ≤ (q : Int) := Int.natCast_nonneg _
        have q1 : (q : Int) ≤ (n : Int) := by omega
        by_cases hqn : q < n
        · have hd2 : decide (q < n) = true := decide_eq_true hqn
          obtain ⟨g, cp, hv, hg1, hg2, _⟩ := Kd.R_form HO.out (by have := HDL.out; omega)
          rw [HDL.out] at hv
          have how := Kd.own_of_R HO.out
          rw [HDL.out, hv] at how
          subst hv
          have HW := Lib.hid how
          clear how
          obtain ⟨ws, hws⟩ : ∃ ws, ws = wr := ⟨_, rfl⟩
          go_wp2
          go_loopg [10, 11, 12, 13] n (fun k v10 v11 v12 v13 wq => ∃ (j : Nat) (r r11 : Int), j ≤ n ∧ j = k ∧ v11 = .int .i64 r11 ∧ r11 = (j : Int) - 1 ∧ v10 = .int .i64 r ∧ Hid (Seen n done l j r) ∧ wq = ws)
          case atStart => exact ⟨n, -1, (n : Int) - 1, Nat.le_refl _, rfl, rfl, rfl, rfl, Lib.hid (Seen.none_ _ _ _), hws.symm⟩
          case round =>
            subst hws
            obtain ⟨j, r, r11, hj, rfl, rfl, h11, rfl, HSN, rfl⟩ := hrel
            have j0 : (0 : Int) ≤ (j : Int) := Int.natCast_nonneg _
            have j1 : (j : Int) ≤ 200 := by omega
            cases j with
            | zero =>
              obtain rfl : r11 = -1 := by omega
              clear h11
              have hlt := HSN.out.lt
              rcases HSN.out.pick with ⟨i, rfl, hi, hpk⟩ | ⟨rfl, hpk⟩
              · have HPK := Lib.hid hpk
                clear hpk hlt
                have i0 : (0 : Int) ≤ (i : Int) := Int.natCast_nonneg _
                have i1 : (i : Int) < (n : Int) := by omega
                have hcf := own_at_of (enc := Value.bool) (d := false) HW.out (i : Int) i0 i1
                rw [Int.toNat_natCast] at hcf
                obtain ⟨hcell, hfroz⟩ := hcf
                have HS := own_store_of (enc := Value.bool) HW.out (i : Int) true
                rw [Int.toNat_natCast] at HS
                have HO2 := Lib.hid (Kd.R_of_own (enc := Value.bool) (h1 := fun _ => rfl) (e := 4) (base := w.heap.size) (v := .slice (some ⟨g, 0, none⟩) n cp) (xs := done.set i true) (by rw [List.length_set, HDL.out]; exact HS.1) (ok := fun _ => True) (fun _ _ => trivial))
                have HU2 := Lib.hid (Kd.R_grown2 HU.out rfl HS.2 (fun k hk => by rcases HN.out with h | h; (rw [h]; exact fun he => by cases he); (injection hk with hk; subst hk; intro he; apply h; rw [← he]; rfl)))
                have HBs := Lib.hid (show Below w.heap.size w (wr.setCell ⟨g, i, none⟩ (.bool true)) from HB.out.setCell hg1 _)
                have hg4 : Hid (g < wr.heap.size) := Lib.hid hg2
                clear HS HB HO HU
                have HB := HBs
                clear HBs
                go_wp2_with (first | ((with_reducible refine gate_builtin (b := .append) (xs := #[.tmp 121, .tmp 123]) rfl ?_); at_builtin; refine Kd.R_append (Kd.int .i64) (w0 := w) w.heap.size rfl (.tmp 121) (.tmp 123) 24 3 (.int .i64 0) 8 rfl Try.underlying24 info64 rfl (by decide) (by omega) vo out ((i : Int)) [.int .i64 ((i : Int))] (fun _ => True) (fun _ => False) rfl ?aX rfl (fun _ h => h.elim) (fun _ _ => trivial) HU2.out (by repeat (first | (with_reducible first | exact HB.out | apply below_alloc | apply pw_below_drewN | apply below_drew1) | exact HB.out)) (below_size (by repeat (first | (with_reducible first | exact HB.out | apply below_alloc | apply pw_below_drewN | apply below_drew1) | exact HB.out))) ?aL ?_; (case aX => first | rfl | (rw [World.size_setCell]; rfl)); (case aL => have := HL.out; omega); intro v124 w124 ho hb hg hat; have HG124 := Lib.hid hg; have HAT124 := Lib.hid hat; clear hg hat; have HO124 := Lib.hid ho; have HB := Lib.hid hb; clear ho hb))
                go_roundg (n - (q + 1))
                case measure => omega
                case rel =>
                  refine ⟨q + 1, out ++ [(i : Int)], done.set i true, _, by omega, rfl, by go_num, rfl, Lib.hid (by rw [List.length_set]; exact HDL.out), Lib.hid (by rw [List.length_append, HL.out]; rfl), Lib.hid ?_, Lib.hid (Kd.R_grown2 HO2.out rfl HG124.out ?_), HO124, Lib.hid ?_, HB⟩
                  · rw [HG.out, go_some (by omega) HPK.out]; rfl
                  · intro k hk he
                    rcases HN.out with h | h
                    · rw [h] at hk; cases hk
                    · exact h (hk.trans he)
                  · rcases HAT124.out with h | ⟨b, h1, h2⟩
                    · rw [h]; exact HN.out
                    · right
                      rw [h1]
                      intro he
                      have : b = g := by injection he
                      have := hg4.out
                      have hs : (wr.setCell ⟨g, i, none⟩ (.bool true)).heap.size = wr.heap.size := by first | (simp; done) | exact World.setCell_size _ _ _
                      omega
              · go_wp2
                go_ret2
                exact ⟨_, _, rfl, .inl ⟨by rw [HG.out]; exact go_none (by omega) hpk, rfl, rfl⟩, HB.out⟩
            | succ i =>
              obtain rfl : r11 = (i : Int) := by omega
              clear h11
              have i0 : (0 : Int) ≤ (i : Int) := Int.natCast_nonneg _
              have i1 : (i : Int) < (n : Int) := by omega
              have hcf := own_at_of (enc := Value.bool) (d := false) HW.out (i : Int) i0 i1
              have hgb : rdOf false done (i : Int) = gb done i := by unfold rdOf gb; rw [Int.toNat_natCast]
              rw [Int.toNat_natCast, hgb] at hcf
              obtain ⟨hcell, hfroz⟩ := hcf
              have HGB := Lib.hid hgb
              clear hgb
              obtain ⟨ws, hws⟩ : ∃ ws, ws = wr := ⟨_, rfl⟩
              have HF0 := Lib.hid (congrArg Value.bool (free_none (done := done) (l := l) (i := i)).symm)
              go_wp2
              go_loopg [12, 13] l.length (fun k v12 v13 wq => ∃ m : Nat, m ≤ l.length ∧ k = l.length - m ∧ v13 = .int .i64 (m : Int) ∧ v12 = .bool (free done (l.take m) i) ∧ wq = ws)
              case atStart => exact ⟨0, Nat.zero_le _, rfl, rfl, HF0.out, hws.symm⟩
              case round =>
                subst hws
                obtain ⟨m, hm, rfl, rfl, rfl, rfl⟩ := hrel
                by_cases hlt : m < l.length
                · have hd : decide (m < l.length) = true := decide_eq_true hlt
                  have p0 : (0 : Int) ≤ (m : Int) := Int.natCast_nonneg _
                  have p1 : (m : Int) < (l.length : Int) := by omega
                  obtain ⟨⟨a, b⟩, hp⟩ : ∃ p, l[m]? = some p := ⟨_, List.getElem?_eq_getElem hlt⟩
                  have HFN := Lib.hid (free_next (done := done) (i := i) hp)
                  obtain ⟨ad, rfl, x0, x1⟩ := HR.out m (a, b) hp
                  have y0 := (HB.out.cell (World.block_lt_of_cell? w _ x0)).trans x0
                  have y1 := (HB.out.cell (World.block_lt_of_cell? w _ x1)).trans x1
                  obtain ⟨h1, h2, _, _, _⟩ := okp_iff.1 (HV'.out (a, b) (List.mem_of_getElem? hp))
                  simp only at h1 h2
                  clear hp x0 x1
                  have hcf := own_at_of (enc := Value.bool) (d := false) HW.out a h1 h2
                  obtain ⟨hcella, hfroza⟩ := hcf
                  have HGA : Hid (rdOf false done a = gb done a.toNat) := Lib.hid rfl
                  have HFE : Hid (free done (l.take (m + 1)) i = (free done (l.take m) i && !((b == (i : Int)) && !(rdOf false done a)))) := Lib.hid (by rw [HFN.out, HGA.out])
                  clear hcell hfroz
                  generalize rdOf false done a = ba at *
                  generalize free done (l.take m) i = fb at *
                  by_cases hbi : b = (i : Int)
                  · have f1 : (b == (i : Int)) = true := beq_iff_eq.2 hbi
                    have HBI := Lib.hid hbi
                    clear hbi
                    cases ba with
                    | true =>
                      go_wp2
                      go_roundg (l.length - (m + 1))
                      case measure => omega
                      case rel => exact ⟨m + 1, by omega, rfl, by go_num, by rw [HFE.out]; simp, rfl⟩
                    | false =>
                      go_wp2
                      go_roundg (l.length - (m + 1))
                      case measure => omega
                      case rel => exact ⟨m + 1, by omega, rfl, by go_num, by rw [HFE.out, HBI.out]; simp, rfl⟩
                  · have f1 : (b == (i : Int)) = false := beq_eq_false_iff_ne.2 hbi
                    clear hbi
                    go_wp2
                    go_roundg (l.length - (m + 1))
                    case measure => omega
                    case rel => exact ⟨m + 1, by omega, rfl, by go_num, by rw [HFE.out, f1]; simp, rfl⟩
                · have hd : decide (m < l.length) = false := decide_eq_false hlt
                  obtain rfl : m = l.length := by omega
                  have hfx : Hid (free done (l.take l.length) i = free done l i) := Lib.hid (by rw [List.take_length])
                  generalize free done (l.take l.length) i = fb at *
                  cases fb with
                  | true =>
                    have hf : free done l i = true := hfx.out.symm
                    have HSY := Lib.hid (Seen.yes HSN.out (by omega) hf)
                    go_wp2
                    go_roundg i
                    case measure => omega
                    case rel => exact ⟨i, (i : Int), (i : Int) - 1, by omega, rfl, by go_num, rfl, rfl, HSY, rfl⟩
                  | false =>
                    have hf : free done l i = false := hfx.out.symm
                    have HSY := Lib.hid (Seen.no HSN.out hf)
                    go_wp2
                    go_roundg i
                    case measure => omega
                    case rel => exact ⟨i, r, (i : Int) - 1, by omega, rfl, by go_num, rfl, rfl, HSY, rfl⟩
        · have hd2 : decide (q < n) = false := decide_eq_false hqn
          obtain rfl : q = n := by omega
          go_wp2
          go_ret2
          refine ⟨_, _, rfl, .inr ⟨out, ?_, rfl, by have := HL.out; omega, GotI.of_R HU.out⟩, HB.out⟩
          rw [HG.out, Nat.sub_self]; rfl
end Go.Proofs.Ytbmcbhpkefjhbaa.Dsg
