/- dsg.Order. -/
import Derived.Test.YtbmcbhpkefjhbaaDsgMem
set_option linter.unusedVariables false
set_option linter.unusedSimpArgs false
namespace Go.Proofs.Ytbmcbhpkefjhbaa.Dsg
open Go.RowKit Go.Proofs.Ytbmcbhpkefjhbaa.Mem Go.Proofs.YtbmcbhpkefjhbaaW.PrintWords Go.Proofs.YtbmcbhpkefjhbaaW.PrintLast Go.Proofs.YtbmcbhpkefjhbaaW.PrintMore
theorem bool_info : (Try.prog.info? 4).map (fun i => (i.zero, i.size, i.bytes)) = some (some (.bool false), 1, 1) := by kernel_rfl
/-- a row of pairs that is read -/
def RdP (w : World) (A : Option Addr) (l : List (Int × Int)) : Prop := ∀ j p, l[j]? = some p → ∃ ad, A = some ad ∧ w.cell? (ad.add (j * 2)) = some (.int .i64 p.1) ∧ w.cell? ⟨(ad.add (j * 2)).block, (ad.add (j * 2)).off + 1, none⟩ = some (.int .i64 p.2)
theorem RdP.below {w w' : World} {A : Option Addr} {l : List (Int × Int)} (h : RdP w A l) (hb : Below w.heap.size w w') : RdP w' A l := fun j p hj => by
  obtain ⟨ad, e, h1, h2⟩ := h j p hj
  exact ⟨ad, e, (hb.cell (World.block_lt_of_cell? w _ h1)).trans h1, (hb.cell (World.block_lt_of_cell? w _ h2)).trans h2⟩
def GotI (w : World) (v : Value) (l : List Int) : Prop := ∃ A c, v = .slice A l.length c ∧ l.length ≤ c ∧ RdI w A l
theorem GotI.of_R {w : World} {b : Nat} {ok : Nat → Prop} {v : Value} {l : List Int} (h : Kd.R (Kd.int .i64) 3 w b ok v l) : GotI w v l := by
  obtain ⟨A, c, e, hl, hr⟩ := Kd.R_reads h
  exact ⟨A, c, e, hl, hr⟩
theorem go_none {n : Nat} {l : List (Int × Int)} {k : Nat} {done : List Bool} {out : List Int} (hk : 0 < k) (h : pick n done l = none) : go n l k done out = none := by
  obtain ⟨k, rfl⟩ : ∃ j, k = j + 1 := ⟨k - 1, by omega⟩
  show (match pick n done l with | none => none | some i => _) = none
  rw [h]
theorem go_some {n : Nat} {l : List (Int × Int)} {k i : Nat} {done : List Bool} {out : List Int} (hk : 0 < k) (h : pick n done l = some i) : go n l k done out = go n l (k - 1) (done.set i true) (out ++ [(i : Int)]) := by
  obtain ⟨k, rfl⟩ : ∃ j, k = j + 1 := ⟨k - 1, by omega⟩
  show (match pick n done l with | none => none | some i => _) = _
  rw [h]; rfl
/-- what Order hands back -/
def Ordered (n : Nat) (l : List (Int × Int)) (w' : World) (v : Value) (b : Bool) : Prop := (ord n l = none ∧ v = .slice none 0 0 ∧ b = false) ∨ (∃ o, ord n l = some o ∧ b = true ∧ o.length ≤ 200 ∧ GotI w' v o)
def OrdPost (n : Nat) (l : List (Int × Int)) (w : World) (e : Ending) (w' : World) : Prop := ∃ v b, e = .returned (.tuple #[v, .bool b]) ∧ Ordered n l w' v b ∧ Below w.heap.size w w'
set_option maxHeartbeats 2000000 in
set_option maxRecDepth 100000 in
theorem Order_any (A : Option Addr) (c : Nat) (l : List (Int × Int)) (n : Nat) (w : World) (hr : RdP w A l) (hl : l.length ≤ 200) (hn : n ≤ 200) :
    Calls Try.prog 14 #[.int .i64 (n : Int), .slice A l.length c] w fun e w' => OrdPost n l w e w' := by
  have n0 : (0 : Int) ≤ (n : Int) := Int.natCast_nonneg _
  have n1 : (n : Int) ≤ 200 := by omega
  have HB := Lib.hid (Below.refl w.heap.size w)
  have HR := Lib.hid hr
  clear hr
  have e1 : decide ((n : Int) < 0) = false := decide_eq_false (by omega)
  have e2 : decide ((200 : Int) < (n : Int)) = false := decide_eq_false (by omega)
  go_enter Try.func14, Try.ntmps14
  go_wp2_with (first | ((with_reducible refine gate_dst (N := 20) rfl ?_); refine Kd.R_make (Kd.int .i64) (w0 := w) w.heap.size 3 rfl rfl 24 (.tmp 19) (.tmp 19) rfl ((n : Int)) rfl rfl Try.underlying24 (.int .i64 0) 8 info64 rfl (by decide) (by decide) 0 (okp := fun _ => True) (ok := fun _ => True) ?aZ (fun _ h => h) trivial n0 ?aL (by repeat (first | (with_reducible first | exact HB.out | apply below_alloc | apply pw_below_drewN | apply below_drew1) | exact HB.out)) (below_size (by repeat (first | (with_reducible first | exact HB.out | apply below_alloc | apply pw_below_drewN | apply below_drew1) | exact HB.out))) ?_; (case aZ => rfl); (case aL => omega); intro v20 w20 ho hb hg hat; have HG20 := Lib.hid hg; have HAT20 := Lib.hid hat; clear hg hat; have HO20 := Lib.hid ho; have HB := Lib.hid hb; clear ho hb))
  go_loopg [23] l.length (fun k v23 wr => ∃ i : Nat, i ≤ l.length ∧ k = l.length - i ∧ v23 = .int .i64 (i : Int) ∧ Hid (Kd.R (Kd.int .i64) 3 wr w.heap.size (fun _ => True) v20 (incs (l.take i) (List.replicate n 0))) ∧ Hid (∀ p ∈ l.take i, okp n p = true) ∧ Hid (Below w.heap.size w wr))
  case atStart => exact ⟨0, Nat.zero_le _, by omega, rfl, HO20, Lib.hid (fun p hp => by cases hp), HB⟩
  case round =>
    clear HB HO20
    obtain ⟨i, hi, rfl, rfl, HO, HV, HB⟩ := hrel
    by_cases hlt : i < l.length
    · have hd : decide (i < l.length) = true := decide_eq_true hlt
      have p0 : (0 : Int) ≤ (i : Int) := Int.natCast_nonneg _
      have p1 : (i : Int) < (l.length : Int) := by omega
      obtain ⟨⟨a, b⟩, hp⟩ : ∃ p, l[i]? = some p := ⟨_, List.getElem?_eq_getElem hlt⟩
      have HP := Lib.hid hp
      obtain ⟨ad, rfl, x0, x1⟩ := HR.out i (a, b) hp
      have y0 := (HB.out.cell (World.block_lt_of_cell? w _ x0)).trans x0
      have y1 := (HB.out.cell (World.block_lt_of_cell? w _ x1)).trans x1
      clear hp x0 x1
      cases hok : okp n (a, b) with
      | true =>
        have HK := Lib.hid hok
        obtain ⟨h1, h2, h3, h4, h5⟩ := okp_iff.1 hok
        simp only at h1 h2 h3 h4 h5
        have f1 : decide (a < 0) = false := decide_eq_false (by omega)
        have f2 : decide ((n : Int) ≤ a) = false := decide_eq_false (by omega)
        have f3 : decide (b < 0) = false := decide_eq_false (by omega)
        have f4 : decide ((n : Int) ≤ b) = false := decide_eq_false (by omega)
        have f5 : (a == b) = false := beq_eq_false_iff_ne.2 h5
        have hxl : (incs (l.take i) (List.replicate n 0)).length = n := by rw [incs_length, List.length_replicate]
        have hbd := incs_bd (l.take i) n HV.out b.toNat (by omega)
        rw [List.length_take] at hbd
        have HNx := Lib.hid (incs_next HP.out (List.replicate n 0))
        generalize incs (l.take i) (List.replicate n 0) = xs at *
        obtain ⟨g, cp, hv, hg1, hg2, _⟩ := Kd.R_form HO.out (by omega)
        rw [hxl] at hv
        subst hv
        have how := Kd.own_of_R HO.out
        rw [hxl] at how
        have hcf := own_at (xs := xs) (k := .i64) how b h3 h4
        obtain ⟨hcell, hfroz⟩ := hcf
        have HS := Lib.hid (fun x => own_store (xs := xs) (k := .i64) how b x)
        have hrd : Hid (rd xs b = gt xs b.toNat) := Lib.hid rfl
        have z0 : 0 ≤ rd xs b := by rw [hrd.out]; exact hbd.1
        have z1 : rd xs b ≤ 200 := by rw [hrd.out]; omega
        have hxl := Lib.hid hxl
        clear how hok h1 h2 h5 hbd HO
        generalize rd xs b = y at *
        go_wp2
        go_roundg (l.length - (i + 1))
        case measure => omega
        case rel =>
          refine ⟨i + 1, by omega, rfl, by go_num, Lib.hid ?_, Lib.hid (ok_next HP.out HV.out HK.out), Lib.hid (below_alloc (HB.out.setCell hg1 _) _)⟩
          rw [HNx.out]
          unfold inc1
          simp only
          rw [← hrd.out]
          refine Kd.R_alloc (Kd.R_of_own (enc := Value.int .i64) (h1 := fun _ => rfl) ?_ (fun _ _ => trivial)) _
          rw [List.length_set, hxl.out]
          exact (HS.out _).1
      | false =>
        have HK := Lib.hid hok
        have f1 : (decide (a < 0) || decide ((n : Int) ≤ a) || decide (b < 0) || decide ((n : Int) ≤ b) || (a == b)) = true := by
          have h : (!(decide (a < 0) || decide ((n : Int) ≤ a) || decide (b < 0) || decide ((n : Int) ≤ b) || (a == b))) = false := hok
          cases hx : (decide (a < 0) || decide ((n : Int) ≤ a) || decide (b < 0) || decide ((n : Int) ≤ b) || (a == b)) with
          | true => rfl
          | false => rw [hx] at h; exact absurd h (by decide)
        clear hok
        go_wp2
        all_goals go_ret2
        all_goals exact ⟨_, _, rfl, .inl ⟨ord_bad HP.out HK.out, rfl, rfl⟩, (by repeat (first | (with_reducible first | exact HB.out | apply below_alloc | apply pw_below_drewN | apply below_drew1) | exact HB.out))⟩
    · have hd : decide (i < l.length) = false := decide_eq_false hlt
      obtain rfl : i = l.length := by omega
      have HV' : Hid (∀ p ∈ l, okp n p = true) := Lib.hid (by have h := HV.out; rwa [List.take_length] at h)
      have HO' : Hid (Kd.R (Kd.int .i64) 3 wr w.heap.size (fun _ => True) v20 (incs l (List.replicate n 0))) := Lib.hid (by have h := HO.out; rwa [List.take_length] at h)
      clear HV HO
      go_wp2
      go_loopg [9, 63] n (fun k v9 v63 wr => ∃ (q : Nat) (beh out : List Int) (done : List Bool) (vo : Value), q ≤ n ∧ k = n - q ∧ v63 = .int .i64 (q : Int) ∧ vo = v9 ∧ Hid (Inv n l beh done) ∧ Hid (∀ j < n, -(300 * (q : Int) + 1) ≤ gt beh j ∧ gt beh j ≤ 200) ∧ Hid (out.length = q) ∧ Hid (ord n l = go n l (n - q) done out) ∧ Hid (Kd.R (Kd.int .i64) 3 wr w.heap.size (fun _ => True) v20 beh) ∧ Hid (Kd.R (Kd.int .i64) 3 wr w.heap.size (fun _ => True) vo out) ∧ Hid (vo.ownBlock = none ∨ vo.ownBlock ≠ v20.ownBlock) ∧ Hid (Below w.heap.size w wr))
      case atStart =>
        refine ⟨0, _, [], List.replicate n false, _, Nat.zero_le _, rfl, rfl, rfl, Lib.hid (Inv.first l n HV'.out), Lib.hid (fun j hj => ?_), Lib.hid rfl, Lib.hid (ord_good HV'.out), HO', Lib.hid (Kd.R_nil _ _ _ _ _), Lib.hid (.inl rfl), HB⟩
        have := incs_bd l n HV'.out j hj
        omega
      case round =>
        clear HB HO'
        obtain ⟨q, beh, out, done, vo, hq, rfl, rfl, rfl, HI, HD, HL, HG, HO, HU, HN, HB⟩ := hrel
        have q0 : (0 : Int) ≤ (q : Int) := Int.natCast_nonneg _
        have q1 : (q : Int) ≤ (n : Int) := by omega
        by_cases hqn : q < n
        · have hd2 : decide (q < n) = true := decide_eq_true hqn
          have hbl : beh.length = n := HI.out.1
          obtain ⟨g, cp, hv, hg1, hg2, _⟩ := Kd.R_form HO.out (by omega)
          have hrd : RdI wr (some ⟨g, 0, none⟩) beh := (Kd.R_reads' (n := beh.length) (c := cp) (by rw [← hv]; exact HO.out)).2.2
          have IX := Index_any (some ⟨g, 0, none⟩) cp beh wr hrd (by omega)
          rw [hbl] at hv IX
          have IX := Lib.hid IX
          have how := Kd.own_of_R HO.out
          rw [hbl, hv] at how
          subst hv
          have HW := Lib.hid how
          clear how hrd HO
          go_wp2_with fail
          refine IX.out.mono ?_
          rintro e w2 ⟨r, rfl, hz, m, rfl⟩
          have HZ := Lib.hid hz
          rcases pick_of HI.out hz with ⟨i, rfl, hi, hpk, hfr⟩ | ⟨rfl, hpk⟩
          · have HPK := Lib.hid (And.intro hpk hfr)
            clear hz hpk hfr IX
            have hcf := own_at (xs := beh) (k := .i64) HW.out (i : Int) (by omega) (by omega)
            rw [Int.toNat_natCast] at hcf
            obtain ⟨hcell, hfroz⟩ := hcf
            have i0 : (0 : Int) ≤ (i : Int) := Int.natCast_nonneg _
            have i1 : (i : Int) < (n : Int) := by omega
            have HS := Lib.hid (own_store (xs := beh) (k := .i64) HW.out (i : Int) (-1))
            go_wp2
            have HC := HS.out.1
            rw [Int.toNat_natCast] at HC
            have HO := Lib.hid (Kd.R_of_own (enc := Value.int .i64) (h1 := fun _ => rfl) (w := wr.setCell ⟨g, i, none⟩ (.int .i64 (-1))) (e := 3) (base := w.heap.size) (v := .slice (some ⟨g, 0, none⟩) n cp) (xs := beh.set i (-1)) (by rw [List.length_set, hbl]; exact HC) (ok := fun _ => True) (fun _ _ => trivial))
            have hgr := HS.out.2
            rw [Int.toNat_natCast] at hgr
            have HU2 := Lib.hid (Kd.R_grown2 HU.out rfl hgr (fun k hk => by rcases HN.out with h | h; (rw [h]; exact fun he => by cases he); (injection hk with hk; subst hk; intro he; apply h; rw [← he]; rfl)))
            have hsz : (beh.set i (-1)).length = n := by rw [List.length_set, hbl]
            have HD2 : Hid (∀ j < n, -(300 * (q : Int) + 1) ≤ gt (beh.set i (-1)) j ∧ gt (beh.set i (-1)) j ≤ 200) := Lib.hid (fun j hj => by
              by_cases h : j = i
              · subst h
                have : gt (beh.set j (-1)) j = -1 := by unfold gt; simp [List.getD_eq_getElem?_getD, hbl, hj]
                rw [this]; omega
              · have : gt (beh.set i (-1)) j = gt beh j := by unfold gt; simp [List.getD_eq_getElem?_getD, List.getElem?_set, Ne.symm h]
                rw [this]; exact HD.out j hj)
            have HB3 : Hid (Below w.heap.size w (wr.setCell ⟨g, i, none⟩ (.int .i64 (-1)))) := Lib.hid (HB.out.setCell hg1 _)
            have HST : Hid (Inv n l (decs i l (beh.set i (-1))) (done.set i true)) := Lib.hid (Inv.step HV'.out HI.out hi HPK.out.2)
            clear HC hgr HU HD HS HW HI hcell hfroz HZ hbl
            generalize beh.set i (-1) = bx at *
            go_loopg [74] l.length (fun k v74 wq => ∃ m : Nat, m ≤ l.length ∧ k = l.length - m ∧ v74 = .int .i64 (m : Int) ∧ Hid (Kd.R (Kd.int .i64) 3 wq w.heap.size (fun _ => True) (.slice (some ⟨g, 0, none⟩) n cp) (decs i (l.take m) bx)) ∧ Hid (Kd.R (Kd.int .i64) 3 wq w.heap.size (fun _ => True) vo out) ∧ Hid (Below w.heap.size w wq))
            case atStart => exact ⟨0, Nat.zero_le _, rfl, rfl, Lib.hid (by first | exact HO.out | exact Kd.R_drewN HO.out _), Lib.hid (by first | exact HU2.out | exact Kd.R_drewN HU2.out _), Lib.hid (by first | exact HB3.out | exact pw_below_drewN HB3.out _)⟩
            case round =>
              clear HO HU2 HB3 HB
              obtain ⟨m, hm, rfl, rfl, HO, HU2, HB⟩ := hrel
              by_cases hlt : m < l.length
              · have hd : decide (m < l.length) = true := decide_eq_true hlt
                have p0 : (0 : Int) ≤ (m : Int) := Int.natCast_nonneg _
                have p1 : (m : Int) < (l.length : Int) := by omega
                obtain ⟨⟨a, b⟩, hp⟩ : ∃ p, l[m]? = some p := ⟨_, List.getElem?_eq_getElem hlt⟩
                have HP := Lib.hid hp
                obtain ⟨ad, rfl, x0, x1⟩ := HR.out m (a, b) hp
                have y0 := (HB.out.cell (World.block_lt_of_cell? w _ x0)).trans x0
                have y1 := (HB.out.cell (World.block_lt_of_cell? w _ x1)).trans x1
                obtain ⟨_, _, h3, h4, _⟩ := okp_iff.1 (HV'.out (a, b) (List.mem_of_getElem? hp))
                simp only at h3 h4
                clear hp x0 x1
                have hxl : (decs i (l.take m) bx).length = n := by rw [decs_length]; exact hsz
                have HNx := Lib.hid (decs_next HP.out i bx)
                have hbd := decs_bd i (l.take m) n (fun p hp => HV'.out p (List.mem_of_mem_take hp)) b.toNat (by omega) bx hsz
                have hbd2 := HD2.out b.toNat (by omega)
                rw [List.length_take] at hbd
                generalize decs i (l.take m) bx = xs at *
                have how := Kd.own_of_R HO.out
                rw [hxl] at how
                have hcf := own_at (xs := xs) (k := .i64) how b h3 h4
                obtain ⟨hcell, hfroz⟩ := hcf
                have hg3 : g < wr.heap.size := World.block_lt_of_cell? wr _ hcell
                have HS := Lib.hid (own_store (xs := xs) (k := .i64) how b (rd xs b - 1))
                have hrd : Hid (rd xs b = gt xs b.toNat) := Lib.hid rfl
                have z0 : -70000 ≤ rd xs b := by rw [hrd.out]; omega
                have z1 : rd xs b ≤ 200 := by rw [hrd.out]; omega
                have hxl := Lib.hid hxl
                clear how hbd hbd2
                by_cases hai : a = (i : Int)
                · have f1 : (a == (i : Int)) = true := beq_iff_eq.2 hai
                  have HAI := Lib.hid hai
                  clear hai
                  have HO4 := Lib.hid (Kd.R_of_own (enc := Value.int .i64) (h1 := fun _ => rfl) (e := 3) (base := w.heap.size) (v := .slice (some ⟨g, 0, none⟩) n cp) (xs := xs.set b.toNat (rd xs b - 1)) (by rw [List.length_set, hxl.out]; exact HS.out.1) (ok := fun _ => True) (fun _ _ => trivial))
                  have HU4 := Lib.hid (Kd.R_grown2 HU2.out rfl HS.out.2 (fun k hk => by rcases HN.out with h | h; (rw [h]; exact fun he => by cases he); (injection hk with hk; subst hk; intro he; apply h; rw [← he]; rfl)))
                  have HB4 := Lib.hid (show Below w.heap.size w (wr.setCell ⟨g, b.toNat, none⟩ (.int .i64 (rd xs b - 1))) from HB.out.setCell hg1 _)
                  clear HO HU2 HB HS
                  generalize rd xs b = y at *
                  go_wp2
                  go_roundg (l.length - (m + 1))
                  case measure => omega
                  case rel =>
                    refine ⟨m + 1, by omega, rfl, by go_num, Lib.hid ?_, Lib.hid (Kd.R_alloc HU4.out _), Lib.hid (below_alloc HB4.out _)⟩
                    rw [HNx.out]
                    unfold dec1
                    rw [if_pos HAI.out]
                    simp only
                    rw [← hrd.out]
                    exact Kd.R_alloc HO4.out _
                · have f1 : (a == (i : Int)) = false := beq_eq_false_iff_ne.2 hai
                  have HAI := Lib.hid hai
                  clear hai HS hcell hfroz
                  go_wp2
                  go_roundg (l.length - (m + 1))
                  case measure => omega
                  case rel =>
                    refine ⟨m + 1, by omega, rfl, by go_num, Lib.hid ?_, Lib.hid (Kd.R_alloc HU2.out _), Lib.hid (below_alloc HB.out _)⟩
                    rw [HNx.out]
                    unfold dec1
                    rw [if_neg HAI.out]
                    exact Kd.R_alloc HO.out _
              · have hd : decide (m < l.length) = false := decide_eq_false hlt
                obtain rfl : m = l.length := by omega
                have HO5 : Hid (Kd.R (Kd.int .i64) 3 wr w.heap.size (fun _ => True) (.slice (some ⟨g, 0, none⟩) n cp) (decs i l bx)) := Lib.hid (by have h := HO.out; rwa [List.take_length] at h)
                have HD5 : Hid (∀ j < n, -(300 * ((q : Int) + 1) + 1) ≤ gt (decs i l bx) j ∧ gt (decs i l bx) j ≤ 200) := Lib.hid (fun j hj => by
                  have h1 := decs_bd i l n HV'.out j hj bx hsz
                  have h2 := HD2.out j hj
                  omega)
                clear HO
                generalize decs i l bx = by5 at *
                go_wp2_with (first | ((with_reducible refine gate_builtin (b := .append) (xs := #[.tmp 90, .tmp 92]) rfl ?_); at_builtin; refine Kd.R_append (Kd.int .i64) (w0 := w) w.heap.size rfl (.tmp 90) (.tmp 92) 24 3 (.int .i64 0) 8 rfl Try.underlying24 info64 rfl (by decide) (by omega) vo out ((i : Int)) [.int .i64 ((i : Int))] (fun _ => True) (fun _ => False) rfl ?aX rfl (fun _ h => h.elim) (fun _ _ => trivial) HU2.out (by repeat (first | (with_reducible first | exact HB.out | apply below_alloc | apply pw_below_drewN | apply below_drew1) | exact HB.out)) (below_size (by repeat (first | (with_reducible first | exact HB.out | apply below_alloc | apply pw_below_drewN | apply below_drew1) | exact HB.out))) ?aL ?_; (case aX => first | rfl | (rw [World.size_setCell]; rfl)); (case aL => have := HL.out; omega); intro v93 w93 ho hb hg hat; have HG93 := Lib.hid hg; have HAT93 := Lib.hid hat; clear hg hat; have HO93 := Lib.hid ho; have HB := Lib.hid hb; clear ho hb))
                have hg4 : Hid (g < wr.heap.size) := Lib.hid (Kd.R_lt HO5.out g rfl)
                go_roundg (n - (q + 1))
                case measure => omega
                case rel =>
                  refine ⟨q + 1, by5, out ++ [(i : Int)], done.set i true, _, by omega, rfl, by go_num, rfl, HST, Lib.hid (fun j hj => ?_), Lib.hid ?_, Lib.hid ?_, Lib.hid (Kd.R_grown2 HO5.out rfl HG93.out ?_), HO93, Lib.hid ?_, HB⟩
                  · have := HD5.out j hj
                    omega
                  · rw [List.length_append, HL.out]; rfl
                  · rw [HG.out, go_some (by omega) HPK.out.1]; rfl
                  · intro k hk he
                    rcases HN.out with h | h
                    · rw [h] at hk; cases hk
                    · exact h (hk.trans he)
                  · rcases HAT93.out with h | ⟨b, h1, h2⟩
                    · rw [h]; exact HN.out
                    · right
                      rw [h1]
                      intro he
                      have : b = g := by injection he
                      have := hg4.out
                      omega
          · go_wp2
            go_ret2
            exact ⟨_, _, rfl, .inl ⟨by rw [HG.out]; exact go_none (by omega) hpk, rfl, rfl⟩, pw_below_drewN HB.out _⟩
        · have hd2 : decide (q < n) = false := decide_eq_false hqn
          obtain rfl : q = n := by omega
          go_wp2
          go_ret2
          refine ⟨_, _, rfl, .inr ⟨out, ?_, rfl, by have := HL.out; omega, GotI.of_R HU.out⟩, HB.out⟩
          rw [HG.out, Nat.sub_self]; rfl
end Go.Proofs.Ytbmcbhpkefjhbaa.Dsg
