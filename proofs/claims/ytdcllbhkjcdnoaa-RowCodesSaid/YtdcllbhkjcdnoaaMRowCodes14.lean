/- Put together by wip/prune.py out of this claim's texts. -/
import Derived.Deep.LoopGhost
import Derived.Laws.CopyOwn
import Derived.Outline
import Derived.Test.YtdcllbhkjcdnoaaMRowCodes2
import Derived.Test.YtdcllbhkjcdnoaaMRowCodes5
import Derived.Test.YtdcllbhkjcdnoaaMRowCodes7
import Derived.Test.YtdcllbhkjcdnoaaMRowCodes8
import Derived.Test.YtdcllbhkjcdnoaaMRowCodes9
import Derived.Test.YtdcllbhkjcdnoaaMRowCodes13
set_option linter.unusedVariables false
set_option linter.unusedSimpArgs false
namespace Go.Proofs.Ytdcllbhkjcdnoaa.P
open Go.RowKit Go.Proofs.Ytdcllbhkjcdnoaa Go.Proofs.Ytdcllbhkjcdnoaa.Mem Go.Proofs.YtdcllbhkjcdnoaaW.PrintWords Go.Proofs.YtdcllbhkjcdnoaaW.PrintLast Go.Proofs.YtdcllbhkjcdnoaaW.PrintMore
theorem and32 (x : Nat) (h : x < 4294967296) : Go.bits .and .u64 (x : Int) 4294967295 = (x : Int) := by
  rw [Flt.asV x (by omega), show (4294967295 : Int) = ((0xFFFFFFFF#64 : BitVec 64).toNat : Int) from rfl, Flt.and64]
  congr 1
  rw [BitVec.toNat_and]
  rw [show (0xFFFFFFFF#64 : BitVec 64).toNat = 2 ^ 32 - 1 from rfl, Nat.and_two_pow_sub_one_eq_mod]
  simp only [BitVec.toNat_ofNat]
  omega
set_option maxRecDepth 100000 in
theorem Mul64_any (x y : Nat) (hx : x ≤ 1000) (hy : y ≤ 1000) (w : World) : Calls Try.prog 100 #[.int .u64 (x : Int), .int .u64 (y : Int)] w fun e w' => e = .returned (.tuple #[.int .u64 0, .int .u64 ((x * y : Nat) : Int)]) ∧ w = w' := by
  have a1 := and32 x (by omega)
  have a2 := and32 y (by omega)
  have a0 : Go.bits .and .u64 0 4294967295 = 0 := and32 0 (by omega)
  have hz : x * y ≤ 1000000 := Nat.le_trans (Nat.mul_le_mul hx hy) (by decide)
  have s1 : (x : Int) / 4294967296 = 0 := by omega
  have s2 : (y : Int) / 4294967296 = 0 := by omega
  obtain ⟨z, hzz⟩ : ∃ z : Nat, z = x * y := ⟨_, rfl⟩
  have hm : (x : Int) * (y : Int) = (z : Int) := by rw [hzz]; exact (Int.natCast_mul x y).symm
  rw [← hzz] at hz ⊢
  have s3 : (z : Int) / 4294967296 = 0 := by omega
  have s4 : (z : Int) % 18446744073709551616 = z := by omega
  clear hzz
  go_enter Try.func100, Try.ntmps100
  go_wp2
  go_ret2
  exact ⟨rfl, rfl⟩
set_option maxRecDepth 100000 in
theorem Mul_any (x y : Nat) (hx : x ≤ 1000) (hy : y ≤ 1000) (w : World) : Calls Try.prog 93 #[.int .u64 (x : Int), .int .u64 (y : Int)] w fun e w' => e = .returned (.tuple #[.int .u64 0, .int .u64 ((x * y : Nat) : Int)]) ∧ w = w' := by
  have M := Lib.hid (fun w => Mul64_any x y hx hy w)
  generalize ((x * y : Nat) : Int) = z at M ⊢
  go_enter Try.func93, Try.ntmps93
  go_wp2_with (first | (go_at_call 100; refine (M.out _).mono ?_; rintro e w' ⟨rfl, rfl⟩))
  go_ret2
  exact ⟨rfl, rfl⟩
def reps (m : Nat) (l : List Int) : List Int := (List.replicate m l).flatten
theorem reps_len (m : Nat) (l : List Int) : (reps m l).length = m * l.length := by
  unfold reps
  rw [List.length_flatten, List.map_replicate, List.sum_replicate_nat]
theorem reps_add (a b : Nat) (l : List Int) : reps (a + b) l = reps a l ++ reps b l := by
  unfold reps
  rw [← List.replicate_append_replicate, List.flatten_append]
theorem reps_grow (m q : Nat) (l : List Int) (hq : q ≤ m) (r : Nat) (hr : r ≤ (m - q) * l.length) : (reps m l).take (q * l.length + r) = (reps m l).take (q * l.length) ++ (reps m l).take r := by
  have e1 : reps m l = reps q l ++ reps (m - q) l := by rw [← reps_add]; congr 1; omega
  have e2 : reps m l = reps (m - q) l ++ reps q l := by rw [← reps_add]; congr 1; omega
  have h1 : (reps m l).take (q * l.length) = reps q l := by
    rw [e1, ← reps_len q l, List.take_left]
  have h2 : (reps m l).take r = (reps (m - q) l).take r := by
    rw [e2, List.take_append_of_le_length (by rw [reps_len]; exact hr)]
  rw [h1, h2, e1, ← reps_len q l, List.take_length_add_append]
theorem splice_take (L : List Value) (n : Nat) (cs : List Value) (hn : n ≤ L.length) : (splice L n cs).take (n + cs.length) = L.take n ++ cs := by
  have h1 : (L.take n).length = n := by rw [List.length_take]; omega
  unfold splice
  rw [← List.append_assoc]
  rw [List.take_append_of_le_length (by rw [List.length_append, h1]; omega), List.take_of_length_le (by rw [List.length_append, h1]; omega)]
theorem nums_take (k : IntKind) (l : List Int) (n : Nat) : (nums k l).take n = nums k (l.take n) := by unfold nums; rw [List.map_take]
theorem add_block0 (g j : Nat) : (⟨g, 0, none⟩ : Addr).add j = ⟨g, j, none⟩ := by unfold Addr.add; split <;> simp_all
theorem cells_src {W : World} {g : Nat} {full : List Value} {t : TypeId} (h : W.heap[g]? = some (.cells full.toArray t (0, 0))) {n : Nat} {cs : List Value} (hc : full.take n = cs) (j : Nat) (v : Value) (hv : cs[j]? = some v) : W.cell? ((⟨g, 0, none⟩ : Addr).add j) = some v := by
  have h2 : full[j]? = some v := by
    have := hv
    rw [← hc] at this
    have hj := (List.getElem?_eq_some_iff.1 this).1
    rw [List.length_take] at hj
    rw [List.getElem?_take_of_lt (by omega)] at this
    exact this
  rw [add_block0]
  exact (blk_cell h j).trans (by simpa using h2)
theorem copy_run {P : Program} {w w0 : World} {B : Nat} (dT sT ty elem : TypeId) (hu : P.underlying dT = some (.slice elem)) (hsz : (P.info? elem).map (·.size) = some 1)
    (dp sp : Option Addr) (dLen dCap sLen sCap : Nat) (g off : Nat) (cur : List Value) (t : TypeId) (hg : w.heap[g]? = some (.cells cur.toArray t (0, 0))) (cs : List Value) (hn : cs.length = Nat.min sLen dLen)
    (hpos : 0 < cs.length → dp = some ⟨g, off, none⟩ ∧ ∃ ad, sp = some ad ∧ ∀ j v, cs[j]? = some v → w.cell? (ad.add j) = some v)
    (hfit : off + cs.length ≤ cur.length) (h1 : ∀ v ∈ cs, v.oneCell' = true) (hb : Below B w0 w) (hBg : B ≤ g) :
    ∃ w', (Builtin.copy_ #[dT, sT] ty #[.slice dp dLen dCap, .slice sp sLen sCap]).run P w = .ok (goInt cs.length) w' ∧ w'.heap[g]? = some (.cells (splice cur off cs).toArray t (0, 0)) ∧ Below B w0 w' := by
  by_cases h0 : cs.length = 0
  · obtain rfl : cs = [] := List.eq_nil_of_length_eq_zero h0
    exact ⟨w, run_copy_none (P := P) w dT sT ty elem dp sp dLen dCap sLen sCap hu hsz (by simpa using hn.symm), by simpa [splice] using hg, hb⟩
  · obtain ⟨rfl, ad, rfl, hsrc⟩ := hpos (by omega)
    exact ⟨_, run_copy_row (P := P) w dT sT ty elem g off dLen dCap ad sLen sCap cur.toArray t cs hu hsz hg hn hsrc (by simpa using hfit) h1, by simpa [splice] using setRow_heap w g _ _ t _ hg, below_setRow hb hBg _⟩
theorem slice_lo (W : World) (g n cap i : Nat) (hi : i ≤ n) (hc : i < cap) : (Instr.slice 88 (.slice (some ⟨g, 0, none⟩) n cap) (some (.int .i64 (i : Int))) none none).run Try.prog W = .ok (.slice (some ⟨g, i, none⟩) (n - i) (cap - i)) W := by
  obtain ⟨i0, hi0, _, hsz, _⟩ := info_parts Dsg.info64
  have hel : Try.prog.elem 88 = 3 := by simp [Program.elem, Try.underlying88]
  have hu : Try.prog.underlying 88 = some (.slice (Try.prog.elem 88)) := by rw [hel]; exact Try.underlying88
  rw [run_slice_l W 88 (some ⟨g, 0, none⟩) n cap hu .i64 (i : Int) (Int.natCast_nonneg _) (by omega), hel]
  simp [sizeOf, typeInfo, hi0, hsz, sliced, Result.andThen, add_block0, show cap ≠ i by omega]
theorem slice_hi (W : World) (A : Option Addr) (n cap i : Nat) (hi : i ≤ cap) : (Instr.slice 88 (.slice A n cap) none (some (.int .i64 (i : Int))) none).run Try.prog W = .ok (.slice A i cap) W := by
  obtain ⟨i0, hi0, _, hsz, _⟩ := info_parts Dsg.info64
  have hel : Try.prog.elem 88 = 3 := by simp [Program.elem, Try.underlying88]
  have hu : Try.prog.underlying 88 = some (.slice (Try.prog.elem 88)) := by rw [hel]; exact Try.underlying88
  have ha : (A.map fun x => x.add 0) = A := by cases A <;> simp [Addr.add]
  rw [run_slice_h W 88 A n cap hu .i64 (i : Int) (Int.natCast_nonneg _) (by omega), hel]
  simp [sizeOf, typeInfo, hi0, hsz, sliced, Result.andThen, ha]
def Rep9.T : Bool × List (List Nat × List Nat) := (true, [([], []), ([], []), ([], []), ([1, 2], [1, 2]), ([], []), ([], []), ([4, 5], [4, 5]), ([3, 6], [3, 6]), ([0, 7], [0, 7]), ([8, 7, 0, 1, 2, 3, 4, 5, 6, 7, 8], [0, 2, 5, 8])])
def Rep9.B : List Nat := [0, 0, 0, 6, 0, 0, 48, 126, 255, 511]
theorem Rep9.tab : rtab .any (opsOf Try.f74 9) = Rep9.T := by kernel_rfl
theorem Rep9.bits : waitsOk Rep9.T.2 Rep9.B = true := by kernel_rfl
set_option maxRecDepth 100000 in
set_option maxHeartbeats 1000000 in
theorem Repeat_any (A : Option Addr) (c : Nat) (l : List Int) (m : Nat) (w : World) (hr : Kd.C (Kd.int .i64) w A l.length l) (hl : l.length ≤ 1000) (hm : m ≤ 1000) :
    Calls Try.prog 74 #[.slice A l.length c, .int .i64 (m : Int)] w fun e w' => ∃ v, e = .returned v ∧ Kd.R (Kd.int .i64) 3 w' w.heap.size (fun _ => True) v (reps m l) ∧ Below w.heap.size w w' := by
  have HB := Lib.hid (Below.refl w.heap.size w)
  have HR := Lib.hid hr
  clear hr
  have hz : l.length * m ≤ 1000000 := Nat.le_trans (Nat.mul_le_mul hl hm) (by decide)
  have M := fun w => Mul_any l.length m hl hm w
  obtain ⟨z, hzz⟩ : ∃ z : Nat, z = l.length * m := ⟨_, rfl⟩
  simp only [← hzz] at M
  rw [← hzz] at hz
  have HM := Lib.hid M
  have HZ := Lib.hid hzz
  clear hzz M
  have f0 : decide ((m : Int) < 0) = false := decide_eq_false (by omega)
  have f1 : decide ((9223372036854775807 : Int) < (z : Int)) = false := decide_eq_false (by omega)
  have z0 : (0 : Int) ≤ (z : Int) := Int.natCast_nonneg _
  go_enter Try.func74, Try.ntmps74
  go_wp2_with (first | (go_at_call 93; refine (HM.out _).mono ?_; rintro e w' ⟨rfl, rfl⟩) | ((with_reducible refine gate_dst (N := 30) rfl ?_); refine Kd.R_make (Kd.int .i64) (w0 := w) w.heap.size 3 rfl rfl 88 (.tmp 29) (.tmp 29) rfl ((z : Int)) rfl rfl Try.underlying88 (.int .i64 0) 8 Dsg.info64 rfl (by decide) (by decide) 0 (okp := fun _ => True) (ok := fun _ => True) ?aZ (fun _ h => h) trivial z0 ?aL (by repeat (first | (with_reducible first | exact HB.out | apply below_alloc | apply pw_below_drewN | apply below_drew1) | exact HB.out)) (below_size (by repeat (first | (with_reducible first | exact HB.out | apply below_alloc | apply pw_below_drewN | apply below_drew1) | exact HB.out))) ?_; (case aZ => rfl); (case aL => omega); intro v30 w30 ho hb hg hat; have HG30 := Lib.hid hg; have HAT30 := Lib.hid hat; clear hg hat; have HO30 := Lib.hid ho; have HB := Lib.hid hb; clear ho hb))
  obtain ⟨b, hob, hbw⟩ := HAT30.out
  have hown := Kd.own_of_R HO30.out
  have hlz : (List.replicate (z : Int).toNat (0 : Int)).length = z := by rw [List.length_replicate, Int.toNat_natCast]
  rw [hlz] at hown
  obtain ⟨_, hrow⟩ := hown
  rcases hrow with ⟨hn, _⟩ | ⟨g, cap, cur, hv, hb, hh, hnc, hcm, hcs, _⟩
  · rw [hn] at hob; simp [Value.ownBlock] at hob
  subst hv
  have hcz : cur.size = cap := by omega
  clear HAT30 HO30 HG30 hob hbw hlz hcs
  obtain ⟨full, hfull⟩ : ∃ full : List Value, cur = full.toArray := ⟨cur.toList, by simp⟩
  subst hfull
  have hfl : full.length = cap := by simpa using hcz
  have HH := Lib.hid hh
  have HFL := Lib.hid hfl
  clear hcz hh hfl
  obtain ⟨cs, hcs⟩ : ∃ cs, cs = nums .i64 (l.take (min l.length z)) := ⟨_, rfl⟩
  have hcl : cs.length = min l.length z := by rw [hcs]; simp [nums]
  have hsrc : 0 < cs.length → (some (⟨g, 0, none⟩ : Addr)) = some ⟨g, 0, none⟩ ∧ ∃ ad, A = some ad ∧ ∀ j v, cs[j]? = some v → w30.cell? (ad.add j) = some v := by
    intro hp
    refine ⟨rfl, ?_⟩
    obtain ⟨ad, hA, _⟩ := Kd.at_int (Kd.C_below HR.out HB.out) (0 : Int) (by omega) (by omega)
    refine ⟨ad, hA, fun j v hj => ?_⟩
    have hjl := (List.getElem?_eq_some_iff.1 hj).1
    obtain ⟨ad', hA', hc'⟩ := Kd.at_int (Kd.C_below HR.out HB.out) (j : Int) (by omega) (by omega)
    rw [hA] at hA'
    injection hA' with hA'
    subst hA'
    rw [Int.toNat_natCast] at hc'
    rw [hc', ← hj, hcs]
    have hjm : j < min l.length z := by omega
    simp [nums, rd, List.getElem?_take_of_lt hjm, show j < l.length by omega]
  have h1c : ∀ v ∈ cs, v.oneCell' = true := by
    intro v hv
    rw [hcs] at hv
    simp only [nums, List.mem_map] at hv
    obtain ⟨q, _, rfl⟩ := hv
    rfl
  have HCS := Lib.hid hcs
  have HCL := Lib.hid hcl
  clear hcs hcl
  obtain ⟨w33, hrun, HH33', hb33⟩ := copy_run (P := Try.prog) 88 88 3 3 Try.underlying88 (by kernel_rfl) (some ⟨g, 0, none⟩) A z cap l.length c g 0 full 3 HH.out cs (by rw [HCL.out]) hsrc (by rw [HCL.out, HFL.out]; omega) h1c HB.out hb
  have HH33 := Lib.hid HH33'
  have HB33 := Lib.hid hb33
  clear HH33' hb33
  go_wp2
  clear hrun
  have HF33 : Hid ((splice full 0 cs).length = cap) := Lib.hid (by rw [length_splice _ _ _ (by rw [HCL.out, HFL.out]; omega)]; exact HFL.out)
  have HP33 : Hid ((splice full 0 cs).take cs.length = nums .i64 ((reps m l).take cs.length)) := Lib.hid (by
    have h := splice_take full 0 cs (Nat.zero_le _)
    rw [Nat.zero_add] at h
    rw [h, List.take_zero, List.nil_append, HCL.out]
    rw [HCS.out]
    congr 1
    rcases Nat.eq_zero_or_pos m with h0 | hp
    · have : z = 0 := by have := HZ.out; rw [h0, Nat.mul_zero] at this; exact this
      rw [this, Nat.min_zero, List.take_zero, List.take_zero]
    · have e : reps m l = l ++ reps (m - 1) l := by
        have := reps_add 1 (m - 1) l
        rw [show 1 + (m - 1) = m by omega] at this
        rw [this]
        simp [reps]
      rw [e, List.take_append_of_le_length (Nat.min_le_left _ _)])
  have HQ33 : Hid (cs.length ≤ z ∧ ∃ q, cs.length = q * l.length ∧ q ≤ m ∧ (0 < z → 0 < q)) := Lib.hid (by
    rw [HCL.out]
    refine ⟨Nat.min_le_right _ _, ?_⟩
    have hz' := HZ.out
    rcases Nat.eq_zero_or_pos m with h0 | hp
    · rw [h0, Nat.mul_zero] at hz'
      exact ⟨0, by rw [hz']; omega, Nat.zero_le _, fun h => by omega⟩
    · refine ⟨1, ?_, hp, fun _ => by decide⟩
      have : l.length ≤ z := by rw [hz']; exact Nat.le_mul_of_pos_right _ hp
      omega)
  clear HCL HCS hsrc h1c HH HFL
  generalize splice full 0 cs = full1 at HH33 HF33 HP33
  generalize cs.length = n1 at HP33 HQ33 ⊢
  go_loopg [8] (z - n1) (fun k v8 wr => ∃ (i : Nat) (full : List Value), k = z - i ∧ v8 = .int .i64 (i : Int) ∧ Hid (i ≤ z ∧ ∃ q, i = q * l.length ∧ q ≤ m ∧ (0 < z → 0 < q)) ∧ Hid (wr.heap[g]? = some (.cells full.toArray 3 (0, 0))) ∧ Hid (full.length = cap) ∧ Hid (full.take i = nums .i64 ((reps m l).take i)) ∧ Hid (Below w.heap.size w wr))
  case atStart => exact ⟨n1, full1, rfl, rfl, HQ33, HH33, HF33, HP33, HB33⟩
  case round =>
    clear HQ33 HH33 HF33 HP33 HB33 HB
    obtain ⟨i, full, rfl, rfl, HQ, HH, HF, HP, HB⟩ := hrel
    have i0 : (0 : Int) ≤ (i : Int) := Int.natCast_nonneg _
    by_cases hlt : i < z
    · have hd : decide (i < z) = true := decide_eq_true hlt
      have hd' : decide ((i : Int) < (z : Int)) = true := decide_eq_true (by omega)
      have hqz := HQ.out
      have hi0 : 0 < i := by
        obtain ⟨_, q, hq1, hq2, hq3⟩ := hqz
        have hq := hq3 (by omega)
        rcases Nat.eq_zero_or_pos l.length with h0 | hp
        · have := HZ.out; rw [h0, Nat.zero_mul] at this; omega
        · rw [hq1]; exact Nat.mul_pos hq hp
      have hs1 := fun W => slice_lo W g z cap i (by omega) (by omega)
      have hs2 := fun W => slice_hi W (some ⟨g, 0, none⟩) z cap i (by omega)
      obtain ⟨cs, hcs⟩ : ∃ cs, cs = nums .i64 ((reps m l).take (min i (z - i))) := ⟨_, rfl⟩
      have hrl : (reps m l).length = z := by rw [reps_len, HZ.out, Nat.mul_comm]
      have hcl : cs.length = min i (z - i) := by rw [hcs]; simp [nums, hrl]
      have hct : full.take cs.length = cs := by
        rw [hcl, hcs, ← nums_take]
        have := HP.out
        have e : full.take (min i (z - i)) = (full.take i).take (min i (z - i)) := by rw [List.take_take, Nat.min_eq_left (Nat.min_le_left _ _)]
        rw [e]
        rw [this, nums_take, nums_take, List.take_take, Nat.min_eq_left (Nat.min_le_left _ _)]
      have h1c : ∀ v ∈ cs, v.oneCell' = true := by
        intro v hv
        rw [hcs] at hv
        simp only [nums, List.mem_map] at hv
        obtain ⟨q, _, rfl⟩ := hv
        rfl
      have hcl2 : cs.length ≤ z - i ∧ 0 < cs.length := by rw [hcl]; omega
      have HS0 := Lib.hid (fun (wx : World) (h : wx.heap[g]? = some (.cells full.toArray 3 (0, 0))) (hbx : Below w.heap.size w wx) => copy_run (P := Try.prog) 88 88 3 3 Try.underlying88 (by kernel_rfl) (some ⟨g, i, none⟩) (some ⟨g, 0, none⟩) (z - i) (cap - i) i cap g i full 3 h cs (by rw [hcl]) (fun _ => ⟨rfl, _, rfl, cells_src h hct⟩) (by rw [HF.out]; omega) h1c hbx hb)
      have HCT := Lib.hid hct
      have HCSS := Lib.hid hcs
      have HCL := Lib.hid hcl
      have HRL := Lib.hid hrl
      have hwr : wrap64 ((i : Int) + (cs.length : Int)) = ((i + cs.length : Nat) : Int) := by unfold wrap64; omega
      have HCL2 := Lib.hid hcl2
      clear hct hcs hcl hrl h1c hcl2 hqz
      go_wp2
      have HBo := Lib.hid (below_drew1 (Below.refl wr.heap.size wr))
      have HBp := Lib.hid (below_step HB.out HBo.out)
      have HHp : Hid (wr.drew.heap[g]? = some (.cells full.toArray 3 (0, 0))) := Lib.hid HH.out
      clear HBo HB HH
      refine start_ (n := 10) (S := fun _ => True) (ds := []) #[false, false, false, false, false, false, false, false, false, false] (by kernel_rfl) rfl rfl (trivial) (fun hHeld => ?_)
      refine with_tabW Rep9.tab Rep9.bits (fun HT_ HW_ => ?_)
      generalize wr.drew = wD at HBp HHp hHeld ⊢; obtain ⟨w5, hrun, hh5, hb5⟩ := HS0.out wD HHp.out HBp.out; have HH5 := Lib.hid hh5; have HB5 := Lib.hid hb5; clear hh5 hb5
      refine pure_ (i := 0) (N := (some 38)) (v := ?_) (a' := ?_) #[true, false, false, false, false, false, false, false, false, false] rfl rfl (any_of HT_.out (by kernel_rfl)) (fun _ _ _ h => h) (Or.inl ⟨by rfl, ?_⟩) ?_ ?_
      rotate_left
      · intro w'
        go_simp
        with_reducible rfl
      rotate_left
      · simp only [Act.put, List.setIfInBounds_toArray, List.set_cons_zero, List.set_cons_succ, i64_w, i32_w]
        rfl
      refine pure_ (i := 1) (N := (some 39)) (v := ?_) (a' := ?_) #[true, true, false, false, false, false, false, false, false, false] rfl rfl (any_of HT_.out (by kernel_rfl)) (fun _ _ _ h => h) (Or.inl ⟨by rfl, ?_⟩) ?_ ?_
      rotate_left
      · intro w'
        go_simp
        with_reducible rfl
      rotate_left
      · simp only [Act.put, List.setIfInBounds_toArray, List.set_cons_zero, List.set_cons_succ, i64_w, i32_w]
        rfl
      refine pure_ (i := 2) (N := (some 40)) (v := ?_) (a' := ?_) #[true, true, true, false, false, false, false, false, false, false] rfl rfl (any_of HT_.out (by kernel_rfl)) (fun _ _ _ h => h) (Or.inl ⟨by rfl, ?_⟩) ?_ ?_
      rotate_left
      · intro w'
        go_simp
        with_reducible rfl
      rotate_left
      · simp only [Act.put, List.setIfInBounds_toArray, List.set_cons_zero, List.set_cons_succ, i64_w, i32_w]
        rfl
      refine pure_ (i := 3) (N := (some 41)) (v := ?_) (a' := ?_) #[true, true, true, true, false, false, false, false, false, false] rfl rfl (any_of HT_.out (by kernel_rfl)) (fun _ _ _ h => h) (Or.inl ⟨by rfl, ?_⟩) ?_ ?_
      rotate_left
      · intro w'
        go_simp
        with_reducible rfl
      rotate_left
      · simp only [Act.put, List.setIfInBounds_toArray, List.set_cons_zero, List.set_cons_succ, i64_w, i32_w]
        rfl
      refine pure_ (i := 4) (N := (some 42)) (v := ?_) (a' := ?_) #[true, true, true, true, true, false, false, false, false, false] rfl rfl (any_of HT_.out (by kernel_rfl)) (fun _ _ _ h => h) (Or.inl ⟨by rfl, ?_⟩) ?_ ?_
      rotate_left
      · intro w'
        go_simp
        with_reducible rfl
      rotate_left
      · simp only [Act.put, List.setIfInBounds_toArray, List.set_cons_zero, List.set_cons_succ, i64_w, i32_w]
        rfl
      refine pure_ (i := 5) (N := (some 43)) (v := ?_) (a' := ?_) #[true, true, true, true, true, true, false, false, false, false] rfl rfl (any_of HT_.out (by kernel_rfl)) (fun _ _ _ h => h) (Or.inl ⟨by rfl, ?_⟩) ?_ ?_
      rotate_left
      · intro w'
        go_simp
        with_reducible rfl
      rotate_left
      · simp only [Act.put, List.setIfInBounds_toArray, List.set_cons_zero, List.set_cons_succ, i64_w, i32_w]
        rfl
      refine pure_ (i := 6) (N := (some 44)) (v := ?_) (a' := ?_) #[true, true, true, true, true, true, true, false, false, false] rfl rfl (any_of HT_.out (by kernel_rfl)) (fun _ _ _ h => h) (Or.inl ⟨by rfl, ?_⟩) ?_ ?_
      rotate_left
      · intro w'
        go_simp
        with_reducible rfl
      rotate_left
      · simp only [Act.put, List.setIfInBounds_toArray, List.set_cons_zero, List.set_cons_succ, i64_w, i32_w]
        rfl
      refine one_ (i := 7) (N := (some 45)) #[true, true, true, true, true, true, true, true, false, false] rfl rfl (one_of HT_.out (by kernel_rfl)) (by decide) (fun K hK => ?_)
      refine value_ (w1 := ?_) (v := ?_) (by rfl) rfl ?_ ?_
      rotate_left 2
      · go_simp
        constructor
        · rfl
        · rfl
      refine hK.out _ _ (trivial) (fun hHeld => ?_)
      clear hK K
      refine norm_ (a' := ?_) ?_ ?_
      rotate_left
      · show Act.put _ (some 45) _ = _
        simp only [Act.put, List.setIfInBounds_toArray, List.set_cons_zero, List.set_cons_succ, i64_w, i32_w]
        rfl
      clear hrun
      refine pure_ (i := 8) (N := (some 46)) (v := ?_) (a' := ?_) #[true, true, true, true, true, true, true, true, true, false] rfl rfl (any_of HT_.out (by kernel_rfl)) (fun _ _ _ h => h) (Or.inl ⟨by rfl, ?_⟩) ?_ ?_
      rotate_left
      · intro w'
        go_simp
        with_reducible rfl
      rotate_left
      · simp only [Act.put, List.setIfInBounds_toArray, List.set_cons_zero, List.set_cons_succ, i64_w, i32_w]
        rfl
      refine pure_ (i := 9) (N := (some 8)) (v := ?_) (a' := ?_) #[true, true, true, true, true, true, true, true, true, true] rfl rfl (any_of HT_.out (by kernel_rfl)) (fun _ _ _ h => h) (Or.inl ⟨by rfl, ?_⟩) ?_ ?_
      rotate_left
      · intro w'
        go_simp
        with_reducible rfl
      rotate_left
      · simp only [Act.put, List.setIfInBounds_toArray, List.set_cons_zero, List.set_cons_succ, i64_w, i32_w]
        rfl
      refine done_ (done_of HT_.out (by kernel_rfl)) ?_
      go_wp2
      go_roundg (z - (i + cs.length))
      case measure => have := HCL2.out; omega
      case rel =>
        refine ⟨i + cs.length, splice full i cs, rfl, by go_num, Lib.hid ?_, HH5, Lib.hid ?_, Lib.hid ?_, HB5⟩
        · obtain ⟨_, q, hq1, hq2, hq3⟩ := HQ.out
          have h2 := HCL2.out
          have h3 := HCL.out
          refine ⟨by omega, ?_⟩
          rcases Nat.le_total (i + i) z with h | h
          · refine ⟨q + q, by rw [Nat.add_mul, ← hq1]; omega, ?_, fun hz0 => by have := hq3 hz0; omega⟩
            have hz' := HZ.out
            rcases Nat.lt_or_ge m (q + q) with hlt2 | hge
            · exfalso
              have hlp : 0 < l.length := by
                rcases Nat.eq_zero_or_pos l.length with h0 | hp
                · rw [h0, Nat.zero_mul] at hz'; omega
                · exact hp
              have h5 := Nat.mul_lt_mul_of_pos_left hlt2 hlp
              rw [← hz', Nat.mul_comm, Nat.add_mul, ← hq1] at h5
              omega
            · exact hge
          · refine ⟨m, ?_, Nat.le_refl _, fun hz0 => by have := hq3 hz0; omega⟩
            have hz' := HZ.out
            rw [Nat.mul_comm] at hz'
            omega
        · rw [length_splice _ _ _ (by have := HCL2.out; rw [HF.out]; omega)]; exact HF.out
        · rw [splice_take _ _ _ (by rw [HF.out]; omega), HP.out, HCSS.out]
          obtain ⟨_, q, hq1, hq2, hq3⟩ := HQ.out
          rw [show (nums .i64 ((reps m l).take (min i (z - i)))).length = min i (z - i) by have := HCL.out; rw [HCSS.out] at this; exact this]
          rw [← nums_append]
          congr 1
          rw [hq1]
          refine (reps_grow m q l hq2 _ ?_).symm
          have hz' := HZ.out
          rw [Nat.sub_mul, ← hq1, Nat.mul_comm m]
          omega
    · have hd : decide (i < z) = false := decide_eq_false hlt
      have hiz : i = z := by have := HQ.out.1; omega
      have hd' : decide ((i : Int) < (z : Int)) = false := decide_eq_false (by omega)
      have HIZ := Lib.hid hiz
      have hrl : (reps m l).length = z := by rw [reps_len, HZ.out, Nat.mul_comm]
      have HRL := Lib.hid hrl
      clear hiz hrl
      go_wp2
      go_ret
      refine ⟨_, rfl, Kd.R_of_own (h1 := fun _ => rfl) ?_ (fun _ _ => trivial), HB.out⟩
      rw [HRL.out]
      have hp := HP.out
      rw [HIZ.out, List.take_of_length_le (l := reps m l) (by rw [HRL.out]; exact Nat.le_refl _)] at hp
      refine ⟨by simp [encs, HRL.out], .inr ⟨g, cap, full.toArray, rfl, hb, HH.out, hnc, hcm, by simpa using HF.out, ?_⟩⟩
      rw [Nat.mul_one]
      exact hp
def slices_Repeat_int_int.f (l0 : List Int) (a1 : Int) : Option (List Int) := if 0 ≤ a1 ∧ a1 ≤ 1000 ∧ l0.length ≤ 1000 then some (reps a1.toNat l0) else none
theorem slices_Repeat_int_int.calls (A0 : Option Addr) (c0 : Nat) (l0 : List Int) (a1 : Int) (r : List Int) (w : World) (hr0 : Kd.C (Kd.int .i64) w A0 l0.length l0) (hc0 : l0.length ≤ c0) (h : slices_Repeat_int_int.f l0 a1 = some r) :
    Calls Try.prog 74 #[.slice A0 l0.length c0, .int .i64 a1] w fun e w' => ∃ v0_ : Value, e = .returned v0_ ∧ Kd.R (Kd.int .i64) 3 w' w.heap.size (fun _ => True) v0_ r ∧ Below w.heap.size w w' := by
  unfold slices_Repeat_int_int.f at h
  split at h
  · rename_i hx
    injection h with h; subst h
    have := Repeat_any A0 c0 l0 a1.toNat w hr0 hx.2.2 (by omega)
    rw [Int.toNat_of_nonneg hx.1] at this
    exact this
  · cases h
end Go.Proofs.Ytdcllbhkjcdnoaa.P
namespace Go.Proofs.Ytdcllbhkjcdnoaa.P
open Go.RowKit Go.Proofs.YtdcllbhkjcdnoaaW.PrintWords Go.Proofs.YtdcllbhkjcdnoaaW.PrintLast Go.Proofs.YtdcllbhkjcdnoaaW.PrintMore
attribute [local go_sem] max2_int min2_int max_two min_two max_three min_three max_four min_four   -- for this text's walks alone
attribute [local go_sem] run_store_float
set_option linter.unusedVariables false
set_option linter.unusedSimpArgs false
mutual
def row_Decode.j0 : Nat → List Int → List (S86) → Int → Bool → Option (Nat × Bool × List Nat × Int × Int × Int × Int)
  | 0,_,_,_,_ => none
  | k + 1,x0,x4,x5,x34 => if x34 = true then (some (0,false,([] : List Nat),0,0,0,4)) else (if 0 ≤ x5 then (if x5 ≤ (x0.length : Int) then (if 5 < (x4.length : Int) then ((slices_Repeat_int_int.f (([4] : List Int)) ((rd_T86 x4 5).f1)).bind fun t368 => ((pack_Take.f (x0.drop (x5 : Int).toNat) t368).bind fun bt371 => (if 1 < (x4.length : Int) then (if 0 < (x4.length : Int) then (if 2 < (x4.length : Int) then (if 3 < (x4.length : Int) then (if 4 < (x4.length : Int) then (row_Decode.l0 k x0 x5 bt371.2.2 bt371.2.1 bt371.1 (bt371.1.length : Int) 0 ((rd_T86 x4 1).f2) (((rd_T86 x4 0).f1) == 1) ([] : List Nat) ((rd_T86 x4 2).f1) ((rd_T86 x4 3).f1) ((rd_T86 x4 4).f1)) else (none)) else (none)) else (none)) else (none)) else (none)))) else (none)) else (none)) else (none))
def row_Decode.l0 : Nat → List Int → Int → Int → Int → List (S86) → Int → Int → Nat → Bool → List Nat → Int → Int → Int → Option (Nat × Bool × List Nat × Int × Int × Int × Int)
  | 0,_,_,_,_,_,_,_,_,_,_,_,_,_ => none
  | k + 1,x0,x5,x6,x8,x73,x74,x75,x382000,x382001,x382002,x382003,x382004,x382005 => if x75 < x74 then (if 0 ≤ x75 then (if x75 < (x73.length : Int) then (if x382002.length < 17592186044416 then (row_Decode.l0 k x0 x5 x6 x8 x73 x74 (wrap64 (x75 + 1)) x382000 x382001 (x382002 ++ [(rd_T86 x73 x75).f2]) x382003 x382004 x382005) else (none)) else (none)) else (none)) else (if x6 = 0 then (if (wrap64 (x5 + x8)) = (x0.length : Int) then ((row_Check.f k x382000 x382001 x382002 x382003 x382004 x382005).bind fun t387 => (if t387 = 0 then (some (x382000,x382001,x382002,x382003,x382004,x382005,0)) else (some (0,false,([] : List Nat),0,0,0,4)))) else (some (0,false,([] : List Nat),0,0,0,4))) else (some (0,false,([] : List Nat),0,0,0,4)))
end
def row_Decode.f (k : Nat) (l0 : List Int) : Option (Nat × Bool × List Nat × Int × Int × Int × Int):=(row_head.f).bind fun t353 => ((pack_Take.f l0 t353).bind fun bt356 => (if bt356.2.2 = 0 then (if 0 < (bt356.1.length : Int) then (if ((rd_T86 bt356.1 0).f1) > 1 then (row_Decode.j0 k l0 bt356.1 bt356.2.1 true) else (if 5 < (bt356.1.length : Int) then (row_Decode.j0 k l0 bt356.1 bt356.2.1 (decide (((rd_T86 bt356.1 5).f1) > 4))) else (none))) else (none)) else (row_Decode.j0 k l0 bt356.1 bt356.2.1 true)))
def row_Decode.T4 : Bool × List (List Nat × List Nat):=(true,[([],[]),([],[]),([0,1],[0,1]),([],[]),([],[]),([4],[4]),([5],[5]),([6],[6]),([3,7],[3,7]),([2,8,8],[2,8]),([9],[9]),([10],[10]),([10],[10]),([10],[10]),([11,9,0,1,2,3,4,5,6,7,8,9,10,11],[11]),([12,14,0,1,2,3,4,5,6,7,8,9,10,11,12,14],[12]),([13,15,0,1,2,3,4,5,6,7,8,9,10,11,12,13,14,15],[13])])
def row_Decode.B4 : List Nat:=[0,0,3,0,0,16,48,112,248,511,1023,2047,2047,2047,4095,24575,65535]
theorem row_Decode.tab4 : rtab .any (opsOf Try.f35 4) = row_Decode.T4:=by kernel_rfl
theorem row_Decode.bits4 : waitsOk row_Decode.T4.2 row_Decode.B4 = true:=by kernel_rfl
def row_Decode.T5 : Bool × List (List Nat × List Nat):=(true,[([],[]),([0],[0]),([1],[1]),([2],[2]),([],[]),([4],[4]),([5],[5]),([6],[6]),([7],[7]),([],[]),([9],[9]),([10],[10]),([11],[11]),([],[]),([13],[13]),([14],[14]),([15],[15]),([],[]),([17],[17]),([18],[18]),([19],[19]),([16,20],[16,20]),([3,8,12,21],[3,8,12,21]),([],[]),([23,22,0,1,2,3,4,5,6,7,8,9,10,11,12,13,14,15,16,17,18,19,20,21,22,23],[22,23])])
def row_Decode.B5 : List Nat:=[0,1,3,7,0,16,48,112,240,0,512,1536,3584,0,8192,24576,57344,0,131072,393216,917504,2088960,4194303,0,16777215]
theorem row_Decode.tab5 : rtab .any (opsOf Try.f35 5) = row_Decode.T5:=by kernel_rfl
theorem row_Decode.bits5 : waitsOk row_Decode.T5.2 row_Decode.B5 = true:=by kernel_rfl
set_option maxHeartbeats 8000000 in
set_option maxRecDepth 100000 in
theorem row_Decode.calls (k : Nat) (A0 : Option Addr) (c0 : Nat) (l0 : List Int) (r1 : Nat) (r2 : Bool) (r3 : List Nat) (r4 : Int) (r5 : Int) (r6 : Int) (r7 : Int) (w : World) (hr0 : Kd.C (Kd.int .u8) w A0 l0.length l0) (hc0 : l0.length ≤ c0) (h : row_Decode.f k l0 = some (r1,r2,r3,r4,r5,r6,r7)) :
    Calls Try.prog 35 #[.slice A0 l0.length c0] w fun e w' => ∃ v2_ : Value,e = .returned (.tuple #[.agg #[.float .f64 r1,.bool r2,v2_,.int .i64 r4,.int .i64 r5,.int .i64 r6],.int .i64 r7]) ∧ Kd.R Kd.f64 25 w' w.heap.size (fun _ => True) v2_ r3 ∧ Below w.heap.size w w':=by
  have hu30:=Try.underlying30
  have hu28:=Try.underlying28
  have hu86:=Try.underlying86
  have HR0:=Aside0.mk hr0
  have HC0:=Aside0.mk hc0
  clear hr0 hc0
  have HB:=Aside0.mk (Below.refl w.heap.size w)
  have H : ((row_head.f).bind fun t353 => ((pack_Take.f l0 t353).bind fun bt356 => (if bt356.2.2 = 0 then (if 0 < (bt356.1.length : Int) then (if ((rd_T86 bt356.1 0).f1) > 1 then (row_Decode.j0 k l0 bt356.1 bt356.2.1 true) else (if 5 < (bt356.1.length : Int) then (row_Decode.j0 k l0 bt356.1 bt356.2.1 (decide (((rd_T86 bt356.1 5).f1) > 4))) else (none))) else (none)) else (row_Decode.j0 k l0 bt356.1 bt356.2.1 true)))) = some (r1,r2,r3,r4,r5,r6,r7):=h
  clear h
  replace H:=Option.bind_eq_some_iff.mp H
  obtain ⟨t353,A20,H⟩:=H
  replace H : ((pack_Take.f l0 t353).bind fun bt356 => (if bt356.2.2 = 0 then (if 0 < (bt356.1.length : Int) then (if ((rd_T86 bt356.1 0).f1) > 1 then (row_Decode.j0 k l0 bt356.1 bt356.2.1 true) else (if 5 < (bt356.1.length : Int) then (row_Decode.j0 k l0 bt356.1 bt356.2.1 (decide (((rd_T86 bt356.1 5).f1) > 4))) else (none))) else (none)) else (row_Decode.j0 k l0 bt356.1 bt356.2.1 true))) = some (r1,r2,r3,r4,r5,r6,r7):=H
  have A2:=Aside0.mk A20
  clear A20
  replace H:=Option.bind_eq_some_iff.mp H
  obtain ⟨⟨t356,t357,t358⟩,A30,H⟩:=H
  replace H : (if t358 = 0 then (if 0 < (t356.length : Int) then (if ((rd_T86 t356 0).f1) > 1 then (row_Decode.j0 k l0 t356 t357 true) else (if 5 < (t356.length : Int) then (row_Decode.j0 k l0 t356 t357 (decide (((rd_T86 t356 5).f1) > 4))) else (none))) else (none)) else (row_Decode.j0 k l0 t356 t357 true)) = some (r1,r2,r3,r4,r5,r6,r7):=H
  have A3:=Aside0.mk A30
  clear A30
  have HC4:=Aside0.mk H
  clear H
  go_enter Try.func35,Try.ntmps35
  go_upto_region 2 with (first | ((with_reducible refine gate_dst (N:=2) rfl ?_);(try (refine gate_guard (by rfl) ?_;dsimp only));refine box_event ?hg (N:=2) ?hd (cs:=#[.float .f64 0,.bool false,.slice none 0 0,.int .i64 0,.int .i64 0,.int .i64 0]) (t:=30) ?hr ?_;(case hd => rfl);(case hg => rfl);(case hr => first | (go_simp;done) | (go_simp;rfl));intro gb352 hg w5 hbox hb;have n0_:=Aside0.mk (below_step (by repeat (first | (with_reducible first | exact HB.out | apply below_alloc | apply pw_below_drewN | apply below_drew1) | exact HB.out)) hb);have n1_:=Aside0.mk (hbox);have n2_:=Aside0.mk ((by rw [hg];exact (below_size (by repeat (first | (with_reducible first | exact HB.out | apply below_alloc | apply pw_below_drewN | apply below_drew1) | exact HB.out))) : w.heap.size ≤ gb352));have n3_:=Aside0.mk ((by rw [hg];exact (below_size (by repeat (first | (with_reducible first | exact HB.out | apply below_alloc | apply pw_below_drewN | apply below_drew1) | exact HB.out))) : w.heap.size ≤ gb352));clear HB;have HB:=n0_;have BK352:=n1_;have GW352:=n2_;have GE352:=n3_;clear n0_ n1_ n2_ n3_;clear hb hbox hg) | ((with_reducible refine gate_callee (f:=63) rfl ?_);refine goesL_ (some 14) rfl rfl Try.func63 (by kernel_rfl) rfl #[] rfl (by (try simp only [List.map_toArray,List.map_cons,List.map_nil]);first | done | rfl | (simp only [List.length_drop,List.length_take];rfl)) ?_;(with_reducible refine (row_head.calls  t353 _ A2.out).mono ?_);rintro e w6 ⟨v354,rfl,ho0,hb⟩;refine ⟨_,rfl,?_⟩;have n0_:=Aside0.mk (Kd.R_lower ho0 (below_size (by repeat (first | (with_reducible first | exact HB.out | apply below_alloc | apply pw_below_drewN | apply below_drew1 | refine below_set ?_ GE352.out) | exact HB.out))));have n1_:=Aside0.mk (blk_below (g:=gb352) (o:=.cells #[.float .f64 0,.bool false,.slice none 0 0,.int .i64 0,.int .i64 0,.int .i64 0] 30 (0,0)) (by (with_reducible repeat (first | refine blk_drewN ?_ _ | refine blk_drew ?_ | refine blk_alloc ?_ _));exact BK352.out) hb);have n2_:=Aside0.mk (below_step (by repeat (first | (with_reducible first | exact HB.out | apply below_alloc | apply pw_below_drewN | apply below_drew1 | refine below_set ?_ GE352.out) | exact HB.out)) hb);clear BK352;clear HB;have HO355:=n0_;have BK352:=n1_;have HB:=n2_;clear n0_ n1_ n2_;(try clear hb);(try clear hb2);(try clear hk);(try clear hi);(try clear ho0);obtain ⟨Ao7,co7,eo7⟩:=Kd.R_slice HO355.out;subst eo7) | ((with_reducible refine gate_callee (f:=73) rfl ?_);refine goesL_ (some 15) rfl rfl Try.func73 (by kernel_rfl) rfl #[.slice A0 l0.length c0,.slice Ao7 t353.length co7] rfl (by (try simp only [List.map_toArray,List.map_cons,List.map_nil]);first | done | rfl | (simp only [List.length_drop,List.length_take];rfl)) ?_;(with_reducible refine (pack_Take.calls _ _ l0 _ _ t353 t356 t357 t358 _ ?side1 ?side2 ?side3 ?side4 A3.out).mono ?_);(case side1 => repeat (first | exact (Kd.C_below HR0.out HB.out) | (with_reducible refine Kd.C_alloc ?_ _) | (with_reducible refine Kd.C_drewN ?_ _) | (with_reducible refine Kd.C_drew ?_)));(case side2 => exact HC0.out);(case side3 => repeat (first | exact (Kd.R_reads' HO355.out).2.2 | (with_reducible refine Kd.C_alloc ?_ _) | (with_reducible refine Kd.C_drewN ?_ _) | (with_reducible refine Kd.C_drew ?_)));(case side4 => exact (Kd.R_reads' HO355.out).2.1);rintro e w8 ⟨v359,rfl,ho0,hb⟩;refine ⟨_,rfl,?_⟩;have n0_:=Aside0.mk (Kd.R_below (by (with_reducible repeat (first | apply Kd.R_alloc | apply Kd.R_drewN | apply Kd.R_drew));exact HO355.out) hb);have n1_:=Aside0.mk (Kd.R_lower ho0 (below_size (by repeat (first | (with_reducible first | exact HB.out | apply below_alloc | apply pw_below_drewN | apply below_drew1 | refine below_set ?_ GE352.out) | exact HB.out))));have n2_:=Aside0.mk (blk_below (g:=gb352) (o:=.cells #[.float .f64 0,.bool false,.slice none 0 0,.int .i64 0,.int .i64 0,.int .i64 0] 30 (0,0)) (by (with_reducible repeat (first | refine blk_drewN ?_ _ | refine blk_drew ?_ | refine blk_alloc ?_ _));exact BK352.out) hb);have n3_:=Aside0.mk (below_step (by repeat (first | (with_reducible first | exact HB.out | apply below_alloc | apply pw_below_drewN | apply below_drew1 | refine below_set ?_ GE352.out) | exact HB.out)) hb);clear HO355;clear BK352;clear HB;have HO355:=n0_;have HO360:=n1_;have BK352:=n2_;have HB:=n3_;clear n0_ n1_ n2_ n3_;(try clear hb);(try clear hb2);(try clear hk);(try clear hi);(try clear ho0)))
  (try simp only [Act.put,List.setIfInBounds_toArray,List.set_cons_zero,List.set_cons_succ])
  go_cut [34] (fun v34 wc => ∃ (kq : Nat) (x34_3 : Bool),v34 = .bool x34_3 ∧ Aside0 (row_Decode.j0 kq l0 t356 t357 x34_3 = some (r1,r2,r3,r4,r5,r6,r7)) ∧ Aside0 (kq ≤ k) ∧ Aside0 (Kd.R k86 86 wc w.heap.size (fun _ => True) v359 t356) ∧ Aside0 (wc.heap[gb352]? = some (.cells #[.float .f64 0,.bool false,(.slice none 0 0),.int .i64 0,.int .i64 0,.int .i64 0] 30 (0,0))) ∧ Aside0 (Below w.heap.size w wc))
  case first =>
    have H:=HC4.out
    clear HC4
    by_cases c9 : t358 = 0
    · rw [if_pos c9] at H
      have c9b0 : (t358 == 0) = true:=beq_iff_eq.mpr c9
      have c9b1 : (t358 != 0) = false:=bne_eq_false_iff_eq.mpr c9
      clear c9
      (first | rw [c9b0] | (simp only [i64_w,i32_w];rw [c9b0]) | skip)
      by_cases c10 : 0 < (t356.length : Int)
      · rw [if_pos c10] at H
        have c10b0 : decide (0 < (t356.length : Int)) = true:=decide_eq_true c10
        have c10b1 : decide (0 < t356.length) = true:=decide_eq_true (by omega)
        clear c10
        by_cases c11 : ((rd_T86 t356 0).f1) > 1
        · rw [if_pos c11] at H
          have c11b0 : decide (1 < ((rd_T86 t356 0).f1)) = true:=decide_eq_true c11
          clear c11
          have H':=Aside0.mk H
          clear H
          obtain ⟨Ao12,co12,eo12⟩:=Kd.R_slice HO360.out
          subst eo12
          have p361 : 0 ≤ (0 : Int):=(by omega)
          have q361 : 0 < (t356.length : Int):=of_decide_eq_true (by first | (with_reducible assumption) | assumption)
          obtain ⟨ad361,e361,hx361_0,hx361_1,hx361_2,hx361_3⟩:=at_T86 (Kd.R_reads' HO360.out).2.2 0 p361 q361
          cases e361
          have qi361 : (0 < t356.length) = True:=eq_true (by omega)
          (try rw [show ((0 : Int)).toNat = 0 from rfl] at hx361_0)
          (try rw [show 0 * 4 = 0 from rfl] at hx361_0)
          (try rw [Addr.add_zero'] at hx361_0)
          (try rw [show ((0 : Int)).toNat = 0 from rfl] at hx361_1)
          (try rw [show 0 * 4 = 0 from rfl] at hx361_1)
          (try rw [Addr.add_zero'] at hx361_1)
          (try rw [show ((0 : Int)).toNat = 0 from rfl] at hx361_2)
          (try rw [show 0 * 4 = 0 from rfl] at hx361_2)
          (try rw [Addr.add_zero'] at hx361_2)
          (try rw [show ((0 : Int)).toNat = 0 from rfl] at hx361_3)
          (try rw [show 0 * 4 = 0 from rfl] at hx361_3)
          (try rw [Addr.add_zero'] at hx361_3)
          replace p361:=eq_true p361
          replace q361:=eq_true q361
          go_wp2
          go_meet
          case rel => exact ⟨_,(true),(by first | rfl | (simp;done) | (simp [*];done)),H',⟨by first | omega | exact Nat.le_refl _⟩,⟨by (with_reducible repeat (first | apply Kd.R_alloc | apply Kd.R_drewN | apply Kd.R_drew));exact HO360.out⟩,⟨by (with_reducible repeat (first | refine blk_drewN ?_ _ | refine blk_drew ?_ | refine blk_alloc ?_ _));exact BK352.out⟩,⟨by repeat (first | (with_reducible first | exact HB.out | apply below_alloc | apply pw_below_drewN | apply below_drew1 | refine below_set ?_ GE352.out) | exact HB.out)⟩⟩
        · rw [if_neg c11] at H
          have c11b0 : decide (1 < ((rd_T86 t356 0).f1)) = false:=decide_eq_false c11
          clear c11
          by_cases c13 : 5 < (t356.length : Int)
          · rw [if_pos c13] at H
            have c13b0 : decide (5 < (t356.length : Int)) = true:=decide_eq_true c13
            have c13b1 : decide (5 < t356.length) = true:=decide_eq_true (by omega)
            clear c13
            have H':=Aside0.mk H
            clear H
            obtain ⟨Ao14,co14,eo14⟩:=Kd.R_slice HO360.out
            subst eo14
            have p361 : 0 ≤ (0 : Int):=(by omega)
            have q361 : 0 < (t356.length : Int):=of_decide_eq_true (by first | (with_reducible assumption) | assumption)
            obtain ⟨ad361,e361,hx361_0,hx361_1,hx361_2,hx361_3⟩:=at_T86 (Kd.R_reads' HO360.out).2.2 0 p361 q361
            cases e361
            have qi361 : (0 < t356.length) = True:=eq_true (by omega)
            (try rw [show ((0 : Int)).toNat = 0 from rfl] at hx361_0)
            (try rw [show 0 * 4 = 0 from rfl] at hx361_0)
            (try rw [Addr.add_zero'] at hx361_0)
            (try rw [show ((0 : Int)).toNat = 0 from rfl] at hx361_1)
            (try rw [show 0 * 4 = 0 from rfl] at hx361_1)
            (try rw [Addr.add_zero'] at hx361_1)
            (try rw [show ((0 : Int)).toNat = 0 from rfl] at hx361_2)
            (try rw [show 0 * 4 = 0 from rfl] at hx361_2)
            (try rw [Addr.add_zero'] at hx361_2)
            (try rw [show ((0 : Int)).toNat = 0 from rfl] at hx361_3)
            (try rw [show 0 * 4 = 0 from rfl] at hx361_3)
            (try rw [Addr.add_zero'] at hx361_3)
            replace p361:=eq_true p361
            replace q361:=eq_true q361
            have p362 : 0 ≤ (5 : Int):=(by omega)
            have q362 : 5 < (t356.length : Int):=of_decide_eq_true (by first | (with_reducible assumption) | assumption)
            obtain ⟨ad362,e362,hx362_0,hx362_1,hx362_2,hx362_3⟩:=at_T86 (Kd.R_reads' HO360.out).2.2 5 p362 q362
            obtain rfl : ad361 = ad362:=(by injection e362)
            (try simp only [show (5 : Int).toNat = 5 from rfl,Nat.reduceMul,Nat.reduceEqDiff,Go.Addr.add,↓reduceIte] at hx362_0)
            (try simp only [show (5 : Int).toNat = 5 from rfl,Nat.reduceMul,Nat.reduceEqDiff,Go.Addr.add,↓reduceIte] at hx362_1)
            (try simp only [show (5 : Int).toNat = 5 from rfl,Nat.reduceMul,Nat.reduceEqDiff,Go.Addr.add,↓reduceIte] at hx362_2)
            (try simp only [show (5 : Int).toNat = 5 from rfl,Nat.reduceMul,Nat.reduceEqDiff,Go.Addr.add,↓reduceIte] at hx362_3)
            have qi362 : (5 < t356.length) = True:=eq_true (by omega)
            (try rw [show ((5 : Int)).toNat = 5 from rfl] at hx362_0)
            (try rw [show 5 * 4 = 20 from rfl] at hx362_0)
            (try rw [show ((5 : Int)).toNat = 5 from rfl] at hx362_1)
            (try rw [show 5 * 4 = 20 from rfl] at hx362_1)
            (try rw [show ((5 : Int)).toNat = 5 from rfl] at hx362_2)
            (try rw [show 5 * 4 = 20 from rfl] at hx362_2)
            (try rw [show ((5 : Int)).toNat = 5 from rfl] at hx362_3)
            (try rw [show 5 * 4 = 20 from rfl] at hx362_3)
            replace p362:=eq_true p362
            replace q362:=eq_true q362
            go_wp2
            go_meet
            case rel => exact ⟨_,(decide (((rd_T86 t356 5).f1) > 4)),(by first | rfl | (simp;done) | (simp [*];done)),H',⟨by first | omega | exact Nat.le_refl _⟩,⟨by (with_reducible repeat (first | apply Kd.R_alloc | apply Kd.R_drewN | apply Kd.R_drew));exact HO360.out⟩,⟨by (with_reducible repeat (first | refine blk_drewN ?_ _ | refine blk_drew ?_ | refine blk_alloc ?_ _));exact BK352.out⟩,⟨by repeat (first | (with_reducible first | exact HB.out | apply below_alloc | apply pw_below_drewN | apply below_drew1 | refine below_set ?_ GE352.out) | exact HB.out)⟩⟩
          · rw [if_neg c13] at H
            exact absurd H (by simp)
      · rw [if_neg c10] at H
        exact absurd H (by simp)
    · rw [if_neg c9] at H
      have c9b0 : (t358 == 0) = false:=beq_eq_false_iff_ne.mpr c9
      have c9b1 : (t358 != 0) = true:=bne_iff_ne.mpr c9
      (first | rw [c9b0] | (simp only [i64_w,i32_w];rw [c9b0]) | skip)
      have H':=Aside0.mk H
      clear H
      go_wp2
      go_meet
      case rel => exact ⟨_,(true),(by first | rfl | (simp;done) | (simp [*];done)),H',⟨by first | omega | exact Nat.le_refl _⟩,⟨by (with_reducible repeat (first | apply Kd.R_alloc | apply Kd.R_drewN | apply Kd.R_drew));exact HO360.out⟩,⟨by (with_reducible repeat (first | refine blk_drewN ?_ _ | refine blk_drew ?_ | refine blk_alloc ?_ _));exact BK352.out⟩,⟨by repeat (first | (with_reducible first | exact HB.out | apply below_alloc | apply pw_below_drewN | apply below_drew1 | refine below_set ?_ GE352.out) | exact HB.out)⟩⟩
  case rest =>
    clear HC4
    try clear c1
    try clear p2
    try clear c3
    try clear p3
    try clear q3
    try clear hx3
    try clear qi3
    try clear c6
    try clear c7
    try clear c9
    try clear c9b0
    try clear c9b1
    try clear c10
    try clear c10b0
    try clear c10b1
    try clear c11
    try clear c11b0
    try clear c13
    try clear c13b0
    try clear c13b1
    try clear hx361_0
    try clear hx361_1
    try clear hx361_2
    try clear hx361_3
    try clear hx362_0
    try clear hx362_1
    try clear hx362_2
    try clear hx362_3
    try clear p361
    try clear p362
    try clear q361
    try clear q362
    obtain ⟨kq,x34_3,rfl,HA,HJ3,HO_4,BK352,HB⟩:=hcut
    cases kq with
    | zero => exact absurd HA.out (by simp [row_Decode.j0])
    | succ kj3 =>
      have H:=HA.out
      clear HA
      simp only [row_Decode.j0] at H
      by_cases c15 : x34_3 = true
      · subst c15
        have H1 : (some (0,false,([] : List Nat),0,0,0,4)) = some (r1,r2,r3,r4,r5,r6,r7):=by rw [if_pos rfl] at H;exact H
        clear H
        have H:=H1
        clear H1
        simp only [Option.some.injEq,Prod.mk.injEq] at H
        obtain ⟨rfl,rfl,rfl,rfl,rfl,rfl,rfl⟩:=H
        have hcz16_0 : wc.cell? ⟨gb352,0,none⟩ = some (.float .f64 0):=(blk_cell BK352.out 0).trans rfl
        have hcz16_1 : wc.cell? ⟨gb352,1,none⟩ = some (.bool false):=(blk_cell BK352.out 1).trans rfl
        have hcz16_2 : wc.cell? ⟨gb352,2,none⟩ = some (.slice none 0 0):=(blk_cell BK352.out 2).trans rfl
        have hcz16_3 : wc.cell? ⟨gb352,3,none⟩ = some (.int .i64 0):=(blk_cell BK352.out 3).trans rfl
        have hcz16_4 : wc.cell? ⟨gb352,4,none⟩ = some (.int .i64 0):=(blk_cell BK352.out 4).trans rfl
        have hcz16_5 : wc.cell? ⟨gb352,5,none⟩ = some (.int .i64 0):=(blk_cell BK352.out 5).trans rfl
        have hfz16_0:=blk_frozen BK352.out 0
        have hfz16_1:=blk_frozen BK352.out 1
        have hfz16_2:=blk_frozen BK352.out 2
        have hfz16_3:=blk_frozen BK352.out 3
        have hfz16_4:=blk_frozen BK352.out 4
        have hfz16_5:=blk_frozen BK352.out 5
        go_wp2
        refine bodyPost_ret (results_ct rfl _ _ gb352 30 #[.float .f64 0,.bool false,.slice none 0 0,.int .i64 0,.int .i64 0,.int .i64 0] (0,0) _ rfl (by (with_reducible repeat (first | refine blk_drewN ?_ _ | refine blk_drew ?_ | refine blk_alloc ?_ _));refine blk_put (cs:=#[.float .f64 0,.bool false,.slice none 0 0,.int .i64 0,.int .i64 0,.int .i64 0]) ?_ 5 _ rfl;(with_reducible repeat (first | refine blk_drewN ?_ _ | refine blk_drew ?_ | refine blk_alloc ?_ _));refine blk_put (cs:=#[.float .f64 0,.bool false,.slice none 0 0,.int .i64 0,.int .i64 0,.int .i64 0]) ?_ 4 _ rfl;(with_reducible repeat (first | refine blk_drewN ?_ _ | refine blk_drew ?_ | refine blk_alloc ?_ _));refine blk_put (cs:=#[.float .f64 0,.bool false,.slice none 0 0,.int .i64 0,.int .i64 0,.int .i64 0]) ?_ 3 _ rfl;(with_reducible repeat (first | refine blk_drewN ?_ _ | refine blk_drew ?_ | refine blk_alloc ?_ _));refine blk_put (cs:=#[.float .f64 0,.bool false,.slice none 0 0,.int .i64 0,.int .i64 0,.int .i64 0]) ?_ 2 _ rfl;(with_reducible repeat (first | refine blk_drewN ?_ _ | refine blk_drew ?_ | refine blk_alloc ?_ _));refine blk_put (cs:=#[.float .f64 0,.bool false,.slice none 0 0,.int .i64 0,.int .i64 0,.int .i64 0]) ?_ 1 _ rfl;(with_reducible repeat (first | refine blk_drewN ?_ _ | refine blk_drew ?_ | refine blk_alloc ?_ _));refine blk_put (cs:=#[.float .f64 0,.bool false,.slice none 0 0,.int .i64 0,.int .i64 0,.int .i64 0]) ?_ 0 _ rfl;(with_reducible repeat (first | refine blk_drewN ?_ _ | refine blk_drew ?_ | refine blk_alloc ?_ _));exact BK352.out) Try.underlying30 rfl (by kernel_rfl)) rfl ?_
        exact ⟨_,by first | rfl | (simp [errW_none,errW_some] <;> rfl) | (simp [*,errW_none,errW_some] <;> rfl),by first | exact Kd.R_nil _ _ _ _ _ | exact Kd.N_nil _ _ _ _ _ | exact Kd.V_nil _ _ _ _ _ | exact Kd.Q_nil _ _ _ _ _ | exact Kd.S_nil _ _ _ _ _,by repeat (first | (with_reducible first | exact HB.out | apply below_alloc | apply pw_below_drewN | apply below_drew1 | refine below_set ?_ GE352.out) | exact HB.out)⟩
      · replace c15:=Bool.eq_false_iff.mpr c15
        subst c15
        have H1 : (if 0 ≤ t357 then (if t357 ≤ (l0.length : Int) then (if 5 < (t356.length : Int) then ((slices_Repeat_int_int.f (([4] : List Int)) ((rd_T86 t356 5).f1)).bind fun t368 => ((pack_Take.f (l0.drop (t357 : Int).toNat) t368).bind fun bt371 => (if 1 < (t356.length : Int) then (if 0 < (t356.length : Int) then (if 2 < (t356.length : Int) then (if 3 < (t356.length : Int) then (if 4 < (t356.length : Int) then (row_Decode.l0 kj3 l0 t357 bt371.2.2 bt371.2.1 bt371.1 (bt371.1.length : Int) 0 ((rd_T86 t356 1).f2) (((rd_T86 t356 0).f1) == 1) ([] : List Nat) ((rd_T86 t356 2).f1) ((rd_T86 t356 3).f1) ((rd_T86 t356 4).f1)) else (none)) else (none)) else (none)) else (none)) else (none)))) else (none)) else (none)) else (none)) = some (r1,r2,r3,r4,r5,r6,r7):=by rw [if_neg (show ¬ (false = true) by decide)] at H;exact H
        clear H
        have H:=H1
        clear H1
        by_cases c17 : 0 ≤ t357
        · rw [if_pos c17] at H
          have c17b0:=eq_true c17
          have c17b1 : decide (0 ≤ t357) = true:=decide_eq_true c17
          clear c17
          by_cases c18 : t357 ≤ (l0.length : Int)
          · rw [if_pos c18] at H
            have c18b0:=eq_true c18
            have c18b1 : decide (t357 ≤ (l0.length : Int)) = true:=decide_eq_true c18
            clear c18
            obtain ⟨y364,hy364⟩ : ∃ y_ : List Int,y_ = (([4] : List Int)):=⟨_,rfl⟩
            replace H : (if 5 < (t356.length : Int) then ((slices_Repeat_int_int.f y364 ((rd_T86 t356 5).f1)).bind fun t368 => ((pack_Take.f (l0.drop (t357 : Int).toNat) t368).bind fun bt371 => (if 1 < (t356.length : Int) then (if 0 < (t356.length : Int) then (if 2 < (t356.length : Int) then (if 3 < (t356.length : Int) then (if 4 < (t356.length : Int) then (row_Decode.l0 kj3 l0 t357 bt371.2.2 bt371.2.1 bt371.1 (bt371.1.length : Int) 0 ((rd_T86 t356 1).f2) (((rd_T86 t356 0).f1) == 1) ([] : List Nat) ((rd_T86 t356 2).f1) ((rd_T86 t356 3).f1) ((rd_T86 t356 4).f1)) else (none)) else (none)) else (none)) else (none)) else (none)))) else (none)) = some (r1,r2,r3,r4,r5,r6,r7):=by first | (rw [hy364];with_reducible exact H) | (have H2_:=(Option.bind_some _ _).symm.trans H;rw [hy364];with_reducible exact H2_) | (have H2_:=(Option.bind_some _ _).symm.trans H;with_reducible exact H2_) | with_reducible exact H | (rw [hy364];exact H) | exact H
            have Ny364:=Aside0.mk hy364
            clear hy364
            by_cases c19 : 5 < (t356.length : Int)
            · rw [if_pos c19] at H
              have c19b0 : decide (5 < (t356.length : Int)) = true:=decide_eq_true c19
              have c19b1 : decide (5 < t356.length) = true:=decide_eq_true (by omega)
              clear c19
              replace H:=Option.bind_eq_some_iff.mp H
              obtain ⟨t368,A200,H⟩:=H
              replace H : ((pack_Take.f (l0.drop (t357 : Int).toNat) t368).bind fun bt371 => (if 1 < (t356.length : Int) then (if 0 < (t356.length : Int) then (if 2 < (t356.length : Int) then (if 3 < (t356.length : Int) then (if 4 < (t356.length : Int) then (row_Decode.l0 kj3 l0 t357 bt371.2.2 bt371.2.1 bt371.1 (bt371.1.length : Int) 0 ((rd_T86 t356 1).f2) (((rd_T86 t356 0).f1) == 1) ([] : List Nat) ((rd_T86 t356 2).f1) ((rd_T86 t356 3).f1) ((rd_T86 t356 4).f1)) else (none)) else (none)) else (none)) else (none)) else (none))) = some (r1,r2,r3,r4,r5,r6,r7):=H
              have A20:=Aside0.mk A200
              clear A200
              replace H:=Option.bind_eq_some_iff.mp H
              obtain ⟨⟨t371,t372,t373⟩,A210,H⟩:=H
              replace H : (if 1 < (t356.length : Int) then (if 0 < (t356.length : Int) then (if 2 < (t356.length : Int) then (if 3 < (t356.length : Int) then (if 4 < (t356.length : Int) then (row_Decode.l0 kj3 l0 t357 t373 t372 t371 (t371.length : Int) 0 ((rd_T86 t356 1).f2) (((rd_T86 t356 0).f1) == 1) ([] : List Nat) ((rd_T86 t356 2).f1) ((rd_T86 t356 3).f1) ((rd_T86 t356 4).f1)) else (none)) else (none)) else (none)) else (none)) else (none)) = some (r1,r2,r3,r4,r5,r6,r7):=H
              have A21:=Aside0.mk A210
              clear A210
              by_cases c22 : 1 < (t356.length : Int)
              · rw [if_pos c22] at H
                have c22b0 : decide (1 < (t356.length : Int)) = true:=decide_eq_true c22
                have c22b1 : decide (1 < t356.length) = true:=decide_eq_true (by omega)
                clear c22
                by_cases c23 : 0 < (t356.length : Int)
                · rw [if_pos c23] at H
                  have c23b0 : decide (0 < (t356.length : Int)) = true:=decide_eq_true c23
                  have c23b1 : decide (0 < t356.length) = true:=decide_eq_true (by omega)
                  clear c23
                  by_cases c24 : 2 < (t356.length : Int)
                  · rw [if_pos c24] at H
                    have c24b0 : decide (2 < (t356.length : Int)) = true:=decide_eq_true c24
                    have c24b1 : decide (2 < t356.length) = true:=decide_eq_true (by omega)
                    clear c24
                    by_cases c25 : 3 < (t356.length : Int)
                    · rw [if_pos c25] at H
                      have c25b0 : decide (3 < (t356.length : Int)) = true:=decide_eq_true c25
                      have c25b1 : decide (3 < t356.length) = true:=decide_eq_true (by omega)
                      clear c25
                      by_cases c26 : 4 < (t356.length : Int)
                      · rw [if_pos c26] at H
                        have c26b0 : decide (4 < (t356.length : Int)) = true:=decide_eq_true c26
                        have c26b1 : decide (4 < t356.length) = true:=decide_eq_true (by omega)
                        clear c26
                        have H':=Aside0.mk H
                        clear H
                        try go_wp2
                        have n0_:=Aside0.mk (Kd.R_drew HO_4.out)
                        have n1_:=Aside0.mk (blk_drew BK352.out)
                        have n2_:=Aside0.mk (below_drew1 HB.out)
                        clear HO_4
                        clear BK352
                        clear HB
                        have HO_4:=n0_
                        have BK352:=n1_
                        have HB:=n2_
                        clear n0_ n1_ n2_
                        obtain ⟨i028,hi028,_,hsz28,_⟩:=info_parts info5
                        obtain ⟨A28,hcut28,hA28,hC28⟩:=print_drop_of (P:=Try.prog) (Value.int .u8) 0 23 5 .i64 Try.underlying23 hi028 hsz28 A0 c0 l0 t357 (of_decide_eq_true (by first | (with_reducible assumption) | assumption)) (of_decide_eq_true (by first | (with_reducible assumption) | assumption)) HC0.out
                        have HR363:=Aside0.mk (Kd.C_of_reads (h1:=fun _ => rfl) (hA28 _ (Kd.reads_of_C HR0.out)))
                        have HC363:=Aside0.mk hC28
                        clear hA28 hC28 hi028 hsz28
                        obtain ⟨Ao29,co29,eo29⟩:=Kd.R_slice HO_4.out
                        (first | subst eo29 | (injection eo29 with f1_ f2_ f3_;have f4_:=f1_.symm;have f5_:=f3_.symm;clear f1_ f2_ f3_;subst f4_;subst f5_))
                        have p367 : 0 ≤ (5 : Int):=(by omega)
                        have q367 : 5 < (t356.length : Int):=of_decide_eq_true (by first | (with_reducible assumption) | assumption)
                        obtain ⟨ad367,e367,hx367_0,hx367_1,hx367_2,hx367_3⟩:=at_T86 (Kd.R_reads' HO_4.out).2.2 5 p367 q367
                        cases e367
                        (try simp only [show (5 : Int).toNat = 5 from rfl,Nat.reduceMul,Nat.reduceEqDiff,Go.Addr.add,↓reduceIte] at hx367_0)
                        (try simp only [show (5 : Int).toNat = 5 from rfl,Nat.reduceMul,Nat.reduceEqDiff,Go.Addr.add,↓reduceIte] at hx367_1)
                        (try simp only [show (5 : Int).toNat = 5 from rfl,Nat.reduceMul,Nat.reduceEqDiff,Go.Addr.add,↓reduceIte] at hx367_2)
                        (try simp only [show (5 : Int).toNat = 5 from rfl,Nat.reduceMul,Nat.reduceEqDiff,Go.Addr.add,↓reduceIte] at hx367_3)
                        have qi367 : (5 < t356.length) = True:=eq_true (by omega)
                        (try rw [show ((5 : Int)).toNat = 5 from rfl] at hx367_0)
                        (try rw [show 5 * 4 = 20 from rfl] at hx367_0)
                        (try rw [show ((5 : Int)).toNat = 5 from rfl] at hx367_1)
                        (try rw [show 5 * 4 = 20 from rfl] at hx367_1)
                        (try rw [show ((5 : Int)).toNat = 5 from rfl] at hx367_2)
                        (try rw [show 5 * 4 = 20 from rfl] at hx367_2)
                        (try rw [show ((5 : Int)).toNat = 5 from rfl] at hx367_3)
                        (try rw [show 5 * 4 = 20 from rfl] at hx367_3)
                        replace p367:=eq_true p367
                        replace q367:=eq_true q367
                        refine start_ (n:=17) (S:=fun w' => w'.cell? ⟨ad367.block,ad367.off + 20,none⟩ = some (.int .i64 ((rd_T86 t356 5).f0)) ∧ w'.cell? ⟨ad367.block,ad367.off + 20 + 1,none⟩ = some (.int .i64 ((rd_T86 t356 5).f1)) ∧ w'.cell? ⟨ad367.block,ad367.off + 20 + 2,none⟩ = some (.float .f64 ((rd_T86 t356 5).f2)) ∧ w'.cell? ⟨ad367.block,ad367.off + 20 + 3,none⟩ = some (.string ((rd_T86 t356 5).f3))) (ds:=[8,9]) #[false,false,false,false,false,false,false,false,false,false,false,false,false,false,false,false,false] (by kernel_rfl) rfl rfl ⟨hx367_0,hx367_1,hx367_2,hx367_3⟩ (fun hHeld => ?_);refine with_tabW row_Decode.tab4 row_Decode.bits4 (fun HT_ HW_ => ?_)
                        generalize wc.drew = w27 at HO_4 BK352 HB HR363 hx367_0 hx367_1 hx367_2 hx367_3 hHeld ⊢
                        refine pure_ (i:=0) (N:=some 37) (v:=?_) (a':=?_) #[true,false,false,false,false,false,false,false,false,false,false,false,false,false,false,false,false] rfl rfl (any_of HT_.out (by kernel_rfl)) (fun _ _ _ h => h) (Or.inl ⟨by rfl,?_⟩) ?_ ?_
                        rotate_left
                        · intro w'
                          go_simp
                          with_reducible rfl
                        rotate_left
                        · simp only [Act.put,List.setIfInBounds_toArray,List.set_cons_zero,List.set_cons_succ,i64_w,i32_w]
                          rfl
                        refine pure_ (i:=1) (N:=some 38) (v:=?_) (a':=?_) #[true,true,false,false,false,false,false,false,false,false,false,false,false,false,false,false,false] rfl rfl (any_of HT_.out (by kernel_rfl)) (fun _ _ _ h => h) (Or.inl ⟨by rfl,?_⟩) ?_ ?_
                        rotate_left
                        · intro w'
                          go_simp
                          with_reducible rfl
                        rotate_left
                        · simp only [Act.put,List.setIfInBounds_toArray,List.set_cons_zero,List.set_cons_succ,i64_w,i32_w]
                          rfl
                        refine pure_ (i:=2) (N:=some 39) (v:=?_) (a':=?_) #[true,true,true,false,false,false,false,false,false,false,false,false,false,false,false,false,false] rfl rfl (any_of HT_.out (by kernel_rfl)) (fun _ _ _ h => h) (Or.inl ⟨by rfl,?_⟩) ?_ ?_
                        rotate_left
                        · intro w'
                          go_simp
                          with_reducible rfl
                        rotate_left
                        · simp only [Act.put,List.setIfInBounds_toArray,List.set_cons_zero,List.set_cons_succ,i64_w,i32_w]
                          rfl
                        refine pure_ (i:=4) (N:=some 41) (v:=?_) (a':=?_) #[true,true,true,false,true,false,false,false,false,false,false,false,false,false,false,false,false] rfl rfl (any_of HT_.out (by kernel_rfl)) (fun _ _ _ h => h) (Or.inl ⟨by rfl,?_⟩) ?_ ?_
                        rotate_left
                        · intro w'
                          go_simp
                          with_reducible rfl
                        rotate_left
                        · simp only [Act.put,List.setIfInBounds_toArray,List.set_cons_zero,List.set_cons_succ,i64_w,i32_w]
                          rfl
                        refine pure_ (i:=5) (N:=some 42) (v:=?_) (a':=?_) #[true,true,true,false,true,true,false,false,false,false,false,false,false,false,false,false,false] rfl rfl (any_of HT_.out (by kernel_rfl)) (fun _ _ _ h => h) (Or.inl ⟨by rfl,?_⟩) ?_ ?_
                        rotate_left
                        · intro w'
                          go_simp
                          with_reducible rfl
                        rotate_left
                        · simp only [Act.put,List.setIfInBounds_toArray,List.set_cons_zero,List.set_cons_succ,i64_w,i32_w]
                          rfl
                        refine pure_ (i:=6) (N:=some 43) (v:=?_) (a':=?_) #[true,true,true,false,true,true,true,false,false,false,false,false,false,false,false,false,false] rfl rfl (any_of HT_.out (by kernel_rfl)) (fun _ _ _ h => h) (Or.inl ⟨by rfl,?_⟩) ?_ ?_
                        rotate_left
                        · intro w'
                          go_simp
                          with_reducible rfl
                        rotate_left
                        · simp only [Act.put,List.setIfInBounds_toArray,List.set_cons_zero,List.set_cons_succ,i64_w,i32_w]
                          rfl
                        refine take_ (i:=7) (N:=some 44) (v:=?_) (a':=?_) #[true,true,true,false,true,true,true,true,false,false,false,false,false,false,false,false,false] rfl rfl (take_ofW HT_.out HW_.out (by kernel_rfl)) (fun _ _ _ h => h) (Or.inl ⟨by rfl,?_⟩) hHeld ?_ ?_
                        rotate_left
                        · rintro w' ⟨s0,s1,s2,s3⟩
                          go_simp
                          with_reducible rfl
                        rotate_left
                        · simp only [Act.put,List.setIfInBounds_toArray,List.set_cons_zero,List.set_cons_succ,i64_w,i32_w]
                          rfl
                        refine one_ (i:=3) (N:=some 40) #[true,true,true,true,true,true,true,true,false,false,false,false,false,false,false,false,false] rfl rfl (one_of HT_.out (by kernel_rfl)) (by decide) (fun K hK => ?_)
                        refine Kd.R_lit_step (Kd.int .i64) _ 3 ?hg (N:=40) ?hd (xs:=([4] : List Int)) (inner:=[.int .i64 4]) (ok:=fun _ => True) (okp:=fun _ => True) ?hr ?hp (fun _ hk => hk) trivial (Below.refl _ _) (Nat.le_refl _) (by simp) ?_;(case hd => rfl);(case hg => rfl);(case hr => first | (go_simp;done) | (go_simp;rfl));(case hp => exact (Reps.one (show Kd.M (Kd.int .i64) _ _ _ 4 [.int .i64 4] from rfl) (Reps.none _ _)))
                        intro v365 w30 ho31 hb hg_ hnew_
                        have HS0_:=(hb.cell (World.block_lt_of_cell? _ _ (hHeld.1))).trans (hHeld.1)
                        have HS1_:=(hb.cell (World.block_lt_of_cell? _ _ (hHeld.2.1))).trans (hHeld.2.1)
                        have HS2_:=(hb.cell (World.block_lt_of_cell? _ _ (hHeld.2.2.1))).trans (hHeld.2.2.1)
                        have HS3_:=(hb.cell (World.block_lt_of_cell? _ _ (hHeld.2.2.2))).trans (hHeld.2.2.2)
                        clear hg_ hnew_
                        (first | rw [← Ny364.out] at ho31 | (simp only [Int.reduceToNat] at ho31;rw [← Ny364.out] at ho31))
                        have n0_:=Aside0.mk (Kd.R_below (by (with_reducible repeat (first | apply Kd.R_alloc | apply Kd.R_drewN | apply Kd.R_drew));exact HO_4.out) hb)
                        have n1_:=Aside0.mk (Kd.R_lower ho31 (below_size (by repeat (first | (with_reducible first | exact HB.out | apply below_alloc | apply pw_below_drewN | apply below_drew1 | refine below_set ?_ GE352.out) | exact HB.out))))
                        have n2_:=Aside0.mk (blk_below (g:=gb352) (o:=.cells #[.float .f64 0,.bool false,.slice none 0 0,.int .i64 0,.int .i64 0,.int .i64 0] 30 (0,0)) (by (with_reducible repeat (first | refine blk_drewN ?_ _ | refine blk_drew ?_ | refine blk_alloc ?_ _));exact BK352.out) hb)
                        have n3_:=Aside0.mk (below_step (by repeat (first | (with_reducible first | exact HB.out | apply below_alloc | apply pw_below_drewN | apply below_drew1 | refine below_set ?_ GE352.out) | exact HB.out)) hb)
                        clear HO_4
                        clear BK352
                        clear HB
                        have HO_4:=n0_
                        have HO366:=n1_
                        have BK352:=n2_
                        have HB:=n3_
                        clear n0_ n1_ n2_ n3_
                        clear hb ho31
                        obtain ⟨Ao32,co32,eo32⟩:=Kd.R_slice HO366.out
                        (first | subst eo32 | (injection eo32 with f1_ f2_ f3_;have f4_:=f1_.symm;have f5_:=f3_.symm;clear f1_ f2_ f3_;subst f4_;subst f5_))
                        refine hK.out _ _ ⟨HS0_,HS1_,HS2_,HS3_⟩ (fun hHeld => ?_)
                        clear hK K
                        refine norm_ (a':=?_) ?_ ?_
                        rotate_left
                        · show Act.put _ (some 40) _ = _
                          simp only [Act.put,List.setIfInBounds_toArray,List.set_cons_zero,List.set_cons_succ,i64_w,i32_w]
                          rfl
                        refine last_ (i:=8) (N:=some 45) #[true,true,true,true,true,true,true,true,true,false,false,false,false,false,false,false,false] rfl rfl (one_of HT_.out (by kernel_rfl)) (by decide) (fun K hK => ?_)
                        refine goes_ Try.func74 (by kernel_rfl) rfl #[.slice Ao32 y364.length co32,.int .i64 ((rd_T86 t356 5).f1)] (by rfl) rfl rfl (by (try simp only [List.map_toArray,List.map_cons,List.map_nil]);first | done | rfl | (simp only [List.length_drop,List.length_take];rfl)) ?_
                        with_reducible refine (slices_Repeat_int_int.calls _ _ y364 ((rd_T86 t356 5).f1) t368 _ ?side1 ?side2 A20.out).mono ?_
                        (case side1 => repeat (first | exact (Kd.R_reads' HO366.out).2.2 | (with_reducible refine Kd.C_alloc ?_ _) | (with_reducible refine Kd.C_drewN ?_ _) | (with_reducible refine Kd.C_drew ?_)))
                        (case side2 => exact (Kd.R_reads' HO366.out).2.1)
                        rintro e w33 ⟨v369,rfl,ho0,hb⟩
                        refine ⟨_,rfl,?_⟩
                        have n0_:=Aside0.mk (Kd.R_below (by (with_reducible repeat (first | apply Kd.R_alloc | apply Kd.R_drewN | apply Kd.R_drew));exact HO_4.out) hb)
                        have n1_:=Aside0.mk (Kd.R_elder' (by (with_reducible repeat (first | apply Kd.R_alloc | apply Kd.R_drewN | apply Kd.R_drew));exact HO366.out) (Kd.R_base ho0) hb)
                        have n2_:=Aside0.mk (Kd.R_lower (Kd.R_new' ho0 (Kd.R_lt (by (with_reducible repeat (first | apply Kd.R_alloc | apply Kd.R_drewN | apply Kd.R_drew));exact HO366.out))) (below_size (by repeat (first | (with_reducible first | exact HB.out | apply below_alloc | apply pw_below_drewN | apply below_drew1 | refine below_set ?_ GE352.out) | exact HB.out))))
                        have n3_:=Aside0.mk (blk_below (g:=gb352) (o:=.cells #[.float .f64 0,.bool false,.slice none 0 0,.int .i64 0,.int .i64 0,.int .i64 0] 30 (0,0)) (by (with_reducible repeat (first | refine blk_drewN ?_ _ | refine blk_drew ?_ | refine blk_alloc ?_ _));exact BK352.out) hb)
                        have n4_:=Aside0.mk (below_step (by repeat (first | (with_reducible first | exact HB.out | apply below_alloc | apply pw_below_drewN | apply below_drew1 | refine below_set ?_ GE352.out) | exact HB.out)) hb)
                        clear HO_4
                        clear HO366
                        clear BK352
                        clear HB
                        have HO_4:=n0_
                        have HO366:=n1_
                        have HO370:=n2_
                        have BK352:=n3_
                        have HB:=n4_
                        clear n0_ n1_ n2_ n3_ n4_
                        (try clear hb)
                        (try clear hb2)
                        (try clear hk)
                        (try clear hi)
                        (try clear ho0)
                        obtain ⟨Ao34,co34,eo34⟩:=Kd.R_slice HO370.out
                        (first | subst eo34 | (injection eo34 with f1_ f2_ f3_;have f4_:=f1_.symm;have f5_:=f3_.symm;clear f1_ f2_ f3_;subst f4_;subst f5_))
                        refine hK.out _ _ ?_
                        clear hK K
                        refine norm_ (a':=?_) ?_ ?_
                        rotate_left
                        · show Act.put _ (some 45) _ = _
                          simp only [Act.put,List.setIfInBounds_toArray,List.set_cons_zero,List.set_cons_succ,i64_w,i32_w]
                          rfl
                        refine last_ (i:=9) (N:=some 46) #[true,true,true,true,true,true,true,true,true,true,false,false,false,false,false,false,false] rfl rfl (one_of HT_.out (by kernel_rfl)) (by decide) (fun K hK => ?_)
                        refine goes_ Try.func73 (by kernel_rfl) rfl #[.slice A28 (l0.drop (t357 : Int).toNat).length (c0 - t357.toNat),.slice Ao34 t368.length co34] (by rfl) rfl rfl (by (try simp only [List.map_toArray,List.map_cons,List.map_nil]);first | done | (rw [show (l0.drop (t357 : Int).toNat).length = (l0.length - t357.toNat) from List.length_drop] <;> rfl) | rfl | (simp only [List.length_drop,List.length_take];rfl)) ?_
                        with_reducible refine (pack_Take.calls _ _ (l0.drop (t357 : Int).toNat) _ _ t368 t371 t372 t373 _ ?side1 ?side2 ?side3 ?side4 A21.out).mono ?_
                        (case side1 => repeat (first | exact (Kd.C_below HR363.out HB.out) | (with_reducible refine Kd.C_alloc ?_ _) | (with_reducible refine Kd.C_drewN ?_ _) | (with_reducible refine Kd.C_drew ?_)))
                        (case side2 => exact HC363.out)
                        (case side3 => repeat (first | exact (Kd.R_reads' HO370.out).2.2 | (with_reducible refine Kd.C_alloc ?_ _) | (with_reducible refine Kd.C_drewN ?_ _) | (with_reducible refine Kd.C_drew ?_)))
                        (case side4 => exact (Kd.R_reads' HO370.out).2.1)
                        rintro e w35 ⟨v374,rfl,ho0,hb⟩
                        refine ⟨_,rfl,?_⟩
                        have n0_:=Aside0.mk (Kd.R_elder' (by (with_reducible repeat (first | apply Kd.R_alloc | apply Kd.R_drewN | apply Kd.R_drew));exact HO_4.out) (Kd.R_base ho0) hb)
                        have n1_:=Aside0.mk (Kd.R_below (by (with_reducible repeat (first | apply Kd.R_alloc | apply Kd.R_drewN | apply Kd.R_drew));exact HO366.out) hb)
                        have n2_:=Aside0.mk (Kd.R_below (by (with_reducible repeat (first | apply Kd.R_alloc | apply Kd.R_drewN | apply Kd.R_drew));exact HO370.out) hb)
                        have n3_:=Aside0.mk (Kd.R_lower (Kd.R_new' ho0 (Kd.R_lt (by (with_reducible repeat (first | apply Kd.R_alloc | apply Kd.R_drewN | apply Kd.R_drew));exact HO_4.out))) (below_size (by repeat (first | (with_reducible first | exact HB.out | apply below_alloc | apply pw_below_drewN | apply below_drew1 | refine below_set ?_ GE352.out) | exact HB.out))))
                        have n4_:=Aside0.mk (blk_below (g:=gb352) (o:=.cells #[.float .f64 0,.bool false,.slice none 0 0,.int .i64 0,.int .i64 0,.int .i64 0] 30 (0,0)) (by (with_reducible repeat (first | refine blk_drewN ?_ _ | refine blk_drew ?_ | refine blk_alloc ?_ _));exact BK352.out) hb)
                        have n5_:=Aside0.mk (below_step (by repeat (first | (with_reducible first | exact HB.out | apply below_alloc | apply pw_below_drewN | apply below_drew1 | refine below_set ?_ GE352.out) | exact HB.out)) hb)
                        clear HO_4
                        clear HO366
                        clear HO370
                        clear BK352
                        clear HB
                        have HO_4:=n0_
                        have HO366:=n1_
                        have HO370:=n2_
                        have HO375:=n3_
                        have BK352:=n4_
                        have HB:=n5_
                        clear n0_ n1_ n2_ n3_ n4_ n5_
                        (try clear hb)
                        (try clear hb2)
                        (try clear hk)
                        (try clear hi)
                        (try clear ho0)
                        refine hK.out _ _ ?_
                        clear hK K
                        refine norm_ (a':=?_) ?_ ?_
                        rotate_left
                        · show Act.put _ (some 46) _ = _
                          simp only [Act.put,List.setIfInBounds_toArray,List.set_cons_zero,List.set_cons_succ,i64_w,i32_w]
                          rfl
                        refine pure_ (i:=10) (N:=some 36) (v:=?_) (a':=?_) #[true,true,true,true,true,true,true,true,true,true,true,false,false,false,false,false,false] rfl rfl (any_of HT_.out (by kernel_rfl)) (fun _ _ _ h => h) (Or.inl ⟨by rfl,?_⟩) ?_ ?_
                        rotate_left
                        · intro w'
                          go_simp
                          with_reducible rfl
                        rotate_left
                        · simp only [Act.put,List.setIfInBounds_toArray,List.set_cons_zero,List.set_cons_succ,i64_w,i32_w]
                          rfl
                        refine pure_ (i:=11) (N:=some 47) (v:=?_) (a':=?_) #[true,true,true,true,true,true,true,true,true,true,true,true,false,false,false,false,false] rfl rfl (any_of HT_.out (by kernel_rfl)) (fun _ _ _ h => h) (Or.inl ⟨by rfl,?_⟩) ?_ ?_
                        rotate_left
                        · intro w'
                          go_simp
                          with_reducible rfl
                        rotate_left
                        · simp only [Act.put,List.setIfInBounds_toArray,List.set_cons_zero,List.set_cons_succ,i64_w,i32_w]
                          rfl
                        refine pure_ (i:=12) (N:=some 48) (v:=?_) (a':=?_) #[true,true,true,true,true,true,true,true,true,true,true,true,true,false,false,false,false] rfl rfl (any_of HT_.out (by kernel_rfl)) (fun _ _ _ h => h) (Or.inl ⟨by rfl,?_⟩) ?_ ?_
                        rotate_left
                        · intro w'
                          go_simp
                          with_reducible rfl
                        rotate_left
                        · simp only [Act.put,List.setIfInBounds_toArray,List.set_cons_zero,List.set_cons_succ,i64_w,i32_w]
                          rfl
                        refine pure_ (i:=13) (N:=some 49) (v:=?_) (a':=?_) #[true,true,true,true,true,true,true,true,true,true,true,true,true,true,false,false,false] rfl rfl (any_of HT_.out (by kernel_rfl)) (fun _ _ _ h => h) (Or.inl ⟨by rfl,?_⟩) ?_ ?_
                        rotate_left
                        · intro w'
                          go_simp
                          with_reducible rfl
                        rotate_left
                        · simp only [Act.put,List.setIfInBounds_toArray,List.set_cons_zero,List.set_cons_succ,i64_w,i32_w]
                          rfl
                        refine pure_ (i:=14) (N:=some 7) (v:=?_) (a':=?_) #[true,true,true,true,true,true,true,true,true,true,true,true,true,true,true,false,false] rfl rfl (any_of HT_.out (by kernel_rfl)) (fun _ _ _ h => h) (Or.inl ⟨by rfl,?_⟩) ?_ ?_
                        rotate_left
                        · intro w'
                          go_simp
                          with_reducible rfl
                        rotate_left
                        · simp only [Act.put,List.setIfInBounds_toArray,List.set_cons_zero,List.set_cons_succ,i64_w,i32_w]
                          rfl
                        refine pure_ (i:=15) (N:=some 8) (v:=?_) (a':=?_) #[true,true,true,true,true,true,true,true,true,true,true,true,true,true,true,true,false] rfl rfl (any_of HT_.out (by kernel_rfl)) (fun _ _ _ h => h) (Or.inl ⟨by rfl,?_⟩) ?_ ?_
                        rotate_left
                        · intro w'
                          go_simp
                          with_reducible rfl
                        rotate_left
                        · simp only [Act.put,List.setIfInBounds_toArray,List.set_cons_zero,List.set_cons_succ,i64_w,i32_w]
                          rfl
                        refine pure_ (i:=16) (N:=some 6) (v:=?_) (a':=?_) #[true,true,true,true,true,true,true,true,true,true,true,true,true,true,true,true,true] rfl rfl (any_of HT_.out (by kernel_rfl)) (fun _ _ _ h => h) (Or.inl ⟨by rfl,?_⟩) ?_ ?_
                        rotate_left
                        · intro w'
                          go_simp
                          with_reducible rfl
                        rotate_left
                        · simp only [Act.put,List.setIfInBounds_toArray,List.set_cons_zero,List.set_cons_succ,i64_w,i32_w]
                          rfl
                        refine done_ (done_of HT_.out (by kernel_rfl)) ?_
                        try go_wp2
                        have n0_:=Aside0.mk (Kd.R_drew HO_4.out)
                        have n1_:=Aside0.mk (Kd.R_drew HO366.out)
                        have n2_:=Aside0.mk (Kd.R_drew HO370.out)
                        have n3_:=Aside0.mk (Kd.R_drew HO375.out)
                        have n4_:=Aside0.mk (blk_drew BK352.out)
                        have n5_:=Aside0.mk (below_drew1 HB.out)
                        clear HO_4
                        clear HO366
                        clear HO370
                        clear HO375
                        clear BK352
                        clear HB
                        have HO_4:=n0_
                        have HO366:=n1_
                        have HO370:=n2_
                        have HO375:=n3_
                        have BK352:=n4_
                        have HB:=n5_
                        clear n0_ n1_ n2_ n3_ n4_ n5_
                        have p376 : 0 ≤ (1 : Int):=(by omega)
                        have q376 : 1 < (t356.length : Int):=of_decide_eq_true (by first | (with_reducible assumption) | assumption)
                        obtain ⟨ad376,e376,hx376_0,hx376_1,hx376_2,hx376_3⟩:=at_T86 (Kd.R_reads' HO_4.out).2.2 1 p376 q376
                        obtain rfl : ad367 = ad376:=(by injection e376)
                        (try simp only [show (1 : Int).toNat = 1 from rfl,Nat.reduceMul,Nat.reduceEqDiff,Go.Addr.add,↓reduceIte] at hx376_0)
                        (try simp only [show (1 : Int).toNat = 1 from rfl,Nat.reduceMul,Nat.reduceEqDiff,Go.Addr.add,↓reduceIte] at hx376_1)
                        (try simp only [show (1 : Int).toNat = 1 from rfl,Nat.reduceMul,Nat.reduceEqDiff,Go.Addr.add,↓reduceIte] at hx376_2)
                        (try simp only [show (1 : Int).toNat = 1 from rfl,Nat.reduceMul,Nat.reduceEqDiff,Go.Addr.add,↓reduceIte] at hx376_3)
                        have qi376 : (1 < t356.length) = True:=eq_true (by omega)
                        (try rw [show ((1 : Int)).toNat = 1 from rfl] at hx376_0)
                        (try rw [show 1 * 4 = 4 from rfl] at hx376_0)
                        (try rw [show ((1 : Int)).toNat = 1 from rfl] at hx376_1)
                        (try rw [show 1 * 4 = 4 from rfl] at hx376_1)
                        (try rw [show ((1 : Int)).toNat = 1 from rfl] at hx376_2)
                        (try rw [show 1 * 4 = 4 from rfl] at hx376_2)
                        (try rw [show ((1 : Int)).toNat = 1 from rfl] at hx376_3)
                        (try rw [show 1 * 4 = 4 from rfl] at hx376_3)
                        replace p376:=eq_true p376
                        replace q376:=eq_true q376
                        have p377 : 0 ≤ (0 : Int):=(by omega)
                        have q377 : 0 < (t356.length : Int):=of_decide_eq_true (by first | (with_reducible assumption) | assumption)
                        obtain ⟨ad377,e377,hx377_0,hx377_1,hx377_2,hx377_3⟩:=at_T86 (Kd.R_reads' HO_4.out).2.2 0 p377 q377
                        obtain rfl : ad367 = ad377:=(by injection e377)
                        have qi377 : (0 < t356.length) = True:=eq_true (by omega)
                        (try rw [show ((0 : Int)).toNat = 0 from rfl] at hx377_0)
                        (try rw [show 0 * 4 = 0 from rfl] at hx377_0)
                        (try rw [Addr.add_zero'] at hx377_0)
                        (try rw [show ((0 : Int)).toNat = 0 from rfl] at hx377_1)
                        (try rw [show 0 * 4 = 0 from rfl] at hx377_1)
                        (try rw [Addr.add_zero'] at hx377_1)
                        (try rw [show ((0 : Int)).toNat = 0 from rfl] at hx377_2)
                        (try rw [show 0 * 4 = 0 from rfl] at hx377_2)
                        (try rw [Addr.add_zero'] at hx377_2)
                        (try rw [show ((0 : Int)).toNat = 0 from rfl] at hx377_3)
                        (try rw [show 0 * 4 = 0 from rfl] at hx377_3)
                        (try rw [Addr.add_zero'] at hx377_3)
                        replace p377:=eq_true p377
                        replace q377:=eq_true q377
                        have p378 : 0 ≤ (2 : Int):=(by omega)
                        have q378 : 2 < (t356.length : Int):=of_decide_eq_true (by first | (with_reducible assumption) | assumption)
                        obtain ⟨ad378,e378,hx378_0,hx378_1,hx378_2,hx378_3⟩:=at_T86 (Kd.R_reads' HO_4.out).2.2 2 p378 q378
                        obtain rfl : ad367 = ad378:=(by injection e378)
                        (try simp only [show (2 : Int).toNat = 2 from rfl,Nat.reduceMul,Nat.reduceEqDiff,Go.Addr.add,↓reduceIte] at hx378_0)
                        (try simp only [show (2 : Int).toNat = 2 from rfl,Nat.reduceMul,Nat.reduceEqDiff,Go.Addr.add,↓reduceIte] at hx378_1)
                        (try simp only [show (2 : Int).toNat = 2 from rfl,Nat.reduceMul,Nat.reduceEqDiff,Go.Addr.add,↓reduceIte] at hx378_2)
                        (try simp only [show (2 : Int).toNat = 2 from rfl,Nat.reduceMul,Nat.reduceEqDiff,Go.Addr.add,↓reduceIte] at hx378_3)
                        have qi378 : (2 < t356.length) = True:=eq_true (by omega)
                        (try rw [show ((2 : Int)).toNat = 2 from rfl] at hx378_0)
                        (try rw [show 2 * 4 = 8 from rfl] at hx378_0)
                        (try rw [show ((2 : Int)).toNat = 2 from rfl] at hx378_1)
                        (try rw [show 2 * 4 = 8 from rfl] at hx378_1)
                        (try rw [show ((2 : Int)).toNat = 2 from rfl] at hx378_2)
                        (try rw [show 2 * 4 = 8 from rfl] at hx378_2)
                        (try rw [show ((2 : Int)).toNat = 2 from rfl] at hx378_3)
                        (try rw [show 2 * 4 = 8 from rfl] at hx378_3)
                        replace p378:=eq_true p378
                        replace q378:=eq_true q378
                        have p379 : 0 ≤ (3 : Int):=(by omega)
                        have q379 : 3 < (t356.length : Int):=of_decide_eq_true (by first | (with_reducible assumption) | assumption)
                        obtain ⟨ad379,e379,hx379_0,hx379_1,hx379_2,hx379_3⟩:=at_T86 (Kd.R_reads' HO_4.out).2.2 3 p379 q379
                        obtain rfl : ad367 = ad379:=(by injection e379)
                        (try simp only [show (3 : Int).toNat = 3 from rfl,Nat.reduceMul,Nat.reduceEqDiff,Go.Addr.add,↓reduceIte] at hx379_0)
                        (try simp only [show (3 : Int).toNat = 3 from rfl,Nat.reduceMul,Nat.reduceEqDiff,Go.Addr.add,↓reduceIte] at hx379_1)
                        (try simp only [show (3 : Int).toNat = 3 from rfl,Nat.reduceMul,Nat.reduceEqDiff,Go.Addr.add,↓reduceIte] at hx379_2)
                        (try simp only [show (3 : Int).toNat = 3 from rfl,Nat.reduceMul,Nat.reduceEqDiff,Go.Addr.add,↓reduceIte] at hx379_3)
                        have qi379 : (3 < t356.length) = True:=eq_true (by omega)
                        (try rw [show ((3 : Int)).toNat = 3 from rfl] at hx379_0)
                        (try rw [show 3 * 4 = 12 from rfl] at hx379_0)
                        (try rw [show ((3 : Int)).toNat = 3 from rfl] at hx379_1)
                        (try rw [show 3 * 4 = 12 from rfl] at hx379_1)
                        (try rw [show ((3 : Int)).toNat = 3 from rfl] at hx379_2)
                        (try rw [show 3 * 4 = 12 from rfl] at hx379_2)
                        (try rw [show ((3 : Int)).toNat = 3 from rfl] at hx379_3)
                        (try rw [show 3 * 4 = 12 from rfl] at hx379_3)
                        replace p379:=eq_true p379
                        replace q379:=eq_true q379
                        have p380 : 0 ≤ (4 : Int):=(by omega)
                        have q380 : 4 < (t356.length : Int):=of_decide_eq_true (by first | (with_reducible assumption) | assumption)
                        obtain ⟨ad380,e380,hx380_0,hx380_1,hx380_2,hx380_3⟩:=at_T86 (Kd.R_reads' HO_4.out).2.2 4 p380 q380
                        obtain rfl : ad367 = ad380:=(by injection e380)
                        (try simp only [show (4 : Int).toNat = 4 from rfl,Nat.reduceMul,Nat.reduceEqDiff,Go.Addr.add,↓reduceIte] at hx380_0)
                        (try simp only [show (4 : Int).toNat = 4 from rfl,Nat.reduceMul,Nat.reduceEqDiff,Go.Addr.add,↓reduceIte] at hx380_1)
                        (try simp only [show (4 : Int).toNat = 4 from rfl,Nat.reduceMul,Nat.reduceEqDiff,Go.Addr.add,↓reduceIte] at hx380_2)
                        (try simp only [show (4 : Int).toNat = 4 from rfl,Nat.reduceMul,Nat.reduceEqDiff,Go.Addr.add,↓reduceIte] at hx380_3)
                        have qi380 : (4 < t356.length) = True:=eq_true (by omega)
                        (try rw [show ((4 : Int)).toNat = 4 from rfl] at hx380_0)
                        (try rw [show 4 * 4 = 16 from rfl] at hx380_0)
                        (try rw [show ((4 : Int)).toNat = 4 from rfl] at hx380_1)
                        (try rw [show 4 * 4 = 16 from rfl] at hx380_1)
                        (try rw [show ((4 : Int)).toNat = 4 from rfl] at hx380_2)
                        (try rw [show 4 * 4 = 16 from rfl] at hx380_2)
                        (try rw [show ((4 : Int)).toNat = 4 from rfl] at hx380_3)
                        (try rw [show 4 * 4 = 16 from rfl] at hx380_3)
                        replace p380:=eq_true p380
                        replace q380:=eq_true q380
                        refine start_ (n:=25) (S:=fun w' => w'.cell? ⟨ad367.block,ad367.off + 4,none⟩ = some (.int .i64 ((rd_T86 t356 1).f0)) ∧ w'.cell? ⟨ad367.block,ad367.off + 4 + 1,none⟩ = some (.int .i64 ((rd_T86 t356 1).f1)) ∧ w'.cell? ⟨ad367.block,ad367.off + 4 + 2,none⟩ = some (.float .f64 ((rd_T86 t356 1).f2)) ∧ w'.cell? ⟨ad367.block,ad367.off + 4 + 3,none⟩ = some (.string ((rd_T86 t356 1).f3)) ∧ w'.cell? ad367 = some (.int .i64 ((rd_T86 t356 0).f0)) ∧ w'.cell? ⟨ad367.block,ad367.off + 1,none⟩ = some (.int .i64 ((rd_T86 t356 0).f1)) ∧ w'.cell? ⟨ad367.block,ad367.off + 2,none⟩ = some (.float .f64 ((rd_T86 t356 0).f2)) ∧ w'.cell? ⟨ad367.block,ad367.off + 3,none⟩ = some (.string ((rd_T86 t356 0).f3)) ∧ w'.cell? ⟨ad367.block,ad367.off + 8,none⟩ = some (.int .i64 ((rd_T86 t356 2).f0)) ∧ w'.cell? ⟨ad367.block,ad367.off + 8 + 1,none⟩ = some (.int .i64 ((rd_T86 t356 2).f1)) ∧ w'.cell? ⟨ad367.block,ad367.off + 8 + 2,none⟩ = some (.float .f64 ((rd_T86 t356 2).f2)) ∧ w'.cell? ⟨ad367.block,ad367.off + 8 + 3,none⟩ = some (.string ((rd_T86 t356 2).f3)) ∧ w'.cell? ⟨ad367.block,ad367.off + 12,none⟩ = some (.int .i64 ((rd_T86 t356 3).f0)) ∧ w'.cell? ⟨ad367.block,ad367.off + 12 + 1,none⟩ = some (.int .i64 ((rd_T86 t356 3).f1)) ∧ w'.cell? ⟨ad367.block,ad367.off + 12 + 2,none⟩ = some (.float .f64 ((rd_T86 t356 3).f2)) ∧ w'.cell? ⟨ad367.block,ad367.off + 12 + 3,none⟩ = some (.string ((rd_T86 t356 3).f3)) ∧ w'.cell? ⟨ad367.block,ad367.off + 16,none⟩ = some (.int .i64 ((rd_T86 t356 4).f0)) ∧ w'.cell? ⟨ad367.block,ad367.off + 16 + 1,none⟩ = some (.int .i64 ((rd_T86 t356 4).f1)) ∧ w'.cell? ⟨ad367.block,ad367.off + 16 + 2,none⟩ = some (.float .f64 ((rd_T86 t356 4).f2)) ∧ w'.cell? ⟨ad367.block,ad367.off + 16 + 3,none⟩ = some (.string ((rd_T86 t356 4).f3))) (ds:=[24]) #[false,false,false,false,false,false,false,false,false,false,false,false,false,false,false,false,false,false,false,false,false,false,false,false,false] (by kernel_rfl) rfl rfl ⟨hx376_0,hx376_1,hx376_2,hx376_3,hx377_0,hx377_1,hx377_2,hx377_3,hx378_0,hx378_1,hx378_2,hx378_3,hx379_0,hx379_1,hx379_2,hx379_3,hx380_0,hx380_1,hx380_2,hx380_3⟩ (fun hHeld => ?_);refine with_tabW row_Decode.tab5 row_Decode.bits5 (fun HT_ HW_ => ?_)
                        generalize w35.drew = w36 at HO_4 HO366 HO370 HO375 BK352 HB hx376_0 hx376_1 hx376_2 hx376_3 hx377_0 hx377_1 hx377_2 hx377_3 hx378_0 hx378_1 hx378_2 hx378_3 hx379_0 hx379_1 hx379_2 hx379_3 hx380_0 hx380_1 hx380_2 hx380_3 hHeld ⊢
                        refine pure_ (i:=0) (N:=some 50) (v:=?_) (a':=?_) #[true,false,false,false,false,false,false,false,false,false,false,false,false,false,false,false,false,false,false,false,false,false,false,false,false] rfl rfl (any_of HT_.out (by kernel_rfl)) (fun _ _ _ h => h) (Or.inl ⟨by rfl,?_⟩) ?_ ?_
                        rotate_left
                        · intro w'
                          go_simp
                          with_reducible rfl
                        rotate_left
                        · simp only [Act.put,List.setIfInBounds_toArray,List.set_cons_zero,List.set_cons_succ,i64_w,i32_w]
                          rfl
                        refine pure_ (i:=1) (N:=some 51) (v:=?_) (a':=?_) #[true,true,false,false,false,false,false,false,false,false,false,false,false,false,false,false,false,false,false,false,false,false,false,false,false] rfl rfl (any_of HT_.out (by kernel_rfl)) (fun _ _ _ h => h) (Or.inl ⟨by rfl,?_⟩) ?_ ?_
                        rotate_left
                        · intro w'
                          go_simp
                          with_reducible rfl
                        rotate_left
                        · simp only [Act.put,List.setIfInBounds_toArray,List.set_cons_zero,List.set_cons_succ,i64_w,i32_w]
                          rfl
                        refine pure_ (i:=2) (N:=some 52) (v:=?_) (a':=?_) #[true,true,true,false,false,false,false,false,false,false,false,false,false,false,false,false,false,false,false,false,false,false,false,false,false] rfl rfl (any_of HT_.out (by kernel_rfl)) (fun _ _ _ h => h) (Or.inl ⟨by rfl,?_⟩) ?_ ?_
                        rotate_left
                        · intro w'
                          go_simp
                          with_reducible rfl
                        rotate_left
                        · simp only [Act.put,List.setIfInBounds_toArray,List.set_cons_zero,List.set_cons_succ,i64_w,i32_w]
                          rfl
                        refine pure_ (i:=4) (N:=some 54) (v:=?_) (a':=?_) #[true,true,true,false,true,false,false,false,false,false,false,false,false,false,false,false,false,false,false,false,false,false,false,false,false] rfl rfl (any_of HT_.out (by kernel_rfl)) (fun _ _ _ h => h) (Or.inl ⟨by rfl,?_⟩) ?_ ?_
                        rotate_left
                        · intro w'
                          go_simp
                          with_reducible rfl
                        rotate_left
                        · simp only [Act.put,List.setIfInBounds_toArray,List.set_cons_zero,List.set_cons_succ,i64_w,i32_w]
                          rfl
                        refine pure_ (i:=5) (N:=some 55) (v:=?_) (a':=?_) #[true,true,true,false,true,true,false,false,false,false,false,false,false,false,false,false,false,false,false,false,false,false,false,false,false] rfl rfl (any_of HT_.out (by kernel_rfl)) (fun _ _ _ h => h) (Or.inl ⟨by rfl,?_⟩) ?_ ?_
                        rotate_left
                        · intro w'
                          go_simp
                          with_reducible rfl
                        rotate_left
                        · simp only [Act.put,List.setIfInBounds_toArray,List.set_cons_zero,List.set_cons_succ,i64_w,i32_w]
                          rfl
                        refine pure_ (i:=6) (N:=some 56) (v:=?_) (a':=?_) #[true,true,true,false,true,true,true,false,false,false,false,false,false,false,false,false,false,false,false,false,false,false,false,false,false] rfl rfl (any_of HT_.out (by kernel_rfl)) (fun _ _ _ h => h) (Or.inl ⟨by rfl,?_⟩) ?_ ?_
                        rotate_left
                        · intro w'
                          go_simp
                          with_reducible rfl
                        rotate_left
                        · simp only [Act.put,List.setIfInBounds_toArray,List.set_cons_zero,List.set_cons_succ,i64_w,i32_w]
                          rfl
                        refine pure_ (i:=9) (N:=some 59) (v:=?_) (a':=?_) #[true,true,true,false,true,true,true,false,false,true,false,false,false,false,false,false,false,false,false,false,false,false,false,false,false] rfl rfl (any_of HT_.out (by kernel_rfl)) (fun _ _ _ h => h) (Or.inl ⟨by rfl,?_⟩) ?_ ?_
                        rotate_left
                        · intro w'
                          go_simp
                          with_reducible rfl
                        rotate_left
                        · simp only [Act.put,List.setIfInBounds_toArray,List.set_cons_zero,List.set_cons_succ,i64_w,i32_w]
                          rfl
                        refine pure_ (i:=10) (N:=some 60) (v:=?_) (a':=?_) #[true,true,true,false,true,true,true,false,false,true,true,false,false,false,false,false,false,false,false,false,false,false,false,false,false] rfl rfl (any_of HT_.out (by kernel_rfl)) (fun _ _ _ h => h) (Or.inl ⟨by rfl,?_⟩) ?_ ?_
                        rotate_left
                        · intro w'
                          go_simp
                          with_reducible rfl
                        rotate_left
                        · simp only [Act.put,List.setIfInBounds_toArray,List.set_cons_zero,List.set_cons_succ,i64_w,i32_w]
                          rfl
                        refine pure_ (i:=11) (N:=some 61) (v:=?_) (a':=?_) #[true,true,true,false,true,true,true,false,false,true,true,true,false,false,false,false,false,false,false,false,false,false,false,false,false] rfl rfl (any_of HT_.out (by kernel_rfl)) (fun _ _ _ h => h) (Or.inl ⟨by rfl,?_⟩) ?_ ?_
                        rotate_left
                        · intro w'
                          go_simp
                          with_reducible rfl
                        rotate_left
                        · simp only [Act.put,List.setIfInBounds_toArray,List.set_cons_zero,List.set_cons_succ,i64_w,i32_w]
                          rfl
                        refine pure_ (i:=13) (N:=some 63) (v:=?_) (a':=?_) #[true,true,true,false,true,true,true,false,false,true,true,true,false,true,false,false,false,false,false,false,false,false,false,false,false] rfl rfl (any_of HT_.out (by kernel_rfl)) (fun _ _ _ h => h) (Or.inl ⟨by rfl,?_⟩) ?_ ?_
                        rotate_left
                        · intro w'
                          go_simp
                          with_reducible rfl
                        rotate_left
                        · simp only [Act.put,List.setIfInBounds_toArray,List.set_cons_zero,List.set_cons_succ,i64_w,i32_w]
                          rfl
                        refine pure_ (i:=14) (N:=some 64) (v:=?_) (a':=?_) #[true,true,true,false,true,true,true,false,false,true,true,true,false,true,true,false,false,false,false,false,false,false,false,false,false] rfl rfl (any_of HT_.out (by kernel_rfl)) (fun _ _ _ h => h) (Or.inl ⟨by rfl,?_⟩) ?_ ?_
                        rotate_left
                        · intro w'
                          go_simp
                          with_reducible rfl
                        rotate_left
                        · simp only [Act.put,List.setIfInBounds_toArray,List.set_cons_zero,List.set_cons_succ,i64_w,i32_w]
                          rfl
                        refine pure_ (i:=15) (N:=some 65) (v:=?_) (a':=?_) #[true,true,true,false,true,true,true,false,false,true,true,true,false,true,true,true,false,false,false,false,false,false,false,false,false] rfl rfl (any_of HT_.out (by kernel_rfl)) (fun _ _ _ h => h) (Or.inl ⟨by rfl,?_⟩) ?_ ?_
                        rotate_left
                        · intro w'
                          go_simp
                          with_reducible rfl
                        rotate_left
                        · simp only [Act.put,List.setIfInBounds_toArray,List.set_cons_zero,List.set_cons_succ,i64_w,i32_w]
                          rfl
                        refine pure_ (i:=17) (N:=some 67) (v:=?_) (a':=?_) #[true,true,true,false,true,true,true,false,false,true,true,true,false,true,true,true,false,true,false,false,false,false,false,false,false] rfl rfl (any_of HT_.out (by kernel_rfl)) (fun _ _ _ h => h) (Or.inl ⟨by rfl,?_⟩) ?_ ?_
                        rotate_left
                        · intro w'
                          go_simp
                          with_reducible rfl
                        rotate_left
                        · simp only [Act.put,List.setIfInBounds_toArray,List.set_cons_zero,List.set_cons_succ,i64_w,i32_w]
                          rfl
                        refine pure_ (i:=18) (N:=some 68) (v:=?_) (a':=?_) #[true,true,true,false,true,true,true,false,false,true,true,true,false,true,true,true,false,true,true,false,false,false,false,false,false] rfl rfl (any_of HT_.out (by kernel_rfl)) (fun _ _ _ h => h) (Or.inl ⟨by rfl,?_⟩) ?_ ?_
                        rotate_left
                        · intro w'
                          go_simp
                          with_reducible rfl
                        rotate_left
                        · simp only [Act.put,List.setIfInBounds_toArray,List.set_cons_zero,List.set_cons_succ,i64_w,i32_w]
                          rfl
                        refine pure_ (i:=19) (N:=some 69) (v:=?_) (a':=?_) #[true,true,true,false,true,true,true,false,false,true,true,true,false,true,true,true,false,true,true,true,false,false,false,false,false] rfl rfl (any_of HT_.out (by kernel_rfl)) (fun _ _ _ h => h) (Or.inl ⟨by rfl,?_⟩) ?_ ?_
                        rotate_left
                        · intro w'
                          go_simp
                          with_reducible rfl
                        rotate_left
                        · simp only [Act.put,List.setIfInBounds_toArray,List.set_cons_zero,List.set_cons_succ,i64_w,i32_w]
                          rfl
                        refine take_ (i:=3) (N:=some 53) (v:=?_) (a':=?_) #[true,true,true,true,true,true,true,false,false,true,true,true,false,true,true,true,false,true,true,true,false,false,false,false,false] rfl rfl (take_ofW HT_.out HW_.out (by kernel_rfl)) (fun _ _ _ h => h) (Or.inl ⟨by rfl,?_⟩) hHeld ?_ ?_
                        rotate_left
                        · rintro w' ⟨s0,s1,s2,s3,s4,s5,s6,s7,s8,s9,s10,s11,s12,s13,s14,s15,s16,s17,s18,s19⟩
                          go_simp
                          with_reducible rfl
                        rotate_left
                        · simp only [Act.put,List.setIfInBounds_toArray,List.set_cons_zero,List.set_cons_succ,i64_w,i32_w]
                          rfl
                        refine take_ (i:=7) (N:=some 57) (v:=?_) (a':=?_) #[true,true,true,true,true,true,true,true,false,true,true,true,false,true,true,true,false,true,true,true,false,false,false,false,false] rfl rfl (take_ofW HT_.out HW_.out (by kernel_rfl)) (fun _ _ _ h => h) (Or.inl ⟨by rfl,?_⟩) hHeld ?_ ?_
                        rotate_left
                        · rintro w' ⟨s0,s1,s2,s3,s4,s5,s6,s7,s8,s9,s10,s11,s12,s13,s14,s15,s16,s17,s18,s19⟩
                          go_simp
                          with_reducible rfl
                        rotate_left
                        · simp only [Act.put,List.setIfInBounds_toArray,List.set_cons_zero,List.set_cons_succ,i64_w,i32_w]
                          rfl
                        refine pure_ (i:=8) (N:=some 58) (v:=?_) (a':=?_) #[true,true,true,true,true,true,true,true,true,true,true,true,false,true,true,true,false,true,true,true,false,false,false,false,false] rfl rfl (any_of HT_.out (by kernel_rfl)) (fun _ _ _ h => h) (Or.inl ⟨by rfl,?_⟩) ?_ ?_
                        rotate_left
                        · intro w'
                          go_simp
                          with_reducible rfl
                        rotate_left
                        · simp only [Act.put,List.setIfInBounds_toArray,List.set_cons_zero,List.set_cons_succ,i64_w,i32_w]
                          rfl
                        refine take_ (i:=12) (N:=some 62) (v:=?_) (a':=?_) #[true,true,true,true,true,true,true,true,true,true,true,true,true,true,true,true,false,true,true,true,false,false,false,false,false] rfl rfl (take_ofW HT_.out HW_.out (by kernel_rfl)) (fun _ _ _ h => h) (Or.inl ⟨by rfl,?_⟩) hHeld ?_ ?_
                        rotate_left
                        · rintro w' ⟨s0,s1,s2,s3,s4,s5,s6,s7,s8,s9,s10,s11,s12,s13,s14,s15,s16,s17,s18,s19⟩
                          go_simp
                          with_reducible rfl
                        rotate_left
                        · simp only [Act.put,List.setIfInBounds_toArray,List.set_cons_zero,List.set_cons_succ,i64_w,i32_w]
                          rfl
                        refine take_ (i:=16) (N:=some 66) (v:=?_) (a':=?_) #[true,true,true,true,true,true,true,true,true,true,true,true,true,true,true,true,true,true,true,true,false,false,false,false,false] rfl rfl (take_ofW HT_.out HW_.out (by kernel_rfl)) (fun _ _ _ h => h) (Or.inl ⟨by rfl,?_⟩) hHeld ?_ ?_
                        rotate_left
                        · rintro w' ⟨s0,s1,s2,s3,s4,s5,s6,s7,s8,s9,s10,s11,s12,s13,s14,s15,s16,s17,s18,s19⟩
                          go_simp
                          with_reducible rfl
                        rotate_left
                        · simp only [Act.put,List.setIfInBounds_toArray,List.set_cons_zero,List.set_cons_succ,i64_w,i32_w]
                          rfl
                        refine take_ (i:=20) (N:=some 70) (v:=?_) (a':=?_) #[true,true,true,true,true,true,true,true,true,true,true,true,true,true,true,true,true,true,true,true,true,false,false,false,false] rfl rfl (take_ofW HT_.out HW_.out (by kernel_rfl)) (fun _ _ _ h => h) (Or.inl ⟨by rfl,?_⟩) hHeld ?_ ?_
                        rotate_left
                        · rintro w' ⟨s0,s1,s2,s3,s4,s5,s6,s7,s8,s9,s10,s11,s12,s13,s14,s15,s16,s17,s18,s19⟩
                          go_simp
                          with_reducible rfl
                        rotate_left
                        · simp only [Act.put,List.setIfInBounds_toArray,List.set_cons_zero,List.set_cons_succ,i64_w,i32_w]
                          rfl
                        refine pure_ (i:=21) (N:=some 71) (v:=?_) (a':=?_) #[true,true,true,true,true,true,true,true,true,true,true,true,true,true,true,true,true,true,true,true,true,true,false,false,false] rfl rfl (any_of HT_.out (by kernel_rfl)) (fun _ _ _ h => h) (Or.inl ⟨by rfl,?_⟩) ?_ ?_
                        rotate_left
                        · intro w'
                          go_simp
                          with_reducible rfl
                        rotate_left
                        · simp only [Act.put,List.setIfInBounds_toArray,List.set_cons_zero,List.set_cons_succ,i64_w,i32_w]
                          rfl
                        refine pure_ (i:=22) (N:=some 72) (v:=?_) (a':=?_) #[true,true,true,true,true,true,true,true,true,true,true,true,true,true,true,true,true,true,true,true,true,true,true,false,false] rfl rfl (any_of HT_.out (by kernel_rfl)) (fun _ _ _ h => h) (Or.inl ⟨by rfl,?_⟩) ?_ ?_
                        rotate_left
                        · intro w'
                          go_simp
                          with_reducible rfl
                        rotate_left
                        · simp only [Act.put,List.setIfInBounds_toArray,List.set_cons_zero,List.set_cons_succ,i64_w,i32_w]
                          rfl
                        refine one_ (i:=23) (N:=some 9) #[true,true,true,true,true,true,true,true,true,true,true,true,true,true,true,true,true,true,true,true,true,true,true,true,false] rfl rfl (one_of HT_.out (by kernel_rfl)) (by decide) (fun K hK => ?_)
                        refine box_step ?hg (N:=9) ?hd (cs:=#[.float .f64 0,.bool false,.slice none 0 0,.int .i64 0,.int .i64 0,.int .i64 0]) (t:=30) ?hr ?_;(case hd => rfl);(case hg => rfl);(case hr => first | (go_simp;done) | (go_simp;rfl))
                        intro gb381 hg w37 hbox hb
                        have HS0_:=(hb.cell (World.block_lt_of_cell? _ _ (hHeld.1))).trans (hHeld.1)
                        have HS1_:=(hb.cell (World.block_lt_of_cell? _ _ (hHeld.2.1))).trans (hHeld.2.1)
                        have HS2_:=(hb.cell (World.block_lt_of_cell? _ _ (hHeld.2.2.1))).trans (hHeld.2.2.1)
                        have HS3_:=(hb.cell (World.block_lt_of_cell? _ _ (hHeld.2.2.2.1))).trans (hHeld.2.2.2.1)
                        have HS4_:=(hb.cell (World.block_lt_of_cell? _ _ (hHeld.2.2.2.2.1))).trans (hHeld.2.2.2.2.1)
                        have HS5_:=(hb.cell (World.block_lt_of_cell? _ _ (hHeld.2.2.2.2.2.1))).trans (hHeld.2.2.2.2.2.1)
                        have HS6_:=(hb.cell (World.block_lt_of_cell? _ _ (hHeld.2.2.2.2.2.2.1))).trans (hHeld.2.2.2.2.2.2.1)
                        have HS7_:=(hb.cell (World.block_lt_of_cell? _ _ (hHeld.2.2.2.2.2.2.2.1))).trans (hHeld.2.2.2.2.2.2.2.1)
                        have HS8_:=(hb.cell (World.block_lt_of_cell? _ _ (hHeld.2.2.2.2.2.2.2.2.1))).trans (hHeld.2.2.2.2.2.2.2.2.1)
                        have HS9_:=(hb.cell (World.block_lt_of_cell? _ _ (hHeld.2.2.2.2.2.2.2.2.2.1))).trans (hHeld.2.2.2.2.2.2.2.2.2.1)
                        have HS10_:=(hb.cell (World.block_lt_of_cell? _ _ (hHeld.2.2.2.2.2.2.2.2.2.2.1))).trans (hHeld.2.2.2.2.2.2.2.2.2.2.1)
                        have HS11_:=(hb.cell (World.block_lt_of_cell? _ _ (hHeld.2.2.2.2.2.2.2.2.2.2.2.1))).trans (hHeld.2.2.2.2.2.2.2.2.2.2.2.1)
                        have HS12_:=(hb.cell (World.block_lt_of_cell? _ _ (hHeld.2.2.2.2.2.2.2.2.2.2.2.2.1))).trans (hHeld.2.2.2.2.2.2.2.2.2.2.2.2.1)
                        have HS13_:=(hb.cell (World.block_lt_of_cell? _ _ (hHeld.2.2.2.2.2.2.2.2.2.2.2.2.2.1))).trans (hHeld.2.2.2.2.2.2.2.2.2.2.2.2.2.1)
                        have HS14_:=(hb.cell (World.block_lt_of_cell? _ _ (hHeld.2.2.2.2.2.2.2.2.2.2.2.2.2.2.1))).trans (hHeld.2.2.2.2.2.2.2.2.2.2.2.2.2.2.1)
                        have HS15_:=(hb.cell (World.block_lt_of_cell? _ _ (hHeld.2.2.2.2.2.2.2.2.2.2.2.2.2.2.2.1))).trans (hHeld.2.2.2.2.2.2.2.2.2.2.2.2.2.2.2.1)
                        have HS16_:=(hb.cell (World.block_lt_of_cell? _ _ (hHeld.2.2.2.2.2.2.2.2.2.2.2.2.2.2.2.2.1))).trans (hHeld.2.2.2.2.2.2.2.2.2.2.2.2.2.2.2.2.1)
                        have HS17_:=(hb.cell (World.block_lt_of_cell? _ _ (hHeld.2.2.2.2.2.2.2.2.2.2.2.2.2.2.2.2.2.1))).trans (hHeld.2.2.2.2.2.2.2.2.2.2.2.2.2.2.2.2.2.1)
                        have HS18_:=(hb.cell (World.block_lt_of_cell? _ _ (hHeld.2.2.2.2.2.2.2.2.2.2.2.2.2.2.2.2.2.2.1))).trans (hHeld.2.2.2.2.2.2.2.2.2.2.2.2.2.2.2.2.2.2.1)
                        have HS19_:=(hb.cell (World.block_lt_of_cell? _ _ (hHeld.2.2.2.2.2.2.2.2.2.2.2.2.2.2.2.2.2.2.2))).trans (hHeld.2.2.2.2.2.2.2.2.2.2.2.2.2.2.2.2.2.2.2)
                        have n0_:=Aside0.mk (Kd.R_below (by (with_reducible repeat (first | apply Kd.R_alloc | apply Kd.R_drewN | apply Kd.R_drew));exact HO_4.out) hb)
                        have n1_:=Aside0.mk (Kd.R_below (by (with_reducible repeat (first | apply Kd.R_alloc | apply Kd.R_drewN | apply Kd.R_drew));exact HO366.out) hb)
                        have n2_:=Aside0.mk (Kd.R_below (by (with_reducible repeat (first | apply Kd.R_alloc | apply Kd.R_drewN | apply Kd.R_drew));exact HO370.out) hb)
                        have n3_:=Aside0.mk (Kd.R_below (by (with_reducible repeat (first | apply Kd.R_alloc | apply Kd.R_drewN | apply Kd.R_drew));exact HO375.out) hb)
                        have n4_:=Aside0.mk (blk_below (g:=gb352) (o:=.cells #[.float .f64 0,.bool false,.slice none 0 0,.int .i64 0,.int .i64 0,.int .i64 0] 30 (0,0)) (by (with_reducible repeat (first | refine blk_drewN ?_ _ | refine blk_drew ?_ | refine blk_alloc ?_ _));exact BK352.out) hb)
                        have n5_:=Aside0.mk (below_step (by repeat (first | (with_reducible first | exact HB.out | apply below_alloc | apply pw_below_drewN | apply below_drew1 | refine below_set ?_ GE352.out) | exact HB.out)) hb)
                        have n6_:=Aside0.mk (hbox)
                        have n7_:=Aside0.mk ((by rw [hg];exact (below_size (by repeat (first | (with_reducible first | exact HB.out | apply below_alloc | apply pw_below_drewN | apply below_drew1 | refine below_set ?_ GE352.out) | exact HB.out))) : w.heap.size ≤ gb381))
                        have n8_:=Aside0.mk ((by rw [hg];exact (below_size (by repeat (first | (with_reducible first | exact HB.out | apply below_alloc | apply pw_below_drewN | apply below_drew1 | refine below_set ?_ GE352.out) | exact HB.out))) : w.heap.size ≤ gb381))
                        have n9_:=Aside0.mk ((by rw [hg];exact Nat.ne_of_lt (blk_lt (g:=gb352) (o:=.cells #[.float .f64 0,.bool false,.slice none 0 0,.int .i64 0,.int .i64 0,.int .i64 0] 30 (0,0)) (by (with_reducible repeat (first | refine blk_drewN ?_ _ | refine blk_drew ?_ | refine blk_alloc ?_ _));exact BK352.out)) : gb352 ≠ gb381))
                        have n10_:=Aside0.mk ((by rw [hg];exact Nat.ne_of_gt (blk_lt (g:=gb352) (o:=.cells #[.float .f64 0,.bool false,.slice none 0 0,.int .i64 0,.int .i64 0,.int .i64 0] 30 (0,0)) (by (with_reducible repeat (first | refine blk_drewN ?_ _ | refine blk_drew ?_ | refine blk_alloc ?_ _));exact BK352.out)) : gb381 ≠ gb352))
                        clear HO_4
                        clear HO366
                        clear HO370
                        clear HO375
                        clear BK352
                        clear HB
                        have HO_4:=n0_
                        have HO366:=n1_
                        have HO370:=n2_
                        have HO375:=n3_
                        have BK352:=n4_
                        have HB:=n5_
                        have BK381:=n6_
                        have GW381:=n7_
                        have GE381:=n8_
                        have NB352_381:=n9_
                        have NB381_352:=n10_
                        clear n0_ n1_ n2_ n3_ n4_ n5_ n6_ n7_ n8_ n9_ n10_
                        clear hb hbox hg
                        refine hK.out _ _ ⟨HS0_,HS1_,HS2_,HS3_,HS4_,HS5_,HS6_,HS7_,HS8_,HS9_,HS10_,HS11_,HS12_,HS13_,HS14_,HS15_,HS16_,HS17_,HS18_,HS19_⟩ (fun hHeld => ?_)
                        clear hK K
                        refine norm_ (a':=?_) ?_ ?_
                        rotate_left
                        · show Act.put _ (some 9) _ = _
                          simp only [Act.put,List.setIfInBounds_toArray,List.set_cons_zero,List.set_cons_succ,i64_w,i32_w]
                          rfl
                        refine last_ (i:=24) (N:=none) #[true,true,true,true,true,true,true,true,true,true,true,true,true,true,true,true,true,true,true,true,true,true,true,true,true] rfl rfl (one_of HT_.out (by kernel_rfl)) (by decide) (fun K hK => ?_)
                        have hs38 : w37.cell? ⟨gb381,0,none⟩ = some (.float .f64 0):=(blk_cell BK381.out 0).trans rfl
                        have hfs38:=blk_frozen BK381.out 0
                        have hns38_0:=NB352_381.out
                        have hms38_0:=NB381_352.out
                        have hs39 : w37.cell? ⟨gb381,1,none⟩ = some (.bool false):=(blk_cell BK381.out 1).trans rfl
                        have hfs39:=blk_frozen BK381.out 1
                        have hns39_0:=NB352_381.out
                        have hms39_0:=NB381_352.out
                        have hs40 : w37.cell? ⟨gb381,2,none⟩ = some (.slice none 0 0):=(blk_cell BK381.out 2).trans rfl
                        have hfs40:=blk_frozen BK381.out 2
                        have hns40_0:=NB352_381.out
                        have hms40_0:=NB381_352.out
                        have hs41 : w37.cell? ⟨gb381,3,none⟩ = some (.int .i64 0):=(blk_cell BK381.out 3).trans rfl
                        have hfs41:=blk_frozen BK381.out 3
                        have hns41_0:=NB352_381.out
                        have hms41_0:=NB381_352.out
                        have hs42 : w37.cell? ⟨gb381,4,none⟩ = some (.int .i64 0):=(blk_cell BK381.out 4).trans rfl
                        have hfs42:=blk_frozen BK381.out 4
                        have hns42_0:=NB352_381.out
                        have hms42_0:=NB381_352.out
                        have hs43 : w37.cell? ⟨gb381,5,none⟩ = some (.int .i64 0):=(blk_cell BK381.out 5).trans rfl
                        have hfs43:=blk_frozen BK381.out 5
                        have hns43_0:=NB352_381.out
                        have hms43_0:=NB381_352.out
                        refine skip_ (w1:=?_) (by rfl) rfl ?_ ?_
                        rotate_left
                        · go_simp
                          rfl
                        refine hK.out _ _ ?_
                        clear hK K
                        refine done_ (done_of HT_.out (by kernel_rfl)) ?_
                        obtain ⟨Ao44,co44,eo44⟩:=Kd.R_slice HO375.out
                        subst eo44
                        try go_wp2
                        go_loopg [75] kj3 (fun kq v75 w' => ∃ (x75_2 : Int) (x382002_2 : List Nat) (u382002 : Value),v75 = .int .i64 x75_2 ∧ Aside0 (row_Decode.l0 kq l0 t357 t373 t372 t371 (t371.length : Int) x75_2 ((rd_T86 t356 1).f2) (((rd_T86 t356 0).f1) == 1) x382002_2 ((rd_T86 t356 2).f1) ((rd_T86 t356 3).f1) ((rd_T86 t356 4).f1) = some (r1,r2,r3,r4,r5,r6,r7)) ∧ Aside0 (kq ≤ kj3) ∧ Aside0 (Kd.R k86 86 w' w.heap.size (fun _ => True) (.slice Ao44 t371.length co44) t371) ∧ Aside0 (Kd.R Kd.f64 25 w' w.heap.size (fun _ => True) u382002 x382002_2) ∧ Aside0 (w'.heap[gb352]? = some (.cells #[.float .f64 0,.bool false,(.slice none 0 0),.int .i64 0,.int .i64 0,.int .i64 0] 30 (0,0))) ∧ Aside0 (w'.heap[gb381]? = some (.cells #[.float .f64 ((rd_T86 t356 1).f2),.bool (((rd_T86 t356 0).f1) == 1),u382002,.int .i64 ((rd_T86 t356 2).f1),.int .i64 ((rd_T86 t356 3).f1),.int .i64 ((rd_T86 t356 4).f1)] 30 (0,0))) ∧ Aside0 (Below w.heap.size w w'))
                        case atStart => exact ⟨(0),(([] : List Nat)),(.slice none 0 0),(by first | rfl | (simp;done) | (simp [*];done)),H',⟨Nat.le_refl _⟩,⟨by (with_reducible repeat (first | apply Kd.R_alloc | apply Kd.R_drewN | apply Kd.R_drew));exact Kd.R_mono (Kd.R_far (p:=⟨gb381,5,none⟩) (Kd.R_far (p:=⟨gb381,4,none⟩) (Kd.R_far (p:=⟨gb381,3,none⟩) (Kd.R_far (p:=⟨gb381,2,none⟩) (Kd.R_far (p:=⟨gb381,1,none⟩) (Kd.R_far (p:=⟨gb381,0,none⟩) (Kd.R_types HO375.out BK381.out (by decide)) (fun _ hk => hk.2) (.float .f64 ((rd_T86 t356 1).f2))) (fun _ hk => hk.2) (.bool (((rd_T86 t356 0).f1) == 1))) (fun _ hk => hk.2) (.slice none 0 0)) (fun _ hk => hk.2) (.int .i64 ((rd_T86 t356 2).f1))) (fun _ hk => hk.2) (.int .i64 ((rd_T86 t356 3).f1))) (fun _ hk => hk.2) (.int .i64 ((rd_T86 t356 4).f1))) (fun _ hk => trivial)⟩,⟨by first | exact Kd.R_nil _ _ _ _ _ | exact Kd.N_nil _ _ _ _ _ | exact Kd.V_nil _ _ _ _ _ | exact Kd.Q_nil _ _ _ _ _ | exact Kd.S_nil _ _ _ _ _⟩,⟨by (with_reducible repeat (first | refine blk_drewN ?_ _ | refine blk_drew ?_ | refine blk_alloc ?_ _));refine blk_far ?_ NB352_381.out _;(with_reducible repeat (first | refine blk_drewN ?_ _ | refine blk_drew ?_ | refine blk_alloc ?_ _));refine blk_far ?_ NB352_381.out _;(with_reducible repeat (first | refine blk_drewN ?_ _ | refine blk_drew ?_ | refine blk_alloc ?_ _));refine blk_far ?_ NB352_381.out _;(with_reducible repeat (first | refine blk_drewN ?_ _ | refine blk_drew ?_ | refine blk_alloc ?_ _));refine blk_far ?_ NB352_381.out _;(with_reducible repeat (first | refine blk_drewN ?_ _ | refine blk_drew ?_ | refine blk_alloc ?_ _));refine blk_far ?_ NB352_381.out _;(with_reducible repeat (first | refine blk_drewN ?_ _ | refine blk_drew ?_ | refine blk_alloc ?_ _));refine blk_far ?_ NB352_381.out _;(with_reducible repeat (first | refine blk_drewN ?_ _ | refine blk_drew ?_ | refine blk_alloc ?_ _));exact BK352.out⟩,⟨by (with_reducible repeat (first | refine blk_drewN ?_ _ | refine blk_drew ?_ | refine blk_alloc ?_ _));refine blk_put (cs:=#[.float .f64 ((rd_T86 t356 1).f2),.bool (((rd_T86 t356 0).f1) == 1),.slice none 0 0,.int .i64 ((rd_T86 t356 2).f1),.int .i64 ((rd_T86 t356 3).f1),.int .i64 0]) ?_ 5 _ rfl;(with_reducible repeat (first | refine blk_drewN ?_ _ | refine blk_drew ?_ | refine blk_alloc ?_ _));refine blk_put (cs:=#[.float .f64 ((rd_T86 t356 1).f2),.bool (((rd_T86 t356 0).f1) == 1),.slice none 0 0,.int .i64 ((rd_T86 t356 2).f1),.int .i64 0,.int .i64 0]) ?_ 4 _ rfl;(with_reducible repeat (first | refine blk_drewN ?_ _ | refine blk_drew ?_ | refine blk_alloc ?_ _));refine blk_put (cs:=#[.float .f64 ((rd_T86 t356 1).f2),.bool (((rd_T86 t356 0).f1) == 1),.slice none 0 0,.int .i64 0,.int .i64 0,.int .i64 0]) ?_ 3 _ rfl;(with_reducible repeat (first | refine blk_drewN ?_ _ | refine blk_drew ?_ | refine blk_alloc ?_ _));refine blk_put (cs:=#[.float .f64 ((rd_T86 t356 1).f2),.bool (((rd_T86 t356 0).f1) == 1),.slice none 0 0,.int .i64 0,.int .i64 0,.int .i64 0]) ?_ 2 _ rfl;(with_reducible repeat (first | refine blk_drewN ?_ _ | refine blk_drew ?_ | refine blk_alloc ?_ _));refine blk_put (cs:=#[.float .f64 ((rd_T86 t356 1).f2),.bool false,.slice none 0 0,.int .i64 0,.int .i64 0,.int .i64 0]) ?_ 1 _ rfl;(with_reducible repeat (first | refine blk_drewN ?_ _ | refine blk_drew ?_ | refine blk_alloc ?_ _));refine blk_put (cs:=#[.float .f64 0,.bool false,.slice none 0 0,.int .i64 0,.int .i64 0,.int .i64 0]) ?_ 0 _ rfl;(with_reducible repeat (first | refine blk_drewN ?_ _ | refine blk_drew ?_ | refine blk_alloc ?_ _));exact BK381.out⟩,⟨by repeat (first | (with_reducible first | exact HB.out | apply below_alloc | apply pw_below_drewN | apply below_drew1 | refine below_set ?_ GE352.out | refine below_set ?_ GE381.out) | exact HB.out)⟩⟩
                        case round =>
                          clear H'
                          try clear p2
                          try clear p3
                          try clear q3
                          try clear hx3
                          try clear qi3
                          try clear c7
                          try clear p37
                          try clear q37
                          try clear hx37
                          try clear qi37
                          try clear p38
                          try clear q38
                          try clear hx38
                          try clear qi38
                          try clear hx376_0
                          try clear hx376_1
                          try clear hx376_2
                          try clear hx376_3
                          try clear hx377_0
                          try clear hx377_1
                          try clear hx377_2
                          try clear hx377_3
                          try clear hx378_0
                          try clear hx378_1
                          try clear hx378_2
                          try clear hx378_3
                          try clear hx379_0
                          try clear hx379_1
                          try clear hx379_2
                          try clear hx379_3
                          try clear hx380_0
                          try clear hx380_1
                          try clear hx380_2
                          try clear hx380_3
                          try clear p376
                          try clear p377
                          try clear p378
                          try clear p379
                          try clear p380
                          try clear q376
                          try clear q377
                          try clear q378
                          try clear q379
                          try clear q380
                          obtain ⟨x75_2,x382002_2,u382002,rfl,HA,HK2,HO_73,HO_382002,BK352,BK381,HB⟩:=hrel
                          cases gk with
                          | zero => exact absurd HA.out (by simp [row_Decode.l0])
                          | succ k2 =>
                            have H:=HA.out
                            clear HA
                            simp only [row_Decode.l0] at H
                            by_cases c45 : x75_2 < (t371.length : Int)
                            · rw [if_pos c45] at H
                              have c45b0 : decide (x75_2 < (t371.length : Int)) = true:=decide_eq_true c45
                              clear c45
                              by_cases c46 : 0 ≤ x75_2
                              · rw [if_pos c46] at H
                                have c46b0 : decide (0 ≤ x75_2) = true:=decide_eq_true c46
                                clear c46
                                by_cases c47 : x75_2 < (t371.length : Int)
                                · rw [if_pos c47] at H
                                  have c47b0 : decide (x75_2 < (t371.length : Int)) = true:=decide_eq_true c47
                                  clear c47
                                  by_cases c48 : x382002_2.length < 17592186044416
                                  · rw [if_pos c48] at H
                                    have LMc48:=Aside0.mk c48
                                    clear c48
                                    obtain ⟨y384,hy384⟩ : ∃ y_ : List Nat,y_ = (x382002_2 ++ [(rd_T86 t371 x75_2).f2]):=⟨_,rfl⟩
                                    replace H : (row_Decode.l0 k2 l0 t357 t373 t372 t371 (t371.length : Int) (wrap64 (x75_2 + 1)) ((rd_T86 t356 1).f2) (((rd_T86 t356 0).f1) == 1) y384 ((rd_T86 t356 2).f1) ((rd_T86 t356 3).f1) ((rd_T86 t356 4).f1)) = some (r1,r2,r3,r4,r5,r6,r7):=by first | (rw [hy384];with_reducible exact H) | (have H2_:=(Option.bind_some _ _).symm.trans H;rw [hy384];with_reducible exact H2_) | (have H2_:=(Option.bind_some _ _).symm.trans H;with_reducible exact H2_) | with_reducible exact H | (rw [hy384];exact H) | exact H
                                    have Ny384:=Aside0.mk hy384
                                    clear hy384
                                    have H':=Aside0.mk H
                                    clear H
                                    have p382 : 0 ≤ (x75_2 : Int):=of_decide_eq_true (by first | (with_reducible assumption) | assumption)
                                    have q382 : x75_2 < (t371.length : Int):=of_decide_eq_true (by first | (with_reducible assumption) | assumption)
                                    obtain ⟨ad382,e382,hx382_0,hx382_1,hx382_2,hx382_3⟩:=at_T86 (Kd.R_reads' HO_73.out).2.2 x75_2 p382 q382
                                    cases e382
                                    replace p382:=eq_true p382
                                    replace q382:=eq_true q382
                                    go_wp2_with (first | ((with_reducible refine gate_dst (N:=11) rfl ?_);(try (refine gate_guard (by rfl) ?_;dsimp only));refine box_event ?hg (N:=11) ?hd (cs:=#[.int .i64 0,.int .i64 0,.float .f64 0,.string (⟨#[]⟩ : ByteArray)]) (t:=86) ?hr ?_;(case hd => rfl);(case hg => rfl);(case hr => first | (go_simp;done) | (go_simp;rfl));intro gb383 hg w49 hbox hb;have n0_:=Aside0.mk (Kd.R_below (Kd.R_elderB (by (with_reducible repeat (first | apply Kd.R_alloc | apply Kd.R_drewN | apply Kd.R_drew));exact HO_73.out) gb383 (Nat.le_of_eq hg.symm)) hb);have n1_:=Aside0.mk (Kd.R_below (by (with_reducible repeat (first | apply Kd.R_alloc | apply Kd.R_drewN | apply Kd.R_drew));exact HO_382002.out) hb);have n2_:=Aside0.mk (blk_below (g:=gb352) (o:=.cells #[.float .f64 0,.bool false,.slice none 0 0,.int .i64 0,.int .i64 0,.int .i64 0] 30 (0,0)) (by (with_reducible repeat (first | refine blk_drewN ?_ _ | refine blk_drew ?_ | refine blk_alloc ?_ _));exact BK352.out) hb);have n3_:=Aside0.mk (blk_below (g:=gb381) (o:=.cells #[.float .f64 ((rd_T86 t356 1).f2),.bool (((rd_T86 t356 0).f1) == 1),u382002,.int .i64 ((rd_T86 t356 2).f1),.int .i64 ((rd_T86 t356 3).f1),.int .i64 ((rd_T86 t356 4).f1)] 30 (0,0)) (by (with_reducible repeat (first | refine blk_drewN ?_ _ | refine blk_drew ?_ | refine blk_alloc ?_ _));exact BK381.out) hb);have n4_:=Aside0.mk (below_step (by repeat (first | (with_reducible first | exact HB.out | apply below_alloc | apply pw_below_drewN | apply below_drew1 | refine below_set ?_ GE352.out | refine below_set ?_ GE381.out) | exact HB.out)) hb);have n5_:=Aside0.mk (hbox);have n6_:=Aside0.mk ((by rw [hg];exact (below_size (by repeat (first | (with_reducible first | exact HB.out | apply below_alloc | apply pw_below_drewN | apply below_drew1 | refine below_set ?_ GE352.out | refine below_set ?_ GE381.out) | exact HB.out))) : w.heap.size ≤ gb383));have n7_:=Aside0.mk ((by rw [hg];exact (below_size (by repeat (first | (with_reducible first | exact HB.out | apply below_alloc | apply pw_below_drewN | apply below_drew1 | refine below_set ?_ GE352.out | refine below_set ?_ GE381.out) | exact HB.out))) : w.heap.size ≤ gb383));have n8_:=Aside0.mk ((by rw [hg];exact Nat.ne_of_lt (blk_lt (g:=gb352) (o:=.cells #[.float .f64 0,.bool false,.slice none 0 0,.int .i64 0,.int .i64 0,.int .i64 0] 30 (0,0)) (by (with_reducible repeat (first | refine blk_drewN ?_ _ | refine blk_drew ?_ | refine blk_alloc ?_ _));exact BK352.out)) : gb352 ≠ gb383));have n9_:=Aside0.mk ((by rw [hg];exact Nat.ne_of_gt (blk_lt (g:=gb352) (o:=.cells #[.float .f64 0,.bool false,.slice none 0 0,.int .i64 0,.int .i64 0,.int .i64 0] 30 (0,0)) (by (with_reducible repeat (first | refine blk_drewN ?_ _ | refine blk_drew ?_ | refine blk_alloc ?_ _));exact BK352.out)) : gb383 ≠ gb352));have n10_:=Aside0.mk ((by rw [hg];exact Nat.ne_of_lt (blk_lt (g:=gb381) (o:=.cells #[.float .f64 ((rd_T86 t356 1).f2),.bool (((rd_T86 t356 0).f1) == 1),u382002,.int .i64 ((rd_T86 t356 2).f1),.int .i64 ((rd_T86 t356 3).f1),.int .i64 ((rd_T86 t356 4).f1)] 30 (0,0)) (by (with_reducible repeat (first | refine blk_drewN ?_ _ | refine blk_drew ?_ | refine blk_alloc ?_ _));exact BK381.out)) : gb381 ≠ gb383));have n11_:=Aside0.mk ((by rw [hg];exact Nat.ne_of_gt (blk_lt (g:=gb381) (o:=.cells #[.float .f64 ((rd_T86 t356 1).f2),.bool (((rd_T86 t356 0).f1) == 1),u382002,.int .i64 ((rd_T86 t356 2).f1),.int .i64 ((rd_T86 t356 3).f1),.int .i64 ((rd_T86 t356 4).f1)] 30 (0,0)) (by (with_reducible repeat (first | refine blk_drewN ?_ _ | refine blk_drew ?_ | refine blk_alloc ?_ _));exact BK381.out)) : gb383 ≠ gb381));clear HO_73;clear HO_382002;clear BK352;clear BK381;clear HB;have HO_73:=n0_;have HO_382002:=n1_;have BK352:=n2_;have BK381:=n3_;have HB:=n4_;have BK383:=n5_;have GW383:=n6_;have GE383:=n7_;have NB352_383:=n8_;have NB383_352:=n9_;have NB381_383:=n10_;have NB383_381:=n11_;clear n0_ n1_ n2_ n3_ n4_ n5_ n6_ n7_ n8_ n9_ n10_ n11_;clear hb hbox hg;have hnb50:=NB383_352.out;have hnc50:=NB352_383.out;have hnb51:=NB383_381.out;have hnc51:=NB381_383.out;have hcz52_0 : w49.cell? ⟨gb383,0,none⟩ = some (.int .i64 0):=(blk_cell BK383.out 0).trans rfl;have hcz52_1 : w49.cell? ⟨gb383,1,none⟩ = some (.int .i64 0):=(blk_cell BK383.out 1).trans rfl;have hcz52_2 : w49.cell? ⟨gb383,2,none⟩ = some (.float .f64 0):=(blk_cell BK383.out 2).trans rfl;have hcz52_3 : w49.cell? ⟨gb383,3,none⟩ = some (.string (⟨#[]⟩ : ByteArray)):=(blk_cell BK383.out 3).trans rfl;have hfz52_0:=blk_frozen BK383.out 0;have hfz52_1:=blk_frozen BK383.out 1;have hfz52_2:=blk_frozen BK383.out 2;have hfz52_3:=blk_frozen BK383.out 3;have hnb53:=NB381_352.out;have hnc53:=NB352_381.out;have hcz54_0 : w49.cell? ⟨gb381,0,none⟩ = some (.float .f64 ((rd_T86 t356 1).f2)):=(blk_cell BK381.out 0).trans rfl;have hcz54_1 : w49.cell? ⟨gb381,1,none⟩ = some (.bool (((rd_T86 t356 0).f1) == 1)):=(blk_cell BK381.out 1).trans rfl;have hcz54_2 : w49.cell? ⟨gb381,2,none⟩ = some (u382002):=(blk_cell BK381.out 2).trans rfl;have hcz54_3 : w49.cell? ⟨gb381,3,none⟩ = some (.int .i64 ((rd_T86 t356 2).f1)):=(blk_cell BK381.out 3).trans rfl;have hcz54_4 : w49.cell? ⟨gb381,4,none⟩ = some (.int .i64 ((rd_T86 t356 3).f1)):=(blk_cell BK381.out 4).trans rfl;have hcz54_5 : w49.cell? ⟨gb381,5,none⟩ = some (.int .i64 ((rd_T86 t356 4).f1)):=(blk_cell BK381.out 5).trans rfl;have hfz54_0:=blk_frozen BK381.out 0;have hfz54_1:=blk_frozen BK381.out 1;have hfz54_2:=blk_frozen BK381.out 2;have hfz54_3:=blk_frozen BK381.out 3;have hfz54_4:=blk_frozen BK381.out 4;have hfz54_5:=blk_frozen BK381.out 5) | ((with_reducible refine gate_builtin (b:=.append) (xs:=#[.tmp 80,.tmp 83]) rfl ?_);(try (refine gate_guard (by rfl) ?_;dsimp only));at_builtin;refine Kd.R_append Kd.f64 (w0:=w) w.heap.size rfl (.tmp 80) (.tmp 83) 26 25 (.float .f64 0) 8 rfl Try.underlying26 info25 rfl (by decide) (by omega) u382002 x382002_2 ((rd_T86 t371 x75_2).f2) [.float .f64 ((rd_T86 t371 x75_2).f2)] (fun _ => True) (fun _ => False) rfl (by first | (go_simp;done) | (go_simp;rfl)) ?aP (fun _ hk => hk.elim) ?aF ?aO ?aB ?aS ?aL ?_;(case aP => exact rfl);(case aB => exact (by repeat (first | (with_reducible first | exact HB.out | apply below_alloc | apply pw_below_drewN | apply below_drew1 | refine below_set ?_ GE352.out | refine below_set ?_ GE381.out | refine below_set ?_ GE383.out) | exact HB.out)));(case aF => exact (fun _ _ => trivial));(case aO => exact (by (with_reducible repeat (first | apply Kd.R_alloc | apply Kd.R_drewN | apply Kd.R_drew));exact Kd.R_mono (Kd.R_far (p:=⟨gb383,3,none⟩) (Kd.R_far (p:=⟨gb383,2,none⟩) (Kd.R_far (p:=⟨gb383,1,none⟩) (Kd.R_far (p:=⟨gb383,0,none⟩) (Kd.R_types HO_382002.out BK383.out (by decide)) (fun _ hk => hk.2) (.int .i64 ((rd_T86 t371 x75_2).f0))) (fun _ hk => hk.2) (.int .i64 ((rd_T86 t371 x75_2).f1))) (fun _ hk => hk.2) (.float .f64 ((rd_T86 t371 x75_2).f2))) (fun _ hk => hk.2) (.string ((rd_T86 t371 x75_2).f3))) (fun _ hk => trivial)));(case aS => exact (below_size (by repeat (first | (with_reducible first | exact HB.out | apply below_alloc | apply pw_below_drewN | apply below_drew1 | refine below_set ?_ GE352.out | refine below_set ?_ GE381.out | refine below_set ?_ GE383.out) | exact HB.out))));(case aL => have:=LMc48.out;omega);intro v385 w55 ho hb hg hat;rw [← Ny384.out] at ho;have n0_:=Aside0.mk (Kd.R_over' (by (with_reducible repeat (first | apply Kd.R_alloc | apply Kd.R_drewN | apply Kd.R_drew));exact (Kd.R_mono (Kd.R_far (p:=⟨gb383,3,none⟩) (Kd.R_far (p:=⟨gb383,2,none⟩) (Kd.R_far (p:=⟨gb383,1,none⟩) (Kd.R_far (p:=⟨gb383,0,none⟩) (Kd.R_mono HO_73.out (fun k_ hk => (⟨hk,hk.2⟩ : _ ∧ k_ ≠ gb383))) (fun _ hk => hk.2) (.int .i64 ((rd_T86 t371 x75_2).f0))) (fun _ hk => hk.2) (.int .i64 ((rd_T86 t371 x75_2).f1))) (fun _ hk => hk.2) (.float .f64 ((rd_T86 t371 x75_2).f2))) (fun _ hk => hk.2) (.string ((rd_T86 t371 x75_2).f3))) (fun _ h_ => h_.1))) (Kd.R_typed (by (with_reducible repeat (first | apply Kd.R_alloc | apply Kd.R_drewN | apply Kd.R_drew));exact (Kd.R_mono (Kd.R_far (p:=⟨gb383,3,none⟩) (Kd.R_far (p:=⟨gb383,2,none⟩) (Kd.R_far (p:=⟨gb383,1,none⟩) (Kd.R_far (p:=⟨gb383,0,none⟩) (Kd.R_types HO_382002.out BK383.out (by decide)) (fun _ hk => hk.2) (.int .i64 ((rd_T86 t371 x75_2).f0))) (fun _ hk => hk.2) (.int .i64 ((rd_T86 t371 x75_2).f1))) (fun _ hk => hk.2) (.float .f64 ((rd_T86 t371 x75_2).f2))) (fun _ hk => hk.2) (.string ((rd_T86 t371 x75_2).f3))) (fun _ h_ => h_.1)))) (by decide) hg);have n1_:=Aside0.mk (blk_grown (g:=gb352) (o:=.cells #[.float .f64 0,.bool false,.slice none 0 0,.int .i64 0,.int .i64 0,.int .i64 0] 30 (0,0)) (by (with_reducible repeat (first | refine blk_drewN ?_ _ | refine blk_drew ?_ | refine blk_alloc ?_ _));refine blk_far ?_ NB352_383.out _;(with_reducible repeat (first | refine blk_drewN ?_ _ | refine blk_drew ?_ | refine blk_alloc ?_ _));refine blk_far ?_ NB352_383.out _;(with_reducible repeat (first | refine blk_drewN ?_ _ | refine blk_drew ?_ | refine blk_alloc ?_ _));refine blk_far ?_ NB352_383.out _;(with_reducible repeat (first | refine blk_drewN ?_ _ | refine blk_drew ?_ | refine blk_alloc ?_ _));refine blk_far ?_ NB352_383.out _;(with_reducible repeat (first | refine blk_drewN ?_ _ | refine blk_drew ?_ | refine blk_alloc ?_ _));exact BK352.out) hg (Kd.R_ne HO_382002.out BK352.out (by decide)));have n2_:=Aside0.mk (blk_grown (g:=gb381) (o:=.cells #[.float .f64 ((rd_T86 t356 1).f2),.bool (((rd_T86 t356 0).f1) == 1),u382002,.int .i64 ((rd_T86 t356 2).f1),.int .i64 ((rd_T86 t356 3).f1),.int .i64 ((rd_T86 t356 4).f1)] 30 (0,0)) (by (with_reducible repeat (first | refine blk_drewN ?_ _ | refine blk_drew ?_ | refine blk_alloc ?_ _));refine blk_far ?_ NB381_383.out _;(with_reducible repeat (first | refine blk_drewN ?_ _ | refine blk_drew ?_ | refine blk_alloc ?_ _));refine blk_far ?_ NB381_383.out _;(with_reducible repeat (first | refine blk_drewN ?_ _ | refine blk_drew ?_ | refine blk_alloc ?_ _));refine blk_far ?_ NB381_383.out _;(with_reducible repeat (first | refine blk_drewN ?_ _ | refine blk_drew ?_ | refine blk_alloc ?_ _));refine blk_far ?_ NB381_383.out _;(with_reducible repeat (first | refine blk_drewN ?_ _ | refine blk_drew ?_ | refine blk_alloc ?_ _));exact BK381.out) hg (Kd.R_ne HO_382002.out BK381.out (by decide)));have n3_:=Aside0.mk (blk_grown (g:=gb383) (o:=.cells #[.int .i64 ((rd_T86 t371 x75_2).f0),.int .i64 ((rd_T86 t371 x75_2).f1),.float .f64 ((rd_T86 t371 x75_2).f2),.string ((rd_T86 t371 x75_2).f3)] 86 (0,0)) (by (with_reducible repeat (first | refine blk_drewN ?_ _ | refine blk_drew ?_ | refine blk_alloc ?_ _));refine blk_put (cs:=#[.int .i64 ((rd_T86 t371 x75_2).f0),.int .i64 ((rd_T86 t371 x75_2).f1),.float .f64 ((rd_T86 t371 x75_2).f2),.string (⟨#[]⟩ : ByteArray)]) ?_ 3 _ rfl;(with_reducible repeat (first | refine blk_drewN ?_ _ | refine blk_drew ?_ | refine blk_alloc ?_ _));refine blk_put (cs:=#[.int .i64 ((rd_T86 t371 x75_2).f0),.int .i64 ((rd_T86 t371 x75_2).f1),.float .f64 0,.string (⟨#[]⟩ : ByteArray)]) ?_ 2 _ rfl;(with_reducible repeat (first | refine blk_drewN ?_ _ | refine blk_drew ?_ | refine blk_alloc ?_ _));refine blk_put (cs:=#[.int .i64 ((rd_T86 t371 x75_2).f0),.int .i64 0,.float .f64 0,.string (⟨#[]⟩ : ByteArray)]) ?_ 1 _ rfl;(with_reducible repeat (first | refine blk_drewN ?_ _ | refine blk_drew ?_ | refine blk_alloc ?_ _));refine blk_put (cs:=#[.int .i64 0,.int .i64 0,.float .f64 0,.string (⟨#[]⟩ : ByteArray)]) ?_ 0 _ rfl;(with_reducible repeat (first | refine blk_drewN ?_ _ | refine blk_drew ?_ | refine blk_alloc ?_ _));exact BK383.out) hg (Kd.R_ne HO_382002.out BK383.out (by decide)));have n4_:=Aside0.mk (hb);have n5_:=Aside0.mk (ho);clear HO_73;clear BK352;clear BK381;clear BK383;clear HB;clear HO_382002;have HO_73:=n0_;have BK352:=n1_;have BK381:=n2_;have BK383:=n3_;have HB:=n4_;have HO386:=n5_;clear n0_ n1_ n2_ n3_ n4_ n5_;clear ho hb hg hat;obtain ⟨Ao56,co56,eo56⟩:=Kd.R_slice HO386.out;subst eo56;have hcz57_0 : w55.cell? ⟨gb381,0,none⟩ = some (.float .f64 ((rd_T86 t356 1).f2)):=(blk_cell BK381.out 0).trans rfl;have hcz57_1 : w55.cell? ⟨gb381,1,none⟩ = some (.bool (((rd_T86 t356 0).f1) == 1)):=(blk_cell BK381.out 1).trans rfl;have hcz57_2 : w55.cell? ⟨gb381,2,none⟩ = some (u382002):=(blk_cell BK381.out 2).trans rfl;have hcz57_3 : w55.cell? ⟨gb381,3,none⟩ = some (.int .i64 ((rd_T86 t356 2).f1)):=(blk_cell BK381.out 3).trans rfl;have hcz57_4 : w55.cell? ⟨gb381,4,none⟩ = some (.int .i64 ((rd_T86 t356 3).f1)):=(blk_cell BK381.out 4).trans rfl;have hcz57_5 : w55.cell? ⟨gb381,5,none⟩ = some (.int .i64 ((rd_T86 t356 4).f1)):=(blk_cell BK381.out 5).trans rfl;have hfz57_0:=blk_frozen BK381.out 0;have hfz57_1:=blk_frozen BK381.out 1;have hfz57_2:=blk_frozen BK381.out 2;have hfz57_3:=blk_frozen BK381.out 3;have hfz57_4:=blk_frozen BK381.out 4;have hfz57_5:=blk_frozen BK381.out 5))
                                    go_roundg k2
                                    case measure => have:=HJ3.out;have:=HK2.out;omega
                                    case rel => exact ⟨(wrap64 (x75_2 + 1)),(y384),(.slice Ao56 y384.length co56),(by first | rfl | (simp;done) | (simp [*];done)),H',⟨by have:=HJ3.out;have:=HK2.out;omega⟩,⟨by (with_reducible repeat (first | apply Kd.R_alloc | apply Kd.R_drewN | apply Kd.R_drew));exact Kd.R_mono (Kd.R_far (p:=⟨gb381,2,none⟩) (Kd.R_types HO_73.out BK381.out (by decide)) (fun _ hk => hk.2) (.slice Ao56 y384.length co56)) (fun _ hk => trivial)⟩,⟨by (with_reducible repeat (first | apply Kd.R_alloc | apply Kd.R_drewN | apply Kd.R_drew));exact Kd.R_mono (Kd.R_far (p:=⟨gb381,2,none⟩) (Kd.R_types HO386.out BK381.out (by decide)) (fun _ hk => hk.2) (.slice Ao56 y384.length co56)) (fun _ hk => trivial)⟩,⟨by (with_reducible repeat (first | refine blk_drewN ?_ _ | refine blk_drew ?_ | refine blk_alloc ?_ _));refine blk_far ?_ NB352_381.out _;(with_reducible repeat (first | refine blk_drewN ?_ _ | refine blk_drew ?_ | refine blk_alloc ?_ _));exact BK352.out⟩,⟨by (with_reducible repeat (first | refine blk_drewN ?_ _ | refine blk_drew ?_ | refine blk_alloc ?_ _));refine blk_put (cs:=#[.float .f64 ((rd_T86 t356 1).f2),.bool (((rd_T86 t356 0).f1) == 1),u382002,.int .i64 ((rd_T86 t356 2).f1),.int .i64 ((rd_T86 t356 3).f1),.int .i64 ((rd_T86 t356 4).f1)]) ?_ 2 _ rfl;(with_reducible repeat (first | refine blk_drewN ?_ _ | refine blk_drew ?_ | refine blk_alloc ?_ _));exact BK381.out⟩,⟨by repeat (first | (with_reducible first | exact HB.out | apply below_alloc | apply pw_below_drewN | apply below_drew1 | refine below_set ?_ GE352.out | refine below_set ?_ GE381.out | refine below_set ?_ GE383.out) | exact HB.out)⟩⟩
                                  · rw [if_neg c48] at H
                                    exact absurd H (by simp)
                                · rw [if_neg c47] at H
                                  exact absurd H (by simp)
                              · rw [if_neg c46] at H
                                exact absurd H (by simp)
                            · rw [if_neg c45] at H
                              have c45b0 : decide (x75_2 < (t371.length : Int)) = false:=decide_eq_false c45
                              clear c45
                              by_cases c58 : t373 = 0
                              · rw [if_pos c58] at H
                                have c58b0 : (t373 == 0) = true:=beq_iff_eq.mpr c58
                                have c58b1 : (t373 != 0) = false:=bne_eq_false_iff_eq.mpr c58
                                clear c58
                                by_cases c59 : (wrap64 (t357 + t372)) = (l0.length : Int)
                                · rw [if_pos c59] at H
                                  have c59b0 : ((wrap64 (t357 + t372)) == (l0.length : Int)) = true:=beq_iff_eq.mpr c59
                                  have c59b1 : ((wrap64 (t357 + t372)) != (l0.length : Int)) = false:=bne_eq_false_iff_eq.mpr c59
                                  clear c59
                                  replace H:=Option.bind_eq_some_iff.mp H
                                  obtain ⟨t387,A600,H⟩:=H
                                  replace H : (if t387 = 0 then (some (((rd_T86 t356 1).f2),(((rd_T86 t356 0).f1) == 1),x382002_2,((rd_T86 t356 2).f1),((rd_T86 t356 3).f1),((rd_T86 t356 4).f1),0)) else (some (0,false,([] : List Nat),0,0,0,4))) = some (r1,r2,r3,r4,r5,r6,r7):=H
                                  have A60:=Aside0.mk A600
                                  clear A600
                                  by_cases c61 : t387 = 0
                                  · rw [if_pos c61] at H
                                    have c61b0 : (t387 == 0) = true:=beq_iff_eq.mpr c61
                                    have c61b1 : (t387 != 0) = false:=bne_eq_false_iff_eq.mpr c61
                                    clear c61
                                    simp only [Option.some.injEq,Prod.mk.injEq] at H
                                    obtain ⟨rfl,rfl,rfl,rfl,rfl,rfl,rfl⟩:=H
                                    have hnb62:=NB381_352.out
                                    have hnc62:=NB352_381.out
                                    have hcz63_0 : wr.cell? ⟨gb381,0,none⟩ = some (.float .f64 ((rd_T86 t356 1).f2)):=(blk_cell BK381.out 0).trans rfl
                                    have hcz63_1 : wr.cell? ⟨gb381,1,none⟩ = some (.bool (((rd_T86 t356 0).f1) == 1)):=(blk_cell BK381.out 1).trans rfl
                                    have hcz63_2 : wr.cell? ⟨gb381,2,none⟩ = some (u382002):=(blk_cell BK381.out 2).trans rfl
                                    have hcz63_3 : wr.cell? ⟨gb381,3,none⟩ = some (.int .i64 ((rd_T86 t356 2).f1)):=(blk_cell BK381.out 3).trans rfl
                                    have hcz63_4 : wr.cell? ⟨gb381,4,none⟩ = some (.int .i64 ((rd_T86 t356 3).f1)):=(blk_cell BK381.out 4).trans rfl
                                    have hcz63_5 : wr.cell? ⟨gb381,5,none⟩ = some (.int .i64 ((rd_T86 t356 4).f1)):=(blk_cell BK381.out 5).trans rfl
                                    have hfz63_0:=blk_frozen BK381.out 0
                                    have hfz63_1:=blk_frozen BK381.out 1
                                    have hfz63_2:=blk_frozen BK381.out 2
                                    have hfz63_3:=blk_frozen BK381.out 3
                                    have hfz63_4:=blk_frozen BK381.out 4
                                    have hfz63_5:=blk_frozen BK381.out 5
                                    obtain ⟨Ao64,co64,eo64⟩:=Kd.R_slice HO_382002.out
                                    subst eo64
                                    go_wp2_with (first | (go_at_call 33;(with_reducible refine (row_Check.calls k2 ((rd_T86 t356 1).f2) (((rd_T86 t356 0).f1) == 1) _ _ x382002_2 ((rd_T86 t356 2).f1) ((rd_T86 t356 3).f1) ((rd_T86 t356 4).f1) t387 _ ?side1 ?side2 A60.out).mono ?_);(case side1 => repeat (first | exact (Kd.R_reads' HO_382002.out).2.2 | (with_reducible refine Kd.C_alloc ?_ _) | (with_reducible refine Kd.C_drewN ?_ _) | (with_reducible refine Kd.C_drew ?_)));(case side2 => exact (Kd.R_reads' HO_382002.out).2.1);rintro e w65 ⟨rfl,hb⟩;have n0_:=Aside0.mk (Kd.R_below (by (with_reducible repeat (first | apply Kd.R_alloc | apply Kd.R_drewN | apply Kd.R_drew));exact HO_73.out) hb);have n1_:=Aside0.mk (Kd.R_below (by (with_reducible repeat (first | apply Kd.R_alloc | apply Kd.R_drewN | apply Kd.R_drew));exact HO_382002.out) hb);have n2_:=Aside0.mk (blk_below (g:=gb352) (o:=.cells #[.float .f64 0,.bool false,.slice none 0 0,.int .i64 0,.int .i64 0,.int .i64 0] 30 (0,0)) (by (with_reducible repeat (first | refine blk_drewN ?_ _ | refine blk_drew ?_ | refine blk_alloc ?_ _));exact BK352.out) hb);have n3_:=Aside0.mk (blk_below (g:=gb381) (o:=.cells #[.float .f64 ((rd_T86 t356 1).f2),.bool (((rd_T86 t356 0).f1) == 1),.slice Ao64 x382002_2.length co64,.int .i64 ((rd_T86 t356 2).f1),.int .i64 ((rd_T86 t356 3).f1),.int .i64 ((rd_T86 t356 4).f1)] 30 (0,0)) (by (with_reducible repeat (first | refine blk_drewN ?_ _ | refine blk_drew ?_ | refine blk_alloc ?_ _));exact BK381.out) hb);have n4_:=Aside0.mk (below_step (by repeat (first | (with_reducible first | exact HB.out | apply below_alloc | apply pw_below_drewN | apply below_drew1 | refine below_set ?_ GE352.out | refine below_set ?_ GE381.out) | exact HB.out)) hb);clear HO_73;clear HO_382002;clear BK352;clear BK381;clear HB;have HO_73:=n0_;have HO_382002:=n1_;have BK352:=n2_;have BK381:=n3_;have HB:=n4_;clear n0_ n1_ n2_ n3_ n4_;(try clear hb);(try clear hb2);(try clear hk);(try clear hi);have hcz66_0 : w65.cell? ⟨gb381,0,none⟩ = some (.float .f64 ((rd_T86 t356 1).f2)):=(blk_cell BK381.out 0).trans rfl;have hcz66_1 : w65.cell? ⟨gb381,1,none⟩ = some (.bool (((rd_T86 t356 0).f1) == 1)):=(blk_cell BK381.out 1).trans rfl;have hcz66_2 : w65.cell? ⟨gb381,2,none⟩ = some (.slice Ao64 x382002_2.length co64):=(blk_cell BK381.out 2).trans rfl;have hcz66_3 : w65.cell? ⟨gb381,3,none⟩ = some (.int .i64 ((rd_T86 t356 2).f1)):=(blk_cell BK381.out 3).trans rfl;have hcz66_4 : w65.cell? ⟨gb381,4,none⟩ = some (.int .i64 ((rd_T86 t356 3).f1)):=(blk_cell BK381.out 4).trans rfl;have hcz66_5 : w65.cell? ⟨gb381,5,none⟩ = some (.int .i64 ((rd_T86 t356 4).f1)):=(blk_cell BK381.out 5).trans rfl;have hfz66_0:=blk_frozen BK381.out 0;have hfz66_1:=blk_frozen BK381.out 1;have hfz66_2:=blk_frozen BK381.out 2;have hfz66_3:=blk_frozen BK381.out 3;have hfz66_4:=blk_frozen BK381.out 4;have hfz66_5:=blk_frozen BK381.out 5;have hcz67_0 : w65.cell? ⟨gb352,0,none⟩ = some (.float .f64 0):=(blk_cell BK352.out 0).trans rfl;have hcz67_1 : w65.cell? ⟨gb352,1,none⟩ = some (.bool false):=(blk_cell BK352.out 1).trans rfl;have hcz67_2 : w65.cell? ⟨gb352,2,none⟩ = some (.slice none 0 0):=(blk_cell BK352.out 2).trans rfl;have hcz67_3 : w65.cell? ⟨gb352,3,none⟩ = some (.int .i64 0):=(blk_cell BK352.out 3).trans rfl;have hcz67_4 : w65.cell? ⟨gb352,4,none⟩ = some (.int .i64 0):=(blk_cell BK352.out 4).trans rfl;have hcz67_5 : w65.cell? ⟨gb352,5,none⟩ = some (.int .i64 0):=(blk_cell BK352.out 5).trans rfl;have hfz67_0:=blk_frozen BK352.out 0;have hfz67_1:=blk_frozen BK352.out 1;have hfz67_2:=blk_frozen BK352.out 2;have hfz67_3:=blk_frozen BK352.out 3;have hfz67_4:=blk_frozen BK352.out 4;have hfz67_5:=blk_frozen BK352.out 5))
                                    refine bodyPost_ret (results_ct rfl _ _ gb352 30 #[.float .f64 ((rd_T86 t356 1).f2),.bool (((rd_T86 t356 0).f1) == 1),.slice Ao64 x382002_2.length co64,.int .i64 ((rd_T86 t356 2).f1),.int .i64 ((rd_T86 t356 3).f1),.int .i64 ((rd_T86 t356 4).f1)] (0,0) _ rfl (by (with_reducible repeat (first | refine blk_drewN ?_ _ | refine blk_drew ?_ | refine blk_alloc ?_ _));refine blk_put (cs:=#[.float .f64 ((rd_T86 t356 1).f2),.bool (((rd_T86 t356 0).f1) == 1),.slice Ao64 x382002_2.length co64,.int .i64 ((rd_T86 t356 2).f1),.int .i64 ((rd_T86 t356 3).f1),.int .i64 0]) ?_ 5 _ rfl;(with_reducible repeat (first | refine blk_drewN ?_ _ | refine blk_drew ?_ | refine blk_alloc ?_ _));refine blk_put (cs:=#[.float .f64 ((rd_T86 t356 1).f2),.bool (((rd_T86 t356 0).f1) == 1),.slice Ao64 x382002_2.length co64,.int .i64 ((rd_T86 t356 2).f1),.int .i64 0,.int .i64 0]) ?_ 4 _ rfl;(with_reducible repeat (first | refine blk_drewN ?_ _ | refine blk_drew ?_ | refine blk_alloc ?_ _));refine blk_put (cs:=#[.float .f64 ((rd_T86 t356 1).f2),.bool (((rd_T86 t356 0).f1) == 1),.slice Ao64 x382002_2.length co64,.int .i64 0,.int .i64 0,.int .i64 0]) ?_ 3 _ rfl;(with_reducible repeat (first | refine blk_drewN ?_ _ | refine blk_drew ?_ | refine blk_alloc ?_ _));refine blk_put (cs:=#[.float .f64 ((rd_T86 t356 1).f2),.bool (((rd_T86 t356 0).f1) == 1),.slice none 0 0,.int .i64 0,.int .i64 0,.int .i64 0]) ?_ 2 _ rfl;(with_reducible repeat (first | refine blk_drewN ?_ _ | refine blk_drew ?_ | refine blk_alloc ?_ _));refine blk_put (cs:=#[.float .f64 ((rd_T86 t356 1).f2),.bool false,.slice none 0 0,.int .i64 0,.int .i64 0,.int .i64 0]) ?_ 1 _ rfl;(with_reducible repeat (first | refine blk_drewN ?_ _ | refine blk_drew ?_ | refine blk_alloc ?_ _));refine blk_put (cs:=#[.float .f64 0,.bool false,.slice none 0 0,.int .i64 0,.int .i64 0,.int .i64 0]) ?_ 0 _ rfl;(with_reducible repeat (first | refine blk_drewN ?_ _ | refine blk_drew ?_ | refine blk_alloc ?_ _));exact BK352.out) Try.underlying30 rfl (by kernel_rfl)) rfl ?_
                                    exact ⟨_,by first | rfl | (simp [errW_none,errW_some] <;> rfl) | (simp [*,errW_none,errW_some] <;> rfl),by (with_reducible repeat (first | apply Kd.R_alloc | apply Kd.R_drewN | apply Kd.R_drew));exact Kd.R_mono (Kd.R_far (p:=⟨gb352,5,none⟩) (Kd.R_far (p:=⟨gb352,4,none⟩) (Kd.R_far (p:=⟨gb352,3,none⟩) (Kd.R_far (p:=⟨gb352,2,none⟩) (Kd.R_far (p:=⟨gb352,1,none⟩) (Kd.R_far (p:=⟨gb352,0,none⟩) (Kd.R_types HO_382002.out BK352.out (by decide)) (fun _ hk => hk.2) (.float .f64 ((rd_T86 t356 1).f2))) (fun _ hk => hk.2) (.bool (((rd_T86 t356 0).f1) == 1))) (fun _ hk => hk.2) (.slice Ao64 x382002_2.length co64)) (fun _ hk => hk.2) (.int .i64 ((rd_T86 t356 2).f1))) (fun _ hk => hk.2) (.int .i64 ((rd_T86 t356 3).f1))) (fun _ hk => hk.2) (.int .i64 ((rd_T86 t356 4).f1))) (fun _ hk => trivial),by repeat (first | (with_reducible first | exact HB.out | apply below_alloc | apply pw_below_drewN | apply below_drew1 | refine below_set ?_ GE352.out | refine below_set ?_ GE381.out) | exact HB.out)⟩
                                  · rw [if_neg c61] at H
                                    have c61b0 : (t387 == 0) = false:=beq_eq_false_iff_ne.mpr c61
                                    have c61b1 : (t387 != 0) = true:=bne_iff_ne.mpr c61
                                    simp only [Option.some.injEq,Prod.mk.injEq] at H
                                    obtain ⟨rfl,rfl,rfl,rfl,rfl,rfl,rfl⟩:=H
                                    have hnb68:=NB381_352.out
                                    have hnc68:=NB352_381.out
                                    have hcz69_0 : wr.cell? ⟨gb381,0,none⟩ = some (.float .f64 ((rd_T86 t356 1).f2)):=(blk_cell BK381.out 0).trans rfl
                                    have hcz69_1 : wr.cell? ⟨gb381,1,none⟩ = some (.bool (((rd_T86 t356 0).f1) == 1)):=(blk_cell BK381.out 1).trans rfl
                                    have hcz69_2 : wr.cell? ⟨gb381,2,none⟩ = some (u382002):=(blk_cell BK381.out 2).trans rfl
                                    have hcz69_3 : wr.cell? ⟨gb381,3,none⟩ = some (.int .i64 ((rd_T86 t356 2).f1)):=(blk_cell BK381.out 3).trans rfl
                                    have hcz69_4 : wr.cell? ⟨gb381,4,none⟩ = some (.int .i64 ((rd_T86 t356 3).f1)):=(blk_cell BK381.out 4).trans rfl
                                    have hcz69_5 : wr.cell? ⟨gb381,5,none⟩ = some (.int .i64 ((rd_T86 t356 4).f1)):=(blk_cell BK381.out 5).trans rfl
                                    have hfz69_0:=blk_frozen BK381.out 0
                                    have hfz69_1:=blk_frozen BK381.out 1
                                    have hfz69_2:=blk_frozen BK381.out 2
                                    have hfz69_3:=blk_frozen BK381.out 3
                                    have hfz69_4:=blk_frozen BK381.out 4
                                    have hfz69_5:=blk_frozen BK381.out 5
                                    obtain ⟨Ao70,co70,eo70⟩:=Kd.R_slice HO_382002.out
                                    subst eo70
                                    go_wp2_with (first | (go_at_call 33;(with_reducible refine (row_Check.calls k2 ((rd_T86 t356 1).f2) (((rd_T86 t356 0).f1) == 1) _ _ x382002_2 ((rd_T86 t356 2).f1) ((rd_T86 t356 3).f1) ((rd_T86 t356 4).f1) t387 _ ?side1 ?side2 A60.out).mono ?_);(case side1 => repeat (first | exact (Kd.R_reads' HO_382002.out).2.2 | (with_reducible refine Kd.C_alloc ?_ _) | (with_reducible refine Kd.C_drewN ?_ _) | (with_reducible refine Kd.C_drew ?_)));(case side2 => exact (Kd.R_reads' HO_382002.out).2.1);rintro e w71 ⟨rfl,hb⟩;have n0_:=Aside0.mk (Kd.R_below (by (with_reducible repeat (first | apply Kd.R_alloc | apply Kd.R_drewN | apply Kd.R_drew));exact HO_73.out) hb);have n1_:=Aside0.mk (Kd.R_below (by (with_reducible repeat (first | apply Kd.R_alloc | apply Kd.R_drewN | apply Kd.R_drew));exact HO_382002.out) hb);have n2_:=Aside0.mk (blk_below (g:=gb352) (o:=.cells #[.float .f64 0,.bool false,.slice none 0 0,.int .i64 0,.int .i64 0,.int .i64 0] 30 (0,0)) (by (with_reducible repeat (first | refine blk_drewN ?_ _ | refine blk_drew ?_ | refine blk_alloc ?_ _));exact BK352.out) hb);have n3_:=Aside0.mk (blk_below (g:=gb381) (o:=.cells #[.float .f64 ((rd_T86 t356 1).f2),.bool (((rd_T86 t356 0).f1) == 1),.slice Ao70 x382002_2.length co70,.int .i64 ((rd_T86 t356 2).f1),.int .i64 ((rd_T86 t356 3).f1),.int .i64 ((rd_T86 t356 4).f1)] 30 (0,0)) (by (with_reducible repeat (first | refine blk_drewN ?_ _ | refine blk_drew ?_ | refine blk_alloc ?_ _));exact BK381.out) hb);have n4_:=Aside0.mk (below_step (by repeat (first | (with_reducible first | exact HB.out | apply below_alloc | apply pw_below_drewN | apply below_drew1 | refine below_set ?_ GE352.out | refine below_set ?_ GE381.out) | exact HB.out)) hb);clear HO_73;clear HO_382002;clear BK352;clear BK381;clear HB;have HO_73:=n0_;have HO_382002:=n1_;have BK352:=n2_;have BK381:=n3_;have HB:=n4_;clear n0_ n1_ n2_ n3_ n4_;(try clear hb);(try clear hb2);(try clear hk);(try clear hi);have hcz72_0 : w71.cell? ⟨gb352,0,none⟩ = some (.float .f64 0):=(blk_cell BK352.out 0).trans rfl;have hcz72_1 : w71.cell? ⟨gb352,1,none⟩ = some (.bool false):=(blk_cell BK352.out 1).trans rfl;have hcz72_2 : w71.cell? ⟨gb352,2,none⟩ = some (.slice none 0 0):=(blk_cell BK352.out 2).trans rfl;have hcz72_3 : w71.cell? ⟨gb352,3,none⟩ = some (.int .i64 0):=(blk_cell BK352.out 3).trans rfl;have hcz72_4 : w71.cell? ⟨gb352,4,none⟩ = some (.int .i64 0):=(blk_cell BK352.out 4).trans rfl;have hcz72_5 : w71.cell? ⟨gb352,5,none⟩ = some (.int .i64 0):=(blk_cell BK352.out 5).trans rfl;have hfz72_0:=blk_frozen BK352.out 0;have hfz72_1:=blk_frozen BK352.out 1;have hfz72_2:=blk_frozen BK352.out 2;have hfz72_3:=blk_frozen BK352.out 3;have hfz72_4:=blk_frozen BK352.out 4;have hfz72_5:=blk_frozen BK352.out 5))
                                    refine bodyPost_ret (results_ct rfl _ _ gb352 30 #[.float .f64 0,.bool false,.slice none 0 0,.int .i64 0,.int .i64 0,.int .i64 0] (0,0) _ rfl (by (with_reducible repeat (first | refine blk_drewN ?_ _ | refine blk_drew ?_ | refine blk_alloc ?_ _));refine blk_put (cs:=#[.float .f64 0,.bool false,.slice none 0 0,.int .i64 0,.int .i64 0,.int .i64 0]) ?_ 5 _ rfl;(with_reducible repeat (first | refine blk_drewN ?_ _ | refine blk_drew ?_ | refine blk_alloc ?_ _));refine blk_put (cs:=#[.float .f64 0,.bool false,.slice none 0 0,.int .i64 0,.int .i64 0,.int .i64 0]) ?_ 4 _ rfl;(with_reducible repeat (first | refine blk_drewN ?_ _ | refine blk_drew ?_ | refine blk_alloc ?_ _));refine blk_put (cs:=#[.float .f64 0,.bool false,.slice none 0 0,.int .i64 0,.int .i64 0,.int .i64 0]) ?_ 3 _ rfl;(with_reducible repeat (first | refine blk_drewN ?_ _ | refine blk_drew ?_ | refine blk_alloc ?_ _));refine blk_put (cs:=#[.float .f64 0,.bool false,.slice none 0 0,.int .i64 0,.int .i64 0,.int .i64 0]) ?_ 2 _ rfl;(with_reducible repeat (first | refine blk_drewN ?_ _ | refine blk_drew ?_ | refine blk_alloc ?_ _));refine blk_put (cs:=#[.float .f64 0,.bool false,.slice none 0 0,.int .i64 0,.int .i64 0,.int .i64 0]) ?_ 1 _ rfl;(with_reducible repeat (first | refine blk_drewN ?_ _ | refine blk_drew ?_ | refine blk_alloc ?_ _));refine blk_put (cs:=#[.float .f64 0,.bool false,.slice none 0 0,.int .i64 0,.int .i64 0,.int .i64 0]) ?_ 0 _ rfl;(with_reducible repeat (first | refine blk_drewN ?_ _ | refine blk_drew ?_ | refine blk_alloc ?_ _));exact BK352.out) Try.underlying30 rfl (by kernel_rfl)) rfl ?_
                                    exact ⟨_,by first | rfl | (simp [errW_none,errW_some] <;> rfl) | (simp [*,errW_none,errW_some] <;> rfl),by first | exact Kd.R_nil _ _ _ _ _ | exact Kd.N_nil _ _ _ _ _ | exact Kd.V_nil _ _ _ _ _ | exact Kd.Q_nil _ _ _ _ _ | exact Kd.S_nil _ _ _ _ _,by repeat (first | (with_reducible first | exact HB.out | apply below_alloc | apply pw_below_drewN | apply below_drew1 | refine below_set ?_ GE352.out | refine below_set ?_ GE381.out) | exact HB.out)⟩
                                · rw [if_neg c59] at H
                                  have c59b0 : ((wrap64 (t357 + t372)) == (l0.length : Int)) = false:=beq_eq_false_iff_ne.mpr c59
                                  have c59b1 : ((wrap64 (t357 + t372)) != (l0.length : Int)) = true:=bne_iff_ne.mpr c59
                                  simp only [Option.some.injEq,Prod.mk.injEq] at H
                                  obtain ⟨rfl,rfl,rfl,rfl,rfl,rfl,rfl⟩:=H
                                  have hnb73:=NB352_381.out
                                  have hnc73:=NB381_352.out
                                  have hcz74_0 : wr.cell? ⟨gb352,0,none⟩ = some (.float .f64 0):=(blk_cell BK352.out 0).trans rfl
                                  have hcz74_1 : wr.cell? ⟨gb352,1,none⟩ = some (.bool false):=(blk_cell BK352.out 1).trans rfl
                                  have hcz74_2 : wr.cell? ⟨gb352,2,none⟩ = some (.slice none 0 0):=(blk_cell BK352.out 2).trans rfl
                                  have hcz74_3 : wr.cell? ⟨gb352,3,none⟩ = some (.int .i64 0):=(blk_cell BK352.out 3).trans rfl
                                  have hcz74_4 : wr.cell? ⟨gb352,4,none⟩ = some (.int .i64 0):=(blk_cell BK352.out 4).trans rfl
                                  have hcz74_5 : wr.cell? ⟨gb352,5,none⟩ = some (.int .i64 0):=(blk_cell BK352.out 5).trans rfl
                                  have hfz74_0:=blk_frozen BK352.out 0
                                  have hfz74_1:=blk_frozen BK352.out 1
                                  have hfz74_2:=blk_frozen BK352.out 2
                                  have hfz74_3:=blk_frozen BK352.out 3
                                  have hfz74_4:=blk_frozen BK352.out 4
                                  have hfz74_5:=blk_frozen BK352.out 5
                                  go_wp2
                                  refine bodyPost_ret (results_ct rfl _ _ gb352 30 #[.float .f64 0,.bool false,.slice none 0 0,.int .i64 0,.int .i64 0,.int .i64 0] (0,0) _ rfl (by (with_reducible repeat (first | refine blk_drewN ?_ _ | refine blk_drew ?_ | refine blk_alloc ?_ _));refine blk_put (cs:=#[.float .f64 0,.bool false,.slice none 0 0,.int .i64 0,.int .i64 0,.int .i64 0]) ?_ 5 _ rfl;(with_reducible repeat (first | refine blk_drewN ?_ _ | refine blk_drew ?_ | refine blk_alloc ?_ _));refine blk_put (cs:=#[.float .f64 0,.bool false,.slice none 0 0,.int .i64 0,.int .i64 0,.int .i64 0]) ?_ 4 _ rfl;(with_reducible repeat (first | refine blk_drewN ?_ _ | refine blk_drew ?_ | refine blk_alloc ?_ _));refine blk_put (cs:=#[.float .f64 0,.bool false,.slice none 0 0,.int .i64 0,.int .i64 0,.int .i64 0]) ?_ 3 _ rfl;(with_reducible repeat (first | refine blk_drewN ?_ _ | refine blk_drew ?_ | refine blk_alloc ?_ _));refine blk_put (cs:=#[.float .f64 0,.bool false,.slice none 0 0,.int .i64 0,.int .i64 0,.int .i64 0]) ?_ 2 _ rfl;(with_reducible repeat (first | refine blk_drewN ?_ _ | refine blk_drew ?_ | refine blk_alloc ?_ _));refine blk_put (cs:=#[.float .f64 0,.bool false,.slice none 0 0,.int .i64 0,.int .i64 0,.int .i64 0]) ?_ 1 _ rfl;(with_reducible repeat (first | refine blk_drewN ?_ _ | refine blk_drew ?_ | refine blk_alloc ?_ _));refine blk_put (cs:=#[.float .f64 0,.bool false,.slice none 0 0,.int .i64 0,.int .i64 0,.int .i64 0]) ?_ 0 _ rfl;(with_reducible repeat (first | refine blk_drewN ?_ _ | refine blk_drew ?_ | refine blk_alloc ?_ _));exact BK352.out) Try.underlying30 rfl (by kernel_rfl)) rfl ?_
                                  exact ⟨_,by first | rfl | (simp [errW_none,errW_some] <;> rfl) | (simp [*,errW_none,errW_some] <;> rfl),by first | exact Kd.R_nil _ _ _ _ _ | exact Kd.N_nil _ _ _ _ _ | exact Kd.V_nil _ _ _ _ _ | exact Kd.Q_nil _ _ _ _ _ | exact Kd.S_nil _ _ _ _ _,by repeat (first | (with_reducible first | exact HB.out | apply below_alloc | apply pw_below_drewN | apply below_drew1 | refine below_set ?_ GE352.out | refine below_set ?_ GE381.out) | exact HB.out)⟩
                              · rw [if_neg c58] at H
                                have c58b0 : (t373 == 0) = false:=beq_eq_false_iff_ne.mpr c58
                                have c58b1 : (t373 != 0) = true:=bne_iff_ne.mpr c58
                                simp only [Option.some.injEq,Prod.mk.injEq] at H
                                obtain ⟨rfl,rfl,rfl,rfl,rfl,rfl,rfl⟩:=H
                                have hnb75:=NB352_381.out
                                have hnc75:=NB381_352.out
                                have hcz76_0 : wr.cell? ⟨gb352,0,none⟩ = some (.float .f64 0):=(blk_cell BK352.out 0).trans rfl
                                have hcz76_1 : wr.cell? ⟨gb352,1,none⟩ = some (.bool false):=(blk_cell BK352.out 1).trans rfl
                                have hcz76_2 : wr.cell? ⟨gb352,2,none⟩ = some (.slice none 0 0):=(blk_cell BK352.out 2).trans rfl
                                have hcz76_3 : wr.cell? ⟨gb352,3,none⟩ = some (.int .i64 0):=(blk_cell BK352.out 3).trans rfl
                                have hcz76_4 : wr.cell? ⟨gb352,4,none⟩ = some (.int .i64 0):=(blk_cell BK352.out 4).trans rfl
                                have hcz76_5 : wr.cell? ⟨gb352,5,none⟩ = some (.int .i64 0):=(blk_cell BK352.out 5).trans rfl
                                have hfz76_0:=blk_frozen BK352.out 0
                                have hfz76_1:=blk_frozen BK352.out 1
                                have hfz76_2:=blk_frozen BK352.out 2
                                have hfz76_3:=blk_frozen BK352.out 3
                                have hfz76_4:=blk_frozen BK352.out 4
                                have hfz76_5:=blk_frozen BK352.out 5
                                go_wp2
                                refine bodyPost_ret (results_ct rfl _ _ gb352 30 #[.float .f64 0,.bool false,.slice none 0 0,.int .i64 0,.int .i64 0,.int .i64 0] (0,0) _ rfl (by (with_reducible repeat (first | refine blk_drewN ?_ _ | refine blk_drew ?_ | refine blk_alloc ?_ _));refine blk_put (cs:=#[.float .f64 0,.bool false,.slice none 0 0,.int .i64 0,.int .i64 0,.int .i64 0]) ?_ 5 _ rfl;(with_reducible repeat (first | refine blk_drewN ?_ _ | refine blk_drew ?_ | refine blk_alloc ?_ _));refine blk_put (cs:=#[.float .f64 0,.bool false,.slice none 0 0,.int .i64 0,.int .i64 0,.int .i64 0]) ?_ 4 _ rfl;(with_reducible repeat (first | refine blk_drewN ?_ _ | refine blk_drew ?_ | refine blk_alloc ?_ _));refine blk_put (cs:=#[.float .f64 0,.bool false,.slice none 0 0,.int .i64 0,.int .i64 0,.int .i64 0]) ?_ 3 _ rfl;(with_reducible repeat (first | refine blk_drewN ?_ _ | refine blk_drew ?_ | refine blk_alloc ?_ _));refine blk_put (cs:=#[.float .f64 0,.bool false,.slice none 0 0,.int .i64 0,.int .i64 0,.int .i64 0]) ?_ 2 _ rfl;(with_reducible repeat (first | refine blk_drewN ?_ _ | refine blk_drew ?_ | refine blk_alloc ?_ _));refine blk_put (cs:=#[.float .f64 0,.bool false,.slice none 0 0,.int .i64 0,.int .i64 0,.int .i64 0]) ?_ 1 _ rfl;(with_reducible repeat (first | refine blk_drewN ?_ _ | refine blk_drew ?_ | refine blk_alloc ?_ _));refine blk_put (cs:=#[.float .f64 0,.bool false,.slice none 0 0,.int .i64 0,.int .i64 0,.int .i64 0]) ?_ 0 _ rfl;(with_reducible repeat (first | refine blk_drewN ?_ _ | refine blk_drew ?_ | refine blk_alloc ?_ _));exact BK352.out) Try.underlying30 rfl (by kernel_rfl)) rfl ?_
                                exact ⟨_,by first | rfl | (simp [errW_none,errW_some] <;> rfl) | (simp [*,errW_none,errW_some] <;> rfl),by first | exact Kd.R_nil _ _ _ _ _ | exact Kd.N_nil _ _ _ _ _ | exact Kd.V_nil _ _ _ _ _ | exact Kd.Q_nil _ _ _ _ _ | exact Kd.S_nil _ _ _ _ _,by repeat (first | (with_reducible first | exact HB.out | apply below_alloc | apply pw_below_drewN | apply below_drew1 | refine below_set ?_ GE352.out | refine below_set ?_ GE381.out) | exact HB.out)⟩
                      · rw [if_neg c26] at H
                        exact absurd H (by simp)
                    · rw [if_neg c25] at H
                      exact absurd H (by simp)
                  · rw [if_neg c24] at H
                    exact absurd H (by simp)
                · rw [if_neg c23] at H
                  exact absurd H (by simp)
              · rw [if_neg c22] at H
                exact absurd H (by simp)
            · rw [if_neg c19] at H
              exact absurd H (by simp)
          · rw [if_neg c18] at H
            exact absurd H (by simp)
        · rw [if_neg c17] at H
          exact absurd H (by simp)
end Go.Proofs.Ytdcllbhkjcdnoaa.P
