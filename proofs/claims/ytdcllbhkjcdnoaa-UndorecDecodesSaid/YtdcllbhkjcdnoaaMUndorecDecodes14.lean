/- by wip/prune.py -/
import Derived.Test.YtdcllbhkjcdnoaaMUndorecDecodes4
import Derived.Deep.LoopGhost
import Derived.Laws.CopyOwn
import Derived.Outline
import Derived.Test.YtdcllbhkjcdnoaaMUndorecDecodes2
import Derived.Test.YtdcllbhkjcdnoaaMUndorecDecodes5
import Derived.Test.YtdcllbhkjcdnoaaMUndorecDecodes7
import Derived.Test.YtdcllbhkjcdnoaaMUndorecDecodes8
import Derived.Test.YtdcllbhkjcdnoaaMUndorecDecodes9
import Derived.Test.YtdcllbhkjcdnoaaMUndorecDecodes10
import Derived.Test.YtdcllbhkjcdnoaaMUndorecDecodes13
set_option linter.unusedSimpArgs false
set_option linter.unusedVariables false
namespace Go.Proofs.Ytdcllbhkjcdnoaa.P
open Go.RowKit Ytdcllbhkjcdnoaa Ytdcllbhkjcdnoaa.Mem YtdcllbhkjcdnoaaW.PrintWords YtdcllbhkjcdnoaaW.PrintLast YtdcllbhkjcdnoaaW.PrintMore
theorem and32 (x : Nat) (h : x < 4294967296) : Go.bits .and .u64 (x : Int) 4294967295 = (x : Int) := by
  rw [Flt.asV x (by omega), show (4294967295 : Int) = ((0xFFFFFFFF#64 : BitVec 64).toNat : Int) from rfl, Flt.and64]
  congr 1
  rw [BitVec.toNat_and]
  rw [show (0xFFFFFFFF#64 : BitVec 64).toNat = 2 ^ 32 - 1 from rfl, Nat.and_two_pow_sub_one_eq_mod]
  simp only [BitVec.toNat_ofNat]
  omega
set_option maxRecDepth 100000 in
theorem Mul64_any (x y : Nat) (hx : x ≤ 1000) (hy : y ≤ 1000) (w : World) : Calls Try.prog 100 #[.int .u64 (x : Int), .int .u64 (y : Int)] w fun e w' => e = .returned (.tuple #[.int .u64 0, .int .u64 ((x * y : Nat) : Int)]) ∧ w = w' := by
  have a1 := and32 x (by omega)
  have a2 := and32 y (by omega)
  have a0 : Go.bits .and .u64 0 4294967295 = 0 := and32 0 (by omega)
  have hz : x * y ≤ 1000000 := Nat.le_trans (Nat.mul_le_mul hx hy) (by decide)
  have s1 : (x : Int) / 4294967296 = 0 := by omega
  have s2 : (y : Int) / 4294967296 = 0 := by omega
  obtain ⟨z, hzz⟩ : ∃ z : Nat, z = x * y := ⟨_, rfl⟩
  have hm : (x : Int) * (y : Int) = (z : Int) := by rw [hzz]; exact (Int.natCast_mul x y).symm
  rw [← hzz] at hz ⊢
  have s3 : (z : Int) / 4294967296 = 0 := by omega
  have s4 : (z : Int) % 18446744073709551616 = z := by omega
  clear hzz;go_enter Try.func100, Try.ntmps100;go_wp2;go_ret2;exact ⟨rfl, rfl⟩
set_option maxRecDepth 100000 in
theorem Mul_any (x y : Nat) (hx : x ≤ 1000) (hy : y ≤ 1000) (w : World) : Calls Try.prog 93 #[.int .u64 (x : Int), .int .u64 (y : Int)] w fun e w' => e = .returned (.tuple #[.int .u64 0, .int .u64 ((x * y : Nat) : Int)]) ∧ w = w' := by
  have M := Lib.hid (fun w => Mul64_any x y hx hy w)
  generalize ((x * y : Nat) : Int) = z at M ⊢
  go_enter Try.func93, Try.ntmps93;go_wp2_with (first | (go_at_call 100; refine (M.out _).mono ?_; rintro e w' ⟨rfl, rfl⟩));go_ret2;exact ⟨rfl, rfl⟩
def reps (m : Nat) (l : List Int) : List Int := (List.replicate m l).flatten
theorem reps_len (m : Nat) (l : List Int) : (reps m l).length = m * l.length := by
  unfold reps
  rw [List.length_flatten, List.map_replicate, List.sum_replicate_nat]
theorem reps_add (a b : Nat) (l : List Int) : reps (a + b) l = reps a l ++ reps b l := by
  unfold reps
  rw [← List.replicate_append_replicate, List.flatten_append]
theorem reps_grow (m q : Nat) (l : List Int) (hq : q ≤ m) (r : Nat) (hr : r ≤ (m - q) * l.length) : (reps m l).take (q * l.length + r) = (reps m l).take (q * l.length) ++ (reps m l).take r := by
  have e1 : reps m l = reps q l ++ reps (m - q) l := by rw [← reps_add]; congr 1; omega
  have e2 : reps m l = reps (m - q) l ++ reps q l := by rw [← reps_add]; congr 1; omega
  have h1 : (reps m l).take (q * l.length) = reps q l := by
    rw [e1, ← reps_len q l, List.take_left]
  have h2 : (reps m l).take r = (reps (m - q) l).take r := by
    rw [e2, List.take_append_of_le_length (by rw [reps_len]; exact hr)]
  rw [h1, h2, e1, ← reps_len q l, List.take_length_add_append]
theorem splice_take (L : List Value) (n : Nat) (cs : List Value) (hn : n ≤ L.length) : (splice L n cs).take (n + cs.length) = L.take n ++ cs := by
  have h1 : (L.take n).length = n := by rw [List.length_take]; omega
  unfold splice
  rw [← List.append_assoc]
  rw [List.take_append_of_le_length (by rw [List.length_append, h1]; omega), List.take_of_length_le (by rw [List.length_append, h1]; omega)]
theorem nums_take (k : IntKind) (l : List Int) (n : Nat) : (nums k l).take n = nums k (l.take n) := by unfold nums; rw [List.map_take]
theorem add_block0 (g j : Nat) : (⟨g, 0, none⟩ : Addr).add j = ⟨g, j, none⟩ := by unfold Addr.add; split <;> simp_all
theorem cells_src {W : World} {g : Nat} {full : List Value} {t : TypeId} (h : W.heap[g]? = some (.cells full.toArray t (0, 0))) {n : Nat} {cs : List Value} (hc : full.take n = cs) (j : Nat) (v : Value) (hv : cs[j]? = some v) : W.cell? ((⟨g, 0, none⟩ : Addr).add j) = some v := by
  have h2 : full[j]? = some v := by
    have := hv;rw [← hc] at this;have hj := (List.getElem?_eq_some_iff.1 this).1;rw [List.length_take] at hj
    rw [List.getElem?_take_of_lt (by omega)] at this
    exact this
  rw [add_block0]
  exact (bc_ h j).trans (by simpa using h2)
theorem copy_run {P : Program} {w w0 : World} {B : Nat} (dT sT ty elem : TypeId) (hu : P.underlying dT = some (.slice elem)) (hsz : (P.info? elem).map (·.size) = some 1)
    (dp sp : Option Addr) (dLen dCap sLen sCap : Nat) (g off : Nat) (cur : List Value) (t : TypeId) (hg : w.heap[g]? = some (.cells cur.toArray t (0, 0))) (cs : List Value) (hn : cs.length = Nat.min sLen dLen)
    (hpos : 0 < cs.length → dp = some ⟨g, off, none⟩ ∧ ∃ ad, sp = some ad ∧ ∀ j v, cs[j]? = some v → w.cell? (ad.add j) = some v)
    (hfit : off + cs.length ≤ cur.length) (h1 : ∀ v ∈ cs, v.oneCell' = true) (hb : Below B w0 w) (hBg : B ≤ g) :
    ∃ w', (Builtin.copy_ #[dT, sT] ty #[.slice dp dLen dCap, .slice sp sLen sCap]).run P w = .ok (goInt cs.length) w' ∧ w'.heap[g]? = some (.cells (splice cur off cs).toArray t (0, 0)) ∧ Below B w0 w' := by
  by_cases h0 : cs.length = 0
  · obtain rfl : cs = [] := List.eq_nil_of_length_eq_zero h0
    exact ⟨w, run_copy_none (P := P) w dT sT ty elem dp sp dLen dCap sLen sCap hu hsz (by simpa using hn.symm), by simpa [splice] using hg, hb⟩
  · obtain ⟨rfl, ad, rfl, hsrc⟩ := hpos (by omega)
    exact ⟨_, run_copy_row (P := P) w dT sT ty elem g off dLen dCap ad sLen sCap cur.toArray t cs hu hsz hg hn hsrc (by simpa using hfit) h1, by simpa [splice] using setRow_heap w g _ _ t _ hg, below_setRow hb hBg _⟩
theorem slice_lo (W : World) (g n cap i : Nat) (hi : i ≤ n) (hc : i < cap) : (Instr.slice 88 (.slice (some ⟨g, 0, none⟩) n cap) (some (.int .i64 (i : Int))) none none).run Try.prog W = .ok (.slice (some ⟨g, i, none⟩) (n - i) (cap - i)) W := by
  obtain ⟨i0, hi0, _, hsz, _⟩ := info_parts Dsg.info64
  have hel : Try.prog.elem 88 = 3 := by simp [Program.elem, Try.underlying88]
  have hu : Try.prog.underlying 88 = some (.slice (Try.prog.elem 88)) := by rw [hel]; exact Try.underlying88
  rw [run_slice_l W 88 (some ⟨g, 0, none⟩) n cap hu .i64 (i : Int) (Int.natCast_nonneg _) (by omega), hel]
  simp [sizeOf, typeInfo, hi0, hsz, sliced, Result.andThen, add_block0, show cap ≠ i by omega]
theorem slice_hi (W : World) (A : Option Addr) (n cap i : Nat) (hi : i ≤ cap) : (Instr.slice 88 (.slice A n cap) none (some (.int .i64 (i : Int))) none).run Try.prog W = .ok (.slice A i cap) W := by
  obtain ⟨i0, hi0, _, hsz, _⟩ := info_parts Dsg.info64
  have hel : Try.prog.elem 88 = 3 := by simp [Program.elem, Try.underlying88]
  have hu : Try.prog.underlying 88 = some (.slice (Try.prog.elem 88)) := by rw [hel]; exact Try.underlying88
  have ha : (A.map fun x => x.add 0) = A := by cases A <;> simp [Addr.add]
  rw [run_slice_h W 88 A n cap hu .i64 (i : Int) (Int.natCast_nonneg _) (by omega), hel]
  simp [sizeOf, typeInfo, hi0, hsz, sliced, Result.andThen, ha]
def Rep9.T : Bool × List (List Nat × List Nat) := (true, [([], []), ([], []), ([], []), ([1, 2], [1, 2]), ([], []), ([], []), ([4, 5], [4, 5]), ([3, 6], [3, 6]), ([0, 7], [0, 7]), ([8, 7, 0, 1, 2, 3, 4, 5, 6, 7, 8], [0, 2, 5, 8])])
def Rep9.B : List Nat := [0, 0, 0, 6, 0, 0, 48, 126, 255, 511]
theorem Rep9.tab : rtab .any (opsOf Try.f74 9) = Rep9.T := by kernel_rfl
theorem Rep9.bits : waitsOk Rep9.T.2 Rep9.B = true := by kernel_rfl
set_option maxRecDepth 100000 in
set_option maxHeartbeats 1000000 in
theorem Repeat_any (A : Option Addr) (c : Nat) (l : List Int) (m : Nat) (w : World) (hr : Kd.C (Kd.int .i64) w A l.length l) (hl : l.length ≤ 1000) (hm : m ≤ 1000) :
    Calls Try.prog 74 #[.slice A l.length c, .int .i64 (m : Int)] w fun e w' => ∃ v, e = .returned v ∧ Kd.R (Kd.int .i64) 3 w' w.heap.size (fun _ => True) v (reps m l) ∧ Below w.heap.size w w' := by
  have HB := Lib.hid (Below.refl w.heap.size w);have HR := Lib.hid hr;clear hr
  have hz : l.length * m ≤ 1000000 := Nat.le_trans (Nat.mul_le_mul hl hm) (by decide)
  have M := fun w => Mul_any l.length m hl hm w
  obtain ⟨z, hzz⟩ : ∃ z : Nat, z = l.length * m := ⟨_, rfl⟩
  simp only [← hzz] at M
  rw [← hzz] at hz;have HM := Lib.hid M;have HZ := Lib.hid hzz;clear hzz M
  have f0 : decide ((m : Int) < 0) = false := df_ (by omega)
  have f1 : decide ((9223372036854775807 : Int) < (z : Int)) = false := df_ (by omega)
  have z0 : (0 : Int) ≤ (z : Int) := Int.natCast_nonneg _;go_enter Try.func74, Try.ntmps74
  go_wp2_with (first | (go_at_call 93; refine (HM.out _).mono ?_; rintro e w' ⟨rfl, rfl⟩) | ((with_reducible refine gate_dst (N := 30) rfl ?_); refine Kd.R_make (Kd.int .i64) (w0 := w) w.heap.size 3 rfl rfl 88 (.tmp 29) (.tmp 29) rfl ((z : Int)) rfl rfl Try.underlying88 (.int .i64 0) 8 Dsg.info64 rfl (by decide) (by decide) 0 (okp := fun _ => True) (ok := fun _ => True) ?aZ (fun _ h => h) trivial z0 ?aL (by repeat (first | (with_reducible first | exact HB.out | apply ba_ | apply bd_ | apply be_) | exact HB.out)) (bz_ (by repeat (first | (with_reducible first | exact HB.out | apply ba_ | apply bd_ | apply be_) | exact HB.out))) ?_; (case aZ => rfl); (case aL => omega); intro v30 w30 ho hb hg hat; have HG30 := Lib.hid hg; have HAT30 := Lib.hid hat; clear hg hat; have HO30 := Lib.hid ho; have HB := Lib.hid hb; clear ho hb))
  obtain ⟨b, hob, hbw⟩ := HAT30.out;have hown := Kd.own_of_R HO30.out
  have hlz : (List.replicate (z : Int).toNat (0 : Int)).length = z := by rw [List.length_replicate, Int.toNat_natCast]
  rw [hlz] at hown;obtain ⟨_, hrow⟩ := hown
  rcases hrow with ⟨hn, _⟩ | ⟨g, cap, cur, hv, hb, hh, hnc, hcm, hcs, _⟩
  · rw [hn] at hob; simp [Value.ownBlock] at hob
  subst hv
  have hcz : cur.size = cap := by omega
  clear HAT30 HO30 HG30 hob hbw hlz hcs
  obtain ⟨full, hfull⟩ : ∃ full : List Value, cur = full.toArray := ⟨cur.toList, by simp⟩
  subst hfull
  have hfl : full.length = cap := by simpa using hcz
  have HH := Lib.hid hh;have HFL := Lib.hid hfl;clear hcz hh hfl
  obtain ⟨cs, hcs⟩ : ∃ cs, cs = nums .i64 (l.take (min l.length z)) := ⟨_, rfl⟩
  have hcl : cs.length = min l.length z := by rw [hcs]; simp [nums]
  have hsrc : 0 < cs.length → (some (⟨g, 0, none⟩ : Addr)) = some ⟨g, 0, none⟩ ∧ ∃ ad, A = some ad ∧ ∀ j v, cs[j]? = some v → w30.cell? (ad.add j) = some v := by
    intro hp;refine ⟨rfl, ?_⟩
    obtain ⟨ad, hA, _⟩ := Kd.at_int (Kd.C_below HR.out HB.out) (0 : Int) (by omega) (by omega)
    refine ⟨ad, hA, fun j v hj => ?_⟩
    have hjl := (List.getElem?_eq_some_iff.1 hj).1
    obtain ⟨ad', hA', hc'⟩ := Kd.at_int (Kd.C_below HR.out HB.out) (j : Int) (by omega) (by omega)
    rw [hA] at hA'
    injection hA' with hA'
    subst hA';rw [Int.toNat_natCast] at hc';rw [hc', ← hj, hcs]
    have hjm : j < min l.length z := by omega
    simp [nums, rd, List.getElem?_take_of_lt hjm, show j < l.length by omega]
  have h1c : ∀ v ∈ cs, v.oneCell' = true := by
    intro v hv;rw [hcs] at hv
    simp only [nums, List.mem_map] at hv
    obtain ⟨q, _, rfl⟩ := hv;rfl
  have HCS := Lib.hid hcs;have HCL := Lib.hid hcl;clear hcs hcl
  obtain ⟨w33, hrun, HH33', hb33⟩ := copy_run (P := Try.prog) 88 88 3 3 Try.underlying88 (by kernel_rfl) (some ⟨g, 0, none⟩) A z cap l.length c g 0 full 3 HH.out cs (by rw [HCL.out]) hsrc (by rw [HCL.out, HFL.out]; omega) h1c HB.out hb
  have HH33 := Lib.hid HH33';have HB33 := Lib.hid hb33;clear HH33' hb33;go_wp2;clear hrun
  have HF33 : Hid ((splice full 0 cs).length = cap) := Lib.hid (by rw [length_splice _ _ _ (by rw [HCL.out, HFL.out]; omega)]; exact HFL.out)
  have HP33 : Hid ((splice full 0 cs).take cs.length = nums .i64 ((reps m l).take cs.length)) := Lib.hid (by
    have h := splice_take full 0 cs (Nat.zero_le _);rw [Nat.zero_add] at h;rw [h, List.take_zero, List.nil_append, HCL.out];rw [HCS.out]
    congr 1
    rcases Nat.eq_zero_or_pos m with h0 | hp
    · have : z = 0 := by have := HZ.out; rw [h0, Nat.mul_zero] at this; exact this
      rw [this, Nat.min_zero, List.take_zero, List.take_zero]
    · have e : reps m l = l ++ reps (m - 1) l := by
        have := reps_add 1 (m - 1) l
        rw [show 1 + (m - 1) = m by omega] at this
        rw [this]
        simp [reps]
      rw [e, List.take_append_of_le_length (Nat.min_le_left _ _)])
  have HQ33 : Hid (cs.length ≤ z ∧ ∃ q, cs.length = q * l.length ∧ q ≤ m ∧ (0 < z → 0 < q)) := Lib.hid (by
    rw [HCL.out];refine ⟨Nat.min_le_right _ _, ?_⟩;have hz' := HZ.out
    rcases Nat.eq_zero_or_pos m with h0 | hp
    · rw [h0, Nat.mul_zero] at hz'
      exact ⟨0, by rw [hz']; omega, Nat.zero_le _, fun h => by omega⟩
    · refine ⟨1, ?_, hp, fun _ => by decide⟩
      have : l.length ≤ z := by rw [hz']; exact Nat.le_mul_of_pos_right _ hp
      omega)
  clear HCL HCS hsrc h1c HH HFL
  generalize splice full 0 cs = full1 at HH33 HF33 HP33
  generalize cs.length = n1 at HP33 HQ33 ⊢
  go_loopg [8] (z - n1) (fun k v8 wr => ∃ (i : Nat) (full : List Value), k = z - i ∧ v8 = .int .i64 (i : Int) ∧ Hid (i ≤ z ∧ ∃ q, i = q * l.length ∧ q ≤ m ∧ (0 < z → 0 < q)) ∧ Hid (wr.heap[g]? = some (.cells full.toArray 3 (0, 0))) ∧ Hid (full.length = cap) ∧ Hid (full.take i = nums .i64 ((reps m l).take i)) ∧ Hid (Below w.heap.size w wr))
  case atStart => exact ⟨n1, full1, rfl, rfl, HQ33, HH33, HF33, HP33, HB33⟩
  case round =>
    clear HQ33 HH33 HF33 HP33 HB33 HB;obtain ⟨i, full, rfl, rfl, HQ, HH, HF, HP, HB⟩ := hrel;have i0 : (0 : Int) ≤ (i : Int) := Int.natCast_nonneg _
    by_cases hlt : i < z
    · have hd : decide (i < z) = true := dt_ hlt
      have hd' : decide ((i : Int) < (z : Int)) = true := dt_ (by omega)
      have hqz := HQ.out
      have hi0 : 0 < i := by
        obtain ⟨_, q, hq1, hq2, hq3⟩ := hqz
        have hq := hq3 (by omega)
        rcases Nat.eq_zero_or_pos l.length with h0 | hp
        · have := HZ.out; rw [h0, Nat.zero_mul] at this; omega
        · rw [hq1]; exact Nat.mul_pos hq hp
      have hs1 := fun W => slice_lo W g z cap i (by omega) (by omega)
      have hs2 := fun W => slice_hi W (some ⟨g, 0, none⟩) z cap i (by omega)
      obtain ⟨cs, hcs⟩ : ∃ cs, cs = nums .i64 ((reps m l).take (min i (z - i))) := ⟨_, rfl⟩
      have hrl : (reps m l).length = z := by rw [reps_len, HZ.out, Nat.mul_comm]
      have hcl : cs.length = min i (z - i) := by rw [hcs]; simp [nums, hrl]
      have hct : full.take cs.length = cs := by
        rw [hcl, hcs, ← nums_take];have := HP.out
        have e : full.take (min i (z - i)) = (full.take i).take (min i (z - i)) := by rw [List.take_take, Nat.min_eq_left (Nat.min_le_left _ _)]
        rw [e];rw [this, nums_take, nums_take, List.take_take, Nat.min_eq_left (Nat.min_le_left _ _)]
      have h1c : ∀ v ∈ cs, v.oneCell' = true := by
        intro v hv;rw [hcs] at hv
        simp only [nums, List.mem_map] at hv
        obtain ⟨q, _, rfl⟩ := hv;rfl
      have hcl2 : cs.length ≤ z - i ∧ 0 < cs.length := by rw [hcl]; omega
      have HS0 := Lib.hid (fun (wx : World) (h : wx.heap[g]? = some (.cells full.toArray 3 (0, 0))) (hbx : Below w.heap.size w wx) => copy_run (P := Try.prog) 88 88 3 3 Try.underlying88 (by kernel_rfl) (some ⟨g, i, none⟩) (some ⟨g, 0, none⟩) (z - i) (cap - i) i cap g i full 3 h cs (by rw [hcl]) (fun _ => ⟨rfl, _, rfl, cells_src h hct⟩) (by rw [HF.out]; omega) h1c hbx hb)
      have HCT := Lib.hid hct;have HCSS := Lib.hid hcs;have HCL := Lib.hid hcl;have HRL := Lib.hid hrl
      have hwr : wrap64 ((i : Int) + (cs.length : Int)) = ((i + cs.length : Nat) : Int) := by unfold wrap64; omega
      have HCL2 := Lib.hid hcl2;clear hct hcs hcl hrl h1c hcl2 hqz;go_wp2;have HBo := Lib.hid (be_ (Below.refl wr.heap.size wr));have HBp := Lib.hid (bp_ HB.out HBo.out);have HHp : Hid (wr.drew.heap[g]? = some (.cells full.toArray 3 (0, 0))) := Lib.hid HH.out;clear HBo HB HH
      refine start_ (n := 10) (S := fun _ => True) (ds := []) #[false, false, false, false, false, false, false, false, false, false] (by kernel_rfl) rfl rfl (trivial) (fun hHeld => ?_)
      refine with_tabW Rep9.tab Rep9.bits (fun HT_ HW_ => ?_)
      generalize wr.drew = wD at HBp HHp hHeld ⊢; obtain ⟨w5, hrun, hh5, hb5⟩ := HS0.out wD HHp.out HBp.out; have HH5 := Lib.hid hh5; have HB5 := Lib.hid hb5; clear hh5 hb5
      refine pu_ (i:=0) (N:=(some 38)) (v:=?_) (a':=?_) #[true, false, false, false, false, false, false, false, false, false] rfl rfl HT_.out (by kernel_rfl) (fun _ _ _ h => h) (by rfl) ?_ ?_ ?_;rotate_left;(intro w';go_simp;with_reducible rfl);rotate_left;(simp only [Act.put, u1_,u2_,u3_, i64_w, i32_w];rfl)
      refine pu_ (i:=1) (N:=(some 39)) (v:=?_) (a':=?_) #[true, true, false, false, false, false, false, false, false, false] rfl rfl HT_.out (by kernel_rfl) (fun _ _ _ h => h) (by rfl) ?_ ?_ ?_;rotate_left;(intro w';go_simp;with_reducible rfl);rotate_left;(simp only [Act.put, u1_,u2_,u3_, i64_w, i32_w];rfl)
      refine pu_ (i:=2) (N:=(some 40)) (v:=?_) (a':=?_) #[true, true, true, false, false, false, false, false, false, false] rfl rfl HT_.out (by kernel_rfl) (fun _ _ _ h => h) (by rfl) ?_ ?_ ?_;rotate_left;(intro w';go_simp;with_reducible rfl);rotate_left;(simp only [Act.put, u1_,u2_,u3_, i64_w, i32_w];rfl)
      refine pu_ (i:=3) (N:=(some 41)) (v:=?_) (a':=?_) #[true, true, true, true, false, false, false, false, false, false] rfl rfl HT_.out (by kernel_rfl) (fun _ _ _ h => h) (by rfl) ?_ ?_ ?_;rotate_left;(intro w';go_simp;with_reducible rfl);rotate_left;(simp only [Act.put, u1_,u2_,u3_, i64_w, i32_w];rfl)
      refine pu_ (i:=4) (N:=(some 42)) (v:=?_) (a':=?_) #[true, true, true, true, true, false, false, false, false, false] rfl rfl HT_.out (by kernel_rfl) (fun _ _ _ h => h) (by rfl) ?_ ?_ ?_;rotate_left;(intro w';go_simp;with_reducible rfl);rotate_left;(simp only [Act.put, u1_,u2_,u3_, i64_w, i32_w];rfl)
      refine pu_ (i:=5) (N:=(some 43)) (v:=?_) (a':=?_) #[true, true, true, true, true, true, false, false, false, false] rfl rfl HT_.out (by kernel_rfl) (fun _ _ _ h => h) (by rfl) ?_ ?_ ?_;rotate_left;(intro w';go_simp;with_reducible rfl);rotate_left;(simp only [Act.put, u1_,u2_,u3_, i64_w, i32_w];rfl)
      refine pu_ (i:=6) (N:=(some 44)) (v:=?_) (a':=?_) #[true, true, true, true, true, true, true, false, false, false] rfl rfl HT_.out (by kernel_rfl) (fun _ _ _ h => h) (by rfl) ?_ ?_ ?_;rotate_left;(intro w';go_simp;with_reducible rfl);rotate_left;(simp only [Act.put, u1_,u2_,u3_, i64_w, i32_w];rfl)
      refine one_ (i := 7) (N := (some 45)) #[true, true, true, true, true, true, true, true, false, false] rfl rfl (one_of HT_.out (by kernel_rfl)) (by decide) (fun K hK => ?_)
      refine value_ (w1 := ?_) (v := ?_) (by rfl) rfl ?_ ?_
      rotate_left 2
      · go_simp
        constructor
        · rfl
        · rfl
      refine hK.out _ _ (trivial) (fun hHeld => ?_)
      clear hK K
      refine norm_ (a' := ?_) ?_ ?_;rotate_left;(show Act.put _ (some 45) _ = _;simp only [Act.put, u1_,u2_,u3_, i64_w, i32_w];rfl)
      clear hrun
      refine pu_ (i:=8) (N:=(some 46)) (v:=?_) (a':=?_) #[true, true, true, true, true, true, true, true, true, false] rfl rfl HT_.out (by kernel_rfl) (fun _ _ _ h => h) (by rfl) ?_ ?_ ?_;rotate_left;(intro w';go_simp;with_reducible rfl);rotate_left;(simp only [Act.put, u1_,u2_,u3_, i64_w, i32_w];rfl)
      refine pu_ (i:=9) (N:=(some 8)) (v:=?_) (a':=?_) #[true, true, true, true, true, true, true, true, true, true] rfl rfl HT_.out (by kernel_rfl) (fun _ _ _ h => h) (by rfl) ?_ ?_ ?_;rotate_left;(intro w';go_simp;with_reducible rfl);rotate_left;(simp only [Act.put, u1_,u2_,u3_, i64_w, i32_w];rfl)
      refine done_ (done_of HT_.out (by kernel_rfl)) ?_;go_wp2;go_roundg (z - (i + cs.length))
      case measure => have := HCL2.out; omega
      case rel =>
        refine ⟨i + cs.length, splice full i cs, rfl, by go_num, Lib.hid ?_, HH5, Lib.hid ?_, Lib.hid ?_, HB5⟩
        · obtain ⟨_, q, hq1, hq2, hq3⟩ := HQ.out
          have h2 := HCL2.out;have h3 := HCL.out
          refine ⟨by omega, ?_⟩
          rcases Nat.le_total (i + i) z with h | h
          · refine ⟨q + q, by rw [Nat.add_mul, ← hq1]; omega, ?_, fun hz0 => by have := hq3 hz0; omega⟩
            have hz' := HZ.out
            rcases Nat.lt_or_ge m (q + q) with hlt2 | hge
            · exfalso
              have hlp : 0 < l.length := by
                rcases Nat.eq_zero_or_pos l.length with h0 | hp
                · rw [h0, Nat.zero_mul] at hz'; omega
                · exact hp
              have h5 := Nat.mul_lt_mul_of_pos_left hlt2 hlp;rw [← hz', Nat.mul_comm, Nat.add_mul, ← hq1] at h5;omega
            · exact hge
          · refine ⟨m, ?_, Nat.le_refl _, fun hz0 => by have := hq3 hz0; omega⟩
            have hz' := HZ.out;rw [Nat.mul_comm] at hz';omega
        · rw [length_splice _ _ _ (by have := HCL2.out; rw [HF.out]; omega)]; exact HF.out
        · rw [splice_take _ _ _ (by rw [HF.out]; omega), HP.out, HCSS.out]
          obtain ⟨_, q, hq1, hq2, hq3⟩ := HQ.out
          rw [show (nums .i64 ((reps m l).take (min i (z - i)))).length = min i (z - i) by have := HCL.out; rw [HCSS.out] at this; exact this]
          rw [← nums_append]
          congr 1
          rw [hq1];refine (reps_grow m q l hq2 _ ?_).symm;have hz' := HZ.out;rw [Nat.sub_mul, ← hq1, Nat.mul_comm m];omega
    · have hd : decide (i < z) = false := df_ hlt
      have hiz : i = z := by have := HQ.out.1; omega
      have hd' : decide ((i : Int) < (z : Int)) = false := df_ (by omega)
      have HIZ := Lib.hid hiz
      have hrl : (reps m l).length = z := by rw [reps_len, HZ.out, Nat.mul_comm]
      have HRL := Lib.hid hrl;clear hiz hrl;go_wp2;go_ret
      refine ⟨_, rfl, Kd.R_of_own (h1 := fun _ => rfl) ?_ (fun _ _ => trivial), HB.out⟩
      rw [HRL.out];have hp := HP.out
      rw [HIZ.out, List.take_of_length_le (l := reps m l) (by rw [HRL.out]; exact Nat.le_refl _)] at hp
      refine ⟨by simp [encs, HRL.out], .inr ⟨g, cap, full.toArray, rfl, hb, HH.out, hnc, hcm, by simpa using HF.out, ?_⟩⟩
      rw [Nat.mul_one];exact hp
def slices_Repeat_int_int.f (l0 : List Int) (a1 : Int) : Option (List Int) := if 0 ≤ a1 ∧ a1 ≤ 1000 ∧ l0.length ≤ 1000 then some (reps a1.toNat l0) else none
theorem slices_Repeat_int_int.calls (A0 : Option Addr) (c0 : Nat) (l0 : List Int) (a1 : Int) (r : List Int) (w : World) (hr0 : Kd.C (Kd.int .i64) w A0 l0.length l0) (hc0 : l0.length ≤ c0) (h : slices_Repeat_int_int.f l0 a1 = some r) :
    Calls Try.prog 74 #[.slice A0 l0.length c0, .int .i64 a1] w fun e w' => ∃ v0_ : Value, e = .returned v0_ ∧ Kd.R (Kd.int .i64) 3 w' w.heap.size (fun _ => True) v0_ r ∧ Below w.heap.size w w' := by
  unfold slices_Repeat_int_int.f at h
  split at h
  · rename_i hx
    injection h with h; subst h
    have := Repeat_any A0 c0 l0 a1.toNat w hr0 hx.2.2 (by omega)
    rw [Int.toNat_of_nonneg hx.1] at this;exact this
  · cases h
open Go.RowKit YtdcllbhkjcdnoaaW.PrintWords YtdcllbhkjcdnoaaW.PrintLast YtdcllbhkjcdnoaaW.PrintMore
attribute [local go_sem] max2_int min2_int max_two min_two max_three min_three max_four min_four   -- for this text's walks alone
attribute [local go_sem] run_store_float
mutual
def row_Decode.j0 : Nat → List Int → List (S86) → Int → Bool → Option (Nat × Bool × List Nat × Int × Int × Int × Int)
 | 0,_,_,_,_ => none
 | k + 1,x0,x4,x5,x34 => if x34 = true then (some (0,false,([] : List Nat),0,0,0,4)) else (if 0 ≤ x5 then (if x5 ≤ (x0.length : Int) then (if 5 < (x4.length : Int) then ((slices_Repeat_int_int.f (([4] : List Int)) ((rd_T86 x4 5).f1)).bind fun t142 => ((pack_Take.f (x0.drop (x5 : Int).toNat) t142).bind fun bt145 => (if 1 < (x4.length : Int) then (if 0 < (x4.length : Int) then (if 2 < (x4.length : Int) then (if 3 < (x4.length : Int) then (if 4 < (x4.length : Int) then (row_Decode.l0 k x0 x5 bt145.2.2 bt145.2.1 bt145.1 (bt145.1.length : Int) 0 ((rd_T86 x4 1).f2) (((rd_T86 x4 0).f1) == 1) ([] : List Nat) ((rd_T86 x4 2).f1) ((rd_T86 x4 3).f1) ((rd_T86 x4 4).f1)) else (none)) else (none)) else (none)) else (none)) else (none)))) else (none)) else (none)) else (none))
def row_Decode.l0 : Nat → List Int → Int → Int → Int → List (S86) → Int → Int → Nat → Bool → List Nat → Int → Int → Int → Option (Nat × Bool × List Nat × Int × Int × Int × Int)
 | 0,_,_,_,_,_,_,_,_,_,_,_,_,_ => none
 | k + 1,x0,x5,x6,x8,x73,x74,x75,x156000,x156001,x156002,x156003,x156004,x156005 => if x75 < x74 then (if 0 ≤ x75 then (if x75 < (x73.length : Int) then (if x156002.length < 17592186044416 then (row_Decode.l0 k x0 x5 x6 x8 x73 x74 (wrap64 (x75 + 1)) x156000 x156001 (x156002 ++ [(rd_T86 x73 x75).f2]) x156003 x156004 x156005) else (none)) else (none)) else (none)) else (if x6 = 0 then (if (wrap64 (x5 + x8)) = (x0.length : Int) then ((row_Check.f k x156000 x156001 x156002 x156003 x156004 x156005).bind fun t161 => (if t161 = 0 then (some (x156000,x156001,x156002,x156003,x156004,x156005,0)) else (some (0,false,([] : List Nat),0,0,0,4)))) else (some (0,false,([] : List Nat),0,0,0,4))) else (some (0,false,([] : List Nat),0,0,0,4)))
end
def row_Decode.f (k : Nat) (l0 : List Int) : Option (Nat × Bool × List Nat × Int × Int × Int × Int):=(row_head.f).bind fun t127 => ((pack_Take.f l0 t127).bind fun bt130 => (if bt130.2.2 = 0 then (if 0 < (bt130.1.length : Int) then (if ((rd_T86 bt130.1 0).f1) > 1 then (row_Decode.j0 k l0 bt130.1 bt130.2.1 true) else (if 5 < (bt130.1.length : Int) then (row_Decode.j0 k l0 bt130.1 bt130.2.1 (decide (((rd_T86 bt130.1 5).f1) > 4))) else (none))) else (none)) else (row_Decode.j0 k l0 bt130.1 bt130.2.1 true)))
def row_Decode.T4 : Bool × List (List Nat × List Nat):=(true,[([],[]),([],[]),([0,1],[0,1]),([],[]),([],[]),([4],[4]),([5],[5]),([6],[6]),([3,7],[3,7]),([2,8,8],[2,8]),([9],[9]),([10],[10]),([10],[10]),([10],[10]),([11,9,0,1,2,3,4,5,6,7,8,9,10,11],[11]),([12,14,0,1,2,3,4,5,6,7,8,9,10,11,12,14],[12]),([13,15,0,1,2,3,4,5,6,7,8,9,10,11,12,13,14,15],[13])])
def row_Decode.B4 : List Nat:=[0,0,3,0,0,16,48,112,248,511,1023,2047,2047,2047,4095,24575,65535]
theorem row_Decode.tab4 : rtab .any (opsOf Try.f35 4) = row_Decode.T4:=by kernel_rfl
theorem row_Decode.bits4 : waitsOk row_Decode.T4.2 row_Decode.B4 = true:=by kernel_rfl
def row_Decode.T5 : Bool × List (List Nat × List Nat):=(true,[([],[]),([0],[0]),([1],[1]),([2],[2]),([],[]),([4],[4]),([5],[5]),([6],[6]),([7],[7]),([],[]),([9],[9]),([10],[10]),([11],[11]),([],[]),([13],[13]),([14],[14]),([15],[15]),([],[]),([17],[17]),([18],[18]),([19],[19]),([16,20],[16,20]),([3,8,12,21],[3,8,12,21]),([],[]),([23,22,0,1,2,3,4,5,6,7,8,9,10,11,12,13,14,15,16,17,18,19,20,21,22,23],[22,23])])
def row_Decode.B5 : List Nat:=[0,1,3,7,0,16,48,112,240,0,512,1536,3584,0,8192,24576,57344,0,131072,393216,917504,2088960,4194303,0,16777215]
theorem row_Decode.tab5 : rtab .any (opsOf Try.f35 5) = row_Decode.T5:=by kernel_rfl
theorem row_Decode.bits5 : waitsOk row_Decode.T5.2 row_Decode.B5 = true:=by kernel_rfl
set_option maxHeartbeats 8000000 in
set_option maxRecDepth 100000 in
theorem row_Decode.calls (k : Nat) (A0 : Option Addr) (c0 : Nat) (l0 : List Int) (r1 : Nat) (r2 : Bool) (r3 : List Nat) (r4 : Int) (r5 : Int) (r6 : Int) (r7 : Int) (w : World) (hr0 : Kd.C (Kd.int .u8) w A0 l0.length l0) (hc0 : l0.length ≤ c0) (h : row_Decode.f k l0 = some (r1,r2,r3,r4,r5,r6,r7)) :
  Calls Try.prog 35 #[.slice A0 l0.length c0] w fun e w' => ∃ v2_ : Value,e = .returned (.tuple #[.agg #[.float .f64 r1,.bool r2,v2_,.int .i64 r4,.int .i64 r5,.int .i64 r6],.int .i64 r7]) ∧ Kd.R Kd.f64 25 w' w.heap.size (fun _ => True) v2_ r3 ∧ Below w.heap.size w w':=by
 have hu30:=Try.underlying30;have hu28:=Try.underlying28;have hu86:=Try.underlying86;have HR0:=A_ hr0;have HC0:=A_ hc0;clear hr0 hc0;have HB:=A_ (Below.refl w.heap.size w)
 have H : ((row_head.f).bind fun t127 => ((pack_Take.f l0 t127).bind fun bt130 => (if bt130.2.2 = 0 then (if 0 < (bt130.1.length : Int) then (if ((rd_T86 bt130.1 0).f1) > 1 then (row_Decode.j0 k l0 bt130.1 bt130.2.1 true) else (if 5 < (bt130.1.length : Int) then (row_Decode.j0 k l0 bt130.1 bt130.2.1 (decide (((rd_T86 bt130.1 5).f1) > 4))) else (none))) else (none)) else (row_Decode.j0 k l0 bt130.1 bt130.2.1 true)))) = some (r1,r2,r3,r4,r5,r6,r7):=h
 clear h;replace H:=Option.bind_eq_some_iff.mp H;obtain ⟨t127,A20,H⟩:=H
 replace H : ((pack_Take.f l0 t127).bind fun bt130 => (if bt130.2.2 = 0 then (if 0 < (bt130.1.length : Int) then (if ((rd_T86 bt130.1 0).f1) > 1 then (row_Decode.j0 k l0 bt130.1 bt130.2.1 true) else (if 5 < (bt130.1.length : Int) then (row_Decode.j0 k l0 bt130.1 bt130.2.1 (decide (((rd_T86 bt130.1 5).f1) > 4))) else (none))) else (none)) else (row_Decode.j0 k l0 bt130.1 bt130.2.1 true))) = some (r1,r2,r3,r4,r5,r6,r7):=H
 have A2:=A_ A20;clear A20;replace H:=Option.bind_eq_some_iff.mp H;obtain ⟨⟨t130,t131,t132⟩,A30,H⟩:=H
 replace H : (if t132 = 0 then (if 0 < (t130.length : Int) then (if ((rd_T86 t130 0).f1) > 1 then (row_Decode.j0 k l0 t130 t131 true) else (if 5 < (t130.length : Int) then (row_Decode.j0 k l0 t130 t131 (decide (((rd_T86 t130 5).f1) > 4))) else (none))) else (none)) else (row_Decode.j0 k l0 t130 t131 true)) = some (r1,r2,r3,r4,r5,r6,r7):=H
 have A3:=A_ A30;clear A30;have HC4:=A_ H;clear H;go_enter Try.func35,Try.ntmps35
 go_upto_region 2 with (first | ((with_reducible refine gate_dst (N:=2) rfl ?_);(try (refine gate_guard (by rfl) ?_;dsimp only));refine box_event ?hg (N:=2) ?hd (cs:=#[.float .f64 0,.bool false,.slice none 0 0,.int .i64 0,.int .i64 0,.int .i64 0]) (t:=30) ?hr ?_;(case hd => rfl);(case hg => rfl);(case hr => first | (go_simp;done) | (go_simp;rfl));intro gb126 hg w5 hbox hb;have n0_:=A_ (bp_ (by repeat (first | (with_reducible first | exact HB.out | apply ba_ | apply bd_ | apply be_) | exact HB.out)) hb);have n1_:=A_ (hbox);have n2_:=A_ ((by rw [hg];exact (bz_ (by repeat (first | (with_reducible first | exact HB.out | apply ba_ | apply bd_ | apply be_) | exact HB.out))) : w.heap.size ≤ gb126));have n3_:=n2_;clear HB;have HB:=n0_;have BK126:=n1_;have GW126:=n2_;have GE126:=n3_;clear n0_ n1_ n2_ n3_;clear hb hbox hg) | ((with_reducible refine gate_callee (f:=63) rfl ?_);refine goesL_ (some 14) rfl rfl Try.func63 (by kernel_rfl) rfl #[] rfl (by (try simp only [List.map_toArray,List.map_cons,List.map_nil]);first | done | rfl | (simp only [List.length_drop,List.length_take];rfl)) ?_;(with_reducible refine (row_head.calls  t127 _ A2.out).mono ?_);rintro e w6 ⟨v128,rfl,ho0,hb⟩;refine ⟨_,rfl,?_⟩;have n0_:=A_ (Kd.R_lower ho0 (bz_ (by repeat (first | (with_reducible first | exact HB.out | apply ba_ | apply bd_ | apply be_ | refine bs_ ?_ GE126.out) | exact HB.out))));have n1_:=A_ (bx_ BK126.out (by intro h_;(with_reducible repeat (first | refine kd_ ?_ _ | refine ke_ ?_ | refine ka_ ?_ _));exact h_) hb);have n2_:=A_ (bp_ (by repeat (first | (with_reducible first | exact HB.out | apply ba_ | apply bd_ | apply be_ | refine bs_ ?_ GE126.out) | exact HB.out)) hb);clear BK126;clear HB;have HO129:=n0_;have BK126:=n1_;have HB:=n2_;clear n0_ n1_ n2_;(try clear hb);(try clear hb2);(try clear hk);(try clear hi);(try clear ho0);obtain ⟨Ao7,co7,eo7⟩:=Kd.R_slice HO129.out;subst eo7) | ((with_reducible refine gate_callee (f:=73) rfl ?_);refine goesL_ (some 15) rfl rfl Try.func73 (by kernel_rfl) rfl #[.slice A0 l0.length c0,.slice Ao7 t127.length co7] rfl (by (try simp only [List.map_toArray,List.map_cons,List.map_nil]);first | done | rfl | (simp only [List.length_drop,List.length_take];rfl)) ?_;(with_reducible refine (pack_Take.calls _ _ l0 _ _ t127 t130 t131 t132 _ ?side1 ?side2 ?side3 ?side4 A3.out).mono ?_);(case side1 => repeat (first | exact (Kd.C_below HR0.out HB.out) | (with_reducible refine Kd.C_alloc ?_ _) | (with_reducible refine Kd.C_drewN ?_ _) | (with_reducible refine Kd.C_drew ?_)));(case side2 => exact HC0.out);(case side3 => repeat (first | exact (Kd.R_reads' HO129.out).2.2 | (with_reducible refine Kd.C_alloc ?_ _) | (with_reducible refine Kd.C_drewN ?_ _) | (with_reducible refine Kd.C_drew ?_)));(case side4 => exact (Kd.R_reads' HO129.out).2.1);rintro e w8 ⟨v133,rfl,ho0,hb⟩;refine ⟨_,rfl,?_⟩;have n0_:=A_ (Kd.R_below (by (with_reducible repeat (first | apply ra_ | apply rn_ | apply re_));exact HO129.out) hb);have n1_:=A_ (Kd.R_lower ho0 (bz_ (by repeat (first | (with_reducible first | exact HB.out | apply ba_ | apply bd_ | apply be_ | refine bs_ ?_ GE126.out) | exact HB.out))));have n2_:=A_ (bx_ BK126.out (by intro h_;(with_reducible repeat (first | refine kd_ ?_ _ | refine ke_ ?_ | refine ka_ ?_ _));exact h_) hb);have n3_:=A_ (bp_ (by repeat (first | (with_reducible first | exact HB.out | apply ba_ | apply bd_ | apply be_ | refine bs_ ?_ GE126.out) | exact HB.out)) hb);clear HO129;clear BK126;clear HB;have HO129:=n0_;have HO134:=n1_;have BK126:=n2_;have HB:=n3_;clear n0_ n1_ n2_ n3_;(try clear hb);(try clear hb2);(try clear hk);(try clear hi);(try clear ho0)))
 (try simp only [Act.put,u1_,u2_,u3_])
 go_cut [34] (fun v34 wc => ∃ (kq : Nat) (x34_3 : Bool),v34 = .bool x34_3 ∧ Aside0 (row_Decode.j0 kq l0 t130 t131 x34_3 = some (r1,r2,r3,r4,r5,r6,r7)) ∧ Aside0 (kq ≤ k) ∧ Aside0 (Kd.R k86 86 wc w.heap.size (fun _ => True) v133 t130) ∧ Aside0 (wc.heap[gb126]? = some (.cells #[.float .f64 0,.bool false,(.slice none 0 0),.int .i64 0,.int .i64 0,.int .i64 0] 30 (0,0))) ∧ Aside0 (Below w.heap.size w wc))
 case first =>
  have H:=HC4.out;clear HC4
  by_cases c9 : t132 = 0
  ·rw [if_pos c9] at H
   have c9b0 : (t132 == 0) = true:=beq_iff_eq.mpr c9;have c9b1 : (t132 != 0) = false:=bne_eq_false_iff_eq.mpr c9;clear c9;(first | rw [c9b0] | (simp only [i64_w,i32_w];rw [c9b0]) | skip)
   by_cases c10 : 0 < (t130.length : Int)
   ·rw [if_pos c10] at H
    have c10b0 : decide (0 < (t130.length : Int)) = true:=dt_ c10
    have c10b1 : decide (0 < t130.length) = true:=dt_ (by omega)
    clear c10
    by_cases c11 : ((rd_T86 t130 0).f1) > 1
    ·rw [if_pos c11] at H
     have c11b0 : decide (1 < ((rd_T86 t130 0).f1)) = true:=dt_ c11;clear c11;have H':=A_ H;clear H;obtain ⟨Ao12,co12,eo12⟩:=Kd.R_slice HO134.out;subst eo12
     have p135 : 0 ≤ (0 : Int):=(by omega)
     have q135 : 0 < (t130.length : Int):=od_ (by first | (with_reducible assumption) | assumption)
     obtain ⟨ad135,e135,hx135_0,hx135_1,hx135_2,hx135_3⟩:=at_T86 (Kd.R_reads' HO134.out).2.2 0 p135 q135
     cases e135
     have qi135 : (0 < t130.length) = True:=eq_true (by omega)
     (try rw [N0_] at hx135_0)
     (try rw [show 0 * 4 = 0 from rfl] at hx135_0)
     (try rw [Addr.add_zero'] at hx135_0);(try rw [N0_] at hx135_1)
     (try rw [show 0 * 4 = 0 from rfl] at hx135_1)
     (try rw [Addr.add_zero'] at hx135_1);(try rw [N0_] at hx135_2)
     (try rw [show 0 * 4 = 0 from rfl] at hx135_2)
     (try rw [Addr.add_zero'] at hx135_2);(try rw [N0_] at hx135_3)
     (try rw [show 0 * 4 = 0 from rfl] at hx135_3)
     (try rw [Addr.add_zero'] at hx135_3);replace p135:=eq_true p135;replace q135:=eq_true q135;go_wp2;go_meet
     case rel => exact ⟨_,true,rfl,H',⟨by first | omega | exact Nat.le_refl _⟩,⟨by (with_reducible repeat (first | apply ra_ | apply rn_ | apply re_));exact HO134.out⟩,⟨by (with_reducible repeat (first | refine kd_ ?_ _ | refine ke_ ?_ | refine ka_ ?_ _));exact BK126.out⟩,⟨by repeat (first | (with_reducible first | exact HB.out | apply ba_ | apply bd_ | apply be_ | refine bs_ ?_ GE126.out) | exact HB.out)⟩⟩
    ·rw [if_neg c11] at H
     have c11b0 : decide (1 < ((rd_T86 t130 0).f1)) = false:=df_ c11;clear c11
     by_cases c13 : 5 < (t130.length : Int)
     ·rw [if_pos c13] at H
      have c13b0 : decide (5 < (t130.length : Int)) = true:=dt_ c13
      have c13b1 : decide (5 < t130.length) = true:=dt_ (by omega)
      clear c13;have H':=A_ H;clear H;obtain ⟨Ao14,co14,eo14⟩:=Kd.R_slice HO134.out;subst eo14
      have p135 : 0 ≤ (0 : Int):=(by omega)
      have q135 : 0 < (t130.length : Int):=od_ (by first | (with_reducible assumption) | assumption)
      obtain ⟨ad135,e135,hx135_0,hx135_1,hx135_2,hx135_3⟩:=at_T86 (Kd.R_reads' HO134.out).2.2 0 p135 q135
      cases e135
      have qi135 : (0 < t130.length) = True:=eq_true (by omega)
      (try rw [N0_] at hx135_0)
      (try rw [show 0 * 4 = 0 from rfl] at hx135_0)
      (try rw [Addr.add_zero'] at hx135_0);(try rw [N0_] at hx135_1)
      (try rw [show 0 * 4 = 0 from rfl] at hx135_1)
      (try rw [Addr.add_zero'] at hx135_1);(try rw [N0_] at hx135_2)
      (try rw [show 0 * 4 = 0 from rfl] at hx135_2)
      (try rw [Addr.add_zero'] at hx135_2);(try rw [N0_] at hx135_3)
      (try rw [show 0 * 4 = 0 from rfl] at hx135_3)
      (try rw [Addr.add_zero'] at hx135_3);replace p135:=eq_true p135;replace q135:=eq_true q135
      have p136 : 0 ≤ (5 : Int):=(by omega)
      have q136 : 5 < (t130.length : Int):=od_ (by first | (with_reducible assumption) | assumption)
      obtain ⟨ad136,e136,hx136_0,hx136_1,hx136_2,hx136_3⟩:=at_T86 (Kd.R_reads' HO134.out).2.2 5 p136 q136
      obtain rfl : ad135 = ad136:=(by injection e136)
      (try simp only [N5_,Nat.reduceMul,Nat.reduceEqDiff,Go.Addr.add,↓reduceIte] at hx136_0 hx136_1 hx136_2 hx136_3)
      have qi136 : (5 < t130.length) = True:=eq_true (by omega)
      replace p136:=eq_true p136;replace q136:=eq_true q136;go_wp2;go_meet
      case rel => exact ⟨_,(decide (((rd_T86 t130 5).f1) > 4)),(by first | rfl | (simp;done) | (simp [*];done)),H',⟨by first | omega | exact Nat.le_refl _⟩,⟨by (with_reducible repeat (first | apply ra_ | apply rn_ | apply re_));exact HO134.out⟩,⟨by (with_reducible repeat (first | refine kd_ ?_ _ | refine ke_ ?_ | refine ka_ ?_ _));exact BK126.out⟩,⟨by repeat (first | (with_reducible first | exact HB.out | apply ba_ | apply bd_ | apply be_ | refine bs_ ?_ GE126.out) | exact HB.out)⟩⟩
     ·rw [if_neg c13] at H
      exact absurd H (by simp)
   ·rw [if_neg c10] at H
    exact absurd H (by simp)
  ·rw [if_neg c9] at H
   have c9b0 : (t132 == 0) = false:=beq_eq_false_iff_ne.mpr c9;have c9b1 : (t132 != 0) = true:=bne_iff_ne.mpr c9;(first | rw [c9b0] | (simp only [i64_w,i32_w];rw [c9b0]) | skip);have H':=A_ H;clear H;go_wp2;go_meet
   case rel => exact ⟨_,true,rfl,H',⟨by first | omega | exact Nat.le_refl _⟩,⟨by (with_reducible repeat (first | apply ra_ | apply rn_ | apply re_));exact HO134.out⟩,⟨by (with_reducible repeat (first | refine kd_ ?_ _ | refine ke_ ?_ | refine ka_ ?_ _));exact BK126.out⟩,⟨by repeat (first | (with_reducible first | exact HB.out | apply ba_ | apply bd_ | apply be_ | refine bs_ ?_ GE126.out) | exact HB.out)⟩⟩
 case rest =>
  clear HC4;(try clear c1);(try clear p1);(try clear q1);(try clear hx1);(try clear qi1);(try clear p2);(try clear c3);(try clear c6);(try clear c7);(try clear c9);(try clear c9b0);(try clear c9b1);(try clear c10);(try clear c10b0);(try clear c10b1);(try clear c11);(try clear c11b0);(try clear c13);(try clear c13b0);(try clear c13b1);(try clear p13);(try clear q13);(try clear hx13);(try clear qi13);(try clear hx135_0);(try clear hx135_1);(try clear hx135_2);(try clear hx135_3);(try clear hx136_0);(try clear hx136_1);(try clear hx136_2);(try clear hx136_3);(try clear p135);(try clear p136);(try clear q135);(try clear q136);obtain ⟨kq,x34_3,rfl,HA,HJ3,HO_4,BK126,HB⟩:=hcut
  cases kq with
  | zero => exact absurd HA.out (by simp [row_Decode.j0])
  | succ kj3 =>
   have H:=HA.out;clear HA
   simp only [row_Decode.j0] at H
   by_cases c15 : x34_3 = true
   ·subst c15
    have H1 : (some (0,false,([] : List Nat),0,0,0,4)) = some (r1,r2,r3,r4,r5,r6,r7):=by rw [if_pos rfl] at H;exact H
    clear H;have H:=H1;clear H1
    simp only [Option.some.injEq,Prod.mk.injEq] at H
    obtain ⟨rfl,rfl,rfl,rfl,rfl,rfl,rfl⟩:=H;obtain ⟨z16_0,z16_1,z16_2,z16_3,z16_4,z16_5⟩:=blkc_6 BK126.out;obtain ⟨y16_0,y16_1,y16_2,y16_3,y16_4,y16_5⟩:=blkz_6 BK126.out;go_wp2
    refine bodyPost_ret (results_ct rfl _ _ gb126 30 #[.float .f64 0,.bool false,.slice none 0 0,.int .i64 0,.int .i64 0,.int .i64 0] (0,0) _ rfl (by (with_reducible repeat (first | refine kd_ ?_ _ | refine ke_ ?_ | refine ka_ ?_ _));apply blkf_6_0_5;(with_reducible repeat (first | refine kd_ ?_ _ | refine ke_ ?_ | refine ka_ ?_ _));exact BK126.out) Try.underlying30 rfl (by kernel_rfl)) rfl ?_
    exact ⟨_,by first | rfl | (simp [errW_none,errW_some] <;> rfl) | (simp [*,errW_none,errW_some] <;> rfl),by first | exact Kd.R_nil _ _ _ _ _ | exact Kd.N_nil _ _ _ _ _ | exact Kd.V_nil _ _ _ _ _ | exact Kd.Q_nil _ _ _ _ _ | exact Kd.S_nil _ _ _ _ _,by repeat (first | (with_reducible first | exact HB.out | apply ba_ | apply bd_ | apply be_ | refine bs_ ?_ GE126.out) | exact HB.out)⟩
   ·replace c15:=Bool.eq_false_iff.mpr c15
    subst c15
    have H1 : (if 0 ≤ t131 then (if t131 ≤ (l0.length : Int) then (if 5 < (t130.length : Int) then ((slices_Repeat_int_int.f (([4] : List Int)) ((rd_T86 t130 5).f1)).bind fun t142 => ((pack_Take.f (l0.drop (t131 : Int).toNat) t142).bind fun bt145 => (if 1 < (t130.length : Int) then (if 0 < (t130.length : Int) then (if 2 < (t130.length : Int) then (if 3 < (t130.length : Int) then (if 4 < (t130.length : Int) then (row_Decode.l0 kj3 l0 t131 bt145.2.2 bt145.2.1 bt145.1 (bt145.1.length : Int) 0 ((rd_T86 t130 1).f2) (((rd_T86 t130 0).f1) == 1) ([] : List Nat) ((rd_T86 t130 2).f1) ((rd_T86 t130 3).f1) ((rd_T86 t130 4).f1)) else (none)) else (none)) else (none)) else (none)) else (none)))) else (none)) else (none)) else (none)) = some (r1,r2,r3,r4,r5,r6,r7):=by rw [if_neg (show ¬ (false = true) by decide)] at H;exact H
    clear H;have H:=H1;clear H1
    by_cases c17 : 0 ≤ t131
    ·rw [if_pos c17] at H
     have c17b0:=eq_true c17;have c17b1 : decide (0 ≤ t131) = true:=dt_ c17;clear c17
     by_cases c18 : t131 ≤ (l0.length : Int)
     ·rw [if_pos c18] at H
      have c18b0:=eq_true c18;have c18b1 : decide (t131 ≤ (l0.length : Int)) = true:=dt_ c18;clear c18
      obtain ⟨y138,hy138⟩ : ∃ y_ : List Int,y_ = (([4] : List Int)):=⟨_,rfl⟩
      replace H : (if 5 < (t130.length : Int) then ((slices_Repeat_int_int.f y138 ((rd_T86 t130 5).f1)).bind fun t142 => ((pack_Take.f (l0.drop (t131 : Int).toNat) t142).bind fun bt145 => (if 1 < (t130.length : Int) then (if 0 < (t130.length : Int) then (if 2 < (t130.length : Int) then (if 3 < (t130.length : Int) then (if 4 < (t130.length : Int) then (row_Decode.l0 kj3 l0 t131 bt145.2.2 bt145.2.1 bt145.1 (bt145.1.length : Int) 0 ((rd_T86 t130 1).f2) (((rd_T86 t130 0).f1) == 1) ([] : List Nat) ((rd_T86 t130 2).f1) ((rd_T86 t130 3).f1) ((rd_T86 t130 4).f1)) else (none)) else (none)) else (none)) else (none)) else (none)))) else (none)) = some (r1,r2,r3,r4,r5,r6,r7):=by first | (rw [hy138];with_reducible exact H) | (have H2_:=(Option.bind_some _ _).symm.trans H;rw [hy138];with_reducible exact H2_) | (have H2_:=(Option.bind_some _ _).symm.trans H;with_reducible exact H2_) | with_reducible exact H | (rw [hy138];exact H) | exact H
      have Ny138:=A_ hy138;clear hy138
      by_cases c19 : 5 < (t130.length : Int)
      ·rw [if_pos c19] at H
       have c19b0 : decide (5 < (t130.length : Int)) = true:=dt_ c19
       have c19b1 : decide (5 < t130.length) = true:=dt_ (by omega)
       clear c19;replace H:=Option.bind_eq_some_iff.mp H;obtain ⟨t142,A200,H⟩:=H
       replace H : ((pack_Take.f (l0.drop (t131 : Int).toNat) t142).bind fun bt145 => (if 1 < (t130.length : Int) then (if 0 < (t130.length : Int) then (if 2 < (t130.length : Int) then (if 3 < (t130.length : Int) then (if 4 < (t130.length : Int) then (row_Decode.l0 kj3 l0 t131 bt145.2.2 bt145.2.1 bt145.1 (bt145.1.length : Int) 0 ((rd_T86 t130 1).f2) (((rd_T86 t130 0).f1) == 1) ([] : List Nat) ((rd_T86 t130 2).f1) ((rd_T86 t130 3).f1) ((rd_T86 t130 4).f1)) else (none)) else (none)) else (none)) else (none)) else (none))) = some (r1,r2,r3,r4,r5,r6,r7):=H
       have A20:=A_ A200;clear A200;replace H:=Option.bind_eq_some_iff.mp H;obtain ⟨⟨t145,t146,t147⟩,A210,H⟩:=H
       replace H : (if 1 < (t130.length : Int) then (if 0 < (t130.length : Int) then (if 2 < (t130.length : Int) then (if 3 < (t130.length : Int) then (if 4 < (t130.length : Int) then (row_Decode.l0 kj3 l0 t131 t147 t146 t145 (t145.length : Int) 0 ((rd_T86 t130 1).f2) (((rd_T86 t130 0).f1) == 1) ([] : List Nat) ((rd_T86 t130 2).f1) ((rd_T86 t130 3).f1) ((rd_T86 t130 4).f1)) else (none)) else (none)) else (none)) else (none)) else (none)) = some (r1,r2,r3,r4,r5,r6,r7):=H
       have A21:=A_ A210;clear A210
       by_cases c22 : 1 < (t130.length : Int)
       ·rw [if_pos c22] at H
        have c22b0 : decide (1 < (t130.length : Int)) = true:=dt_ c22
        have c22b1 : decide (1 < t130.length) = true:=dt_ (by omega)
        clear c22
        by_cases c23 : 0 < (t130.length : Int)
        ·rw [if_pos c23] at H
         have c23b0 : decide (0 < (t130.length : Int)) = true:=dt_ c23
         have c23b1 : decide (0 < t130.length) = true:=dt_ (by omega)
         clear c23
         by_cases c24 : 2 < (t130.length : Int)
         ·rw [if_pos c24] at H
          have c24b0 : decide (2 < (t130.length : Int)) = true:=dt_ c24
          have c24b1 : decide (2 < t130.length) = true:=dt_ (by omega)
          clear c24
          by_cases c25 : 3 < (t130.length : Int)
          ·rw [if_pos c25] at H
           have c25b0 : decide (3 < (t130.length : Int)) = true:=dt_ c25
           have c25b1 : decide (3 < t130.length) = true:=dt_ (by omega)
           clear c25
           by_cases c26 : 4 < (t130.length : Int)
           ·rw [if_pos c26] at H
            have c26b0 : decide (4 < (t130.length : Int)) = true:=dt_ c26
            have c26b1 : decide (4 < t130.length) = true:=dt_ (by omega)
            clear c26;have H':=A_ H;clear H
            try go_wp2
            have n0_:=A_ (re_ HO_4.out);have n1_:=A_ (ke_ BK126.out);have n2_:=A_ (be_ HB.out);clear HO_4;clear BK126;clear HB;have HO_4:=n0_;have BK126:=n1_;have HB:=n2_;clear n0_ n1_ n2_;obtain ⟨i028,hi028,_,hsz28,_⟩:=info_parts info5
            obtain ⟨A28,hcut28,hA28,hC28⟩:=print_drop_of (P:=Try.prog) (Value.int .u8) 0 23 5 .i64 Try.underlying23 hi028 hsz28 A0 c0 l0 t131 (od_ (by first | (with_reducible assumption) | assumption)) (od_ (by first | (with_reducible assumption) | assumption)) HC0.out
            have HR137:=A_ (Kd.C_of_reads (h1:=fun _ => rfl) (hA28 _ (Kd.reads_of_C HR0.out)))
            have HC137:=A_ hC28;clear hA28 hC28 hi028 hsz28;obtain ⟨Ao29,co29,eo29⟩:=Kd.R_slice HO_4.out
            (first | subst eo29 | (injection eo29 with f1_ f2_ f3_;have f4_:=f1_.symm;have f5_:=f3_.symm;clear f1_ f2_ f3_;subst f4_;subst f5_))
            have p141 : 0 ≤ (5 : Int):=(by omega)
            have q141 : 5 < (t130.length : Int):=od_ (by first | (with_reducible assumption) | assumption)
            obtain ⟨ad141,e141,hx141_0,hx141_1,hx141_2,hx141_3⟩:=at_T86 (Kd.R_reads' HO_4.out).2.2 5 p141 q141
            cases e141
            (try simp only [N5_,Nat.reduceMul,Nat.reduceEqDiff,Go.Addr.add,↓reduceIte] at hx141_0 hx141_1 hx141_2 hx141_3)
            have qi141 : (5 < t130.length) = True:=eq_true (by omega)
            replace p141:=eq_true p141;replace q141:=eq_true q141
            refine start_ (n:=17) (S:=fun w' => w'.cell? ⟨ad141.block,ad141.off + 20,none⟩ = some (.int .i64 ((rd_T86 t130 5).f0)) ∧ w'.cell? ⟨ad141.block,ad141.off + 20 + 1,none⟩ = some (.int .i64 ((rd_T86 t130 5).f1)) ∧ w'.cell? ⟨ad141.block,ad141.off + 20 + 2,none⟩ = some (.float .f64 ((rd_T86 t130 5).f2)) ∧ w'.cell? ⟨ad141.block,ad141.off + 20 + 3,none⟩ = some (.string ((rd_T86 t130 5).f3))) (ds:=[8,9]) #[Z,Z,Z,Z,Z,Z,Z,Z,Z,Z,Z,Z,Z,Z,Z,Z,Z] (by kernel_rfl) rfl rfl ⟨hx141_0,hx141_1,hx141_2,hx141_3⟩ (fun hHeld => ?_);refine with_tabW row_Decode.tab4 row_Decode.bits4 (fun HT_ HW_ => ?_)
            generalize wc.drew = w27 at HO_4 BK126 HB HR137 hx141_0 hx141_1 hx141_2 hx141_3 hHeld ⊢
            refine pu_ (i:=0) (N:=some 37) (v:=?_) (a':=?_) #[Y,Z,Z,Z,Z,Z,Z,Z,Z,Z,Z,Z,Z,Z,Z,Z,Z] rfl rfl HT_.out (by kernel_rfl) (fun _ _ _ h => h) (by rfl) ?_ ?_ ?_;rotate_left;(intro w';go_simp;with_reducible rfl);rotate_left;(simp only [Act.put,q1_,q2_,q3_,i64_w,i32_w];rfl)
            refine pu_ (i:=1) (N:=some 38) (v:=?_) (a':=?_) #[Y,Y,Z,Z,Z,Z,Z,Z,Z,Z,Z,Z,Z,Z,Z,Z,Z] rfl rfl HT_.out (by kernel_rfl) (fun _ _ _ h => h) (by rfl) ?_ ?_ ?_;rotate_left;(intro w';go_simp;with_reducible rfl);rotate_left;(simp only [Act.put,q1_,q2_,q3_,i64_w,i32_w];rfl)
            refine pu_ (i:=2) (N:=some 39) (v:=?_) (a':=?_) #[Y,Y,Y,Z,Z,Z,Z,Z,Z,Z,Z,Z,Z,Z,Z,Z,Z] rfl rfl HT_.out (by kernel_rfl) (fun _ _ _ h => h) (by rfl) ?_ ?_ ?_;rotate_left;(intro w';go_simp;with_reducible rfl);rotate_left;(simp only [Act.put,q1_,q2_,q3_,i64_w,i32_w];rfl)
            refine pu_ (i:=4) (N:=some 41) (v:=?_) (a':=?_) #[Y,Y,Y,Z,Y,Z,Z,Z,Z,Z,Z,Z,Z,Z,Z,Z,Z] rfl rfl HT_.out (by kernel_rfl) (fun _ _ _ h => h) (by rfl) ?_ ?_ ?_;rotate_left;(intro w';go_simp;with_reducible rfl);rotate_left;(simp only [Act.put,q1_,q2_,q3_,i64_w,i32_w];rfl)
            refine pu_ (i:=5) (N:=some 42) (v:=?_) (a':=?_) #[Y,Y,Y,Z,Y,Y,Z,Z,Z,Z,Z,Z,Z,Z,Z,Z,Z] rfl rfl HT_.out (by kernel_rfl) (fun _ _ _ h => h) (by rfl) ?_ ?_ ?_;rotate_left;(intro w';go_simp;with_reducible rfl);rotate_left;(simp only [Act.put,q1_,q2_,q3_,i64_w,i32_w];rfl)
            refine pu_ (i:=6) (N:=some 43) (v:=?_) (a':=?_) #[Y,Y,Y,Z,Y,Y,Y,Z,Z,Z,Z,Z,Z,Z,Z,Z,Z] rfl rfl HT_.out (by kernel_rfl) (fun _ _ _ h => h) (by rfl) ?_ ?_ ?_;rotate_left;(intro w';go_simp;with_reducible rfl);rotate_left;(simp only [Act.put,q1_,q2_,q3_,i64_w,i32_w];rfl)
            refine ta_ (i:=7) (N:=some 44) (v:=?_) (a':=?_) #[Y,Y,Y,Z,Y,Y,Y,Y,Z,Z,Z,Z,Z,Z,Z,Z,Z] rfl rfl HT_.out HW_.out (by kernel_rfl) (fun _ _ _ h => h) (by rfl) ?_ hHeld ?_ ?_;rotate_left;(rintro w' ⟨s0,s1,s2,s3⟩;go_simp;with_reducible rfl);rotate_left;(simp only [Act.put,q1_,q2_,q3_,i64_w,i32_w];rfl)
            refine one_ (i:=3) (N:=some 40) #[Y,Y,Y,Y,Y,Y,Y,Y,Z,Z,Z,Z,Z,Z,Z,Z,Z] rfl rfl (one_of HT_.out (by kernel_rfl)) (by decide) (fun K hK => ?_)
            refine Kd.R_lit_step (Kd.int .i64) _ 3 ?hg (N:=40) ?hd (xs:=([4] : List Int)) (inner:=[.int .i64 4]) (ok:=fun _ => True) (okp:=fun _ => True) ?hr ?hp (fun _ hk => hk) trivial (Below.refl _ _) (Nat.le_refl _) (by simp) ?_;(case hd => rfl);(case hg => rfl);(case hr => first | (go_simp;done) | (go_simp;rfl));(case hp => exact (Reps.one (show Kd.M (Kd.int .i64) _ _ _ 4 [.int .i64 4] from rfl) (Reps.none _ _)))
            intro v139 w30 ho31 hb hg_ hnew_;have HS0_:=(hb.cell (wb_ _ _ (hHeld.1))).trans (hHeld.1);have HS1_:=(hb.cell (wb_ _ _ (hHeld.2.1))).trans (hHeld.2.1);have HS2_:=(hb.cell (wb_ _ _ (hHeld.2.2.1))).trans (hHeld.2.2.1);have HS3_:=(hb.cell (wb_ _ _ (hHeld.2.2.2))).trans (hHeld.2.2.2);clear hg_ hnew_;(first | rw [← Ny138.out] at ho31 | (simp only [Int.reduceToNat] at ho31;rw [← Ny138.out] at ho31))
            have n0_:=A_ (Kd.R_below (by (with_reducible repeat (first | apply ra_ | apply rn_ | apply re_));exact HO_4.out) hb)
            have n1_:=A_ (Kd.R_lower ho31 (bz_ (by repeat (first | (with_reducible first | exact HB.out | apply ba_ | apply bd_ | apply be_ | refine bs_ ?_ GE126.out) | exact HB.out))))
            have n2_:=A_ (bx_ BK126.out (by intro h_;(with_reducible repeat (first | refine kd_ ?_ _ | refine ke_ ?_ | refine ka_ ?_ _));exact h_) hb)
            have n3_:=A_ (bp_ (by repeat (first | (with_reducible first | exact HB.out | apply ba_ | apply bd_ | apply be_ | refine bs_ ?_ GE126.out) | exact HB.out)) hb)
            clear HO_4;clear BK126;clear HB;have HO_4:=n0_;have HO140:=n1_;have BK126:=n2_;have HB:=n3_;clear n0_ n1_ n2_ n3_;clear hb ho31;obtain ⟨Ao32,co32,eo32⟩:=Kd.R_slice HO140.out
            (first | subst eo32 | (injection eo32 with f1_ f2_ f3_;have f4_:=f1_.symm;have f5_:=f3_.symm;clear f1_ f2_ f3_;subst f4_;subst f5_))
            refine hK.out _ _ ⟨HS0_,HS1_,HS2_,HS3_⟩ (fun hHeld => ?_)
            clear hK K
            refine norm_ (a':=?_) ?_ ?_;rotate_left;(show Act.put _ (some 40) _ = _;simp only [Act.put,q1_,q2_,q3_,i64_w,i32_w];rfl)
            refine last_ (i:=8) (N:=some 45) #[Y,Y,Y,Y,Y,Y,Y,Y,Y,Z,Z,Z,Z,Z,Z,Z,Z] rfl rfl (one_of HT_.out (by kernel_rfl)) (by decide) (fun K hK => ?_)
            refine goes_ Try.func74 (by kernel_rfl) rfl #[.slice Ao32 y138.length co32,.int .i64 ((rd_T86 t130 5).f1)] (by rfl) rfl rfl (by (try simp only [List.map_toArray,List.map_cons,List.map_nil]);first | done | rfl | (simp only [List.length_drop,List.length_take];rfl)) ?_
            with_reducible refine (slices_Repeat_int_int.calls _ _ y138 ((rd_T86 t130 5).f1) t142 _ ?side1 ?side2 A20.out).mono ?_
            (case side1 => repeat (first | exact (Kd.R_reads' HO140.out).2.2 | (with_reducible refine Kd.C_alloc ?_ _) | (with_reducible refine Kd.C_drewN ?_ _) | (with_reducible refine Kd.C_drew ?_)))
            (case side2 => exact (Kd.R_reads' HO140.out).2.1)
            rintro e w33 ⟨v143,rfl,ho0,hb⟩;refine ⟨_,rfl,?_⟩
            have n0_:=A_ (Kd.R_below (by (with_reducible repeat (first | apply ra_ | apply rn_ | apply re_));exact HO_4.out) hb)
            have n1_:=A_ (Kd.R_elder' (by (with_reducible repeat (first | apply ra_ | apply rn_ | apply re_));exact HO140.out) (Kd.R_base ho0) hb)
            have n2_:=A_ (Kd.R_lower (Kd.R_new' ho0 (Kd.R_lt (by (with_reducible repeat (first | apply ra_ | apply rn_ | apply re_));exact HO140.out))) (bz_ (by repeat (first | (with_reducible first | exact HB.out | apply ba_ | apply bd_ | apply be_ | refine bs_ ?_ GE126.out) | exact HB.out))))
            have n3_:=A_ (bx_ BK126.out (by intro h_;(with_reducible repeat (first | refine kd_ ?_ _ | refine ke_ ?_ | refine ka_ ?_ _));exact h_) hb)
            have n4_:=A_ (bp_ (by repeat (first | (with_reducible first | exact HB.out | apply ba_ | apply bd_ | apply be_ | refine bs_ ?_ GE126.out) | exact HB.out)) hb)
            clear HO_4;clear HO140;clear BK126;clear HB;have HO_4:=n0_;have HO140:=n1_;have HO144:=n2_;have BK126:=n3_;have HB:=n4_;clear n0_ n1_ n2_ n3_ n4_;(try clear hb);(try clear hb2);(try clear hk);(try clear hi);(try clear ho0);obtain ⟨Ao34,co34,eo34⟩:=Kd.R_slice HO144.out
            (first | subst eo34 | (injection eo34 with f1_ f2_ f3_;have f4_:=f1_.symm;have f5_:=f3_.symm;clear f1_ f2_ f3_;subst f4_;subst f5_))
            refine hK.out _ _ ?_;clear hK K
            refine norm_ (a':=?_) ?_ ?_;rotate_left;(show Act.put _ (some 45) _ = _;simp only [Act.put,q1_,q2_,q3_,i64_w,i32_w];rfl)
            refine last_ (i:=9) (N:=some 46) #[Y,Y,Y,Y,Y,Y,Y,Y,Y,Y,Z,Z,Z,Z,Z,Z,Z] rfl rfl (one_of HT_.out (by kernel_rfl)) (by decide) (fun K hK => ?_)
            refine goes_ Try.func73 (by kernel_rfl) rfl #[.slice A28 (l0.drop (t131 : Int).toNat).length (c0 - t131.toNat),.slice Ao34 t142.length co34] (by rfl) rfl rfl (by (try simp only [List.map_toArray,List.map_cons,List.map_nil]);first | done | (rw [show (l0.drop (t131 : Int).toNat).length = (l0.length - t131.toNat) from List.length_drop] <;> rfl) | rfl | (simp only [List.length_drop,List.length_take];rfl)) ?_
            with_reducible refine (pack_Take.calls _ _ (l0.drop (t131 : Int).toNat) _ _ t142 t145 t146 t147 _ ?side1 ?side2 ?side3 ?side4 A21.out).mono ?_
            (case side1 => repeat (first | exact (Kd.C_below HR137.out HB.out) | (with_reducible refine Kd.C_alloc ?_ _) | (with_reducible refine Kd.C_drewN ?_ _) | (with_reducible refine Kd.C_drew ?_)))
            (case side2 => exact HC137.out)
            (case side3 => repeat (first | exact (Kd.R_reads' HO144.out).2.2 | (with_reducible refine Kd.C_alloc ?_ _) | (with_reducible refine Kd.C_drewN ?_ _) | (with_reducible refine Kd.C_drew ?_)))
            (case side4 => exact (Kd.R_reads' HO144.out).2.1)
            rintro e w35 ⟨v148,rfl,ho0,hb⟩;refine ⟨_,rfl,?_⟩
            have n0_:=A_ (Kd.R_elder' (by (with_reducible repeat (first | apply ra_ | apply rn_ | apply re_));exact HO_4.out) (Kd.R_base ho0) hb)
            have n1_:=A_ (Kd.R_below (by (with_reducible repeat (first | apply ra_ | apply rn_ | apply re_));exact HO140.out) hb)
            have n2_:=A_ (Kd.R_below (by (with_reducible repeat (first | apply ra_ | apply rn_ | apply re_));exact HO144.out) hb)
            have n3_:=A_ (Kd.R_lower (Kd.R_new' ho0 (Kd.R_lt (by (with_reducible repeat (first | apply ra_ | apply rn_ | apply re_));exact HO_4.out))) (bz_ (by repeat (first | (with_reducible first | exact HB.out | apply ba_ | apply bd_ | apply be_ | refine bs_ ?_ GE126.out) | exact HB.out))))
            have n4_:=A_ (bx_ BK126.out (by intro h_;(with_reducible repeat (first | refine kd_ ?_ _ | refine ke_ ?_ | refine ka_ ?_ _));exact h_) hb)
            have n5_:=A_ (bp_ (by repeat (first | (with_reducible first | exact HB.out | apply ba_ | apply bd_ | apply be_ | refine bs_ ?_ GE126.out) | exact HB.out)) hb)
            clear HO_4;clear HO140;clear HO144;clear BK126;clear HB;have HO_4:=n0_;have HO140:=n1_;have HO144:=n2_;have HO149:=n3_;have BK126:=n4_;have HB:=n5_;clear n0_ n1_ n2_ n3_ n4_ n5_;(try clear hb);(try clear hb2);(try clear hk);(try clear hi);(try clear ho0);refine hK.out _ _ ?_;clear hK K
            refine norm_ (a':=?_) ?_ ?_;rotate_left;(show Act.put _ (some 46) _ = _;simp only [Act.put,q1_,q2_,q3_,i64_w,i32_w];rfl)
            refine pu_ (i:=10) (N:=some 36) (v:=?_) (a':=?_) #[Y,Y,Y,Y,Y,Y,Y,Y,Y,Y,Y,Z,Z,Z,Z,Z,Z] rfl rfl HT_.out (by kernel_rfl) (fun _ _ _ h => h) (by rfl) ?_ ?_ ?_;rotate_left;(intro w';go_simp;with_reducible rfl);rotate_left;(simp only [Act.put,q1_,q2_,q3_,i64_w,i32_w];rfl)
            refine pu_ (i:=11) (N:=some 47) (v:=?_) (a':=?_) #[Y,Y,Y,Y,Y,Y,Y,Y,Y,Y,Y,Y,Z,Z,Z,Z,Z] rfl rfl HT_.out (by kernel_rfl) (fun _ _ _ h => h) (by rfl) ?_ ?_ ?_;rotate_left;(intro w';go_simp;with_reducible rfl);rotate_left;(simp only [Act.put,q1_,q2_,q3_,i64_w,i32_w];rfl)
            refine pu_ (i:=12) (N:=some 48) (v:=?_) (a':=?_) #[Y,Y,Y,Y,Y,Y,Y,Y,Y,Y,Y,Y,Y,Z,Z,Z,Z] rfl rfl HT_.out (by kernel_rfl) (fun _ _ _ h => h) (by rfl) ?_ ?_ ?_;rotate_left;(intro w';go_simp;with_reducible rfl);rotate_left;(simp only [Act.put,q1_,q2_,q3_,i64_w,i32_w];rfl)
            refine pu_ (i:=13) (N:=some 49) (v:=?_) (a':=?_) #[Y,Y,Y,Y,Y,Y,Y,Y,Y,Y,Y,Y,Y,Y,Z,Z,Z] rfl rfl HT_.out (by kernel_rfl) (fun _ _ _ h => h) (by rfl) ?_ ?_ ?_;rotate_left;(intro w';go_simp;with_reducible rfl);rotate_left;(simp only [Act.put,q1_,q2_,q3_,i64_w,i32_w];rfl)
            refine pu_ (i:=14) (N:=some 7) (v:=?_) (a':=?_) #[Y,Y,Y,Y,Y,Y,Y,Y,Y,Y,Y,Y,Y,Y,Y,Z,Z] rfl rfl HT_.out (by kernel_rfl) (fun _ _ _ h => h) (by rfl) ?_ ?_ ?_;rotate_left;(intro w';go_simp;with_reducible rfl);rotate_left;(simp only [Act.put,q1_,q2_,q3_,i64_w,i32_w];rfl)
            refine pu_ (i:=15) (N:=some 8) (v:=?_) (a':=?_) #[Y,Y,Y,Y,Y,Y,Y,Y,Y,Y,Y,Y,Y,Y,Y,Y,Z] rfl rfl HT_.out (by kernel_rfl) (fun _ _ _ h => h) (by rfl) ?_ ?_ ?_;rotate_left;(intro w';go_simp;with_reducible rfl);rotate_left;(simp only [Act.put,q1_,q2_,q3_,i64_w,i32_w];rfl)
            refine pu_ (i:=16) (N:=some 6) (v:=?_) (a':=?_) #[Y,Y,Y,Y,Y,Y,Y,Y,Y,Y,Y,Y,Y,Y,Y,Y,Y] rfl rfl HT_.out (by kernel_rfl) (fun _ _ _ h => h) (by rfl) ?_ ?_ ?_;rotate_left;(intro w';go_simp;with_reducible rfl);rotate_left;(simp only [Act.put,q1_,q2_,q3_,i64_w,i32_w];rfl)
            refine done_ (done_of HT_.out (by kernel_rfl)) ?_
            try go_wp2
            have n0_:=A_ (re_ HO_4.out);have n1_:=A_ (re_ HO140.out);have n2_:=A_ (re_ HO144.out);have n3_:=A_ (re_ HO149.out);have n4_:=A_ (ke_ BK126.out);have n5_:=A_ (be_ HB.out);clear HO_4;clear HO140;clear HO144;clear HO149;clear BK126;clear HB;have HO_4:=n0_;have HO140:=n1_;have HO144:=n2_;have HO149:=n3_;have BK126:=n4_;have HB:=n5_;clear n0_ n1_ n2_ n3_ n4_ n5_
            have p150 : 0 ≤ (1 : Int):=(by omega)
            have q150 : 1 < (t130.length : Int):=od_ (by first | (with_reducible assumption) | assumption)
            obtain ⟨ad150,e150,hx150_0,hx150_1,hx150_2,hx150_3⟩:=at_T86 (Kd.R_reads' HO_4.out).2.2 1 p150 q150
            obtain rfl : ad141 = ad150:=(by injection e150)
            (try simp only [N1_,Nat.reduceMul,Nat.reduceEqDiff,Go.Addr.add,↓reduceIte] at hx150_0 hx150_1 hx150_2 hx150_3)
            have qi150 : (1 < t130.length) = True:=eq_true (by omega)
            replace p150:=eq_true p150;replace q150:=eq_true q150
            have p151 : 0 ≤ (0 : Int):=(by omega)
            have q151 : 0 < (t130.length : Int):=od_ (by first | (with_reducible assumption) | assumption)
            obtain ⟨ad151,e151,hx151_0,hx151_1,hx151_2,hx151_3⟩:=at_T86 (Kd.R_reads' HO_4.out).2.2 0 p151 q151
            obtain rfl : ad141 = ad151:=(by injection e151)
            have qi151 : (0 < t130.length) = True:=eq_true (by omega)
            (try rw [N0_] at hx151_0)
            (try rw [show 0 * 4 = 0 from rfl] at hx151_0)
            (try rw [Addr.add_zero'] at hx151_0);(try rw [N0_] at hx151_1)
            (try rw [show 0 * 4 = 0 from rfl] at hx151_1)
            (try rw [Addr.add_zero'] at hx151_1);(try rw [N0_] at hx151_2)
            (try rw [show 0 * 4 = 0 from rfl] at hx151_2)
            (try rw [Addr.add_zero'] at hx151_2);(try rw [N0_] at hx151_3)
            (try rw [show 0 * 4 = 0 from rfl] at hx151_3)
            (try rw [Addr.add_zero'] at hx151_3);replace p151:=eq_true p151;replace q151:=eq_true q151
            have p152 : 0 ≤ (2 : Int):=(by omega)
            have q152 : 2 < (t130.length : Int):=od_ (by first | (with_reducible assumption) | assumption)
            obtain ⟨ad152,e152,hx152_0,hx152_1,hx152_2,hx152_3⟩:=at_T86 (Kd.R_reads' HO_4.out).2.2 2 p152 q152
            obtain rfl : ad141 = ad152:=(by injection e152)
            (try simp only [N2_,Nat.reduceMul,Nat.reduceEqDiff,Go.Addr.add,↓reduceIte] at hx152_0 hx152_1 hx152_2 hx152_3)
            have qi152 : (2 < t130.length) = True:=eq_true (by omega)
            replace p152:=eq_true p152;replace q152:=eq_true q152
            have p153 : 0 ≤ (3 : Int):=(by omega)
            have q153 : 3 < (t130.length : Int):=od_ (by first | (with_reducible assumption) | assumption)
            obtain ⟨ad153,e153,hx153_0,hx153_1,hx153_2,hx153_3⟩:=at_T86 (Kd.R_reads' HO_4.out).2.2 3 p153 q153
            obtain rfl : ad141 = ad153:=(by injection e153)
            (try simp only [N3_,Nat.reduceMul,Nat.reduceEqDiff,Go.Addr.add,↓reduceIte] at hx153_0 hx153_1 hx153_2 hx153_3)
            have qi153 : (3 < t130.length) = True:=eq_true (by omega)
            replace p153:=eq_true p153;replace q153:=eq_true q153
            have p154 : 0 ≤ (4 : Int):=(by omega)
            have q154 : 4 < (t130.length : Int):=od_ (by first | (with_reducible assumption) | assumption)
            obtain ⟨ad154,e154,hx154_0,hx154_1,hx154_2,hx154_3⟩:=at_T86 (Kd.R_reads' HO_4.out).2.2 4 p154 q154
            obtain rfl : ad141 = ad154:=(by injection e154)
            (try simp only [N4_,Nat.reduceMul,Nat.reduceEqDiff,Go.Addr.add,↓reduceIte] at hx154_0 hx154_1 hx154_2 hx154_3)
            have qi154 : (4 < t130.length) = True:=eq_true (by omega)
            replace p154:=eq_true p154;replace q154:=eq_true q154
            refine start_ (n:=25) (S:=fun w' => w'.cell? ⟨ad141.block,ad141.off + 4,none⟩ = some (.int .i64 ((rd_T86 t130 1).f0)) ∧ w'.cell? ⟨ad141.block,ad141.off + 4 + 1,none⟩ = some (.int .i64 ((rd_T86 t130 1).f1)) ∧ w'.cell? ⟨ad141.block,ad141.off + 4 + 2,none⟩ = some (.float .f64 ((rd_T86 t130 1).f2)) ∧ w'.cell? ⟨ad141.block,ad141.off + 4 + 3,none⟩ = some (.string ((rd_T86 t130 1).f3)) ∧ w'.cell? ad141 = some (.int .i64 ((rd_T86 t130 0).f0)) ∧ w'.cell? ⟨ad141.block,ad141.off + 1,none⟩ = some (.int .i64 ((rd_T86 t130 0).f1)) ∧ w'.cell? ⟨ad141.block,ad141.off + 2,none⟩ = some (.float .f64 ((rd_T86 t130 0).f2)) ∧ w'.cell? ⟨ad141.block,ad141.off + 3,none⟩ = some (.string ((rd_T86 t130 0).f3)) ∧ w'.cell? ⟨ad141.block,ad141.off + 8,none⟩ = some (.int .i64 ((rd_T86 t130 2).f0)) ∧ w'.cell? ⟨ad141.block,ad141.off + 8 + 1,none⟩ = some (.int .i64 ((rd_T86 t130 2).f1)) ∧ w'.cell? ⟨ad141.block,ad141.off + 8 + 2,none⟩ = some (.float .f64 ((rd_T86 t130 2).f2)) ∧ w'.cell? ⟨ad141.block,ad141.off + 8 + 3,none⟩ = some (.string ((rd_T86 t130 2).f3)) ∧ w'.cell? ⟨ad141.block,ad141.off + 12,none⟩ = some (.int .i64 ((rd_T86 t130 3).f0)) ∧ w'.cell? ⟨ad141.block,ad141.off + 12 + 1,none⟩ = some (.int .i64 ((rd_T86 t130 3).f1)) ∧ w'.cell? ⟨ad141.block,ad141.off + 12 + 2,none⟩ = some (.float .f64 ((rd_T86 t130 3).f2)) ∧ w'.cell? ⟨ad141.block,ad141.off + 12 + 3,none⟩ = some (.string ((rd_T86 t130 3).f3)) ∧ w'.cell? ⟨ad141.block,ad141.off + 16,none⟩ = some (.int .i64 ((rd_T86 t130 4).f0)) ∧ w'.cell? ⟨ad141.block,ad141.off + 16 + 1,none⟩ = some (.int .i64 ((rd_T86 t130 4).f1)) ∧ w'.cell? ⟨ad141.block,ad141.off + 16 + 2,none⟩ = some (.float .f64 ((rd_T86 t130 4).f2)) ∧ w'.cell? ⟨ad141.block,ad141.off + 16 + 3,none⟩ = some (.string ((rd_T86 t130 4).f3))) (ds:=[24]) #[Z,Z,Z,Z,Z,Z,Z,Z,Z,Z,Z,Z,Z,Z,Z,Z,Z,Z,Z,Z,Z,Z,Z,Z,Z] (by kernel_rfl) rfl rfl ⟨hx150_0,hx150_1,hx150_2,hx150_3,hx151_0,hx151_1,hx151_2,hx151_3,hx152_0,hx152_1,hx152_2,hx152_3,hx153_0,hx153_1,hx153_2,hx153_3,hx154_0,hx154_1,hx154_2,hx154_3⟩ (fun hHeld => ?_);refine with_tabW row_Decode.tab5 row_Decode.bits5 (fun HT_ HW_ => ?_)
            generalize w35.drew = w36 at HO_4 HO140 HO144 HO149 BK126 HB hx150_0 hx150_1 hx150_2 hx150_3 hx151_0 hx151_1 hx151_2 hx151_3 hx152_0 hx152_1 hx152_2 hx152_3 hx153_0 hx153_1 hx153_2 hx153_3 hx154_0 hx154_1 hx154_2 hx154_3 hHeld ⊢
            refine pu_ (i:=0) (N:=some 50) (v:=?_) (a':=?_) #[Y,Z,Z,Z,Z,Z,Z,Z,Z,Z,Z,Z,Z,Z,Z,Z,Z,Z,Z,Z,Z,Z,Z,Z,Z] rfl rfl HT_.out (by kernel_rfl) (fun _ _ _ h => h) (by rfl) ?_ ?_ ?_;rotate_left;(intro w';go_simp;with_reducible rfl);rotate_left;(simp only [Act.put,q1_,q2_,q3_,i64_w,i32_w];rfl)
            refine pu_ (i:=1) (N:=some 51) (v:=?_) (a':=?_) #[Y,Y,Z,Z,Z,Z,Z,Z,Z,Z,Z,Z,Z,Z,Z,Z,Z,Z,Z,Z,Z,Z,Z,Z,Z] rfl rfl HT_.out (by kernel_rfl) (fun _ _ _ h => h) (by rfl) ?_ ?_ ?_;rotate_left;(intro w';go_simp;with_reducible rfl);rotate_left;(simp only [Act.put,q1_,q2_,q3_,i64_w,i32_w];rfl)
            refine pu_ (i:=2) (N:=some 52) (v:=?_) (a':=?_) #[Y,Y,Y,Z,Z,Z,Z,Z,Z,Z,Z,Z,Z,Z,Z,Z,Z,Z,Z,Z,Z,Z,Z,Z,Z] rfl rfl HT_.out (by kernel_rfl) (fun _ _ _ h => h) (by rfl) ?_ ?_ ?_;rotate_left;(intro w';go_simp;with_reducible rfl);rotate_left;(simp only [Act.put,q1_,q2_,q3_,i64_w,i32_w];rfl)
            refine pu_ (i:=4) (N:=some 54) (v:=?_) (a':=?_) #[Y,Y,Y,Z,Y,Z,Z,Z,Z,Z,Z,Z,Z,Z,Z,Z,Z,Z,Z,Z,Z,Z,Z,Z,Z] rfl rfl HT_.out (by kernel_rfl) (fun _ _ _ h => h) (by rfl) ?_ ?_ ?_;rotate_left;(intro w';go_simp;with_reducible rfl);rotate_left;(simp only [Act.put,q1_,q2_,q3_,i64_w,i32_w];rfl)
            refine pu_ (i:=5) (N:=some 55) (v:=?_) (a':=?_) #[Y,Y,Y,Z,Y,Y,Z,Z,Z,Z,Z,Z,Z,Z,Z,Z,Z,Z,Z,Z,Z,Z,Z,Z,Z] rfl rfl HT_.out (by kernel_rfl) (fun _ _ _ h => h) (by rfl) ?_ ?_ ?_;rotate_left;(intro w';go_simp;with_reducible rfl);rotate_left;(simp only [Act.put,q1_,q2_,q3_,i64_w,i32_w];rfl)
            refine pu_ (i:=6) (N:=some 56) (v:=?_) (a':=?_) #[Y,Y,Y,Z,Y,Y,Y,Z,Z,Z,Z,Z,Z,Z,Z,Z,Z,Z,Z,Z,Z,Z,Z,Z,Z] rfl rfl HT_.out (by kernel_rfl) (fun _ _ _ h => h) (by rfl) ?_ ?_ ?_;rotate_left;(intro w';go_simp;with_reducible rfl);rotate_left;(simp only [Act.put,q1_,q2_,q3_,i64_w,i32_w];rfl)
            refine pu_ (i:=9) (N:=some 59) (v:=?_) (a':=?_) #[Y,Y,Y,Z,Y,Y,Y,Z,Z,Y,Z,Z,Z,Z,Z,Z,Z,Z,Z,Z,Z,Z,Z,Z,Z] rfl rfl HT_.out (by kernel_rfl) (fun _ _ _ h => h) (by rfl) ?_ ?_ ?_;rotate_left;(intro w';go_simp;with_reducible rfl);rotate_left;(simp only [Act.put,q1_,q2_,q3_,i64_w,i32_w];rfl)
            refine pu_ (i:=10) (N:=some 60) (v:=?_) (a':=?_) #[Y,Y,Y,Z,Y,Y,Y,Z,Z,Y,Y,Z,Z,Z,Z,Z,Z,Z,Z,Z,Z,Z,Z,Z,Z] rfl rfl HT_.out (by kernel_rfl) (fun _ _ _ h => h) (by rfl) ?_ ?_ ?_;rotate_left;(intro w';go_simp;with_reducible rfl);rotate_left;(simp only [Act.put,q1_,q2_,q3_,i64_w,i32_w];rfl)
            refine pu_ (i:=11) (N:=some 61) (v:=?_) (a':=?_) #[Y,Y,Y,Z,Y,Y,Y,Z,Z,Y,Y,Y,Z,Z,Z,Z,Z,Z,Z,Z,Z,Z,Z,Z,Z] rfl rfl HT_.out (by kernel_rfl) (fun _ _ _ h => h) (by rfl) ?_ ?_ ?_;rotate_left;(intro w';go_simp;with_reducible rfl);rotate_left;(simp only [Act.put,q1_,q2_,q3_,i64_w,i32_w];rfl)
            refine pu_ (i:=13) (N:=some 63) (v:=?_) (a':=?_) #[Y,Y,Y,Z,Y,Y,Y,Z,Z,Y,Y,Y,Z,Y,Z,Z,Z,Z,Z,Z,Z,Z,Z,Z,Z] rfl rfl HT_.out (by kernel_rfl) (fun _ _ _ h => h) (by rfl) ?_ ?_ ?_;rotate_left;(intro w';go_simp;with_reducible rfl);rotate_left;(simp only [Act.put,q1_,q2_,q3_,i64_w,i32_w];rfl)
            refine pu_ (i:=14) (N:=some 64) (v:=?_) (a':=?_) #[Y,Y,Y,Z,Y,Y,Y,Z,Z,Y,Y,Y,Z,Y,Y,Z,Z,Z,Z,Z,Z,Z,Z,Z,Z] rfl rfl HT_.out (by kernel_rfl) (fun _ _ _ h => h) (by rfl) ?_ ?_ ?_;rotate_left;(intro w';go_simp;with_reducible rfl);rotate_left;(simp only [Act.put,q1_,q2_,q3_,i64_w,i32_w];rfl)
            refine pu_ (i:=15) (N:=some 65) (v:=?_) (a':=?_) #[Y,Y,Y,Z,Y,Y,Y,Z,Z,Y,Y,Y,Z,Y,Y,Y,Z,Z,Z,Z,Z,Z,Z,Z,Z] rfl rfl HT_.out (by kernel_rfl) (fun _ _ _ h => h) (by rfl) ?_ ?_ ?_;rotate_left;(intro w';go_simp;with_reducible rfl);rotate_left;(simp only [Act.put,q1_,q2_,q3_,i64_w,i32_w];rfl)
            refine pu_ (i:=17) (N:=some 67) (v:=?_) (a':=?_) #[Y,Y,Y,Z,Y,Y,Y,Z,Z,Y,Y,Y,Z,Y,Y,Y,Z,Y,Z,Z,Z,Z,Z,Z,Z] rfl rfl HT_.out (by kernel_rfl) (fun _ _ _ h => h) (by rfl) ?_ ?_ ?_;rotate_left;(intro w';go_simp;with_reducible rfl);rotate_left;(simp only [Act.put,q1_,q2_,q3_,i64_w,i32_w];rfl)
            refine pu_ (i:=18) (N:=some 68) (v:=?_) (a':=?_) #[Y,Y,Y,Z,Y,Y,Y,Z,Z,Y,Y,Y,Z,Y,Y,Y,Z,Y,Y,Z,Z,Z,Z,Z,Z] rfl rfl HT_.out (by kernel_rfl) (fun _ _ _ h => h) (by rfl) ?_ ?_ ?_;rotate_left;(intro w';go_simp;with_reducible rfl);rotate_left;(simp only [Act.put,q1_,q2_,q3_,i64_w,i32_w];rfl)
            refine pu_ (i:=19) (N:=some 69) (v:=?_) (a':=?_) #[Y,Y,Y,Z,Y,Y,Y,Z,Z,Y,Y,Y,Z,Y,Y,Y,Z,Y,Y,Y,Z,Z,Z,Z,Z] rfl rfl HT_.out (by kernel_rfl) (fun _ _ _ h => h) (by rfl) ?_ ?_ ?_;rotate_left;(intro w';go_simp;with_reducible rfl);rotate_left;(simp only [Act.put,q1_,q2_,q3_,i64_w,i32_w];rfl)
            refine ta_ (i:=3) (N:=some 53) (v:=?_) (a':=?_) #[Y,Y,Y,Y,Y,Y,Y,Z,Z,Y,Y,Y,Z,Y,Y,Y,Z,Y,Y,Y,Z,Z,Z,Z,Z] rfl rfl HT_.out HW_.out (by kernel_rfl) (fun _ _ _ h => h) (by rfl) ?_ hHeld ?_ ?_;rotate_left;(rintro w' ⟨s0,s1,s2,s3,s4,s5,s6,s7,s8,s9,s10,s11,s12,s13,s14,s15,s16,s17,s18,s19⟩;go_simp;with_reducible rfl);rotate_left;(simp only [Act.put,q1_,q2_,q3_,i64_w,i32_w];rfl)
            refine ta_ (i:=7) (N:=some 57) (v:=?_) (a':=?_) #[Y,Y,Y,Y,Y,Y,Y,Y,Z,Y,Y,Y,Z,Y,Y,Y,Z,Y,Y,Y,Z,Z,Z,Z,Z] rfl rfl HT_.out HW_.out (by kernel_rfl) (fun _ _ _ h => h) (by rfl) ?_ hHeld ?_ ?_;rotate_left;(rintro w' ⟨s0,s1,s2,s3,s4,s5,s6,s7,s8,s9,s10,s11,s12,s13,s14,s15,s16,s17,s18,s19⟩;go_simp;with_reducible rfl);rotate_left;(simp only [Act.put,q1_,q2_,q3_,i64_w,i32_w];rfl)
            refine pu_ (i:=8) (N:=some 58) (v:=?_) (a':=?_) #[Y,Y,Y,Y,Y,Y,Y,Y,Y,Y,Y,Y,Z,Y,Y,Y,Z,Y,Y,Y,Z,Z,Z,Z,Z] rfl rfl HT_.out (by kernel_rfl) (fun _ _ _ h => h) (by rfl) ?_ ?_ ?_;rotate_left;(intro w';go_simp;with_reducible rfl);rotate_left;(simp only [Act.put,q1_,q2_,q3_,i64_w,i32_w];rfl)
            refine ta_ (i:=12) (N:=some 62) (v:=?_) (a':=?_) #[Y,Y,Y,Y,Y,Y,Y,Y,Y,Y,Y,Y,Y,Y,Y,Y,Z,Y,Y,Y,Z,Z,Z,Z,Z] rfl rfl HT_.out HW_.out (by kernel_rfl) (fun _ _ _ h => h) (by rfl) ?_ hHeld ?_ ?_;rotate_left;(rintro w' ⟨s0,s1,s2,s3,s4,s5,s6,s7,s8,s9,s10,s11,s12,s13,s14,s15,s16,s17,s18,s19⟩;go_simp;with_reducible rfl);rotate_left;(simp only [Act.put,q1_,q2_,q3_,i64_w,i32_w];rfl)
            refine ta_ (i:=16) (N:=some 66) (v:=?_) (a':=?_) #[Y,Y,Y,Y,Y,Y,Y,Y,Y,Y,Y,Y,Y,Y,Y,Y,Y,Y,Y,Y,Z,Z,Z,Z,Z] rfl rfl HT_.out HW_.out (by kernel_rfl) (fun _ _ _ h => h) (by rfl) ?_ hHeld ?_ ?_;rotate_left;(rintro w' ⟨s0,s1,s2,s3,s4,s5,s6,s7,s8,s9,s10,s11,s12,s13,s14,s15,s16,s17,s18,s19⟩;go_simp;with_reducible rfl);rotate_left;(simp only [Act.put,q1_,q2_,q3_,i64_w,i32_w];rfl)
            refine ta_ (i:=20) (N:=some 70) (v:=?_) (a':=?_) #[Y,Y,Y,Y,Y,Y,Y,Y,Y,Y,Y,Y,Y,Y,Y,Y,Y,Y,Y,Y,Y,Z,Z,Z,Z] rfl rfl HT_.out HW_.out (by kernel_rfl) (fun _ _ _ h => h) (by rfl) ?_ hHeld ?_ ?_;rotate_left;(rintro w' ⟨s0,s1,s2,s3,s4,s5,s6,s7,s8,s9,s10,s11,s12,s13,s14,s15,s16,s17,s18,s19⟩;go_simp;with_reducible rfl);rotate_left;(simp only [Act.put,q1_,q2_,q3_,i64_w,i32_w];rfl)
            refine pu_ (i:=21) (N:=some 71) (v:=?_) (a':=?_) #[Y,Y,Y,Y,Y,Y,Y,Y,Y,Y,Y,Y,Y,Y,Y,Y,Y,Y,Y,Y,Y,Y,Z,Z,Z] rfl rfl HT_.out (by kernel_rfl) (fun _ _ _ h => h) (by rfl) ?_ ?_ ?_;rotate_left;(intro w';go_simp;with_reducible rfl);rotate_left;(simp only [Act.put,q1_,q2_,q3_,i64_w,i32_w];rfl)
            refine pu_ (i:=22) (N:=some 72) (v:=?_) (a':=?_) #[Y,Y,Y,Y,Y,Y,Y,Y,Y,Y,Y,Y,Y,Y,Y,Y,Y,Y,Y,Y,Y,Y,Y,Z,Z] rfl rfl HT_.out (by kernel_rfl) (fun _ _ _ h => h) (by rfl) ?_ ?_ ?_;rotate_left;(intro w';go_simp;with_reducible rfl);rotate_left;(simp only [Act.put,q1_,q2_,q3_,i64_w,i32_w];rfl)
            refine one_ (i:=23) (N:=some 9) #[Y,Y,Y,Y,Y,Y,Y,Y,Y,Y,Y,Y,Y,Y,Y,Y,Y,Y,Y,Y,Y,Y,Y,Y,Z] rfl rfl (one_of HT_.out (by kernel_rfl)) (by decide) (fun K hK => ?_)
            refine box_step ?hg (N:=9) ?hd (cs:=#[.float .f64 0,.bool false,.slice none 0 0,.int .i64 0,.int .i64 0,.int .i64 0]) (t:=30) ?hr ?_;(case hd => rfl);(case hg => rfl);(case hr => first | (go_simp;done) | (go_simp;rfl))
            intro gb155 hg w37 hbox hb;have HS0_:=(hb.cell (wb_ _ _ (hHeld.1))).trans (hHeld.1);have HS1_:=(hb.cell (wb_ _ _ (hHeld.2.1))).trans (hHeld.2.1);have HS2_:=(hb.cell (wb_ _ _ (hHeld.2.2.1))).trans (hHeld.2.2.1);have HS3_:=(hb.cell (wb_ _ _ (hHeld.2.2.2.1))).trans (hHeld.2.2.2.1);have HS4_:=(hb.cell (wb_ _ _ (hHeld.2.2.2.2.1))).trans (hHeld.2.2.2.2.1);have HS5_:=(hb.cell (wb_ _ _ (hHeld.2.2.2.2.2.1))).trans (hHeld.2.2.2.2.2.1);have HS6_:=(hb.cell (wb_ _ _ (hHeld.2.2.2.2.2.2.1))).trans (hHeld.2.2.2.2.2.2.1);have HS7_:=(hb.cell (wb_ _ _ (hHeld.2.2.2.2.2.2.2.1))).trans (hHeld.2.2.2.2.2.2.2.1);have HS8_:=(hb.cell (wb_ _ _ (hHeld.2.2.2.2.2.2.2.2.1))).trans (hHeld.2.2.2.2.2.2.2.2.1);have HS9_:=(hb.cell (wb_ _ _ (hHeld.2.2.2.2.2.2.2.2.2.1))).trans (hHeld.2.2.2.2.2.2.2.2.2.1);have HS10_:=(hb.cell (wb_ _ _ (hHeld.2.2.2.2.2.2.2.2.2.2.1))).trans (hHeld.2.2.2.2.2.2.2.2.2.2.1);have HS11_:=(hb.cell (wb_ _ _ (hHeld.2.2.2.2.2.2.2.2.2.2.2.1))).trans (hHeld.2.2.2.2.2.2.2.2.2.2.2.1);have HS12_:=(hb.cell (wb_ _ _ (hHeld.2.2.2.2.2.2.2.2.2.2.2.2.1))).trans (hHeld.2.2.2.2.2.2.2.2.2.2.2.2.1);have HS13_:=(hb.cell (wb_ _ _ (hHeld.2.2.2.2.2.2.2.2.2.2.2.2.2.1))).trans (hHeld.2.2.2.2.2.2.2.2.2.2.2.2.2.1);have HS14_:=(hb.cell (wb_ _ _ (hHeld.2.2.2.2.2.2.2.2.2.2.2.2.2.2.1))).trans (hHeld.2.2.2.2.2.2.2.2.2.2.2.2.2.2.1);have HS15_:=(hb.cell (wb_ _ _ (hHeld.2.2.2.2.2.2.2.2.2.2.2.2.2.2.2.1))).trans (hHeld.2.2.2.2.2.2.2.2.2.2.2.2.2.2.2.1);have HS16_:=(hb.cell (wb_ _ _ (hHeld.2.2.2.2.2.2.2.2.2.2.2.2.2.2.2.2.1))).trans (hHeld.2.2.2.2.2.2.2.2.2.2.2.2.2.2.2.2.1)
            have HS17_:=(hb.cell (wb_ _ _ (hHeld.2.2.2.2.2.2.2.2.2.2.2.2.2.2.2.2.2.1))).trans (hHeld.2.2.2.2.2.2.2.2.2.2.2.2.2.2.2.2.2.1);have HS18_:=(hb.cell (wb_ _ _ (hHeld.2.2.2.2.2.2.2.2.2.2.2.2.2.2.2.2.2.2.1))).trans (hHeld.2.2.2.2.2.2.2.2.2.2.2.2.2.2.2.2.2.2.1);have HS19_:=(hb.cell (wb_ _ _ (hHeld.2.2.2.2.2.2.2.2.2.2.2.2.2.2.2.2.2.2.2))).trans (hHeld.2.2.2.2.2.2.2.2.2.2.2.2.2.2.2.2.2.2.2)
            have n0_:=A_ (Kd.R_below (by (with_reducible repeat (first | apply ra_ | apply rn_ | apply re_));exact HO_4.out) hb)
            have n1_:=A_ (Kd.R_below (by (with_reducible repeat (first | apply ra_ | apply rn_ | apply re_));exact HO140.out) hb)
            have n2_:=A_ (Kd.R_below (by (with_reducible repeat (first | apply ra_ | apply rn_ | apply re_));exact HO144.out) hb)
            have n3_:=A_ (Kd.R_below (by (with_reducible repeat (first | apply ra_ | apply rn_ | apply re_));exact HO149.out) hb)
            have n4_:=A_ (bx_ BK126.out (by intro h_;(with_reducible repeat (first | refine kd_ ?_ _ | refine ke_ ?_ | refine ka_ ?_ _));exact h_) hb)
            have n5_:=A_ (bp_ (by repeat (first | (with_reducible first | exact HB.out | apply ba_ | apply bd_ | apply be_ | refine bs_ ?_ GE126.out) | exact HB.out)) hb)
            have n6_:=A_ (hbox)
            have n7_:=A_ ((by rw [hg];exact (bz_ (by repeat (first | (with_reducible first | exact HB.out | apply ba_ | apply bd_ | apply be_ | refine bs_ ?_ GE126.out) | exact HB.out))) : w.heap.size ≤ gb155))
            have n8_:=n7_
            have n9_:=A_ ((by rw [hg];exact Nat.ne_of_lt (bl_ BK126.out (by intro h_;(with_reducible repeat (first | refine kd_ ?_ _ | refine ke_ ?_ | refine ka_ ?_ _));exact h_)) : gb126 ≠ gb155))
            have n10_:=A_ (Ne.symm n9_.out);clear HO_4;clear HO140;clear HO144;clear HO149;clear BK126;clear HB;have HO_4:=n0_;have HO140:=n1_;have HO144:=n2_;have HO149:=n3_;have BK126:=n4_;have HB:=n5_;have BK155:=n6_;have GW155:=n7_;have GE155:=n8_;have NB126_155:=n9_;have NB155_126:=n10_;clear n0_ n1_ n2_ n3_ n4_ n5_ n6_ n7_ n8_ n9_ n10_;clear hb hbox hg
            refine hK.out _ _ ⟨HS0_,HS1_,HS2_,HS3_,HS4_,HS5_,HS6_,HS7_,HS8_,HS9_,HS10_,HS11_,HS12_,HS13_,HS14_,HS15_,HS16_,HS17_,HS18_,HS19_⟩ (fun hHeld => ?_)
            clear hK K
            refine norm_ (a':=?_) ?_ ?_;rotate_left;(show Act.put _ (some 9) _ = _;simp only [Act.put,q1_,q2_,q3_,i64_w,i32_w];rfl)
            refine last_ (i:=24) (N:=none) #[Y,Y,Y,Y,Y,Y,Y,Y,Y,Y,Y,Y,Y,Y,Y,Y,Y,Y,Y,Y,Y,Y,Y,Y,Y] rfl rfl (one_of HT_.out (by kernel_rfl)) (by decide) (fun K hK => ?_)
            have hs38 : w37.cell? ⟨gb155,0,none⟩ = some (.float .f64 0):=(bc_ BK155.out 0).trans rfl;have hfs38:=bf_ BK155.out 0;have hns38_0:=NB126_155.out;have hms38_0:=NB155_126.out;have hs39 : w37.cell? ⟨gb155,1,none⟩ = some (.bool false):=(bc_ BK155.out 1).trans rfl;have hfs39:=bf_ BK155.out 1;have hns39_0:=NB126_155.out;have hms39_0:=NB155_126.out;have hs40 : w37.cell? ⟨gb155,2,none⟩ = some (.slice none 0 0):=(bc_ BK155.out 2).trans rfl;have hfs40:=bf_ BK155.out 2;have hns40_0:=NB126_155.out;have hms40_0:=NB155_126.out;have hs41 : w37.cell? ⟨gb155,3,none⟩ = some (.int .i64 0):=(bc_ BK155.out 3).trans rfl;have hfs41:=bf_ BK155.out 3;have hns41_0:=NB126_155.out;have hms41_0:=NB155_126.out;have hs42 : w37.cell? ⟨gb155,4,none⟩ = some (.int .i64 0):=(bc_ BK155.out 4).trans rfl;have hfs42:=bf_ BK155.out 4;have hns42_0:=NB126_155.out;have hms42_0:=NB155_126.out;have hs43 : w37.cell? ⟨gb155,5,none⟩ = some (.int .i64 0):=(bc_ BK155.out 5).trans rfl;have hfs43:=bf_ BK155.out 5;have hns43_0:=NB126_155.out;have hms43_0:=NB155_126.out
            refine skip_ (w1:=?_) (by rfl) rfl ?_ ?_
            rotate_left
            ·go_simp
             rfl
            refine hK.out _ _ ?_;clear hK K;refine done_ (done_of HT_.out (by kernel_rfl)) ?_;obtain ⟨Ao44,co44,eo44⟩:=Kd.R_slice HO149.out;subst eo44
            try go_wp2
            go_loopg [75] kj3 (fun kq v75 w' => ∃ (x75_2 : Int) (x156002_2 : List Nat) (u156002 : Value),v75 = .int .i64 x75_2 ∧ Aside0 (row_Decode.l0 kq l0 t131 t147 t146 t145 (t145.length : Int) x75_2 ((rd_T86 t130 1).f2) (((rd_T86 t130 0).f1) == 1) x156002_2 ((rd_T86 t130 2).f1) ((rd_T86 t130 3).f1) ((rd_T86 t130 4).f1) = some (r1,r2,r3,r4,r5,r6,r7)) ∧ Aside0 (kq ≤ kj3) ∧ Aside0 (Kd.R k86 86 w' w.heap.size (fun _ => True) (.slice Ao44 t145.length co44) t145) ∧ Aside0 (Kd.R Kd.f64 25 w' w.heap.size (fun _ => True) u156002 x156002_2) ∧ Aside0 (w'.heap[gb126]? = some (.cells #[.float .f64 0,.bool false,(.slice none 0 0),.int .i64 0,.int .i64 0,.int .i64 0] 30 (0,0))) ∧ Aside0 (w'.heap[gb155]? = some (.cells #[.float .f64 ((rd_T86 t130 1).f2),.bool (((rd_T86 t130 0).f1) == 1),u156002,.int .i64 ((rd_T86 t130 2).f1),.int .i64 ((rd_T86 t130 3).f1),.int .i64 ((rd_T86 t130 4).f1)] 30 (0,0))) ∧ Aside0 (Below w.heap.size w w'))
            case atStart => exact ⟨(0),(([] : List Nat)),(.slice none 0 0),(by first | rfl | (simp;done) | (simp [*];done)),H',⟨Nat.le_refl _⟩,⟨by (with_reducible repeat (first | apply ra_ | apply rn_ | apply re_));exact Kd.R_mono (rf_ (p:=⟨gb155,5,none⟩) (rf_ (p:=⟨gb155,4,none⟩) (rf_ (p:=⟨gb155,3,none⟩) (rf_ (p:=⟨gb155,2,none⟩) (rf_ (p:=⟨gb155,1,none⟩) (rf_ (p:=⟨gb155,0,none⟩) (Kd.R_types HO149.out BK155.out (by decide)) (fun _ hk => hk.2) (.float .f64 ((rd_T86 t130 1).f2))) (fun _ hk => hk.2) (.bool (((rd_T86 t130 0).f1) == 1))) (fun _ hk => hk.2) (.slice none 0 0)) (fun _ hk => hk.2) (.int .i64 ((rd_T86 t130 2).f1))) (fun _ hk => hk.2) (.int .i64 ((rd_T86 t130 3).f1))) (fun _ hk => hk.2) (.int .i64 ((rd_T86 t130 4).f1))) (fun _ hk => trivial)⟩,⟨by first | exact Kd.R_nil _ _ _ _ _ | exact Kd.N_nil _ _ _ _ _ | exact Kd.V_nil _ _ _ _ _ | exact Kd.Q_nil _ _ _ _ _ | exact Kd.S_nil _ _ _ _ _⟩,⟨by (with_reducible repeat (first | refine kd_ ?_ _ | refine ke_ ?_ | refine ka_ ?_ _));refine blk_far ?_ NB126_155.out _;(with_reducible repeat (first | refine kd_ ?_ _ | refine ke_ ?_ | refine ka_ ?_ _));refine blk_far ?_ NB126_155.out _;(with_reducible repeat (first | refine kd_ ?_ _ | refine ke_ ?_ | refine ka_ ?_ _));refine blk_far ?_ NB126_155.out _;(with_reducible repeat (first | refine kd_ ?_ _ | refine ke_ ?_ | refine ka_ ?_ _));refine blk_far ?_ NB126_155.out _;(with_reducible repeat (first | refine kd_ ?_ _ | refine ke_ ?_ | refine ka_ ?_ _));refine blk_far ?_ NB126_155.out _;(with_reducible repeat (first | refine kd_ ?_ _ | refine ke_ ?_ | refine ka_ ?_ _));refine blk_far ?_ NB126_155.out _;(with_reducible repeat (first | refine kd_ ?_ _ | refine ke_ ?_ | refine ka_ ?_ _));exact BK126.out⟩,⟨by (with_reducible repeat (first | refine kd_ ?_ _ | refine ke_ ?_ | refine ka_ ?_ _));apply blkf_6_0_5;(with_reducible repeat (first | refine kd_ ?_ _ | refine ke_ ?_ | refine ka_ ?_ _));exact BK155.out⟩,⟨by repeat (first | (with_reducible first | exact HB.out | apply ba_ | apply bd_ | apply be_ | refine bs_ ?_ GE126.out | refine bs_ ?_ GE155.out) | exact HB.out)⟩⟩
            case round =>
             clear H';(try clear p1);(try clear q1);(try clear hx1);(try clear qi1);(try clear p2);(try clear c7);(try clear p15);(try clear q15);(try clear hx15);(try clear qi15);(try clear hx150_0);(try clear hx150_1);(try clear hx150_2);(try clear hx150_3);(try clear hx151_0);(try clear hx151_1);(try clear hx151_2);(try clear hx151_3);(try clear hx152_0);(try clear hx152_1);(try clear hx152_2);(try clear hx152_3);(try clear hx153_0);(try clear hx153_1);(try clear hx153_2);(try clear hx153_3);(try clear hx154_0);(try clear hx154_1);(try clear hx154_2);(try clear hx154_3);(try clear p150);(try clear p151);(try clear p152);(try clear p153);(try clear p154);(try clear q150);(try clear q151);(try clear q152);(try clear q153);(try clear q154);obtain ⟨x75_2,x156002_2,u156002,rfl,HA,HK2,HO_73,HO_156002,BK126,BK155,HB⟩:=hrel
             cases gk with
             | zero => exact absurd HA.out (by simp [row_Decode.l0])
             | succ k2 =>
              have H:=HA.out;clear HA
              simp only [row_Decode.l0] at H
              by_cases c45 : x75_2 < (t145.length : Int)
              ·rw [if_pos c45] at H
               have c45b0 : decide (x75_2 < (t145.length : Int)) = true:=dt_ c45;clear c45
               by_cases c46 : 0 ≤ x75_2
               ·rw [if_pos c46] at H
                have c46b0 : decide (0 ≤ x75_2) = true:=dt_ c46;clear c46
                by_cases c47 : x75_2 < (t145.length : Int)
                ·rw [if_pos c47] at H
                 have c47b0 : decide (x75_2 < (t145.length : Int)) = true:=dt_ c47;clear c47
                 by_cases c48 : x156002_2.length < 17592186044416
                 ·rw [if_pos c48] at H
                  have LMc48:=A_ c48;clear c48
                  obtain ⟨y158,hy158⟩ : ∃ y_ : List Nat,y_ = (x156002_2 ++ [(rd_T86 t145 x75_2).f2]):=⟨_,rfl⟩
                  replace H : (row_Decode.l0 k2 l0 t131 t147 t146 t145 (t145.length : Int) (wrap64 (x75_2 + 1)) ((rd_T86 t130 1).f2) (((rd_T86 t130 0).f1) == 1) y158 ((rd_T86 t130 2).f1) ((rd_T86 t130 3).f1) ((rd_T86 t130 4).f1)) = some (r1,r2,r3,r4,r5,r6,r7):=by first | (rw [hy158];with_reducible exact H) | (have H2_:=(Option.bind_some _ _).symm.trans H;rw [hy158];with_reducible exact H2_) | (have H2_:=(Option.bind_some _ _).symm.trans H;with_reducible exact H2_) | with_reducible exact H | (rw [hy158];exact H) | exact H
                  have Ny158:=A_ hy158;clear hy158;have H':=A_ H;clear H
                  have p156 : 0 ≤ (x75_2 : Int):=od_ (by first | (with_reducible assumption) | assumption)
                  have q156 : x75_2 < (t145.length : Int):=od_ (by first | (with_reducible assumption) | assumption)
                  obtain ⟨ad156,e156,hx156_0,hx156_1,hx156_2,hx156_3⟩:=at_T86 (Kd.R_reads' HO_73.out).2.2 x75_2 p156 q156
                  cases e156
                  replace p156:=eq_true p156;replace q156:=eq_true q156
                  go_wp2_with (first | ((with_reducible refine gate_dst (N:=11) rfl ?_);(try (refine gate_guard (by rfl) ?_;dsimp only));refine box_event ?hg (N:=11) ?hd (cs:=#[.int .i64 0,.int .i64 0,.float .f64 0,.string (⟨#[]⟩ : ByteArray)]) (t:=86) ?hr ?_;(case hd => rfl);(case hg => rfl);(case hr => first | (go_simp;done) | (go_simp;rfl));intro gb157 hg w49 hbox hb;have n0_:=A_ (Kd.R_below (Kd.R_elderB (by (with_reducible repeat (first | apply ra_ | apply rn_ | apply re_));exact HO_73.out) gb157 (Nat.le_of_eq hg.symm)) hb);have n1_:=A_ (Kd.R_below (by (with_reducible repeat (first | apply ra_ | apply rn_ | apply re_));exact HO_156002.out) hb);have n2_:=A_ (bx_ BK126.out (by intro h_;(with_reducible repeat (first | refine kd_ ?_ _ | refine ke_ ?_ | refine ka_ ?_ _));exact h_) hb);have n3_:=A_ (bx_ BK155.out (by intro h_;(with_reducible repeat (first | refine kd_ ?_ _ | refine ke_ ?_ | refine ka_ ?_ _));exact h_) hb);have n4_:=A_ (bp_ (by repeat (first | (with_reducible first | exact HB.out | apply ba_ | apply bd_ | apply be_ | refine bs_ ?_ GE126.out | refine bs_ ?_ GE155.out) | exact HB.out)) hb);have n5_:=A_ (hbox);have n6_:=A_ ((by rw [hg];exact (bz_ (by repeat (first | (with_reducible first | exact HB.out | apply ba_ | apply bd_ | apply be_ | refine bs_ ?_ GE126.out | refine bs_ ?_ GE155.out) | exact HB.out))) : w.heap.size ≤ gb157));have n7_:=n6_;have n8_:=A_ ((by rw [hg];exact Nat.ne_of_lt (bl_ BK126.out (by intro h_;(with_reducible repeat (first | refine kd_ ?_ _ | refine ke_ ?_ | refine ka_ ?_ _));exact h_)) : gb126 ≠ gb157));have n9_:=A_ (Ne.symm n8_.out);have n10_:=A_ ((by rw [hg];exact Nat.ne_of_lt (bl_ BK155.out (by intro h_;(with_reducible repeat (first | refine kd_ ?_ _ | refine ke_ ?_ | refine ka_ ?_ _));exact h_)) : gb155 ≠ gb157));have n11_:=A_ (Ne.symm n10_.out);clear HO_73;clear HO_156002;clear BK126;clear BK155;clear HB;have HO_73:=n0_;have HO_156002:=n1_;have BK126:=n2_;have BK155:=n3_;have HB:=n4_;have BK157:=n5_;have GW157:=n6_;have GE157:=n7_;have NB126_157:=n8_;have NB157_126:=n9_;have NB155_157:=n10_;have NB157_155:=n11_;clear n0_ n1_ n2_ n3_ n4_ n5_ n6_ n7_ n8_ n9_ n10_ n11_;clear hb hbox hg;have hnb50:=NB157_126.out;have hnc50:=NB126_157.out;have hnb51:=NB157_155.out;have hnc51:=NB155_157.out;obtain ⟨z52_0,z52_1,z52_2,z52_3⟩:=blkc_4 BK157.out;obtain ⟨y52_0,y52_1,y52_2,y52_3⟩:=blkz_4 BK157.out;have hnb53:=NB155_126.out;have hnc53:=NB126_155.out;obtain ⟨z54_0,z54_1,z54_2,z54_3,z54_4,z54_5⟩:=blkc_6 BK155.out;obtain ⟨y54_0,y54_1,y54_2,y54_3,y54_4⟩:=blkz_5 BK155.out;have y54_5:=bf_ BK155.out 5) | ((with_reducible refine gate_builtin (b:=.append) (xs:=#[.tmp 80,.tmp 83]) rfl ?_);(try (refine gate_guard (by rfl) ?_;dsimp only));at_builtin;refine Kd.R_append Kd.f64 (w0:=w) w.heap.size rfl (.tmp 80) (.tmp 83) 26 25 (.float .f64 0) 8 rfl Try.underlying26 info25 rfl (by decide) (by omega) u156002 x156002_2 ((rd_T86 t145 x75_2).f2) [.float .f64 ((rd_T86 t145 x75_2).f2)] (fun _ => True) (fun _ => False) rfl (by first | (go_simp;done) | (go_simp;rfl)) ?aP (fun _ hk => hk.elim) ?aF ?aO ?aB ?aS ?aL ?_;(case aP => exact rfl);(case aB => exact (by repeat (first | (with_reducible first | exact HB.out | apply ba_ | apply bd_ | apply be_ | refine bs_ ?_ GE126.out | refine bs_ ?_ GE155.out | refine bs_ ?_ GE157.out) | exact HB.out)));(case aF => exact (fun _ _ => trivial));(case aO => exact (by (with_reducible repeat (first | apply ra_ | apply rn_ | apply re_));exact Kd.R_mono (rf_ (p:=⟨gb157,3,none⟩) (rf_ (p:=⟨gb157,2,none⟩) (rf_ (p:=⟨gb157,1,none⟩) (rf_ (p:=⟨gb157,0,none⟩) (Kd.R_types HO_156002.out BK157.out (by decide)) (fun _ hk => hk.2) (.int .i64 ((rd_T86 t145 x75_2).f0))) (fun _ hk => hk.2) (.int .i64 ((rd_T86 t145 x75_2).f1))) (fun _ hk => hk.2) (.float .f64 ((rd_T86 t145 x75_2).f2))) (fun _ hk => hk.2) (.string ((rd_T86 t145 x75_2).f3))) (fun _ hk => trivial)));(case aS => exact (bz_ (by repeat (first | (with_reducible first | exact HB.out | apply ba_ | apply bd_ | apply be_ | refine bs_ ?_ GE126.out | refine bs_ ?_ GE155.out | refine bs_ ?_ GE157.out) | exact HB.out))));(case aL => have:=LMc48.out;omega);intro v159 w55 ho hb hg hat;rw [← Ny158.out] at ho;have n0_:=A_ (Kd.R_over' (by (with_reducible repeat (first | apply ra_ | apply rn_ | apply re_));exact (Kd.R_mono (rf_ (p:=⟨gb157,3,none⟩) (rf_ (p:=⟨gb157,2,none⟩) (rf_ (p:=⟨gb157,1,none⟩) (rf_ (p:=⟨gb157,0,none⟩) (Kd.R_mono HO_73.out (fun k_ hk => (⟨hk,hk.2⟩ : _ ∧ k_ ≠ gb157))) (fun _ hk => hk.2) (.int .i64 ((rd_T86 t145 x75_2).f0))) (fun _ hk => hk.2) (.int .i64 ((rd_T86 t145 x75_2).f1))) (fun _ hk => hk.2) (.float .f64 ((rd_T86 t145 x75_2).f2))) (fun _ hk => hk.2) (.string ((rd_T86 t145 x75_2).f3))) (fun _ h_ => h_.1))) (Kd.R_typed (by (with_reducible repeat (first | apply ra_ | apply rn_ | apply re_));exact (Kd.R_mono (rf_ (p:=⟨gb157,3,none⟩) (rf_ (p:=⟨gb157,2,none⟩) (rf_ (p:=⟨gb157,1,none⟩) (rf_ (p:=⟨gb157,0,none⟩) (Kd.R_types HO_156002.out BK157.out (by decide)) (fun _ hk => hk.2) (.int .i64 ((rd_T86 t145 x75_2).f0))) (fun _ hk => hk.2) (.int .i64 ((rd_T86 t145 x75_2).f1))) (fun _ hk => hk.2) (.float .f64 ((rd_T86 t145 x75_2).f2))) (fun _ hk => hk.2) (.string ((rd_T86 t145 x75_2).f3))) (fun _ h_ => h_.1)))) (by decide) hg);have n1_:=A_ (blk_grown (g:=gb126) (o:=.cells #[.float .f64 0,.bool false,.slice none 0 0,.int .i64 0,.int .i64 0,.int .i64 0] 30 (0,0)) (by (with_reducible repeat (first | refine kd_ ?_ _ | refine ke_ ?_ | refine ka_ ?_ _));refine blk_far ?_ NB126_157.out _;(with_reducible repeat (first | refine kd_ ?_ _ | refine ke_ ?_ | refine ka_ ?_ _));refine blk_far ?_ NB126_157.out _;(with_reducible repeat (first | refine kd_ ?_ _ | refine ke_ ?_ | refine ka_ ?_ _));refine blk_far ?_ NB126_157.out _;(with_reducible repeat (first | refine kd_ ?_ _ | refine ke_ ?_ | refine ka_ ?_ _));refine blk_far ?_ NB126_157.out _;(with_reducible repeat (first | refine kd_ ?_ _ | refine ke_ ?_ | refine ka_ ?_ _));exact BK126.out) hg (Kd.R_ne HO_156002.out BK126.out (by decide)));have n2_:=A_ (blk_grown (g:=gb155) (o:=.cells #[.float .f64 ((rd_T86 t130 1).f2),.bool (((rd_T86 t130 0).f1) == 1),u156002,.int .i64 ((rd_T86 t130 2).f1),.int .i64 ((rd_T86 t130 3).f1),.int .i64 ((rd_T86 t130 4).f1)] 30 (0,0)) (by (with_reducible repeat (first | refine kd_ ?_ _ | refine ke_ ?_ | refine ka_ ?_ _));refine blk_far ?_ NB155_157.out _;(with_reducible repeat (first | refine kd_ ?_ _ | refine ke_ ?_ | refine ka_ ?_ _));refine blk_far ?_ NB155_157.out _;(with_reducible repeat (first | refine kd_ ?_ _ | refine ke_ ?_ | refine ka_ ?_ _));refine blk_far ?_ NB155_157.out _;(with_reducible repeat (first | refine kd_ ?_ _ | refine ke_ ?_ | refine ka_ ?_ _));refine blk_far ?_ NB155_157.out _;(with_reducible repeat (first | refine kd_ ?_ _ | refine ke_ ?_ | refine ka_ ?_ _));exact BK155.out) hg (Kd.R_ne HO_156002.out BK155.out (by decide)));have n3_:=A_ (blk_grown (g:=gb157) (o:=.cells #[.int .i64 ((rd_T86 t145 x75_2).f0),.int .i64 ((rd_T86 t145 x75_2).f1),.float .f64 ((rd_T86 t145 x75_2).f2),.string ((rd_T86 t145 x75_2).f3)] 86 (0,0)) (by (with_reducible repeat (first | refine kd_ ?_ _ | refine ke_ ?_ | refine ka_ ?_ _));apply blkf_4_0_3;(with_reducible repeat (first | refine kd_ ?_ _ | refine ke_ ?_ | refine ka_ ?_ _));exact BK157.out) hg (Kd.R_ne HO_156002.out BK157.out (by decide)));have n4_:=A_ (hb);have n5_:=A_ (ho);clear HO_73;clear BK126;clear BK155;clear BK157;clear HB;clear HO_156002;have HO_73:=n0_;have BK126:=n1_;have BK155:=n2_;have BK157:=n3_;have HB:=n4_;have HO160:=n5_;clear n0_ n1_ n2_ n3_ n4_ n5_;clear ho hb hg hat;obtain ⟨Ao56,co56,eo56⟩:=Kd.R_slice HO160.out;subst eo56;obtain ⟨z57_0,z57_1,z57_2,z57_3,z57_4,z57_5⟩:=blkc_6 BK155.out;obtain ⟨y57_0,y57_1,y57_2,y57_3,y57_4⟩:=blkz_5 BK155.out;have y57_5:=bf_ BK155.out 5))
                  go_roundg k2
                  case measure => have:=HJ3.out;have:=HK2.out;omega
                  case rel => exact ⟨(wrap64 (x75_2 + 1)),(y158),(.slice Ao56 y158.length co56),(by first | rfl | (simp;done) | (simp [*];done)),H',⟨by have:=HJ3.out;have:=HK2.out;omega⟩,⟨by (with_reducible repeat (first | apply ra_ | apply rn_ | apply re_));exact Kd.R_mono (rf_ (p:=⟨gb155,2,none⟩) (Kd.R_types HO_73.out BK155.out (by decide)) (fun _ hk => hk.2) (.slice Ao56 y158.length co56)) (fun _ hk => trivial)⟩,⟨by (with_reducible repeat (first | apply ra_ | apply rn_ | apply re_));exact Kd.R_mono (rf_ (p:=⟨gb155,2,none⟩) (Kd.R_types HO160.out BK155.out (by decide)) (fun _ hk => hk.2) (.slice Ao56 y158.length co56)) (fun _ hk => trivial)⟩,⟨by (with_reducible repeat (first | refine kd_ ?_ _ | refine ke_ ?_ | refine ka_ ?_ _));refine blk_far ?_ NB126_155.out _;(with_reducible repeat (first | refine kd_ ?_ _ | refine ke_ ?_ | refine ka_ ?_ _));exact BK126.out⟩,⟨by (with_reducible repeat (first | refine kd_ ?_ _ | refine ke_ ?_ | refine ka_ ?_ _));refine blk_put (cs:=#[.float .f64 ((rd_T86 t130 1).f2),.bool (((rd_T86 t130 0).f1) == 1),u156002,.int .i64 ((rd_T86 t130 2).f1),.int .i64 ((rd_T86 t130 3).f1),.int .i64 ((rd_T86 t130 4).f1)]) ?_ 2 _ rfl;(with_reducible repeat (first | refine kd_ ?_ _ | refine ke_ ?_ | refine ka_ ?_ _));exact BK155.out⟩,⟨by repeat (first | (with_reducible first | exact HB.out | apply ba_ | apply bd_ | apply be_ | refine bs_ ?_ GE126.out | refine bs_ ?_ GE155.out | refine bs_ ?_ GE157.out) | exact HB.out)⟩⟩
                 ·rw [if_neg c48] at H
                  exact absurd H (by simp)
                ·rw [if_neg c47] at H
                 exact absurd H (by simp)
               ·rw [if_neg c46] at H
                exact absurd H (by simp)
              ·rw [if_neg c45] at H
               have c45b0 : decide (x75_2 < (t145.length : Int)) = false:=df_ c45;clear c45
               by_cases c58 : t147 = 0
               ·rw [if_pos c58] at H
                have c58b0 : (t147 == 0) = true:=beq_iff_eq.mpr c58;have c58b1 : (t147 != 0) = false:=bne_eq_false_iff_eq.mpr c58;clear c58
                by_cases c59 : (wrap64 (t131 + t146)) = (l0.length : Int)
                ·rw [if_pos c59] at H
                 have c59b0 : ((wrap64 (t131 + t146)) == (l0.length : Int)) = true:=beq_iff_eq.mpr c59;have c59b1 : ((wrap64 (t131 + t146)) != (l0.length : Int)) = false:=bne_eq_false_iff_eq.mpr c59;clear c59;replace H:=Option.bind_eq_some_iff.mp H;obtain ⟨t161,A600,H⟩:=H
                 replace H : (if t161 = 0 then (some (((rd_T86 t130 1).f2),(((rd_T86 t130 0).f1) == 1),x156002_2,((rd_T86 t130 2).f1),((rd_T86 t130 3).f1),((rd_T86 t130 4).f1),0)) else (some (0,false,([] : List Nat),0,0,0,4))) = some (r1,r2,r3,r4,r5,r6,r7):=H
                 have A60:=A_ A600;clear A600
                 by_cases c61 : t161 = 0
                 ·rw [if_pos c61] at H
                  have c61b0 : (t161 == 0) = true:=beq_iff_eq.mpr c61;have c61b1 : (t161 != 0) = false:=bne_eq_false_iff_eq.mpr c61;clear c61
                  simp only [Option.some.injEq,Prod.mk.injEq] at H
                  obtain ⟨rfl,rfl,rfl,rfl,rfl,rfl,rfl⟩:=H;have hnb62:=NB155_126.out;have hnc62:=NB126_155.out;obtain ⟨z63_0,z63_1,z63_2,z63_3,z63_4,z63_5⟩:=blkc_6 BK155.out;obtain ⟨y63_0,y63_1,y63_2,y63_3,y63_4,y63_5⟩:=blkz_6 BK155.out;obtain ⟨Ao64,co64,eo64⟩:=Kd.R_slice HO_156002.out;subst eo64
                  go_wp2_with (first | (go_at_call 33;(with_reducible refine (row_Check.calls k2 ((rd_T86 t130 1).f2) (((rd_T86 t130 0).f1) == 1) _ _ x156002_2 ((rd_T86 t130 2).f1) ((rd_T86 t130 3).f1) ((rd_T86 t130 4).f1) t161 _ ?side1 ?side2 A60.out).mono ?_);(case side1 => repeat (first | exact (Kd.R_reads' HO_156002.out).2.2 | (with_reducible refine Kd.C_alloc ?_ _) | (with_reducible refine Kd.C_drewN ?_ _) | (with_reducible refine Kd.C_drew ?_)));(case side2 => exact (Kd.R_reads' HO_156002.out).2.1);rintro e w65 ⟨rfl,hb⟩;have n0_:=A_ (Kd.R_below (by (with_reducible repeat (first | apply ra_ | apply rn_ | apply re_));exact HO_73.out) hb);have n1_:=A_ (Kd.R_below (by (with_reducible repeat (first | apply ra_ | apply rn_ | apply re_));exact HO_156002.out) hb);have n2_:=A_ (bx_ BK126.out (by intro h_;(with_reducible repeat (first | refine kd_ ?_ _ | refine ke_ ?_ | refine ka_ ?_ _));exact h_) hb);have n3_:=A_ (bx_ BK155.out (by intro h_;(with_reducible repeat (first | refine kd_ ?_ _ | refine ke_ ?_ | refine ka_ ?_ _));exact h_) hb);have n4_:=A_ (bp_ (by repeat (first | (with_reducible first | exact HB.out | apply ba_ | apply bd_ | apply be_ | refine bs_ ?_ GE126.out | refine bs_ ?_ GE155.out) | exact HB.out)) hb);clear HO_73;clear HO_156002;clear BK126;clear BK155;clear HB;have HO_73:=n0_;have HO_156002:=n1_;have BK126:=n2_;have BK155:=n3_;have HB:=n4_;clear n0_ n1_ n2_ n3_ n4_;(try clear hb);(try clear hb2);(try clear hk);(try clear hi);obtain ⟨z66_0,z66_1,z66_2,z66_3,z66_4,z66_5⟩:=blkc_6 BK155.out;obtain ⟨y66_0,y66_1,y66_2,y66_3,y66_4,y66_5⟩:=blkz_6 BK155.out;obtain ⟨z67_0,z67_1,z67_2,z67_3,z67_4,z67_5⟩:=blkc_6 BK126.out;obtain ⟨y67_0,y67_1,y67_2,y67_3,y67_4⟩:=blkz_5 BK126.out;have y67_5:=bf_ BK126.out 5))
                  refine bodyPost_ret (results_ct rfl _ _ gb126 30 #[.float .f64 ((rd_T86 t130 1).f2),.bool (((rd_T86 t130 0).f1) == 1),.slice Ao64 x156002_2.length co64,.int .i64 ((rd_T86 t130 2).f1),.int .i64 ((rd_T86 t130 3).f1),.int .i64 ((rd_T86 t130 4).f1)] (0,0) _ rfl (by (with_reducible repeat (first | refine kd_ ?_ _ | refine ke_ ?_ | refine ka_ ?_ _));apply blkf_6_0_5;(with_reducible repeat (first | refine kd_ ?_ _ | refine ke_ ?_ | refine ka_ ?_ _));exact BK126.out) Try.underlying30 rfl (by kernel_rfl)) rfl ?_
                  exact ⟨_,by first | rfl | (simp [errW_none,errW_some] <;> rfl) | (simp [*,errW_none,errW_some] <;> rfl),by (with_reducible repeat (first | apply ra_ | apply rn_ | apply re_));exact Kd.R_mono (rf_ (p:=⟨gb126,5,none⟩) (rf_ (p:=⟨gb126,4,none⟩) (rf_ (p:=⟨gb126,3,none⟩) (rf_ (p:=⟨gb126,2,none⟩) (rf_ (p:=⟨gb126,1,none⟩) (rf_ (p:=⟨gb126,0,none⟩) (Kd.R_types HO_156002.out BK126.out (by decide)) (fun _ hk => hk.2) (.float .f64 ((rd_T86 t130 1).f2))) (fun _ hk => hk.2) (.bool (((rd_T86 t130 0).f1) == 1))) (fun _ hk => hk.2) (.slice Ao64 x156002_2.length co64)) (fun _ hk => hk.2) (.int .i64 ((rd_T86 t130 2).f1))) (fun _ hk => hk.2) (.int .i64 ((rd_T86 t130 3).f1))) (fun _ hk => hk.2) (.int .i64 ((rd_T86 t130 4).f1))) (fun _ hk => trivial),by repeat (first | (with_reducible first | exact HB.out | apply ba_ | apply bd_ | apply be_ | refine bs_ ?_ GE126.out | refine bs_ ?_ GE155.out) | exact HB.out)⟩
                 ·rw [if_neg c61] at H
                  have c61b0 : (t161 == 0) = false:=beq_eq_false_iff_ne.mpr c61;have c61b1 : (t161 != 0) = true:=bne_iff_ne.mpr c61
                  simp only [Option.some.injEq,Prod.mk.injEq] at H
                  obtain ⟨rfl,rfl,rfl,rfl,rfl,rfl,rfl⟩:=H;have hnb68:=NB155_126.out;have hnc68:=NB126_155.out;obtain ⟨z69_0,z69_1,z69_2,z69_3,z69_4,z69_5⟩:=blkc_6 BK155.out;obtain ⟨y69_0,y69_1,y69_2,y69_3,y69_4,y69_5⟩:=blkz_6 BK155.out;obtain ⟨Ao70,co70,eo70⟩:=Kd.R_slice HO_156002.out;subst eo70
                  go_wp2_with (first | (go_at_call 33;(with_reducible refine (row_Check.calls k2 ((rd_T86 t130 1).f2) (((rd_T86 t130 0).f1) == 1) _ _ x156002_2 ((rd_T86 t130 2).f1) ((rd_T86 t130 3).f1) ((rd_T86 t130 4).f1) t161 _ ?side1 ?side2 A60.out).mono ?_);(case side1 => repeat (first | exact (Kd.R_reads' HO_156002.out).2.2 | (with_reducible refine Kd.C_alloc ?_ _) | (with_reducible refine Kd.C_drewN ?_ _) | (with_reducible refine Kd.C_drew ?_)));(case side2 => exact (Kd.R_reads' HO_156002.out).2.1);rintro e w71 ⟨rfl,hb⟩;have n0_:=A_ (Kd.R_below (by (with_reducible repeat (first | apply ra_ | apply rn_ | apply re_));exact HO_73.out) hb);have n1_:=A_ (Kd.R_below (by (with_reducible repeat (first | apply ra_ | apply rn_ | apply re_));exact HO_156002.out) hb);have n2_:=A_ (bx_ BK126.out (by intro h_;(with_reducible repeat (first | refine kd_ ?_ _ | refine ke_ ?_ | refine ka_ ?_ _));exact h_) hb);have n3_:=A_ (bx_ BK155.out (by intro h_;(with_reducible repeat (first | refine kd_ ?_ _ | refine ke_ ?_ | refine ka_ ?_ _));exact h_) hb);have n4_:=A_ (bp_ (by repeat (first | (with_reducible first | exact HB.out | apply ba_ | apply bd_ | apply be_ | refine bs_ ?_ GE126.out | refine bs_ ?_ GE155.out) | exact HB.out)) hb);clear HO_73;clear HO_156002;clear BK126;clear BK155;clear HB;have HO_73:=n0_;have HO_156002:=n1_;have BK126:=n2_;have BK155:=n3_;have HB:=n4_;clear n0_ n1_ n2_ n3_ n4_;(try clear hb);(try clear hb2);(try clear hk);(try clear hi);obtain ⟨z72_0,z72_1,z72_2,z72_3,z72_4,z72_5⟩:=blkc_6 BK126.out;obtain ⟨y72_0,y72_1,y72_2,y72_3,y72_4⟩:=blkz_5 BK126.out;have y72_5:=bf_ BK126.out 5))
                  refine bodyPost_ret (results_ct rfl _ _ gb126 30 #[.float .f64 0,.bool false,.slice none 0 0,.int .i64 0,.int .i64 0,.int .i64 0] (0,0) _ rfl (by (with_reducible repeat (first | refine kd_ ?_ _ | refine ke_ ?_ | refine ka_ ?_ _));apply blkf_6_0_5;(with_reducible repeat (first | refine kd_ ?_ _ | refine ke_ ?_ | refine ka_ ?_ _));exact BK126.out) Try.underlying30 rfl (by kernel_rfl)) rfl ?_
                  exact ⟨_,by first | rfl | (simp [errW_none,errW_some] <;> rfl) | (simp [*,errW_none,errW_some] <;> rfl),by first | exact Kd.R_nil _ _ _ _ _ | exact Kd.N_nil _ _ _ _ _ | exact Kd.V_nil _ _ _ _ _ | exact Kd.Q_nil _ _ _ _ _ | exact Kd.S_nil _ _ _ _ _,by repeat (first | (with_reducible first | exact HB.out | apply ba_ | apply bd_ | apply be_ | refine bs_ ?_ GE126.out | refine bs_ ?_ GE155.out) | exact HB.out)⟩
                ·rw [if_neg c59] at H
                 have c59b0 : ((wrap64 (t131 + t146)) == (l0.length : Int)) = false:=beq_eq_false_iff_ne.mpr c59;have c59b1 : ((wrap64 (t131 + t146)) != (l0.length : Int)) = true:=bne_iff_ne.mpr c59
                 simp only [Option.some.injEq,Prod.mk.injEq] at H
                 obtain ⟨rfl,rfl,rfl,rfl,rfl,rfl,rfl⟩:=H;have hnb73:=NB126_155.out;have hnc73:=NB155_126.out;obtain ⟨z74_0,z74_1,z74_2,z74_3,z74_4,z74_5⟩:=blkc_6 BK126.out;obtain ⟨y74_0,y74_1,y74_2,y74_3,y74_4,y74_5⟩:=blkz_6 BK126.out;go_wp2
                 refine bodyPost_ret (results_ct rfl _ _ gb126 30 #[.float .f64 0,.bool false,.slice none 0 0,.int .i64 0,.int .i64 0,.int .i64 0] (0,0) _ rfl (by (with_reducible repeat (first | refine kd_ ?_ _ | refine ke_ ?_ | refine ka_ ?_ _));apply blkf_6_0_5;(with_reducible repeat (first | refine kd_ ?_ _ | refine ke_ ?_ | refine ka_ ?_ _));exact BK126.out) Try.underlying30 rfl (by kernel_rfl)) rfl ?_
                 exact ⟨_,by first | rfl | (simp [errW_none,errW_some] <;> rfl) | (simp [*,errW_none,errW_some] <;> rfl),by first | exact Kd.R_nil _ _ _ _ _ | exact Kd.N_nil _ _ _ _ _ | exact Kd.V_nil _ _ _ _ _ | exact Kd.Q_nil _ _ _ _ _ | exact Kd.S_nil _ _ _ _ _,by repeat (first | (with_reducible first | exact HB.out | apply ba_ | apply bd_ | apply be_ | refine bs_ ?_ GE126.out | refine bs_ ?_ GE155.out) | exact HB.out)⟩
               ·rw [if_neg c58] at H
                have c58b0 : (t147 == 0) = false:=beq_eq_false_iff_ne.mpr c58;have c58b1 : (t147 != 0) = true:=bne_iff_ne.mpr c58
                simp only [Option.some.injEq,Prod.mk.injEq] at H
                obtain ⟨rfl,rfl,rfl,rfl,rfl,rfl,rfl⟩:=H;have hnb75:=NB126_155.out;have hnc75:=NB155_126.out;obtain ⟨z76_0,z76_1,z76_2,z76_3,z76_4,z76_5⟩:=blkc_6 BK126.out;obtain ⟨y76_0,y76_1,y76_2,y76_3,y76_4,y76_5⟩:=blkz_6 BK126.out;go_wp2
                refine bodyPost_ret (results_ct rfl _ _ gb126 30 #[.float .f64 0,.bool false,.slice none 0 0,.int .i64 0,.int .i64 0,.int .i64 0] (0,0) _ rfl (by (with_reducible repeat (first | refine kd_ ?_ _ | refine ke_ ?_ | refine ka_ ?_ _));apply blkf_6_0_5;(with_reducible repeat (first | refine kd_ ?_ _ | refine ke_ ?_ | refine ka_ ?_ _));exact BK126.out) Try.underlying30 rfl (by kernel_rfl)) rfl ?_
                exact ⟨_,by first | rfl | (simp [errW_none,errW_some] <;> rfl) | (simp [*,errW_none,errW_some] <;> rfl),by first | exact Kd.R_nil _ _ _ _ _ | exact Kd.N_nil _ _ _ _ _ | exact Kd.V_nil _ _ _ _ _ | exact Kd.Q_nil _ _ _ _ _ | exact Kd.S_nil _ _ _ _ _,by repeat (first | (with_reducible first | exact HB.out | apply ba_ | apply bd_ | apply be_ | refine bs_ ?_ GE126.out | refine bs_ ?_ GE155.out) | exact HB.out)⟩
           ·rw [if_neg c26] at H
            exact absurd H (by simp)
          ·rw [if_neg c25] at H
           exact absurd H (by simp)
         ·rw [if_neg c24] at H
          exact absurd H (by simp)
        ·rw [if_neg c23] at H
         exact absurd H (by simp)
       ·rw [if_neg c22] at H
        exact absurd H (by simp)
      ·rw [if_neg c19] at H
       exact absurd H (by simp)
     ·rw [if_neg c18] at H
      exact absurd H (by simp)
    ·rw [if_neg c17] at H
     exact absurd H (by simp)
end Go.Proofs.Ytdcllbhkjcdnoaa.P
