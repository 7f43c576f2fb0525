/- The walks of package tally and of its reference. -/
import Derived.Test.YtacpmijbmllelaaChecked
import Derived.Test.YtacpmijbmllelaaCrc
import Derived.Test.YtacpmijbmllelaaMem
import Derived.WalkKit
import Derived.WalkLawsBesides
import Derived.Deep.LoopGhost
import Derived.Deep.QuietTactic
import Derived.BigQuiet
import Derived.Outline
import Derived.Lib.SlBytesConst
import Derived.Lib.Hide
namespace Go.Proofs.Ytacpmijbmllelaa.Tal
open Go.RowKit Go.Proofs.Ytacpmijbmllelaa.Mem Go.Proofs.YtacpmijbmllelaaW.PrintWords Go.Proofs.YtacpmijbmllelaaW.PrintLast Go.Proofs.YtacpmijbmllelaaW.PrintMore
/-- the register at first -/
def ones : BitVec 32 := BitVec.allOnes 32
theorem crc_snoc (r : BitVec 32) (l : List Int) (i : Nat) (hi : i < l.length) (hb : Bytes l) : Crc.crc r (l.take (i + 1)) = Crc.sn 8 (Crc.crc r (l.take i) ^^^ BitVec.ofNat 32 ((rd l i).toNat * 16777216)) := by
  have h := hb.at_ i hi
  rw [take_snoc l i hi, Crc.crc_append, Crc.crc_cons, Crc.crc_nil, Crc.run_b8 _ _ h.1 h.2]
/-- the byte, laid at the register's top -/
theorem top8 (r : BitVec 32) (x : Int) (h0 : 0 ≤ x) (h1 : x ≤ 255) : Go.bits .xor .u32 (r.toNat : Int) (x * 16777216) = ((r ^^^ BitVec.ofNat 32 (x.toNat * 16777216)).toNat : Int) := by
  have e : x * 16777216 = ((BitVec.ofNat 32 (x.toNat * 16777216)).toNat : Int) := by
    rw [BitVec.toNat_ofNat]; omega
  rw [e, Crc.xor32]

set_option maxRecDepth 100000 in
theorem More_any (r : BitVec 32) (A : Option Addr) (c : Nat) (l : List Int) (w : World) (hr : Kd.C (Kd.int .u8) w A l.length l) (hb : Bytes l) (hl : l.length ≤ 9223372036854775807) :
    Calls Try.prog 18 #[.int .u32 (r.toNat : Int), .slice A l.length c] w fun e w' => e = .returned (.int .u32 ((Crc.crc r l).toNat : Int)) ∧ ∃ n, w' = w.drewN n := by
  have HR := Lib.hid hr
  have HB := Lib.hid hb
  clear hr hb
  go_enter Try.func18, Try.ntmps18
  go_wp2
  go_loopg [0, 10] l.length (fun k v0 v10 wr => ∃ i : Nat, i ≤ l.length ∧ k = l.length - i ∧ v0 = .int .u32 ((Crc.crc r (l.take i)).toNat : Int) ∧ v10 = .int .i64 (i : Int) ∧ ∃ n, wr = w.drewN n)
  case atStart => exact ⟨0, Nat.zero_le _, by omega, rfl, rfl, 0, rfl⟩
  case round =>
    obtain ⟨i, hi, rfl, rfl, rfl, n, rfl⟩ := hrel
    by_cases hlt : i < l.length
    · have hd : decide (i < l.length) = true := decide_eq_true hlt
      obtain ⟨ad, rfl, hx⟩ := Kd.at_int HR.out (i : Int) (by omega) (by omega)
      rw [Int.toNat_natCast] at hx
      have hbb := HB.out.at_ i hlt
      have ht := top8 (Crc.crc r (l.take i)) (rd l i) hbb.1 hbb.2
      have hs := Lib.hid (crc_snoc r l i hlt HB.out)
      generalize Crc.crc r (l.take i) ^^^ BitVec.ofNat 32 ((rd l i).toNat * 16777216) = q at *
      go_wp2
      go_loopg [0, 19] 8 (fun k v0 v19 wr => ∃ j : Nat, j ≤ 8 ∧ k = 8 - j ∧ v0 = .int .u32 ((Crc.sn j q).toNat : Int) ∧ v19 = .int .i64 (j : Int) ∧ wr = w.drewN n)
      case atStart => exact ⟨0, by omega, rfl, rfl, rfl, rfl⟩
      case round =>
        clear hx hbb ht hd
        obtain ⟨j, hj, rfl, rfl, rfl, rfl⟩ := hrel
        by_cases hlj : j < 8
        · have hd : decide ((j : Int) < 8) = true := decide_eq_true (by omega)
          have hq : Hid (Crc.sn (j + 1) q = Crc.s (Crc.sn j q)) := Lib.hid (by rw [Crc.sn_add]; rfl)
          generalize Crc.sn j q = t at *
          by_cases ht : (t.toNat : Int) / 2147483648 = 1
          · have hb : ((t.toNat : Int) / 2147483648 == 1) = true := by rw [beq_iff_eq]; exact ht
            have hx := Lib.hid (Crc.step_hi t ht)
            clear ht
            go_wp2
            go_roundg (8 - (j + 1))
            case measure => omega
            case rel => exact ⟨j + 1, by omega, rfl, by rw [hq.out]; exact congrArg _ hx.out, by go_num, rfl⟩
          · have hb : ((t.toNat : Int) / 2147483648 == 1) = false := by rw [beq_eq_false_iff_ne]; exact ht
            have hx := Lib.hid (Crc.step_lo t ht)
            clear ht
            go_wp2
            go_roundg (8 - (j + 1))
            case measure => omega
            case rel => exact ⟨j + 1, by omega, rfl, by rw [hq.out]; exact congrArg _ hx.out, by go_num, rfl⟩
        · have hd : decide ((j : Int) < 8) = false := decide_eq_false (by omega)
          obtain rfl : j = 8 := by omega
          go_wp2
          go_roundg (l.length - (i + 1))
          case measure => omega
          case rel => exact ⟨i + 1, by omega, rfl, by rw [hs.out], by go_num, n, rfl⟩
    · have hd : decide (i < l.length) = false := decide_eq_false hlt
      have ht : Hid (l.take i = l) := Lib.hid (List.take_of_length_le (by omega))
      go_wp2
      go_ret
      exact ⟨ret_int (by rw [ht.out]), n, rfl⟩

/-- bytes' sum -/
def sum (l : List Int) : BitVec 32 := Crc.crc ones l
theorem Sum_any (A : Option Addr) (c : Nat) (l : List Int) (w : World) (hr : Kd.C (Kd.int .u8) w A l.length l) (hb : Bytes l) (hl : l.length ≤ 9223372036854775807) :
    Calls Try.prog 14 #[.slice A l.length c] w fun e w' => e = .returned (.int .u32 ((sum l).toNat : Int)) ∧ ∃ n, w' = w.drewN n := by
  have H := Lib.hid (More_any ones A c l w hr hb hl)
  clear hr hb hl
  go_enter Try.func14, Try.ntmps14
  go_wp2_with (go_at_call 18; refine H.out.mono ?_; rintro e w' ⟨rfl, n, rfl⟩)
  go_ret
  exact ⟨rfl, _, rfl⟩

/-- a number's four bytes, the highest first -/
def four (v : BitVec 32) : List Int := [(v.toNat : Int) / 16777216 % 256, (v.toNat : Int) / 65536 % 256, (v.toNat : Int) / 256 % 256, (v.toNat : Int) % 256]
def sealed (l : List Int) : List Int := four (sum l) ++ l
theorem reps4 (w : World) (b : Nat) (ok : Nat → Prop) (x y z u : Int) : Reps (Kd.M (Kd.int .u8) w b ok) (Kd.int .u8).sz [x, y, z, u] [.int .u8 x, .int .u8 y, .int .u8 z, .int .u8 u] :=
  Reps.one (show Kd.M (Kd.int .u8) _ _ _ x [.int .u8 x] from rfl) (Reps.one (show Kd.M (Kd.int .u8) _ _ _ y [.int .u8 y] from rfl) (Reps.one (show Kd.M (Kd.int .u8) _ _ _ z [.int .u8 z] from rfl) (Reps.one (show Kd.M (Kd.int .u8) _ _ _ u [.int .u8 u] from rfl) (Reps.none _ _))))
theorem Seal_any (A : Option Addr) (c : Nat) (l : List Int) (w : World) (hr : Kd.C (Kd.int .u8) w A l.length l) (hb : Bytes l) (hl : l.length + 4 ≤ 140737488355328) :
    Calls Try.prog 15 #[.slice A l.length c] w fun e w' => ∃ v, e = .returned v ∧ Kd.R (Kd.int .u8) 5 w' w.heap.size (fun _ => True) v (sealed l) ∧ Below w.heap.size w w' := by
  have HR := Lib.hid hr
  have H := Lib.hid (Sum_any A c l w hr hb (by omega))
  have HB := Lib.hid (Below.refl w.heap.size w)
  have hs : Hid (sealed l = four (sum l) ++ l) := Lib.hid rfl
  have hf : Hid (four (sum l) = [((sum l).toNat : Int) / 16777216 % 256, ((sum l).toNat : Int) / 65536 % 256, ((sum l).toNat : Int) / 256 % 256, ((sum l).toNat : Int) % 256]) := Lib.hid rfl
  have hlen : Hid ((four (sum l)).length = 4) := Lib.hid rfl
  clear hr hb
  generalize sealed l = q at *
  generalize four (sum l) = f4 at *
  generalize ((sum l).toNat : Int) = t at *
  go_enter Try.func15, Try.ntmps15
  go_wp2_with (first | (go_at_call 14; refine H.out.mono ?_; rintro e w' ⟨rfl, n, rfl⟩) | ((with_reducible refine gate_dst (N := 17) rfl ?_); refine Kd.R_lit (Kd.int .u8) _ 5 ?hg (N := 17) ?hd (xs := [t / 16777216 % 256, t / 65536 % 256, t / 256 % 256, t % 256]) (inner := [.int .u8 (t / 16777216 % 256), .int .u8 (t / 65536 % 256), .int .u8 (t / 256 % 256), .int .u8 (t % 256)]) (ok := fun _ => True) (okp := fun _ => True) ?hr ?hp (fun _ hk => hk) trivial (Below.refl _ _) (Nat.le_refl _) (by simp) ?_; (case hd => rfl); (case hg => rfl); (case hr => first | (go_simp; done) | (go_simp; rfl)); (case hp => exact reps4 _ _ _ _ _ _ _); intro v1 w1 ho hb hg_ hnew_; clear hg_ hnew_; rw [← hf.out] at ho; have HO := Lib.hid (Kd.R_lower ho (Nat.le_refl w.heap.size)); have HB1 := Lib.hid (below_step (pw_below_drewN HB.out n) hb); clear ho hb) | ((with_reducible refine gate_builtin (b := .append) (xs := #[.tmp 17, .tmp 18]) rfl ?_); at_builtin; refine Kd.R_append_rows (Kd.int .u8) (w0 := w) w.heap.size rfl (.tmp 17) (.tmp 18) 22 5 (.int .u8 0) 1 rfl Try.underlying22 info8 rfl (by decide) (by omega) v1 f4 l _ _ _ (fun _ => True) (fun _ => False) rfl rfl HO.out (Kd.C_below HR.out HB1.out) (fun _ _ h => h) (fun _ h => h.elim) (fun _ _ => trivial) HB1.out (below_size HB1.out) ?aL ?_; (case aL => have := hlen.out; omega); intro v2 w2 ho hb hg hat; clear hg hat; rw [← hs.out] at ho; have HO2 := Lib.hid ho; have HB2 := Lib.hid hb; clear ho hb))
  go_ret
  exact ⟨_, rfl, HO2.out, HB2.out⟩

theorem four_bytes (v : BitVec 32) : Bytes (four v) := by
  intro x hx
  unfold four at hx
  simp only [List.mem_cons, List.not_mem_nil, or_false] at hx
  rcases hx with rfl | rfl | rfl | rfl <;> omega
theorem sealed_bytes {l : List Int} (h : Bytes l) : Bytes (sealed l) := (four_bytes _).append h
theorem sealed_length (l : List Int) : (sealed l).length = l.length + 4 := by unfold sealed four; simp
theorem sealed_take (l : List Int) : (sealed l).take 4 = four (sum l) := rfl
theorem sealed_drop (l : List Int) : (sealed l).drop 4 = l := rfl
/-- what Open tells -/
def openE (l : List Int) : Int := if l.length < 4 then 4 else if four (sum (l.drop 4)) = l.take 4 then 0 else 5
def openL (l : List Int) : List Int := if openE l = 0 then l.drop 4 else []
theorem Open_any (A : Option Addr) (c : Nat) (l : List Int) (w : World) (hr : RdB w A l) (hc : l.length ≤ c) (hb : Bytes l) (hl : l.length ≤ 140737488355328) :
    Calls Try.prog 16 #[.slice A l.length c] w fun e w' => ∃ v, e = .returned (.tuple #[v, .int .i64 (openE l)]) ∧ GotB w' v (openL l) ∧ Below w.heap.size w w' := by
  have HB := Lib.hid (Below.refl w.heap.size w)
  by_cases h4 : l.length < 4
  · have e1 : openE l = 4 := by unfold openE; rw [if_pos h4]
    have e2 : openL l = [] := by unfold openL; rw [e1, if_neg (by decide)]
    rw [e1, e2]
    have hd : decide ((l.length : Int) < 4) = true := decide_eq_true (by omega)
    clear hr hb e1 e2
    go_enter Try.func16, Try.ntmps16
    go_wp2
    go_ret2
    exact ⟨_, rfl, GotB.nil _, HB.out⟩
  · obtain ⟨A', hcut, hrd, hcc⟩ := cut_lo A c l 4 (by omega) hc
    have hcut' : ∀ W : World, (Instr.slice 22 (.slice A l.length c) (some (.int .i64 4)) none none).run Try.prog W = .ok (.slice A' (l.drop 4).length (c - 4)) W := hcut
    obtain ⟨hcu2, hrd2, hcc2⟩ := cut_hi A c l 4 (by omega) hc
    have hcu2' : ∀ W : World, (Instr.slice 22 (.slice A l.length c) none (some (.int .i64 4)) none).run Try.prog W = .ok (.slice A (l.take 4).length c) W := hcu2
    have hd : decide ((l.length : Int) < 4) = false := decide_eq_false (by omega)
    have HL := Lib.hid (sealed_length (l.drop 4))
    have S := Lib.hid (Seal_any A' (c - 4) (l.drop 4) w (hrd w hr) (hb.drop 4) (by rw [List.length_drop]; omega))
    have HR2 := Lib.hid (hrd2 w hr)
    have hE : openE l = if four (sum (l.drop 4)) = l.take 4 then 0 else 5 := by unfold openE; rw [if_neg h4]
    have hL : openL l = if openE l = 0 then l.drop 4 else [] := rfl
    have hq := str_eq (four_bytes (sum (l.drop 4))) (hb.take 4)
    have HT := Lib.hid (sealed_take (l.drop 4))
    have HD := Lib.hid (sealed_drop (l.drop 4))
    clear hcut hcu2 hr hb hrd hrd2 h4
    generalize l.drop 4 = d at *
    generalize l.take 4 = t4 at *
    generalize sealed d = sd at *
    generalize four (sum d) = f4 at *
    have key : ∀ (As : Option Addr) (cs : Nat) (w1 : World), sd.length ≤ cs → RdB w1 As sd → Below w.heap.size w w1 → ∃ A2, (∀ W : World, (Instr.slice 22 (.slice As sd.length cs) (some (.int .i64 4)) none none).run Try.prog W = .ok (.slice A2 d.length (cs - 4)) W) ∧
        (∀ W : World, (Instr.slice 22 (.slice As sd.length cs) none (some (.int .i64 4)) none).run Try.prog W = .ok (.slice As f4.length cs) W) ∧ Hid (d.length ≤ cs - 4 ∧ RdB w1 A2 d) ∧
        (∀ n, (convert 22 9 (.slice As f4.length cs)).run Try.prog (w1.drewN n) = .ok (.string (strOfNums f4)) (w1.drewN n)) ∧ (∀ n, (convert 22 9 (.slice A t4.length c)).run Try.prog (w1.drewN n) = .ok (.string (strOfNums t4)) (w1.drewN n)) := by
      intro As cs w1 hcs hrs hB
      have K1 := cut_hi As cs sd 4 (by rw [HL.out]; omega) hcs
      obtain ⟨A2, k1, k2, k3⟩ := cut_lo As cs sd 4 (by rw [HL.out]; omega) hcs
      rw [HT.out] at K1
      rw [HD.out] at k1 k2 k3
      exact ⟨A2, k1, K1.1, Lib.hid ⟨k3, k2 w1 hrs⟩, fun n => conv_str cs (Kd.C_drewN (K1.2.1 w1 hrs) n), fun n => conv_str c (Kd.C_drewN (Kd.C_below HR2.out hB) n)⟩
    have KEY := Lib.hid key
    clear key HR2 HL HT HD
    by_cases he : f4 = t4
    · rw [if_pos he] at hE
      rw [hE, if_pos rfl] at hL
      rw [hE, hL]
      have hq1 : ((strOfNums f4).toList == (strOfNums t4).toList) = true := by rw [hq]; exact decide_eq_true he
      have hq2 : ((strOfNums f4).toList != (strOfNums t4).toList) = false := by unfold bne; rw [hq1]; rfl
      clear hE hL hq he
      go_enter Try.func16, Try.ntmps16
      go_wp2_with (go_at_call 15; refine S.out.mono ?_; rintro e w1 ⟨v, rfl, hR, hB⟩; obtain ⟨As, cs, rfl, hcs, hrs⟩ := GotB.of_R hR; have HB1 := Lib.hid hB; obtain ⟨A2, k1, k2, k3, k4, k5⟩ := KEY.out As cs w1 hcs hrs hB; clear KEY hR hB hrs)
      go_quiet (fail)
      go_wp2
      go_ret2
      exact ⟨_, rfl, ⟨A2, _, rfl, k3.out.1, Kd.C_drewN k3.out.2 _⟩, pw_below_drewN HB1.out _⟩
    · rw [if_neg he] at hE
      rw [hE, if_neg (by decide)] at hL
      rw [hE, hL]
      have hq1 : ((strOfNums f4).toList == (strOfNums t4).toList) = false := by rw [hq]; exact decide_eq_false he
      have hq2 : ((strOfNums f4).toList != (strOfNums t4).toList) = true := by unfold bne; rw [hq1]; rfl
      clear hE hL hq he
      go_enter Try.func16, Try.ntmps16
      go_wp2_with (go_at_call 15; refine S.out.mono ?_; rintro e w1 ⟨v, rfl, hR, hB⟩; obtain ⟨As, cs, rfl, hcs, hrs⟩ := GotB.of_R hR; have HB1 := Lib.hid hB; obtain ⟨A2, k1, k2, k3, k4, k5⟩ := KEY.out As cs w1 hcs hrs hB; clear KEY hR hB hrs)
      go_quiet (fail)
      go_wp2
      go_ret2
      exact ⟨_, rfl, GotB.nil _, pw_below_drewN HB1.out _⟩

/-! ### the reference -/
set_option maxRecDepth 100000 in
theorem rSum_any (A : Option Addr) (c : Nat) (l : List Int) (w : World) (hr : RdB w A l) (hb : Bytes l) (hl : l.length ≤ 140737488355328) :
    Calls Try.prog 17 #[.slice A l.length c] w fun e w' => e = .returned (.int .u32 ((sum l).toNat : Int)) ∧ ∃ n, w' = w.drewN n := by
  have HR := Lib.hid hr
  have HB := Lib.hid hb
  clear hr hb
  go_enter Try.func17, Try.ntmps17
  go_wp2
  go_loopg [3, 4] (8 * l.length) (fun k v3 v4 wr => ∃ i : Nat, i ≤ 8 * l.length ∧ k = 8 * l.length - i ∧ v3 = .int .u64 ((Crc.run ones ((Crc.tb l).take i)).toNat : Int) ∧ v4 = .int .i64 (i : Int) ∧ ∃ n, wr = w.drewN n)
  case atStart => exact ⟨0, Nat.zero_le _, by omega, rfl, rfl, 0, rfl⟩
  case round =>
    obtain ⟨i, hi, rfl, rfl, rfl, n, rfl⟩ := hrel
    by_cases hlt : i < 8 * l.length
    · have hd : decide ((i : Int) < 8 * (l.length : Int)) = true := decide_eq_true (by omega)
      obtain ⟨ad, rfl, hx⟩ := Kd.at_int HR.out ((i / 8 : Nat) : Int) (by omega) (by omega)
      rw [Int.toNat_natCast] at hx
      have hbb := HB.out.at_ (i / 8) (by omega)
      have hsn : Hid (Crc.run ones ((Crc.tb l).take (i + 1)) = Crc.st (Crc.run ones ((Crc.tb l).take i)) ((rd l ((i / 8 : Nat) : Int)).toNat.testBit (7 - i % 8))) := Lib.hid (by rw [Crc.tb_take l i hlt, Crc.run_snoc]; rfl)
      have hbt := Crc.bit_of (rd l ((i / 8 : Nat) : Int)) (7 - i % 8) hbb.1
      rw [show ((i / 8 : Nat) : Int) = (i : Int) / 8 by omega] at hsn hbt hbb hx
      have hw : IntKind.u64.wrap (rd l ((i : Int) / 8)) = rd l ((i : Int) / 8) := by simp only [IntKind.wrap, IntKind.bits, IntKind.signed]; simp; omega
      generalize rd l ((i : Int) / 8) = x at *
      generalize x.toNat.testBit (7 - i % 8) = b at *
      generalize Crc.run ones ((Crc.tb l).take i) = q at *
      have hso := Lib.hid (Crc.ref_same q b)
      have hot := Lib.hid (Crc.ref_other q b)
      generalize (if b = true then (1 : Int) else 0) = bv at *
      cases hc : ((q.toNat : Int) / 2147483648 != bv)
      · have hz := Lib.hid (hso.out hc)
        clear hbb
        go_wp2
        go_roundg (8 * l.length - (i + 1))
        case measure => omega
        case rel => exact ⟨i + 1, by omega, rfl, by rw [hsn.out]; exact congrArg _ hz.out, by go_num, n, rfl⟩
      · have hz := Lib.hid (hot.out hc)
        clear hbb
        go_wp2
        go_roundg (8 * l.length - (i + 1))
        case measure => omega
        case rel => exact ⟨i + 1, by omega, rfl, by rw [hsn.out]; exact congrArg _ hz.out, by go_num, n, rfl⟩
    · have hd : decide ((i : Int) < 8 * (l.length : Int)) = false := decide_eq_false (by omega)
      have ht : Hid ((Crc.tb l).take i = Crc.tb l) := Lib.hid (List.take_of_length_le (by rw [Crc.tb_length]; omega))
      have hs : Hid (sum l = Crc.run ones (Crc.tb l)) := Lib.hid rfl
      go_wp2
      go_ret
      exact ⟨ret_int (by have e := ht.out; rw [hs.out, e]), n, rfl⟩

theorem Four_any (v : BitVec 32) (w : World) :
    Calls Try.prog 39 #[.int .u32 (v.toNat : Int)] w fun e w' => ∃ x, e = .returned x ∧ Kd.R (Kd.int .u8) 5 w' w.heap.size (fun _ => True) x (four v) ∧ Below w.heap.size w w' := by
  have HB := Lib.hid (Below.refl w.heap.size w)
  have ht : 0 ≤ (v.toNat : Int) ∧ (v.toNat : Int) ≤ 4294967295 := by have := v.isLt; omega
  have hf : Hid (four v = [(v.toNat : Int) / 16777216, (v.toNat : Int) / 65536 % 256, (v.toNat : Int) / 256 % 256, (v.toNat : Int) % 256]) := Lib.hid (by unfold four; rw [show (v.toNat : Int) / 16777216 % 256 = (v.toNat : Int) / 16777216 by omega])
  generalize four v = f4 at *
  generalize (v.toNat : Int) = t at *
  go_enter Try.func39, Try.ntmps39
  go_wp2_with ((with_reducible refine gate_dst (N := 14) rfl ?_); refine Kd.R_lit (Kd.int .u8) _ 5 ?hg (N := 14) ?hd (xs := [t / 16777216, t / 65536 % 256, t / 256 % 256, t % 256]) (inner := [.int .u8 (t / 16777216), .int .u8 (t / 65536 % 256), .int .u8 (t / 256 % 256), .int .u8 (t % 256)]) (ok := fun _ => True) (okp := fun _ => True) ?hr ?hp (fun _ hk => hk) trivial (Below.refl _ _) (Nat.le_refl _) (by simp) ?_; (case hd => rfl); (case hg => rfl); (case hr => first | (go_simp; done) | (go_simp; rfl)); (case hp => exact reps4 _ _ _ _ _ _ _); intro v1 w1 ho hb hg_ hnew_; clear hg_ hnew_; rw [← hf.out] at ho; have HO := Lib.hid ho; have HB1 := Lib.hid hb; clear ho hb)
  go_ret
  exact ⟨_, rfl, HO.out, HB1.out⟩

theorem rSeal_any (A : Option Addr) (c : Nat) (l : List Int) (w : World) (hr : RdB w A l) (hb : Bytes l) (hl : l.length + 4 ≤ 140737488355328) :
    Calls Try.prog 19 #[.slice A l.length c] w fun e w' => ∃ v, e = .returned v ∧ Kd.R (Kd.int .u8) 5 w' w.heap.size (fun _ => True) v (sealed l) ∧ Below w.heap.size w w' := by
  have HR := Lib.hid hr
  have H := Lib.hid (rSum_any A c l w hr hb (by omega))
  have HB := Lib.hid (Below.refl w.heap.size w)
  have hs : Hid (sealed l = four (sum l) ++ l) := Lib.hid rfl
  have hlen : Hid ((four (sum l)).length = 4) := Lib.hid rfl
  have F := fun w => Lib.hid (Four_any (sum l) w)
  clear hr hb
  generalize sealed l = q at *
  generalize four (sum l) = f4 at *
  generalize ((sum l).toNat : Int) = t at *
  go_enter Try.func19, Try.ntmps19
  go_wp2_with (first | (go_at_call 17; refine H.out.mono ?_; rintro e w' ⟨rfl, n, rfl⟩) | (go_at_call 39; refine (F _).out.mono ?_; rintro e w1 ⟨v1, rfl, ho, hb⟩; have HO := Lib.hid (Kd.R_lower ho (Nat.le_refl w.heap.size)); have HB1 := Lib.hid (below_step (pw_below_drewN HB.out n) hb); clear ho hb) | ((with_reducible refine gate_builtin (b := .append) (xs := #[.tmp 5, .tmp 6]) rfl ?_); at_builtin; refine Kd.R_append_rows (Kd.int .u8) (w0 := w) w.heap.size rfl (.tmp 5) (.tmp 6) 22 5 (.int .u8 0) 1 rfl Try.underlying22 info8 rfl (by decide) (by omega) v1 f4 l _ _ _ (fun _ => True) (fun _ => False) rfl rfl HO.out (Kd.C_below HR.out HB1.out) (fun _ _ h => h) (fun _ h => h.elim) (fun _ _ => trivial) HB1.out (below_size HB1.out) ?aL ?_; (case aL => have := hlen.out; omega); intro v2 w2 ho hb hg hat; clear hg hat; rw [← hs.out] at ho; have HO2 := Lib.hid ho; have HB2 := Lib.hid hb; clear ho hb))
  go_ret
  exact ⟨_, rfl, HO2.out, HB2.out⟩

/-! ### the awake question -/
def known : List Int := [49, 50, 51, 52, 53, 54, 55, 56, 57]
theorem known_sum : (sum known).toNat = 3628397565 := by decide +kernel
theorem known_bytes : Bytes known := by
  intro x hx
  unfold known at hx
  simp only [List.mem_cons, List.not_mem_nil, or_false] at hx
  omega
theorem RdB_block (w : World) (l : List Int) (fr : Nat × Nat) (hl : l.length ≤ 9223372036854775807) : RdB (w.alloc (.cells (l.map (Value.int .u8)).toArray 5 fr)) (some ⟨w.heap.size, 0, none⟩) l :=
  Kd.C_of_reads (d := (0 : Int)) (h1 := fun _ => rfl) ⟨rfl, hl, fun _ => ⟨_, rfl, fun j hj => by
    rw [add_plain, World.cell?_alloc_mark]
    simp [List.getD_eq_getElem?_getD, hj]⟩⟩
theorem below_block (w : World) (o : Obj) : Below w.heap.size w (w.alloc o) := (Below.refl _ _).alloc (Nat.le_refl _) o
theorem awake_any (w : World) : Calls Try.prog 13 #[] w fun e w' => e = .returned (.bool true) ∧ Below w.heap.size w w' := by
  have kc := fun (w : World) (C : Array Value) (n c : Nat) => Lib.run_convert_bytes_const (P := Try.prog) w 22 5 C n c Try.underlying22 Try.underlying5
  have hv : ((sum known).toNat : Int) = 3628397565 := by rw [known_sum]; rfl
  have S := Lib.hid (Sum_any (some ⟨w.heap.size, 0, none⟩) 9 known _ (RdB_block w known (9, 10) (by decide)) known_bytes (by decide))
  rw [hv] at S
  clear hv
  go_enter Try.func13, Try.ntmps13
  go_wp2_with (go_at_call 14; refine S.out.mono ?_; rintro e w' ⟨rfl, n, rfl⟩)
  go_ret
  exact ⟨rfl, pw_below_drewN (below_block _ _) _⟩

end Go.Proofs.Ytacpmijbmllelaa.Tal
