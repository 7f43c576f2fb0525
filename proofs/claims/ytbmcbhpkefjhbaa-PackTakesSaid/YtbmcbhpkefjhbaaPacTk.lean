/- Layer 3: the taker. -/
import Derived.Test.YtbmcbhpkefjhbaaPacRP
import Derived.Defers
import Derived.Recover
set_option linter.unusedVariables false
set_option linter.unusedSimpArgs false
namespace Go.Proofs.Ytbmcbhpkefjhbaa.Pac
open Go.RowKit Go.Proofs.Ytbmcbhpkefjhbaa Go.Proofs.Ytbmcbhpkefjhbaa.Mem Go.Proofs.YtbmcbhpkefjhbaaW.PrintWords Go.Proofs.YtbmcbhpkefjhbaaW.PrintLast Go.Proofs.YtbmcbhpkefjhbaaW.PrintMore
/-- a taker: its cells, the bytes, how far it is -/
structure TK (w : World) (g : Nat) (B : Option Addr) (c : Nat) (b : List Int) (at_ : Nat) : Prop where
  c0 : w.cell? ⟨g, 0, none⟩ = some (.slice B b.length c)
  c1 : w.cell? ⟨g, 1, none⟩ = some (.int .i64 (at_ : Int))
  fz : w.frozen? ⟨g, 1, none⟩ = false
  rd : RdB w B b
  far : ∀ ad, B = some ad → 0 < b.length → ad.block ≠ g
  cap : b.length ≤ c
theorem TK.below {w w' : World} {g : Nat} {B : Option Addr} {c : Nat} {b : List Int} {p : Nat} (h : TK w g B c b p) (hb : Below w.heap.size w w') : TK w' g B c b p where
  c0 := (hb.cell (World.block_lt_of_cell? w _ h.c0)).trans h.c0
  c1 := (hb.cell (World.block_lt_of_cell? w _ h.c1)).trans h.c1
  fz := (hb.frozen (World.block_lt_of_cell? w _ h.c1)).trans h.fz
  rd := Kd.C_below h.rd hb
  far := h.far
  cap := h.cap
theorem RdB_grown {w w' : World} {g : Nat} {B : Option Addr} {b : List Int} (h : RdB w B b) (hg : w.grownBy w' (some g)) (hf : ∀ ad, B = some ad → 0 < b.length → ad.block ≠ g) : RdB w' B b := by
  obtain ⟨h1, h2, h3⟩ := Kd.reads_of_C (d := (0 : Int)) h
  refine Kd.C_of_reads (h1 := fun _ => rfl) (d := (0 : Int)) ⟨h1, h2, fun hp => ?_⟩
  obtain ⟨ad, e, hc⟩ := h3 hp
  refine ⟨ad, e, fun j hj => hg.cell (hc j hj) ?_⟩
  intro hh
  injection hh with hh
  rw [show (ad.add j).block = ad.block by unfold Addr.add; split <;> rfl] at hh
  exact hf ad e hp hh
theorem grown_set (w : World) (g i : Nat) (v : Value) : w.grownBy (w.setCell ⟨g, i, none⟩ v) (some g) := ⟨rfl, rfl, rfl, by show _ ≤ (w.setCell ⟨g, i, none⟩ v).heap.size; rw [World.size_setCell]; exact Nat.le_refl _, fun k _ hne => Below.heap_setCell w ⟨g, i, none⟩ v k (fun h => hne (by rw [h]))⟩
theorem TK.set {w : World} {g : Nat} {B : Option Addr} {c : Nat} {b : List Int} {p : Nat} (h : TK w g B c b p) (q : Nat) (z : Int) (hz : z = (q : Int)) : TK (w.setCell ⟨g, 1, none⟩ (.int .i64 z)) g B c b q where
  c0 := (World.cell?_setCell_other _ _ _ _ (by intro hh; injection hh with _ hh _; cases hh)).trans h.c0
  c1 := by rw [World.cell?_setCell_same _ _ _ h.c1, hz]
  fz := by rw [World.frozen?_setCell]; exact h.fz
  rd := RdB_grown h.rd (grown_set _ _ _ _) h.far
  far := h.far
  cap := h.cap
theorem grown_drewN (w : World) (n : Nat) (row : Option Nat) : w.grownBy (w.drewN n) row := ⟨rfl, rfl, rfl, Nat.le_refl _, fun _ _ _ => rfl⟩
theorem TK.drewN {w : World} {g : Nat} {B : Option Addr} {c : Nat} {b : List Int} {p : Nat} (h : TK w g B c b p) (n : Nat) : TK (w.drewN n) g B c b p := h.below (pw_below_drewN (Below.refl _ _) n)
def TkPost (w : World) (g : Nat) (B : Option Addr) (c : Nat) (b : List Int) (p n : Nat) (e : Ending) (w' : World) : Prop :=
  w.grownBy w' (some g) ∧ ((p + n ≤ b.length ∧ TK w' g B c b (p + n) ∧ ∃ A' c', e = .returned (.slice A' n c') ∧ RdB w' A' ((b.drop p).take n)) ∨ (b.length < p + n ∧ ∃ pv : Int, e = .panicked [{ v := .iface 103 (.agg #[.int .i64 pv]), recovered := false }]))
set_option maxRecDepth 100000 in
theorem cut_b (A : Option Addr) (c : Nat) (l : List Int) (lo n : Nat) (hl : lo + n ≤ l.length) (hc : l.length ≤ c) :
    ∃ A', (∀ W : World, (Instr.slice 52 (.slice A l.length c) (some (.int .i64 (lo : Int))) (some (.int .i64 ((lo : Int) + (n : Int)))) none).run Try.prog W = .ok (.slice A' n (c - lo)) W) ∧ ∀ w, RdB w A l → RdB w A' ((l.drop lo).take n) := by
  obtain ⟨i0, hi0, _, hsz, _⟩ := info_parts info8
  refine ⟨if c = lo then A else A.map (·.add (lo * 1)), fun W => ?_, fun w h => ?_⟩
  · have h := cut_mid (P := Try.prog) 52 5 .i64 .i64 Try.underlying52 hi0 1 hsz A l.length c (lo : Int) ((lo : Int) + (n : Int)) (by omega) (by omega) (by omega) hc W
    rw [h, Int.toNat_natCast, show ((lo : Int) + (n : Int)).toNat - lo = n by omega]
  · have h := Kd.C_mid (lo := lo) (hi := lo + n) h (by omega) hl hc
    rw [show ((l.take (lo + n)).drop lo) = (l.drop lo).take n by rw [List.drop_take]; congr 1; omega] at h
    exact h
set_option maxRecDepth 100000 in
theorem tk_bytes (w : World) (g : Nat) (B : Option Addr) (c : Nat) (b : List Int) (p n : Nat) (h : TK w g B c b p) (hb : b.length ≤ 1000000) (hp : p ≤ b.length) (hn : n ≤ 1000) :
    Calls Try.prog 82 #[.pointer (some ⟨g, 0, none⟩), .int .i64 (n : Int)] w fun e w' => TkPost w g B c b p n e w' := by
  have HT := Lib.hid h
  have p0 : (0 : Int) ≤ (p : Int) := Int.natCast_nonneg _
  have n0 : (0 : Int) ≤ (n : Int) := Int.natCast_nonneg _
  have b0 : (0 : Int) ≤ (b.length : Int) := Int.natCast_nonneg _
  have b1 : (b.length : Int) ≤ 1000000 := by omega
  have p1 : (p : Int) ≤ (b.length : Int) := by omega
  have n1 : (n : Int) ≤ 1000 := by omega
  obtain ⟨c0, c1, fz, rd, far, cap⟩ := h
  clear rd far
  by_cases hlt : p + n ≤ b.length
  · have hd : decide ((b.length : Int) - (p : Int) < (n : Int)) = false := decide_eq_false (by omega)
    go_enter Try.func82, Try.ntmps82
    go_wp2
    go_quiet (fail)
    have HT1 := Lib.hid (HT.out.drewN nq)
    have HG1 := Lib.hid (grown_drewN w nq (some g))
    obtain ⟨d0, d1, df, _, _, _⟩ := HT1.out
    go_wp2
    have HT2 := Lib.hid (HT1.out.set (p + n) ((p : Int) + (n : Int)) (by omega))
    have HG2 := Lib.hid (World.grownBy.trans HG1.out (grown_set (w.drewN nq) g 1 (.int .i64 ((p : Int) + (n : Int)))))
    generalize (w.drewN nq).setCell ⟨g, 1, none⟩ (.int .i64 ((p : Int) + (n : Int))) = w2 at HT2 HG2 ⊢
    obtain ⟨A', hsl, hrd⟩ := cut_b B c b p n hlt cap
    have HRD := Lib.hid hrd
    have y0 := HT2.out.c0
    have y1 := HT2.out.c1
    rw [show (((p + n : Nat) : Int)) = (p : Int) + (n : Int) by omega] at y1
    clear hrd d0 d1 df c0 c1 fz
    go_quiet (fail)
    go_wp2
    go_ret
    exact ⟨World.grownBy.trans HG2.out (grown_drewN _ _ _), .inl ⟨hlt, HT2.out.drewN _, A', _, rfl, HRD.out _ (Kd.C_drewN HT2.out.rd _)⟩⟩
  · have hd : decide ((b.length : Int) - (p : Int) < (n : Int)) = true := decide_eq_true (by omega)
    go_enter Try.func82, Try.ntmps82
    go_wp2
    go_quiet (fail)
    go_wp2
    exact ⟨rfl, grown_drewN _ _ _, .inr ⟨by omega, _, rfl⟩⟩
theorem or_lo (u x : Int) (hu : 0 ≤ u) (hu2 : u < 72057594037927936) (h0 : 0 ≤ x) (h1 : x ≤ 255) : bits BinOp.or IntKind.u64 (IntKind.u64.wrap (u * 256)) x = u * 256 + x := by
  have hw : IntKind.u64.wrap (u * 256) = u * 256 := by rw [IntKind.wrap_u64]; omega
  rw [hw]
  obtain ⟨a, rfl⟩ := Int.eq_ofNat_of_zero_le hu
  obtain ⟨b, rfl⟩ := Int.eq_ofNat_of_zero_le h0
  unfold bits
  have e1 : BitVec.ofInt IntKind.u64.bits ((a : Int) * 256) = BitVec.ofNat 64 (a * 256) := by
    show BitVec.ofInt 64 _ = _
    rw [show ((a : Int) * 256) = ((a * 256 : Nat) : Int) by omega, BitVec.ofInt_natCast]
  have e2 : BitVec.ofInt IntKind.u64.bits (b : Int) = BitVec.ofNat 64 b := by
    show BitVec.ofInt 64 _ = _
    rw [BitVec.ofInt_natCast]
  simp only [e1, e2]
  have e3 : (BitVec.ofNat 64 (a * 256) ||| BitVec.ofNat 64 b).toNat = a * 256 + b := by
    rw [BitVec.toNat_or, BitVec.toNat_ofNat, BitVec.toNat_ofNat, Nat.mod_eq_of_lt (by omega), Nat.mod_eq_of_lt (by omega)]
    have := Nat.shiftLeft_add_eq_or_of_lt (i := 8) (b := b) (by omega) a
    rw [Nat.shiftLeft_eq, show 2 ^ 8 = 256 from rfl] at this
    omega
  show IntKind.u64.wrap ((BitVec.ofNat 64 (a * 256) ||| BitVec.ofNat 64 b).toNat : Int) = _
  rw [e3, IntKind.wrap_u64]
  omega
theorem foldl_bd : ∀ (l : List Int) (u : Int) (k : Nat), (∀ x ∈ l, 0 ≤ x ∧ x ≤ 255) → 0 ≤ u → u < 256 ^ k → 0 ≤ l.foldl (fun u c => u * 256 + c) u ∧ l.foldl (fun u c => u * 256 + c) u < 256 ^ (k + l.length) := by
  intro l
  induction l with
  | nil => intro u k _ h0 h1; exact ⟨h0, h1⟩
  | cons x l ih =>
    intro u k hb h0 h1
    have hx := hb x List.mem_cons_self
    have h2 : u * 256 + x < 256 ^ (k + 1) := by rw [Int.pow_succ]; omega
    have := ih (u * 256 + x) (k + 1) (fun y hy => hb y (List.mem_cons_of_mem _ hy)) (by omega) h2
    rw [List.foldl_cons, List.length_cons, show k + (l.length + 1) = k + 1 + l.length by omega]
    exact this
theorem pow56 (i : Nat) (h : i < 8) : (256 : Int) ^ i ≤ 72057594037927936 := by
  have : i = 0 ∨ i = 1 ∨ i = 2 ∨ i = 3 ∨ i = 4 ∨ i = 5 ∨ i = 6 ∨ i = 7 := by omega
  rcases this with rfl | rfl | rfl | rfl | rfl | rfl | rfl | rfl <;> decide
/-- a number out of bytes, the highest ahead -/
def num (l : List Int) : Int := l.foldl (fun u c => u * 256 + c) 0
theorem num_snoc (l : List Int) (x : Int) : num (l ++ [x]) = num l * 256 + x := by unfold num; rw [List.foldl_append]; rfl
theorem num_bd {l : List Int} (h : Bytes l) : 0 ≤ num l ∧ num l < 256 ^ l.length := by
  have := foldl_bd l 0 0 h (Int.le_refl _) (by decide)
  rw [Nat.zero_add] at this
  exact this
def TnPost (w : World) (g : Nat) (B : Option Addr) (c : Nat) (b : List Int) (p n : Nat) (e : Ending) (w' : World) : Prop :=
  w.grownBy w' (some g) ∧ ((p + n ≤ b.length ∧ TK w' g B c b (p + n) ∧ e = .returned (.int .u64 (num ((b.drop p).take n)))) ∨ (b.length < p + n ∧ ∃ pv : Int, e = .panicked [{ v := .iface 103 (.agg #[.int .i64 pv]), recovered := false }]))
set_option maxRecDepth 100000 in
theorem tk_number (w : World) (g : Nat) (B : Option Addr) (c : Nat) (b : List Int) (p n : Nat) (h : TK w g B c b p) (hby : Bytes b) (hb : b.length ≤ 1000000) (hp : p ≤ b.length) (hn : n ≤ 8) :
    Calls Try.prog 81 #[.pointer (some ⟨g, 0, none⟩), .int .i64 (n : Int)] w fun e w' => TnPost w g B c b p n e w' := by
  have BY := Lib.hid (tk_bytes w g B c b p n h hb hp (by omega))
  have HBy := Lib.hid hby
  clear h hby
  go_enter Try.func81, Try.ntmps81
  go_wp2_with fail
  refine BY.out.mono ?_
  rintro e w1 ⟨hg, ⟨hlt, hT, A', c', rfl, hrd⟩ | ⟨hlt, pv, rfl⟩⟩
  · have HG := Lib.hid hg
    have HT := Lib.hid hT
    have HRD := Lib.hid hrd
    have hlen : ((b.drop p).take n).length = n := by rw [List.length_take, List.length_drop]; omega
    have hbs : Bytes ((b.drop p).take n) := (HBy.out.drop p).take n
    clear hg hT hrd BY
    generalize hdl : (b.drop p).take n = l at *
    have HDL := Lib.hid hdl
    clear hdl
    have HBL := Lib.hid hbs
    obtain rfl : l.length = n := hlen
    have l0 : (0 : Int) ≤ (l.length : Int) := Int.natCast_nonneg _
    have l8 : (l.length : Int) ≤ 8 := by omega
    clear hbs
    go_wp2_with fail
    go_loopg [5, 12] l.length (fun k v5 v12 wr => ∃ i : Nat, i ≤ l.length ∧ k = l.length - i ∧ v12 = .int .i64 (i : Int) ∧ v5 = .int .u64 (num (l.take i)) ∧ wr = w1)
    case atStart => exact ⟨0, Nat.zero_le _, rfl, rfl, rfl, rfl⟩
    case round =>
      obtain ⟨i, hi, rfl, rfl, rfl, rfl⟩ := hrel
      have i0 : (0 : Int) ≤ (i : Int) := Int.natCast_nonneg _
      by_cases hlt2 : i < l.length
      · have hd : decide (i < l.length) = true := decide_eq_true hlt2
        have i1 : (i : Int) < (l.length : Int) := by omega
        obtain ⟨ad, rfl, hx⟩ := Kd.at_int HRD.out (i : Int) (by omega) (by omega)
        rw [Int.toNat_natCast] at hx
        have HS := Lib.hid (take_snoc l i hlt2)
        have HU := num_bd (HBL.out.take i)
        have HX := HBL.out.at_ i hlt2
        generalize rd l (i : Int) = x at *
        rw [List.length_take, Nat.min_eq_left (by omega)] at HU
        generalize hu : num (l.take i) = u at *
        have HUE := Lib.hid hu
        have u56 : u < 72057594037927936 := by
          have := pow56 i (by omega)
          omega
        have hor := or_lo u x HU.1 u56 HX.1 HX.2
        clear hu HU
        go_wp2
        go_roundg (l.length - (i + 1))
        case measure => omega
        case rel => exact ⟨i + 1, by omega, rfl, by go_num, by rw [HS.out, num_snoc, HUE.out], rfl⟩
      · have hd : decide (i < l.length) = false := decide_eq_false hlt2
        obtain rfl : i = l.length := by omega
        go_wp2
        go_ret
        exact ⟨HG.out, .inl ⟨hlt, HT.out, by rw [HDL.out]; first | rfl | (rw [List.take_length]; rfl)⟩⟩
  · exact ⟨rfl, hg, .inr ⟨hlt, pv, rfl⟩⟩
end Go.Proofs.Ytbmcbhpkefjhbaa.Pac
