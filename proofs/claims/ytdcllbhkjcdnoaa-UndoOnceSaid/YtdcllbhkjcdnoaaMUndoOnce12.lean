/- Put together by wip/prune.py out of this claim's texts. -/
import Derived.Defers
import Derived.Recover
import Derived.Test.YtdcllbhkjcdnoaaMUndoOnce8
import Derived.Test.YtdcllbhkjcdnoaaMUndoOnce11
set_option linter.unusedVariables false
set_option linter.unusedSimpArgs false
namespace Go.Proofs.Ytdcllbhkjcdnoaa.Pac
open Go.RowKit Go.Proofs.Ytdcllbhkjcdnoaa Go.Proofs.Ytdcllbhkjcdnoaa.Mem Go.Proofs.YtdcllbhkjcdnoaaW.PrintWords Go.Proofs.YtdcllbhkjcdnoaaW.PrintLast Go.Proofs.YtdcllbhkjcdnoaaW.PrintMore
structure TK (w : World) (g : Nat) (B : Option Addr) (c : Nat) (b : List Int) (at_ : Nat) : Prop where
  c0 : w.cell? ⟨g, 0, none⟩ = some (.slice B b.length c)
  c1 : w.cell? ⟨g, 1, none⟩ = some (.int .i64 (at_ : Int))
  fz : w.frozen? ⟨g, 1, none⟩ = false
  rd : RdB w B b
  far : ∀ ad, B = some ad → 0 < b.length → ad.block ≠ g
  cap : b.length ≤ c
theorem TK.below {w w' : World} {g : Nat} {B : Option Addr} {c : Nat} {b : List Int} {p : Nat} (h : TK w g B c b p) (hb : Below w.heap.size w w') : TK w' g B c b p where
  c0 := (hb.cell (World.block_lt_of_cell? w _ h.c0)).trans h.c0
  c1 := (hb.cell (World.block_lt_of_cell? w _ h.c1)).trans h.c1
  fz := (hb.frozen (World.block_lt_of_cell? w _ h.c1)).trans h.fz
  rd := Kd.C_below h.rd hb
  far := h.far
  cap := h.cap
theorem RdB_grown {w w' : World} {g : Nat} {B : Option Addr} {b : List Int} (h : RdB w B b) (hg : w.grownBy w' (some g)) (hf : ∀ ad, B = some ad → 0 < b.length → ad.block ≠ g) : RdB w' B b := by
  obtain ⟨h1, h2, h3⟩ := Kd.reads_of_C (d := (0 : Int)) h
  refine Kd.C_of_reads (h1 := fun _ => rfl) (d := (0 : Int)) ⟨h1, h2, fun hp => ?_⟩
  obtain ⟨ad, e, hc⟩ := h3 hp
  refine ⟨ad, e, fun j hj => hg.cell (hc j hj) ?_⟩
  intro hh
  injection hh with hh
  rw [show (ad.add j).block = ad.block by unfold Addr.add; split <;> rfl] at hh
  exact hf ad e hp hh
theorem grown_set (w : World) (g i : Nat) (v : Value) : w.grownBy (w.setCell ⟨g, i, none⟩ v) (some g) := ⟨rfl, rfl, rfl, by show _ ≤ (w.setCell ⟨g, i, none⟩ v).heap.size; rw [World.size_setCell]; exact Nat.le_refl _, fun k _ hne => Below.heap_setCell w ⟨g, i, none⟩ v k (fun h => hne (by rw [h]))⟩
theorem TK.set {w : World} {g : Nat} {B : Option Addr} {c : Nat} {b : List Int} {p : Nat} (h : TK w g B c b p) (q : Nat) (z : Int) (hz : z = (q : Int)) : TK (w.setCell ⟨g, 1, none⟩ (.int .i64 z)) g B c b q where
  c0 := (World.cell?_setCell_other _ _ _ _ (by intro hh; injection hh with _ hh _; cases hh)).trans h.c0
  c1 := by rw [World.cell?_setCell_same _ _ _ h.c1, hz]
  fz := by rw [World.frozen?_setCell]; exact h.fz
  rd := RdB_grown h.rd (grown_set _ _ _ _) h.far
  far := h.far
  cap := h.cap
theorem TK.drewN {w : World} {g : Nat} {B : Option Addr} {c : Nat} {b : List Int} {p : Nat} (h : TK w g B c b p) (n : Nat) : TK (w.drewN n) g B c b p := h.below (pw_below_drewN (Below.refl _ _) n)
theorem foldl_bd : ∀ (l : List Int) (u : Int) (k : Nat), (∀ x ∈ l, 0 ≤ x ∧ x ≤ 255) → 0 ≤ u → u < 256 ^ k → 0 ≤ l.foldl (fun u c => u * 256 + c) u ∧ l.foldl (fun u c => u * 256 + c) u < 256 ^ (k + l.length) := by
  intro l
  induction l with
  | nil => intro u k _ h0 h1; exact ⟨h0, h1⟩
  | cons x l ih =>
    intro u k hb h0 h1
    have hx := hb x List.mem_cons_self
    have h2 : u * 256 + x < 256 ^ (k + 1) := by rw [Int.pow_succ]; omega
    have := ih (u * 256 + x) (k + 1) (fun y hy => hb y (List.mem_cons_of_mem _ hy)) (by omega) h2
    rw [List.foldl_cons, List.length_cons, show k + (l.length + 1) = k + 1 + l.length by omega]
    exact this
def num (l : List Int) : Int := l.foldl (fun u c => u * 256 + c) 0
theorem num_bd {l : List Int} (h : Bytes l) : 0 ≤ num l ∧ num l < 256 ^ l.length := by
  have := foldl_bd l 0 0 h (Int.le_refl _) (by decide)
  rw [Nat.zero_add] at this
  exact this
end Go.Proofs.Ytdcllbhkjcdnoaa.Pac
set_option linter.unusedVariables false
set_option linter.unusedSimpArgs false
namespace Go.Proofs.Ytdcllbhkjcdnoaa.Pac
open Go.RowKit Go.Proofs.Ytdcllbhkjcdnoaa Go.Proofs.Ytdcllbhkjcdnoaa.Mem Go.Proofs.YtdcllbhkjcdnoaaW.PrintWords Go.Proofs.YtdcllbhkjcdnoaaW.PrintLast Go.Proofs.YtdcllbhkjcdnoaaW.PrintMore
theorem frozen_new (w : World) (xs : Array Value) (t : TypeId) (i : Nat) : (w.alloc (.cells xs t)).frozen? ⟨w.heap.size, i, none⟩ = false := by
  simp [go_sem]
structure OI (w : World) (h : Nat) (a : It) : Prop where
  has : HasIt w h a
  fz : ∀ i, w.frozen? ⟨h, i, none⟩ = false
theorem OI.lt {w : World} {h : Nat} {a : It} (o : OI w h a) : h < w.heap.size := World.block_lt_of_cell? w _ o.has.1
theorem OI.alloc (w : World) (a : It) : OI (w.alloc a.o) w.heap.size a := ⟨HasIt.alloc w a, fun i => frozen_new w _ _ i⟩
theorem OI.grown {w w' : World} {h g : Nat} {a : It} (o : OI w h a) (hg : w.grownBy w' (some g)) (hne : h ≠ g) : OI w' h a where
  has := ⟨hg.cell o.has.1 (by intro e; injection e with e; exact hne e), hg.cell o.has.2.1 (by intro e; injection e with e; exact hne e), hg.cell o.has.2.2.1 (by intro e; injection e with e; exact hne e), hg.cell o.has.2.2.2 (by intro e; injection e with e; exact hne e)⟩
  fz := fun i => (hg.frozen_far ⟨h, i, none⟩ o.lt (by intro e; injection e with e; exact hne e)).trans (o.fz i)
theorem OI.below {w w' : World} {h : Nat} {a : It} (o : OI w h a) (hb : Below w.heap.size w w') : OI w' h a := ⟨o.has.below hb, fun i => (hb.frozen o.lt).trans (o.fz i)⟩
theorem RdB.lt {w : World} {B : Option Addr} {b : List Int} (h : RdB w B b) : ∀ ad, B = some ad → 0 < b.length → ad.block < w.heap.size := by
  intro ad e hp
  subst e
  obtain ⟨ad', e, hx⟩ := Kd.at_int h 0 (by omega) (by omega)
  injection e with e
  subst e
  have := World.block_lt_of_cell? w _ hx
  rwa [show (ad.add (0 : Int).toNat).block = ad.block by unfold Addr.add; split <;> rfl] at this
def item1 (b : List Int) (p : Nat) (k : Int) : Option (It × Nat) :=
  if k = 4 then
    if p + 8 ≤ b.length ∧ Flt.val (num ((b.drop p).take 8)).toNat = (num ((b.drop p).take 8)).toNat then some (⟨4, 0, (num ((b.drop p).take 8)).toNat, ⟨#[]⟩⟩, p + 8) else none
  else if k = 5 then
    if p + 1 ≤ b.length ∧ p + 1 + (num ((b.drop p).take 1)).toNat ≤ b.length then some (⟨5, 0, 0, strOfNums ((b.drop (p + 1)).take (num ((b.drop p).take 1)).toNat)⟩, p + 1 + (num ((b.drop p).take 1)).toNat) else none
  else
    if p + (wid k).toNat ≤ b.length ∧ may ⟨k, num ((b.drop p).take (wid k).toNat), 0, ⟨#[]⟩⟩ = true then some (⟨k, num ((b.drop p).take (wid k).toNat), 0, ⟨#[]⟩⟩, p + (wid k).toNat) else none
end Go.Proofs.Ytdcllbhkjcdnoaa.Pac
set_option linter.unusedVariables false
set_option linter.unusedSimpArgs false
namespace Go.Proofs.Ytdcllbhkjcdnoaa.Pac
open Go.RowKit Go.Proofs.Ytdcllbhkjcdnoaa Go.Proofs.Ytdcllbhkjcdnoaa.Mem Go.Proofs.YtdcllbhkjcdnoaaW.PrintWords Go.Proofs.YtdcllbhkjcdnoaaW.PrintLast Go.Proofs.YtdcllbhkjcdnoaaW.PrintMore
abbrev It.cs (a : It) : List Value := [.int .i64 a.k, .int .i64 a.n, .float .f64 a.x, .string a.s]
def Kt : Kd It where
  sz := 4
  E := []
  K := fun _ a cs => cs = a.cs
  M := fun _ _ _ a cs => cs = a.cs
  K_len := fun h => by rw [h]; rfl
  K_one := fun h u hu => by rw [h] at hu; simp [It.cs] at hu; rcases hu with rfl | rfl | rfl | rfl <;> rfl
  K_below := fun _ h => h
  K_of_M := fun h => h
  M_mono := fun _ h => h
  M_bound := fun h => h
  M_move := fun _ h => h
  M_lower := fun _ h => h
def GotT (w : World) (v : Value) (l : List It) : Prop := ∃ A c, v = .slice A l.length c ∧ l.length ≤ c ∧ RdT w A l
theorem GotT.nil (w : World) : GotT w (.slice none 0 0) [] := ⟨none, 0, rfl, Nat.le_refl _, fun j a h => by simp at h⟩
def GotO (w : World) (base : Nat) (v : Value) (l : List It) : Prop := Kd.R Kt 86 w base (fun _ => True) v l ∧ ∀ a ∈ l, a.x < 18446744073709551616
theorem GotO.nil (w : World) (base : Nat) : GotO w base (.slice none 0 0) [] := ⟨Kd.R_nil _ _ _ _ _, fun a h => by cases h⟩
def takes (b : List Int) : Nat → List Int → Option (List It × Nat)
  | p, [] => some ([], p)
  | p, k :: ks => match item1 b p k with
    | none => none
    | some (a, q) => match takes b q ks with
      | none => none
      | some (l, r) => some (a :: l, r)
theorem item1_le {b : List Int} {p q : Nat} {k : Int} {a : It} (h : item1 b p k = some (a, q)) : q ≤ b.length := by
  unfold item1 at h
  split at h
  · split at h
    · rename_i h1; injection h with h; injection h with h2 h3; subst h3; exact h1.1
    · cases h
  · split at h
    · split at h
      · rename_i h1; injection h with h; injection h with h2 h3; subst h3; exact h1.2
      · cases h
    · split at h
      · rename_i h1; injection h with h; injection h with h2 h3; subst h3; exact h1.1
      · cases h
theorem item1_x {b : List Int} {p q : Nat} {k : Int} {a : It} (hb : Bytes b) (h : item1 b p k = some (a, q)) : a.x < 18446744073709551616 := by
  unfold item1 at h
  split at h
  · split at h
    · rename_i h1; injection h with h; injection h with h2 h3; subst h2
      have := num_bd ((hb.drop p).take 8)
      rw [show ((b.drop p).take 8).length = 8 by rw [List.length_take, List.length_drop]; omega, show (256 : Int) ^ 8 = 18446744073709551616 by decide] at this
      simp only
      omega
    · cases h
  · split at h
    · split at h
      · injection h with h; injection h with h2 h3; subst h2; simp
      · cases h
    · split at h
      · injection h with h; injection h with h2 h3; subst h2; simp
      · cases h
def Took (b ks : List Int) (i : Nat) (l : List It) (p : Nat) : Prop := l.length = i ∧ (∀ a ∈ l, a.x < 18446744073709551616) ∧ p ≤ b.length ∧ takes b 0 ks = (match takes b p (ks.drop i) with | none => none | some (m, r) => some (l ++ m, r))
theorem Took.first (b ks : List Int) : Took b ks 0 [] 0 := by
  refine ⟨rfl, (fun a h => by cases h), Nat.zero_le _, ?_⟩
  rw [List.drop_zero]
  cases takes b 0 ks with
  | none => rfl
  | some x => rfl
theorem drop_cons {ks : List Int} {i : Nat} {k : Int} (h : ks[i]? = some k) : ks.drop i = k :: ks.drop (i + 1) := by
  obtain ⟨h1, h2⟩ := List.getElem?_eq_some_iff.1 h
  rw [List.drop_eq_getElem_cons h1, h2]
theorem Took.step {b ks : List Int} {i : Nat} {l : List It} {p q : Nat} {k : Int} {a : It} (hb : Bytes b) (h : Took b ks i l p) (hk : ks[i]? = some k) (hi : item1 b p k = some (a, q)) : Took b ks (i + 1) (l ++ [a]) q := by
  obtain ⟨h1, h2, h3, h4⟩ := h
  refine ⟨by rw [List.length_append, h1]; rfl, ?_, item1_le hi, ?_⟩
  · intro y hy
    rcases List.mem_append.1 hy with h | h
    · exact h2 y h
    · rw [List.mem_singleton.1 h]; exact item1_x hb hi
  · rw [h4, drop_cons hk]
    simp only [takes, hi]
    cases takes b q (ks.drop (i + 1)) with
    | none => rfl
    | some x => simp
structure RS (w : World) (h : Nat) (v4 : Value) (v5 v6 : Int) : Prop where
  c4 : w.cell? ⟨h, 0, none⟩ = some v4
  c5 : w.cell? ⟨h + 1, 0, none⟩ = some (.int .i64 v5)
  c6 : w.cell? ⟨h + 2, 0, none⟩ = some (.int .i64 v6)
  f4 : w.frozen? ⟨h, 0, none⟩ = false
  f5 : w.frozen? ⟨h + 1, 0, none⟩ = false
  f6 : w.frozen? ⟨h + 2, 0, none⟩ = false
theorem RS.below {w w' : World} {h : Nat} {v4 : Value} {v5 v6 : Int} (r : RS w h v4 v5 v6) (hb : Below w.heap.size w w') : RS w' h v4 v5 v6 where
  c4 := (hb.cell (World.block_lt_of_cell? w _ r.c4)).trans r.c4
  c5 := (hb.cell (World.block_lt_of_cell? w _ r.c5)).trans r.c5
  c6 := (hb.cell (World.block_lt_of_cell? w _ r.c6)).trans r.c6
  f4 := (hb.frozen (World.block_lt_of_cell? w _ r.c4)).trans r.f4
  f5 := (hb.frozen (World.block_lt_of_cell? w _ r.c5)).trans r.f5
  f6 := (hb.frozen (World.block_lt_of_cell? w _ r.c6)).trans r.f6
theorem nb {a b i j : Nat} (h : a ≠ b) : (⟨a, i, none⟩ : Addr) ≠ ⟨b, j, none⟩ := by intro e; injection e with e; exact h e
theorem RS.grown {w w' : World} {h g : Nat} {v4 : Value} {v5 v6 : Int} (r : RS w h v4 v5 v6) (hg : w.grownBy w' (some g)) (hh : h + 2 < g ∨ g < h) : RS w' h v4 v5 v6 where
  c4 := hg.cell r.c4 (by intro e; injection e with e; simp only at e; omega)
  c5 := hg.cell r.c5 (by intro e; injection e with e; simp only at e; omega)
  c6 := hg.cell r.c6 (by intro e; injection e with e; simp only at e; omega)
  f4 := (hg.frozen_far ⟨h, 0, none⟩ (World.block_lt_of_cell? w _ r.c4) (by intro e; injection e with e; simp only at e; omega)).trans r.f4
  f5 := (hg.frozen_far ⟨h + 1, 0, none⟩ (World.block_lt_of_cell? w _ r.c5) (by intro e; injection e with e; simp only at e; omega)).trans r.f5
  f6 := (hg.frozen_far ⟨h + 2, 0, none⟩ (World.block_lt_of_cell? w _ r.c6) (by intro e; injection e with e; simp only at e; omega)).trans r.f6
theorem RS.s4 {w : World} {h : Nat} {v4 : Value} {v5 v6 : Int} (r : RS w h v4 v5 v6) (v : Value) : RS (w.setCell ⟨h, 0, none⟩ v) h v v5 v6 where
  c4 := World.cell?_setCell_same _ _ _ r.c4
  c5 := (World.cell?_setCell_other _ _ _ _ (nb (by omega))).trans r.c5
  c6 := (World.cell?_setCell_other _ _ _ _ (nb (by omega))).trans r.c6
  f4 := by rw [World.frozen?_setCell]; exact r.f4
  f5 := by rw [World.frozen?_setCell]; exact r.f5
  f6 := by rw [World.frozen?_setCell]; exact r.f6
theorem RS.s6 {w : World} {h : Nat} {v4 : Value} {v5 v6 : Int} (r : RS w h v4 v5 v6) (v : Int) : RS (w.setCell ⟨h + 2, 0, none⟩ (.int .i64 v)) h v4 v5 v where
  c6 := World.cell?_setCell_same _ _ _ r.c6
  c4 := (World.cell?_setCell_other _ _ _ _ (nb (by omega))).trans r.c4
  c5 := (World.cell?_setCell_other _ _ _ _ (nb (by omega))).trans r.c5
  f4 := by rw [World.frozen?_setCell]; exact r.f4
  f5 := by rw [World.frozen?_setCell]; exact r.f5
  f6 := by rw [World.frozen?_setCell]; exact r.f6
abbrev rw3 (w : World) : World := ((w.alloc (.cells #[.slice none 0 0] 87)).alloc (.cells #[.int .i64 0] 3)).alloc (.cells #[.int .i64 0] 33)
theorem sz_alloc (w : World) (o : Obj) : (w.alloc o).heap.size = w.heap.size + 1 := by show (w.heap.push _).size = _; simp
theorem RS.first (w : World) : RS (rw3 w) w.heap.size (.slice none 0 0) 0 0 := by
  constructor
  · rw [World.cell?_alloc_lt _ _ _ (by simp only [sz_alloc]; omega), World.cell?_alloc_lt _ _ _ (by simp only [sz_alloc]; omega)]; exact World.cell?_alloc_new _ _ _ _
  · rw [World.cell?_alloc_lt _ _ _ (by simp only [sz_alloc]; omega), show w.heap.size + 1 = (w.alloc (.cells #[.slice none 0 0] 87)).heap.size from (sz_alloc _ _).symm]; exact World.cell?_alloc_new _ _ _ _
  · rw [show w.heap.size + 2 = ((w.alloc (.cells #[.slice none 0 0] 87)).alloc (.cells #[.int .i64 0] 3)).heap.size by rw [sz_alloc, sz_alloc]]; exact World.cell?_alloc_new _ _ _ _
  · rw [World.frozen?_alloc_past _ _ _ (by simp only [sz_alloc]; omega), World.frozen?_alloc_past _ _ _ (by simp only [sz_alloc]; omega)]; exact frozen_new _ _ _ _
  · rw [World.frozen?_alloc_past _ _ _ (by simp only [sz_alloc]; omega), show w.heap.size + 1 = (w.alloc (.cells #[.slice none 0 0] 87)).heap.size from (sz_alloc _ _).symm]; exact frozen_new _ _ _ _
  · rw [show w.heap.size + 2 = ((w.alloc (.cells #[.slice none 0 0] 87)).alloc (.cells #[.int .i64 0] 3)).heap.size by rw [sz_alloc, sz_alloc]]; exact frozen_new _ _ _ _
theorem TK.first {w : World} {B : Option Addr} {c : Nat} {b : List Int} (hr : RdB w B b) (hc : b.length ≤ c) : TK (w.alloc (.cells #[.slice B b.length c, .int .i64 0] 117)) w.heap.size B c b 0 where
  c0 := World.cell?_alloc_new _ _ _ _
  c1 := World.cell?_alloc_new _ _ _ _
  fz := frozen_new _ _ _ _
  rd := Kd.C_alloc hr _
  far := fun ad e hp => Nat.ne_of_lt (RdB.lt hr ad e hp)
  cap := hc
def Take12.T : Bool × List (List Nat × List Nat) := (true, [([], []), ([], []), ([], []), ([1, 2], [1, 2]), ([3], [3]), ([0, 4, 3], [0, 4]), ([5, 5, 0, 1, 2, 3, 4, 5], [5])])
def Take12.B : List Nat := [0, 0, 0, 6, 14, 31, 63]
theorem Take12.tab : rtab .any (opsOf Try.f73 12) = Take12.T := by kernel_rfl
theorem Take12.bits : waitsOk Take12.T.2 Take12.B = true := by kernel_rfl
def Take14.T : Bool × List (List Nat × List Nat) := (true, [([], []), ([], []), ([1], [1]), ([2], [2]), ([3], [3]), ([0, 0], [0]), ([4, 5, 0, 1, 2, 3, 4, 5], [4]), ([6, 0, 1, 2, 3, 4, 5, 6], [])])
def Take14.B : List Nat := [0, 0, 2, 6, 14, 1, 63, 127]
theorem Take14.tab : rtab .any (opsOf Try.f73 14) = Take14.T := by kernel_rfl
theorem Take14.bits : waitsOk Take14.T.2 Take14.B = true := by kernel_rfl
end Go.Proofs.Ytdcllbhkjcdnoaa.Pac
set_option linter.unusedVariables false
set_option linter.unusedSimpArgs false
namespace Go.Proofs.Ytdcllbhkjcdnoaa.Pac
open Go.RowKit Go.Proofs.Ytdcllbhkjcdnoaa Go.Proofs.Ytdcllbhkjcdnoaa.Mem Go.Proofs.YtdcllbhkjcdnoaaW.PrintWords Go.Proofs.YtdcllbhkjcdnoaaW.PrintLast Go.Proofs.YtdcllbhkjcdnoaaW.PrintMore
def Apart (v u : Value) : Prop := ∀ k, v.ownBlock = some k → u.ownBlock ≠ some k
theorem Apart.symm {v u : Value} (h : Apart v u) : Apart u v := fun k hk he => h k he hk
theorem Apart.step {v u v1 : Value} {n : Nat} (h : Apart v u) (hat : v1.ownBlock = v.ownBlock ∨ ∃ b, v1.ownBlock = some b ∧ n ≤ b) (hlt : ∀ k, u.ownBlock = some k → k < n) : Apart v1 u := by
  intro k hk he
  rcases hat with e | ⟨b, e, hb⟩
  · rw [e] at hk; exact h k hk he
  · rw [e] at hk
    injection hk with hk
    have := hlt k he
    omega
end Go.Proofs.Ytdcllbhkjcdnoaa.Pac
set_option linter.unusedVariables false
set_option linter.unusedSimpArgs false
namespace Go.Proofs.Ytdcllbhkjcdnoaa.Pac
open Go.RowKit Go.Proofs.Ytdcllbhkjcdnoaa Go.Proofs.Ytdcllbhkjcdnoaa.Mem Go.Proofs.YtdcllbhkjcdnoaaW.PrintWords Go.Proofs.YtdcllbhkjcdnoaaW.PrintLast Go.Proofs.YtdcllbhkjcdnoaaW.PrintMore
def RT30x1a.T : Bool × List (List Nat × List Nat) := (true, [([], []), ([0], [0]), ([1], [1]), ([2, 1], [2]), ([3], [3]), ([4, 3, 3], [3, 4]), ([5, 3], [3, 5]), ([3], [3]), ([3], [3]), ([3], [3]), ([3], [3]), ([9, 10, 3], [3, 9, 10]), ([7, 8, 11, 3], [3, 7, 8, 11]), ([12, 3], [3, 12]), ([6, 13, 3], [3, 6, 13]), ([3, 14], [3, 14])])
def RT30x1a.B : List Nat := [0, 1, 3, 7, 15, 31, 63, 15, 15, 15, 15, 1551, 3983, 8079, 16383, 32767]
theorem RT30x1a.tab : rtab .any (opsOf Try.f77 30) = RT30x1a.T := by kernel_rfl
theorem RT30x1a.bits : waitsOk RT30x1a.T.2 RT30x1a.B = true := by kernel_rfl
def RT30x2b.T : Bool × List (List Nat × List Nat) := (true, [([], []), ([0], [0]), ([1], [1]), ([2, 1], [2]), ([3], [3]), ([4, 3, 3], [3, 4]), ([5, 3], [3, 5]), ([3], [3]), ([3], [3]), ([3], [3]), ([3], [3]), ([9, 10, 3], [3, 9, 10]), ([7, 8, 11, 3], [3, 7, 8, 11]), ([12, 3], [3, 12]), ([6, 13, 3], [3, 6, 13]), ([3, 14], [3, 14])])
def RT30x2b.B : List Nat := [0, 1, 3, 7, 15, 31, 63, 15, 15, 15, 15, 1551, 3983, 8079, 16383, 32767]
theorem RT30x2b.tab : rtab .any (opsOf Try.f77 30) = RT30x2b.T := by kernel_rfl
theorem RT30x2b.bits : waitsOk RT30x2b.T.2 RT30x2b.B = true := by kernel_rfl
def RT30x1e.T : Bool × List (List Nat × List Nat) := (true, [([], []), ([0], [0]), ([1], [1]), ([2, 1], [2]), ([3], [3]), ([4, 3, 3], [3, 4]), ([5, 3], [3, 5]), ([3], [3]), ([3], [3]), ([3], [3]), ([3], [3]), ([9, 10, 3], [3, 9, 10]), ([7, 8, 11, 3], [3, 7, 8, 11]), ([12, 3], [3, 12]), ([6, 13, 3], [3, 6, 13]), ([3, 14], [3, 14])])
def RT30x1e.B : List Nat := [0, 1, 3, 7, 15, 31, 63, 15, 15, 15, 15, 1551, 3983, 8079, 16383, 32767]
theorem RT30x1e.tab : rtab .any (opsOf Try.f77 30) = RT30x1e.T := by kernel_rfl
theorem RT30x1e.bits : waitsOk RT30x1e.T.2 RT30x1e.B = true := by kernel_rfl
def RT30x1c.T : Bool × List (List Nat × List Nat) := (true, [([], []), ([0], [0]), ([1], [1]), ([2, 1], [2]), ([3], [3]), ([4, 3, 3], [3, 4]), ([5, 3], [3, 5]), ([3], [3]), ([3], [3]), ([3], [3]), ([3], [3]), ([9, 10, 3], [3, 9, 10]), ([7, 8, 11, 3], [3, 7, 8, 11]), ([12, 3], [3, 12]), ([6, 13, 3], [3, 6, 13]), ([3, 14], [3, 14])])
def RT30x1c.B : List Nat := [0, 1, 3, 7, 15, 31, 63, 15, 15, 15, 15, 1551, 3983, 8079, 16383, 32767]
theorem RT30x1c.tab : rtab .any (opsOf Try.f77 30) = RT30x1c.T := by kernel_rfl
theorem RT30x1c.bits : waitsOk RT30x1c.T.2 RT30x1c.B = true := by kernel_rfl
def RT30x3d.T : Bool × List (List Nat × List Nat) := (true, [([], []), ([0], [0]), ([1], [1]), ([2, 1], [2]), ([3], [3]), ([4, 3, 3], [3, 4]), ([5, 3], [3, 5]), ([3], [3]), ([3], [3]), ([3], [3]), ([3], [3]), ([9, 10, 3], [3, 9, 10]), ([7, 8, 11, 3], [3, 7, 8, 11]), ([12, 3], [3, 12]), ([6, 13, 3], [3, 6, 13]), ([3, 14], [3, 14])])
def RT30x3d.B : List Nat := [0, 1, 3, 7, 15, 31, 63, 15, 15, 15, 15, 1551, 3983, 8079, 16383, 32767]
theorem RT30x3d.tab : rtab .any (opsOf Try.f77 30) = RT30x3d.T := by kernel_rfl
theorem RT30x3d.bits : waitsOk RT30x3d.T.2 RT30x3d.B = true := by kernel_rfl
end Go.Proofs.Ytdcllbhkjcdnoaa.Pac
