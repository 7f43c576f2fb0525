/- Layer 3: pack.Take of any bytes. -/
import Derived.Test.YtbmcbhpkefjhbaaPacCt
import Derived.Test.YtbmcbhpkefjhbaaDsgMem
set_option linter.unusedVariables false
set_option linter.unusedSimpArgs false
namespace Go.Proofs.Ytbmcbhpkefjhbaa.Pac
open Go.RowKit Go.Proofs.Ytbmcbhpkefjhbaa Go.Proofs.Ytbmcbhpkefjhbaa.Mem Go.Proofs.YtbmcbhpkefjhbaaW.PrintWords Go.Proofs.YtbmcbhpkefjhbaaW.PrintLast Go.Proofs.YtbmcbhpkefjhbaaW.PrintMore
theorem _root_.Go.Proofs.Ytbmcbhpkefjhbaa.Dsg.RdI_at' {w : World} {A : Option Addr} {l : List Int} (h : Kd.C (Kd.int .i64) w A l.length l) {j : Nat} {e : Int} (hj : l[j]? = some e) : ∃ ad, A = some ad ∧ w.cell? (ad.add j) = some (.int .i64 e) := by
  obtain ⟨hjl, hje⟩ := List.getElem?_eq_some_iff.1 hj
  obtain ⟨ad, e1, hx⟩ := Kd.at_int h (j : Int) (by omega) (by omega)
  rw [Int.toNat_natCast] at hx
  refine ⟨ad, e1, ?_⟩
  rw [hx]
  simp [rd, List.getD_eq_getElem?_getD, hj]
abbrev It.cs (a : It) : List Value := [.int .i64 a.k, .int .i64 a.n, .float .f64 a.x, .string a.s]
def Kt : Kd It where
  sz := 4
  E := []
  K := fun _ a cs => cs = a.cs
  M := fun _ _ _ a cs => cs = a.cs
  K_len := fun h => by rw [h]; rfl
  K_one := fun h u hu => by rw [h] at hu; simp [It.cs] at hu; rcases hu with rfl | rfl | rfl | rfl <;> rfl
  K_below := fun _ h => h
  K_of_M := fun h => h
  M_mono := fun _ h => h
  M_bound := fun h => h
  M_move := fun _ h => h
  M_lower := fun _ h => h
theorem infoIt : (Try.prog.info? 48).map (fun i => (i.zero, i.size, i.bytes)) = some (some (.agg #[.int .i64 0, .int .i64 0, .float .f64 0, .string ⟨#[]⟩]), 4, 40) := by kernel_rfl
theorem add4 (ad : Addr) (n i : Nat) (hi : 0 < i) : ad.add (n + i) = ⟨(ad.add n).block, (ad.add n).off + i, none⟩ := by
  rw [show ad.add (n + i) = (ad.add n).add i from (add_add ad n i).symm]
  generalize ad.add n = p
  unfold Addr.add
  rw [if_neg (by omega)]
theorem RdT.of_C {w : World} {A : Option Addr} {l : List It} (h : Kd.C Kt w A l.length l) (hx : ∀ a ∈ l, a.x < 18446744073709551616) : RdT w A l := by
  intro j a hj
  obtain ⟨hjl, hje⟩ := List.getElem?_eq_some_iff.1 hj
  obtain ⟨ad, e, hc⟩ := h.2.2 (by omega)
  obtain ⟨c, hc0, hc1, hc2⟩ := hc j a hj
  have hc1' : c = a.cs := hc1
  subst hc1'
  have x0 := hc2 0 _ rfl
  have x1 := hc2 1 _ rfl
  have x2 := hc2 2 _ rfl
  have x3 := hc2 3 _ rfl
  rw [show Kt.sz = 4 from rfl] at x0 x1 x2 x3
  rw [add4 _ _ _ (by omega)] at x1 x2 x3
  exact ⟨ad, e, ⟨x0, x1, x2, x3⟩, hx a (List.mem_of_getElem? hj)⟩
def GotT (w : World) (v : Value) (l : List It) : Prop := ∃ A c, v = .slice A l.length c ∧ l.length ≤ c ∧ RdT w A l
theorem GotT.nil (w : World) : GotT w (.slice none 0 0) [] := ⟨none, 0, rfl, Nat.le_refl _, fun j a h => by simp at h⟩
theorem GotT.of_R {w : World} {b : Nat} {ok : Nat → Prop} {v : Value} {l : List It} (h : Kd.R Kt 48 w b ok v l) (hx : ∀ a ∈ l, a.x < 18446744073709551616) : GotT w v l := by
  obtain ⟨A, c, e, hl, hr⟩ := Kd.R_reads h
  exact ⟨A, c, e, hl, RdT.of_C hr hx⟩
def takes (b : List Int) : Nat → List Int → Option (List It × Nat)
  | p, [] => some ([], p)
  | p, k :: ks => match item1 b p k with
    | none => none
    | some (a, q) => match takes b q ks with
      | none => none
      | some (l, r) => some (a :: l, r)
def kindsOk (ks : List Int) : Bool := ks.all (fun k => decide (1 ≤ k) && decide (k ≤ 5))
/-- what Take answers: items, how many bytes, why not -/
def takeR (b ks : List Int) : List It × Int × Int :=
  if kindsOk ks = true then (match takes b 0 ks with | none => ([], 0, 4) | some (l, r) => (l, (r : Int), 0)) else ([], 0, 1)
def TakePost (b ks : List Int) (w : World) (e : Ending) (w' : World) : Prop := ∃ v, e = .returned (.tuple #[v, .int .i64 (takeR b ks).2.1, .int .i64 (takeR b ks).2.2]) ∧ GotT w' v (takeR b ks).1 ∧ Below w.heap.size w w'
theorem item1_le {b : List Int} {p q : Nat} {k : Int} {a : It} (h : item1 b p k = some (a, q)) : q ≤ b.length := by
  unfold item1 at h
  split at h
  · split at h
    · rename_i h1; injection h with h; injection h with h2 h3; subst h3; exact h1.1
    · cases h
  · split at h
    · split at h
      · rename_i h1; injection h with h; injection h with h2 h3; subst h3; exact h1.2
      · cases h
    · split at h
      · rename_i h1; injection h with h; injection h with h2 h3; subst h3; exact h1.1
      · cases h
theorem item1_x {b : List Int} {p q : Nat} {k : Int} {a : It} (hb : Bytes b) (h : item1 b p k = some (a, q)) : a.x < 18446744073709551616 := by
  unfold item1 at h
  split at h
  · split at h
    · rename_i h1; injection h with h; injection h with h2 h3; subst h2
      have := num_bd ((hb.drop p).take 8)
      rw [show ((b.drop p).take 8).length = 8 by rw [List.length_take, List.length_drop]; omega, show (256 : Int) ^ 8 = 18446744073709551616 by decide] at this
      simp only
      omega
    · cases h
  · split at h
    · split at h
      · injection h with h; injection h with h2 h3; subst h2; simp
      · cases h
    · split at h
      · injection h with h; injection h with h2 h3; subst h2; simp
      · cases h
/-- the items so far, and what is yet to come -/
def Took (b ks : List Int) (i : Nat) (l : List It) (p : Nat) : Prop := l.length = i ∧ (∀ a ∈ l, a.x < 18446744073709551616) ∧ p ≤ b.length ∧ takes b 0 ks = (match takes b p (ks.drop i) with | none => none | some (m, r) => some (l ++ m, r))
theorem Took.first (b ks : List Int) : Took b ks 0 [] 0 := by
  refine ⟨rfl, (fun a h => by cases h), Nat.zero_le _, ?_⟩
  rw [List.drop_zero]
  cases takes b 0 ks with
  | none => rfl
  | some x => rfl
theorem drop_cons {ks : List Int} {i : Nat} {k : Int} (h : ks[i]? = some k) : ks.drop i = k :: ks.drop (i + 1) := by
  obtain ⟨h1, h2⟩ := List.getElem?_eq_some_iff.1 h
  rw [List.drop_eq_getElem_cons h1, h2]
theorem Took.step {b ks : List Int} {i : Nat} {l : List It} {p q : Nat} {k : Int} {a : It} (hb : Bytes b) (h : Took b ks i l p) (hk : ks[i]? = some k) (hi : item1 b p k = some (a, q)) : Took b ks (i + 1) (l ++ [a]) q := by
  obtain ⟨h1, h2, h3, h4⟩ := h
  refine ⟨by rw [List.length_append, h1]; rfl, ?_, item1_le hi, ?_⟩
  · intro y hy
    rcases List.mem_append.1 hy with h | h
    · exact h2 y h
    · rw [List.mem_singleton.1 h]; exact item1_x hb hi
  · rw [h4, drop_cons hk]
    simp only [takes, hi]
    cases takes b q (ks.drop (i + 1)) with
    | none => rfl
    | some x => simp
theorem Took.stop {b ks : List Int} {i : Nat} {l : List It} {p : Nat} {k : Int} (h : Took b ks i l p) (hk : ks[i]? = some k) (hi : item1 b p k = none) : takes b 0 ks = none := by
  rw [h.2.2.2, drop_cons hk]
  simp only [takes, hi]
theorem Took.last {b ks : List Int} {l : List It} {p : Nat} (h : Took b ks ks.length l p) : takes b 0 ks = some (l, p) := by
  rw [h.2.2.2, List.drop_length]
  simp [takes]
/-- the three results' variables -/
structure RS (w : World) (h : Nat) (v4 : Value) (v5 v6 : Int) : Prop where
  c4 : w.cell? ⟨h, 0, none⟩ = some v4
  c5 : w.cell? ⟨h + 1, 0, none⟩ = some (.int .i64 v5)
  c6 : w.cell? ⟨h + 2, 0, none⟩ = some (.int .i64 v6)
  f4 : w.frozen? ⟨h, 0, none⟩ = false
  f5 : w.frozen? ⟨h + 1, 0, none⟩ = false
  f6 : w.frozen? ⟨h + 2, 0, none⟩ = false
theorem RS.below {w w' : World} {h : Nat} {v4 : Value} {v5 v6 : Int} (r : RS w h v4 v5 v6) (hb : Below w.heap.size w w') : RS w' h v4 v5 v6 where
  c4 := (hb.cell (World.block_lt_of_cell? w _ r.c4)).trans r.c4
  c5 := (hb.cell (World.block_lt_of_cell? w _ r.c5)).trans r.c5
  c6 := (hb.cell (World.block_lt_of_cell? w _ r.c6)).trans r.c6
  f4 := (hb.frozen (World.block_lt_of_cell? w _ r.c4)).trans r.f4
  f5 := (hb.frozen (World.block_lt_of_cell? w _ r.c5)).trans r.f5
  f6 := (hb.frozen (World.block_lt_of_cell? w _ r.c6)).trans r.f6
theorem nb {a b i j : Nat} (h : a ≠ b) : (⟨a, i, none⟩ : Addr) ≠ ⟨b, j, none⟩ := by intro e; injection e with e; exact h e
theorem RS.grown {w w' : World} {h g : Nat} {v4 : Value} {v5 v6 : Int} (r : RS w h v4 v5 v6) (hg : w.grownBy w' (some g)) (hh : h + 2 < g ∨ g < h) : RS w' h v4 v5 v6 where
  c4 := hg.cell r.c4 (by intro e; injection e with e; simp only at e; omega)
  c5 := hg.cell r.c5 (by intro e; injection e with e; simp only at e; omega)
  c6 := hg.cell r.c6 (by intro e; injection e with e; simp only at e; omega)
  f4 := (hg.frozen_far ⟨h, 0, none⟩ (World.block_lt_of_cell? w _ r.c4) (by intro e; injection e with e; simp only at e; omega)).trans r.f4
  f5 := (hg.frozen_far ⟨h + 1, 0, none⟩ (World.block_lt_of_cell? w _ r.c5) (by intro e; injection e with e; simp only at e; omega)).trans r.f5
  f6 := (hg.frozen_far ⟨h + 2, 0, none⟩ (World.block_lt_of_cell? w _ r.c6) (by intro e; injection e with e; simp only at e; omega)).trans r.f6
theorem RS.s4 {w : World} {h : Nat} {v4 : Value} {v5 v6 : Int} (r : RS w h v4 v5 v6) (v : Value) : RS (w.setCell ⟨h, 0, none⟩ v) h v v5 v6 where
  c4 := World.cell?_setCell_same _ _ _ r.c4
  c5 := (World.cell?_setCell_other _ _ _ _ (nb (by omega))).trans r.c5
  c6 := (World.cell?_setCell_other _ _ _ _ (nb (by omega))).trans r.c6
  f4 := by rw [World.frozen?_setCell]; exact r.f4
  f5 := by rw [World.frozen?_setCell]; exact r.f5
  f6 := by rw [World.frozen?_setCell]; exact r.f6
theorem RS.s5 {w : World} {h : Nat} {v4 : Value} {v5 v6 : Int} (r : RS w h v4 v5 v6) (v : Int) : RS (w.setCell ⟨h + 1, 0, none⟩ (.int .i64 v)) h v4 v v6 where
  c5 := World.cell?_setCell_same _ _ _ r.c5
  c4 := (World.cell?_setCell_other _ _ _ _ (nb (by omega))).trans r.c4
  c6 := (World.cell?_setCell_other _ _ _ _ (nb (by omega))).trans r.c6
  f4 := by rw [World.frozen?_setCell]; exact r.f4
  f5 := by rw [World.frozen?_setCell]; exact r.f5
  f6 := by rw [World.frozen?_setCell]; exact r.f6
theorem RS.s6 {w : World} {h : Nat} {v4 : Value} {v5 v6 : Int} (r : RS w h v4 v5 v6) (v : Int) : RS (w.setCell ⟨h + 2, 0, none⟩ (.int .i64 v)) h v4 v5 v where
  c6 := World.cell?_setCell_same _ _ _ r.c6
  c4 := (World.cell?_setCell_other _ _ _ _ (nb (by omega))).trans r.c4
  c5 := (World.cell?_setCell_other _ _ _ _ (nb (by omega))).trans r.c5
  f4 := by rw [World.frozen?_setCell]; exact r.f4
  f5 := by rw [World.frozen?_setCell]; exact r.f5
  f6 := by rw [World.frozen?_setCell]; exact r.f6
abbrev rw3 (w : World) : World := ((w.alloc (.cells #[.slice none 0 0] 50)).alloc (.cells #[.int .i64 0] 3)).alloc (.cells #[.int .i64 0] 53)
theorem sz_alloc (w : World) (o : Obj) : (w.alloc o).heap.size = w.heap.size + 1 := by show (w.heap.push _).size = _; simp
theorem RS.first (w : World) : RS (rw3 w) w.heap.size (.slice none 0 0) 0 0 := by
  constructor
  · rw [World.cell?_alloc_lt _ _ _ (by simp only [sz_alloc]; omega), World.cell?_alloc_lt _ _ _ (by simp only [sz_alloc]; omega)]; exact World.cell?_alloc_new _ _ _ _
  · rw [World.cell?_alloc_lt _ _ _ (by simp only [sz_alloc]; omega), show w.heap.size + 1 = (w.alloc (.cells #[.slice none 0 0] 50)).heap.size from (sz_alloc _ _).symm]; exact World.cell?_alloc_new _ _ _ _
  · rw [show w.heap.size + 2 = ((w.alloc (.cells #[.slice none 0 0] 50)).alloc (.cells #[.int .i64 0] 3)).heap.size by rw [sz_alloc, sz_alloc]]; exact World.cell?_alloc_new _ _ _ _
  · rw [World.frozen?_alloc_past _ _ _ (by simp only [sz_alloc]; omega), World.frozen?_alloc_past _ _ _ (by simp only [sz_alloc]; omega)]; exact frozen_new _ _ _ _
  · rw [World.frozen?_alloc_past _ _ _ (by simp only [sz_alloc]; omega), show w.heap.size + 1 = (w.alloc (.cells #[.slice none 0 0] 50)).heap.size from (sz_alloc _ _).symm]; exact frozen_new _ _ _ _
  · rw [show w.heap.size + 2 = ((w.alloc (.cells #[.slice none 0 0] 50)).alloc (.cells #[.int .i64 0] 3)).heap.size by rw [sz_alloc, sz_alloc]]; exact frozen_new _ _ _ _
theorem RS.belowB {w w' : World} {h N : Nat} {v4 : Value} {v5 v6 : Int} (r : RS w h v4 v5 v6) (hb : Below N w w') (hN : h + 2 < N) : RS w' h v4 v5 v6 where
  c4 := (hb.cell (by simp only; omega)).trans r.c4
  c5 := (hb.cell (by simp only; omega)).trans r.c5
  c6 := (hb.cell (by simp only; omega)).trans r.c6
  f4 := (hb.frozen (by simp only; omega)).trans r.f4
  f5 := (hb.frozen (by simp only; omega)).trans r.f5
  f6 := (hb.frozen (by simp only; omega)).trans r.f6
theorem RdB_belowB {w w' : World} {B : Option Addr} {b : List Int} {N : Nat} (h : RdB w B b) (hb : Below N w w') (hf : ∀ ad, B = some ad → 0 < b.length → ad.block < N) : RdB w' B b := by
  obtain ⟨h1, h2, h3⟩ := Kd.reads_of_C (d := (0 : Int)) h
  refine Kd.C_of_reads (h1 := fun _ => rfl) (d := (0 : Int)) ⟨h1, h2, fun hp => ?_⟩
  obtain ⟨ad, e, hc⟩ := h3 hp
  refine ⟨ad, e, fun j hj => (hb.cell ?_).trans (hc j hj)⟩
  rw [show (ad.add j).block = ad.block by unfold Addr.add; split <;> rfl]
  exact hf ad e hp
theorem TK.belowB {w w' : World} {g : Nat} {B : Option Addr} {c : Nat} {b : List Int} {p N : Nat} (t : TK w g B c b p) (hb : Below N w w') (hg : g < N) (hf : ∀ ad, B = some ad → 0 < b.length → ad.block < N) : TK w' g B c b p where
  c0 := (hb.cell (by simp only; omega)).trans t.c0
  c1 := (hb.cell (by simp only; omega)).trans t.c1
  fz := (hb.frozen (by simp only; omega)).trans t.fz
  rd := RdB_belowB t.rd hb hf
  far := t.far
  cap := t.cap
theorem TK.first {w : World} {B : Option Addr} {c : Nat} {b : List Int} (hr : RdB w B b) (hc : b.length ≤ c) : TK (w.alloc (.cells #[.slice B b.length c, .int .i64 0] 107)) w.heap.size B c b 0 where
  c0 := World.cell?_alloc_new _ _ _ _
  c1 := World.cell?_alloc_new _ _ _ _
  fz := frozen_new _ _ _ _
  rd := Kd.C_alloc hr _
  far := fun ad e hp => Nat.ne_of_lt (RdB.lt hr ad e hp)
  cap := hc
theorem below_grown' {N g : Nat} {w w1 w2 : World} (h : Below N w w1) (hg : w1.grownBy w2 (some g)) (h1 : N ≤ w1.heap.size) (h2 : N ≤ g) : Below N w w2 :=
  h.trans ⟨hg.os, hg.tape, hg.output, hg.size, fun k hk => hg.block k (by omega) (by intro e; injection e with e; omega)⟩
theorem goesP_ {P : Program} {ops : Array Oper} {Q : Exit → Act → World → Prop} {oi : Oper} {N : Option Tmp} {a : Act} {w : World} {K : Act → World → Prop} {f : FuncId} {fn : Func} {asx : Array Operand} {ts : Array TypeId} (hf : P.funcs[f]? = some fn) (hname : (fn.name == "runtime.NumGoroutine") = false) (hb : fn.body.isSome = true) (args : Array Value)
    (hw : Region.wanted oi (yielded ops a.tmps) = true) (hN : oi.dst = N) (hop : oi.op = .call { callee := .value (.func f), args := asx, argTypes := ts }) (hargs : asx.map a.eval = args)
    (h : Calls P f args w fun e w' => (∃ v, e = .returned v ∧ K (a.put N v) w') ∨ (∃ ch, e = .panicked ch ∧ Q (.panic ch) a w')) : if Region.wanted oi (yielded ops a.tmps) = true then Oper.wp P oi a w K Q else K (a.put N undef) w := by
  have he := enters_ hf hname hb args w
  have hrun : (execOp a.eval oi).run P w = .ok (.enter f args) w := by
    unfold execOp
    simp [hop, resolve, Deferred.ofValue, invoke, Act.eval, hargs, he]
  rw [if_pos hw]
  subst hN
  unfold Oper.wp
  rw [hrun, Oper.upon_enter]
  refine h.mono fun e w'' hh => ?_
  rcases hh with ⟨v, rfl, hk⟩ | ⟨ch, rfl, hk⟩
  · exact hk
  · exact hk
abbrev dfr (h : Nat) : List Deferred := [{ target := Target.fn (Fn.func 62) #[.pointer (some ⟨h, 0, none⟩), .pointer (some ⟨h + 1, 0, none⟩), .pointer (some ⟨h + 2, 0, none⟩)], args := #[] }]
theorem take_results {w : World} {h : Nat} {A : Option Addr} {n c : Nat} {v5 v6 : Int} (r : RS w h (.slice A n c) v5 v6) (tmps : Array Value) (h4 : tmps[4]? = some (.pointer (some ⟨h, 0, none⟩))) (h5 : tmps[5]? = some (.pointer (some ⟨h + 1, 0, none⟩))) (h6 : tmps[6]? = some (.pointer (some ⟨h + 2, 0, none⟩))) : (results Try.f33 tmps).run Try.prog w = .ok (.tuple #[.slice A n c, .int .i64 v5, .int .i64 v6]) w := by
  have e4 : tmps.getD 4 undef = .pointer (some ⟨h, 0, none⟩) := by simp [Array.getD_eq_getD_getElem?, h4]
  have e5 : tmps.getD 5 undef = .pointer (some ⟨h + 1, 0, none⟩) := by simp [Array.getD_eq_getD_getElem?, h5]
  have e6 : tmps.getD 6 undef = .pointer (some ⟨h + 2, 0, none⟩) := by simp [Array.getD_eq_getD_getElem?, h6]
  simp [results, Try.results33, go_sem, h4, h5, h6, e4, e5, e6, r.c4, r.c5, r.c6]
theorem take_panics {b ks : List Int} {w w3 : World} {A : Option Addr} {n c : Nat} {v5 v6 : Int} {x : Int} (act : Act) (hd : act.defers = dfr w.heap.size) (h4 : act.tmps[4]? = some (.pointer (some ⟨w.heap.size, 0, none⟩))) (h5 : act.tmps[5]? = some (.pointer (some ⟨w.heap.size + 1, 0, none⟩))) (h6 : act.tmps[6]? = some (.pointer (some ⟨w.heap.size + 2, 0, none⟩)))
    (r : RS w3 w.heap.size (.slice A n c) v5 v6) (hB : Below w.heap.size w w3) (hres : takeR b ks = ([], 0, 4)) : bodyPostD Try.prog Try.f33 (fun e w' => TakePost b ks w e w') (.panic [{ v := .iface 103 (.agg #[.int .i64 x]), recovered := false }]) act w3 := by
  show Leaves _ _ _ _ _ _ _
  rw [hd]
  refine leaves_cons (f := 62) (args := #[.pointer (some ⟨w.heap.size, 0, none⟩), .pointer (some ⟨w.heap.size + 1, 0, none⟩), .pointer (some ⟨w.heap.size + 2, 0, none⟩)]) (by simp) (by simp [go_sem]) ?_
  refine (tk_catch w.heap.size x [] w3 _ _ _ r.c4 r.c5 r.c6 r.f4 r.f5 r.f6).mono ?_
  rintro e u' w'' ⟨rfl, rfl, rfl⟩
  have r5 : RS (caught w3 w.heap.size x) w.heap.size (.slice none 0 0) 0 4 := (((r.below (below_alloc (Below.refl _ _) _)).s4 _).s5 _).s6 _
  have hb5 : Below w.heap.size w (caught w3 w.heap.size x) := (((below_alloc hB _).setCell (p := ⟨w.heap.size, 0, none⟩) (Nat.le_refl _) _).setCell (p := ⟨w.heap.size + 1, 0, none⟩) (Nat.le_succ _) _).setCell (p := ⟨w.heap.size + 2, 0, none⟩) (by simp only; omega) _
  simp only [settle]
  refine ⟨_, take_results r5 _ h4 h5 h6, .slice none 0 0, ?_, ?_, hb5⟩
  · rw [hres]
  · rw [hres]; exact GotT.nil _
theorem take_returns {b ks : List Int} {w w3 : World} {l : List It} {A : Option Addr} {c : Nat} {v5 v6 : Int} (act : Act) (hd : act.defers = dfr w.heap.size) (h4 : act.tmps[4]? = some (.pointer (some ⟨w.heap.size, 0, none⟩))) (h5 : act.tmps[5]? = some (.pointer (some ⟨w.heap.size + 1, 0, none⟩))) (h6 : act.tmps[6]? = some (.pointer (some ⟨w.heap.size + 2, 0, none⟩)))
    (r : RS w3 w.heap.size (.slice A l.length c) v5 v6) (hB : Below w.heap.size w w3) (hG : RdT w3 A l) (hl : l.length ≤ c) (hres : takeR b ks = (l, v5, v6)) : bodyPostD Try.prog Try.f33 (fun e w' => TakePost b ks w e w') .ret act w3 := by
  show Leaves _ _ _ _ _ _ _
  rw [hd]
  refine leaves_cons (f := 62) (args := #[.pointer (some ⟨w.heap.size, 0, none⟩), .pointer (some ⟨w.heap.size + 1, 0, none⟩), .pointer (some ⟨w.heap.size + 2, 0, none⟩)]) (by simp) (by simp [go_sem]) ?_
  refine (tk_idle ⟨w.heap.size, 0, none⟩ ⟨w.heap.size + 1, 0, none⟩ ⟨w.heap.size + 2, 0, none⟩ w3).mono ?_
  rintro e u' w'' ⟨rfl, rfl, hb⟩
  simp only [settle]
  refine ⟨_, take_results (r.below hb) _ h4 h5 h6, .slice A l.length c, ?_, ?_, below_step hB hb⟩
  · rw [hres]
  · rw [hres]; exact ⟨A, c, rfl, hl, hG.below hb⟩
theorem leaves_tmps {P : Program} {fn : Func} {R : Ending → World → Prop} {t t' : Array Value} (ht : ∀ w, (results fn t).run P w = (results fn t').run P w) : ∀ (ds : List Deferred) (u : FrameMode) (w : World), Leaves P fn t R ds u w → Leaves P fn t' R ds u w := by
  intro ds
  induction ds with
  | nil =>
    intro u w h
    cases u with
    | returning =>
      obtain ⟨v, h1, h2⟩ := h
      exact ⟨v, (ht w) ▸ h1, h2⟩
    | panicking chain => exact h
    | run => exact h
  | cons d ds ih =>
    intro u w h
    obtain ⟨hu, fv, cap, f, args, h1, h2, h3⟩ := h
    refine ⟨hu, fv, cap, f, args, h1, h2, h3.mono ?_⟩
    intro e u' w' hh
    cases e with
    | returned v => exact ih _ _ hh
    | panicked chain => exact ih _ _ hh
    | outgrown => exact hh
theorem take_put {R : Ending → World → Prop} {d : Tmp} (hd : d ≠ 4 ∧ d ≠ 5 ∧ d ≠ 6) {v : Value} {ch : List PanicEntry} {a : Act} {w : World} (h : bodyPostD Try.prog Try.f33 R (.panic ch) (a.put (some d) v) w) : bodyPostD Try.prog Try.f33 R (.panic ch) a w := by
  refine leaves_tmps (t := (a.put (some d) v).tmps) (t' := a.tmps) (fun w => ?_) _ _ _ h
  have e : ∀ j, j ≠ d → (a.put (some d) v).tmps.getD j undef = a.tmps.getD j undef := by
    intro j hj
    simp [Act.put, Array.getD_eq_getD_getElem?, Array.getElem?_setIfInBounds, Ne.symm hj]
  have e2 : ∀ j : Nat, j ≠ d → (a.tmps.setIfInBounds d v)[j]? = a.tmps[j]? := by
    intro j hj
    rw [Array.getElem?_setIfInBounds, if_neg (Ne.symm hj)]
  simp [results, Try.results33, go_sem, e 4 (Ne.symm hd.1), e 5 (Ne.symm hd.2.1), e 6 (Ne.symm hd.2.2), e2 4 (Ne.symm hd.1), e2 5 (Ne.symm hd.2.1), e2 6 (Ne.symm hd.2.2)]
def Take12.T : Bool × List (List Nat × List Nat) := (true, [([], []), ([], []), ([], []), ([1, 2], [1, 2]), ([3], [3]), ([0, 4, 3], [0, 4]), ([5, 5, 0, 1, 2, 3, 4, 5], [5])])
def Take12.B : List Nat := [0, 0, 0, 6, 14, 31, 63]
theorem Take12.tab : rtab .any (opsOf Try.f33 12) = Take12.T := by kernel_rfl
theorem Take12.bits : waitsOk Take12.T.2 Take12.B = true := by kernel_rfl
def Take14.T : Bool × List (List Nat × List Nat) := (true, [([], []), ([], []), ([1], [1]), ([2], [2]), ([3], [3]), ([0, 0], [0]), ([4, 5, 0, 1, 2, 3, 4, 5], [4]), ([6, 0, 1, 2, 3, 4, 5, 6], [])])
def Take14.B : List Nat := [0, 0, 2, 6, 14, 1, 63, 127]
theorem Take14.tab : rtab .any (opsOf Try.f33 14) = Take14.T := by kernel_rfl
theorem Take14.bits : waitsOk Take14.T.2 Take14.B = true := by kernel_rfl
set_option maxRecDepth 100000 in
set_option maxHeartbeats 2000000 in
theorem Take_any (B : Option Addr) (c : Nat) (b : List Int) (K : Option Addr) (d : Nat) (ks : List Int) (w : World) (hr : RdB w B b) (hby : Bytes b) (hb : b.length ≤ 1000000) (hc : b.length ≤ c) (hk : Kd.C (Kd.int .i64) w K ks.length ks) (hkl : ks.length ≤ 1000000) :
    Calls Try.prog 33 #[.slice B b.length c, .slice K ks.length d] w fun e w' => TakePost b ks w e w' := by
  have hmf : ∀ (fn : Fn) (first cap : Array Value) (w : World), (Instr.makeFunc fn first cap).run Try.prog w = .ok (.func fn first cap) w := fun _ _ _ _ => rfl
  have HR := Lib.hid hr
  have HK := Lib.hid hk
  have HBy := Lib.hid hby
  clear hr hk hby
  go_enter_defers Try.func33, Try.ntmps33
  go_wp2
  rw [show w.heap.size + 1 + 1 = w.heap.size + 2 from rfl]
  have HS := Lib.hid (RS.first w)
  have HB : Hid (Below w.heap.size w (rw3 w)) := Lib.hid (below_alloc (below_alloc (below_alloc (Below.refl _ _) _) _) _)
  have hsz0 : (rw3 w).heap.size = w.heap.size + 3 := by simp only [rw3, sz_alloc]
  have HSZ0 := Lib.hid hsz0
  clear hsz0
  generalize hw0 : rw3 w = w0 at HS HB HSZ0
  simp only [rw3] at hw0
  rw [hw0]
  clear hw0
  go_loopg [8, 14] ks.length (fun kk v8 v14 wq => ∃ i : Nat, i ≤ ks.length ∧ kk = ks.length - i ∧ v14 = .int .i64 (i : Int) ∧ Hid (∀ (j : Nat) (x : Int), j < i → ks[j]? = some x → 1 ≤ x ∧ x ≤ 5) ∧ wq = w0)
  case atStart => exact ⟨0, Nat.zero_le _, rfl, rfl, Lib.hid (fun j x h => absurd h (Nat.not_lt_zero _)), rfl⟩
  case round =>
    obtain ⟨i, hi, rfl, rfl, HO, rfl⟩ := hrel
    have i0 : (0 : Int) ≤ (i : Int) := Int.natCast_nonneg _
    by_cases hlt : i < ks.length
    · have hd : decide (i < ks.length) = true := decide_eq_true hlt
      have i1 : (i : Int) < (ks.length : Int) := by omega
      obtain ⟨k, hk⟩ : ∃ k, ks[i]? = some k := ⟨_, List.getElem?_eq_getElem hlt⟩
      obtain ⟨ad, rfl, y⟩ := Dsg.RdI_at' (Kd.C_below HK.out HB.out) hk
      have HKI := Lib.hid hk
      by_cases hok : 1 ≤ k ∧ k ≤ 5
      · have e1 : decide (k < 1) = false := decide_eq_false (by omega)
        have e2 : decide ((5 : Int) < k) = false := decide_eq_false (by omega)
        clear hk
        go_wp2
        go_roundg (ks.length - (i + 1))
        case measure => omega
        case rel =>
          refine ⟨i + 1, by omega, rfl, by go_num, Lib.hid (fun j x hj hx => ?_), rfl⟩
          by_cases e : j = i
          · rw [e, HKI.out] at hx
            injection hx with hx
            rw [← hx]
            exact hok
          · exact HO.out j x (by omega) hx
      · have hbad : Hid (takeR b ks = ([], 0, 1)) := Lib.hid (by
          unfold takeR kindsOk
          rw [if_neg]
          rw [List.all_eq_true]
          intro h
          have := h k (List.mem_of_getElem? hk)
          simp at this
          omega)
        have hcs : decide (k < 1) = true ∨ (decide (k < 1) = false ∧ decide ((5 : Int) < k) = true) := by
          by_cases h : k < 1
          · exact .inl (decide_eq_true h)
          · exact .inr ⟨decide_eq_false h, decide_eq_true (by omega)⟩
        obtain ⟨c4, c5, c6, f4, f5, f6⟩ := HS.out
        clear hk hok
        have HS2 := Lib.hid (((HS.out.s4 (.slice none 0 0)).s5 0).s6 1)
        have HB2 := Lib.hid (((HB.out.setCell (p := ⟨w.heap.size, 0, none⟩) (Nat.le_refl _) (.slice none 0 0)).setCell (p := ⟨w.heap.size + 1, 0, none⟩) (Nat.le_succ _) (.int .i64 0)).setCell (p := ⟨w.heap.size + 2, 0, none⟩) (by simp only; omega) (.int .i64 1))
        rcases hcs with e1 | ⟨e1, e2⟩
        all_goals go_wp2
        all_goals generalize ((wr.setCell _ _).setCell _ _).setCell _ _ = w5 at HS2 HB2 ⊢
        all_goals refine ⟨_, take_results HS2.out _ rfl rfl rfl, .slice none 0 0, ?_, ?_, HB2.out⟩
        all_goals rw [hbad.out]
        all_goals exact GotT.nil _
    · have hd : decide (i < ks.length) = false := decide_eq_false hlt
      obtain rfl : i = ks.length := by omega
      clear hlt hd i0
      have HRB := Lib.hid (RdB_belowB HR.out HB.out (RdB.lt HR.out))
      have HTK := Lib.hid (TK.first HRB.out hc)
      have HFAR := Lib.hid (RdB.lt HR.out)
      have HS1 := Lib.hid (HS.out.below (below_alloc (Below.refl _ _) (.cells #[.slice B b.length c, .int .i64 0] 107)))
      have HB1 : Hid (Below w.heap.size w (wr.alloc (.cells #[.slice B b.length c, .int .i64 0] 107))) := Lib.hid (below_alloc HB.out _)
      have HSZ1 := Lib.hid (sz_alloc wr (.cells #[.slice B b.length c, .int .i64 0] 107))
      go_wp2
      have hsz1 := HSZ1.out
      clear HSZ1
      generalize wr.alloc (.cells #[.slice B b.length c, .int .i64 0] 107) = w1 at HTK HS1 HB1 hsz1 ⊢
      have hg3 : w.heap.size + 3 ≤ wr.heap.size := by have := HSZ0.out; omega
      clear HSZ0
      generalize wr.heap.size = g at *
      have hsz1' : g + 1 ≤ w1.heap.size := by omega
      clear hsz1
      have HROW : Hid (Kd.R Kt 48 w1 (g + 1) (fun _ => True) (.slice none 0 0) []) := Lib.hid (Kd.R_nil _ _ _ _ _)
      have HKO : Hid (kindsOk ks = true) := Lib.hid (by
        unfold kindsOk
        rw [List.all_eq_true]
        intro x hx
        obtain ⟨j, hj⟩ := List.mem_iff_getElem?.1 hx
        have := HO.out j x (List.getElem?_eq_some_iff.1 hj).1 hj
        simp
        omega)
      have HSZ : Hid (g + 1 ≤ w1.heap.size) := Lib.hid hsz1'
      clear HS HB HRB
      have HKW := Lib.hid (Kd.C_below HK.out HB1.out)
      go_loopg [11, 31] ks.length (fun kk v11 v31 wq => ∃ (i : Nat) (vl : Value) (l : List It) (p : Nat), i ≤ ks.length ∧ kk = ks.length - i ∧ v31 = .int .i64 (i : Int) ∧ Hid (Took b ks i l p) ∧ Hid (RS wq w.heap.size vl 0 0) ∧ Hid (TK wq g B c b p) ∧ Hid (Kd.R Kt 48 wq (g + 1) (fun _ => True) vl l) ∧ Hid (Below w.heap.size w wq) ∧ Hid (g + 1 ≤ wq.heap.size))
      case atStart => exact ⟨0, _, [], 0, Nat.zero_le _, rfl, rfl, Lib.hid (Took.first b ks), HS1, HTK, HROW, HB1, HSZ⟩
      case round =>
        clear HS1 HTK HROW HB1 HKW hsz1' HSZ
        obtain ⟨i, vl, l, p, hi, rfl, rfl, HTO, HS, HT, HROW, HB, HSZ⟩ := hrel
        have i0 : (0 : Int) ≤ (i : Int) := Int.natCast_nonneg _
        by_cases hlt : i < ks.length
        · have hd : decide (i < ks.length) = true := decide_eq_true hlt
          have i1 : (i : Int) < (ks.length : Int) := by omega
          obtain ⟨k, hk⟩ : ∃ k, ks[i]? = some k := ⟨_, List.getElem?_eq_getElem hlt⟩
          obtain ⟨ad, rfl, y⟩ := Dsg.RdI_at' (Kd.C_below HK.out HB.out) hk
          have hok := HO.out i k hlt hk
          have HKI := Lib.hid hk
          clear hk
          obtain ⟨A0, cl, rfl, hcl, _⟩ := Kd.R_reads HROW.out
          have HRB := Lib.hid (Kd.R_base HROW.out)
          have HLEN : Hid (l.length = i) := Lib.hid HTO.out.1
          have hpb := HTO.out.2.2.1
          have HPN : Hid (item1 b p k = none → takeR b ks = ([], 0, 4)) := Lib.hid (fun h => by
            unfold takeR
            rw [if_pos HKO.out, HTO.out.stop HKI.out h])
          go_wp2
          clear y
          have HBo := Lib.hid (below_drew1 (Below.refl wr.heap.size wr))
          have HSx : Hid (∀ wx, Below wr.heap.size wr wx → wx.cell? ⟨w.heap.size, 0, none⟩ = some (.slice A0 l.length cl)) := Lib.hid (fun wx h => (HS.out.below h).c4)
          refine start_ (n := 7) (S := fun wx => wx.cell? ⟨w.heap.size, 0, none⟩ = some (.slice A0 l.length cl)) (ds := [6]) #[false, false, false, false, false, false, false] (by kernel_rfl) rfl rfl (HSx.out _ HBo.out) (fun hHeld => ?_)
          refine with_tabW Take12.tab Take12.bits (fun HT_ HW_ => ?_)
          generalize wr.drew = wD at HBo hHeld ⊢
          refine take_ (i := 0) (N := (some 35)) (v := ?_) (a' := ?_) #[true, false, false, false, false, false, false] rfl rfl (take_ofW HT_.out HW_.out (by kernel_rfl)) (fun _ _ _ h => take_put (by decide) h) (Or.inl ⟨by rfl, ?_⟩) hHeld ?_ ?_
          rotate_left
          · rintro w' s0
            go_simp
            with_reducible rfl
          rotate_left
          · simp only [Act.put, List.setIfInBounds_toArray, List.set_cons_zero, List.set_cons_succ, i64_w, i32_w]
            rfl
          refine pure_ (i := 1) (N := (some 36)) (v := ?_) (a' := ?_) #[true, true, false, false, false, false, false] rfl rfl (any_of HT_.out (by kernel_rfl)) (fun _ _ _ h => take_put (by decide) h) (Or.inl ⟨by rfl, ?_⟩) ?_ ?_
          rotate_left
          · intro w'
            go_simp
            with_reducible rfl
          rotate_left
          · simp only [Act.put, List.setIfInBounds_toArray, List.set_cons_zero, List.set_cons_succ, i64_w, i32_w]
            rfl
          refine pure_ (i := 2) (N := (some 37)) (v := ?_) (a' := ?_) #[true, true, true, false, false, false, false] rfl rfl (any_of HT_.out (by kernel_rfl)) (fun _ _ _ h => take_put (by decide) h) (Or.inl ⟨by rfl, ?_⟩) ?_ ?_
          rotate_left
          · intro w'
            go_simp
            with_reducible rfl
          rotate_left
          · simp only [Act.put, List.setIfInBounds_toArray, List.set_cons_zero, List.set_cons_succ, i64_w, i32_w]
            rfl
          refine one_ (i := 3) (N := (some 38)) #[true, true, true, true, false, false, false] rfl rfl (one_of HT_.out (by kernel_rfl)) (by decide) (fun K hK => ?_)
          have HT1 := Lib.hid (HT.out.below HBo.out)
          have HS1 := Lib.hid (HS.out.below HBo.out)
          have HB1 := Lib.hid (below_step HB.out HBo.out)
          have HR1 := Lib.hid (Kd.R_below HROW.out HBo.out)
          have HZ1 := Lib.hid (Nat.le_trans HSZ.out (below_size HBo.out))
          refine goesP_ Try.func63 (by kernel_rfl) rfl #[.pointer (some ⟨g, 0, none⟩), .int .i64 k] (by rfl) rfl rfl (by (try simp only [List.map_toArray, List.map_cons, List.map_nil]); first | done | rfl) ?_
          refine (tk_item _ g B c b p k HT1.out HBy.out hb hpb hok).mono ?_
          rintro e w3 ⟨hg, hpost⟩
          have HS3 := Lib.hid (HS1.out.grown hg (by omega))
          have HB3 := Lib.hid (below_grown' HB1.out hg (by have := HZ1.out; omega) (by omega))
          have HR3 := Lib.hid (Kd.R_grown2 HR1.out rfl hg (fun k2 hk2 he => by injection hk2 with hk2; have := HRB.out k2 he.symm; omega))
          have HZ3 := Lib.hid (Nat.le_trans HZ1.out hg.size)
          clear hg
          rcases hpost with ⟨a, q, hi1, hT, rfl⟩ | ⟨hi1, pv, rfl⟩
          rotate_left
          exact .inr ⟨_, rfl, take_panics _ rfl rfl rfl rfl HS3.out HB3.out (HPN.out hi1)⟩
          refine .inl ⟨_, rfl, ?_⟩
          have HT3 := Lib.hid hT
          have HTO3 := Lib.hid (HTO.out.step HBy.out HKI.out hi1)
          clear hT hi1
          refine hK.out _ _ (HS3.out.c4) (fun hHeld => ?_)
          clear hK K
          refine norm_ (a' := ?_) ?_ ?_
          rotate_left
          · show Act.put _ (some 38) _ = _
            simp only [Act.put, List.setIfInBounds_toArray, List.set_cons_zero, List.set_cons_succ, i64_w, i32_w]
            rfl
          refine one_ (i := 4) (N := (some 39)) #[true, true, true, true, true, false, false] rfl rfl (one_of HT_.out (by kernel_rfl)) (by decide) (fun K hK => ?_)
          refine value_ (w1 := ?_) (v := ?_) (by rfl) rfl ?_ ?_
          rotate_left 2
          · go_simp
            constructor
            · rfl
            · rfl
          refine hK.out _ _ ((HS3.out.below (below_alloc (Below.refl _ _) _)).c4) (fun hHeld => ?_)
          clear hK K
          refine norm_ (a' := ?_) ?_ ?_
          rotate_left
          · show Act.put _ (some 39) _ = _
            simp only [Act.put, List.setIfInBounds_toArray, List.set_cons_zero, List.set_cons_succ, i64_w, i32_w]
            rfl
          refine one_ (i := 5) (N := (some 40)) #[true, true, true, true, true, true, false] rfl rfl (one_of HT_.out (by kernel_rfl)) (by decide) (fun K hK => ?_)
          refine Kd.R_append_step Kt (w0 := w3) (g + 1) (by rfl) (.tmp 35) (.tmp 39) 50 48 (.agg #[.int .i64 0, .int .i64 0, .float .f64 0, .string ⟨#[]⟩]) 40 (by rfl) Try.underlying50 infoIt rfl (by decide) (by omega) (.slice A0 l.length cl) l a a.cs (fun _ => True) (fun _ => False) (by rfl) (by rfl) rfl (fun _ h => h.elim) (fun _ _ => trivial) HR3.out (Below.refl _ _) HZ3.out (by have := HLEN.out; omega) ?_
          intro v40 w40 ho hb4 hgr hat
          obtain ⟨A4, c4, rfl, hc4, _⟩ := Kd.R_reads ho
          have HO40 := Lib.hid ho
          have HS40 := Lib.hid (HS3.out.belowB hb4 (by omega))
          have HT40 := Lib.hid (HT3.out.belowB hb4 (by omega) (fun ad e h0 => by have := HFAR.out ad e h0; omega))
          have HB40 := Lib.hid (HB3.out.trans ⟨hb4.os, hb4.tape, hb4.output, hb4.size, fun k2 hk2 => hb4.block k2 (by omega)⟩)
          have HZ40 := Lib.hid (Nat.le_trans HZ3.out hb4.size)
          clear ho hb4 hgr hat
          refine hK.out _ _ (HS40.out.c4) (fun hHeld => ?_)
          clear hK K
          refine norm_ (a' := ?_) ?_ ?_
          rotate_left
          · show Act.put _ (some 40) _ = _
            simp only [Act.put, List.setIfInBounds_toArray, List.set_cons_zero, List.set_cons_succ, i64_w, i32_w]
            rfl
          refine last_ (i := 6) (N := none) #[true, true, true, true, true, true, true] rfl rfl (one_of HT_.out (by kernel_rfl)) (by decide) (fun K hK => ?_)
          have c40 := HS40.out.c4
          have f40 := HS40.out.f4
          refine skip_ (w1 := w40.setCell ⟨w.heap.size, 0, none⟩ (.slice A4 (l ++ [a]).length c4)) (by rfl) (by rfl) ?_ ?_
          (go_simp; try rfl)
          refine hK.out _ _ ?_
          clear hK K
          refine done_ (done_of HT_.out (by kernel_rfl)) ?_
          have HS5 := Lib.hid (HS40.out.s4 (.slice A4 (l ++ [a]).length c4))
          have HT5 := Lib.hid (HT40.out.other (h := w.heap.size) (by omega) (fun ad e h0 => Nat.ne_of_lt (HFAR.out ad e h0)) 0 (.slice A4 (l ++ [a]).length c4))
          have HR5 := Lib.hid (Kd.R_grown2 HO40.out rfl (grown_set w40 w.heap.size 0 (.slice A4 (l ++ [a]).length c4)) (fun k2 hk2 he => by injection hk2 with hk2; have := Kd.R_base HO40.out k2 he.symm; omega))
          have HB5 := Lib.hid (HB40.out.setCell (p := ⟨w.heap.size, 0, none⟩) (Nat.le_refl _) (.slice A4 (l ++ [a]).length c4))
          have HZ5 : Hid (g + 1 ≤ (w40.setCell ⟨w.heap.size, 0, none⟩ (.slice A4 (l ++ [a]).length c4)).heap.size) := Lib.hid (by rw [World.size_setCell]; exact HZ40.out)
          simp only [List.length_append, List.length_singleton] at HS5 HT5 HR5 HB5 HZ5
          go_wp2
          go_roundg (ks.length - (i + 1))
          case measure => omega
          case rel => exact ⟨i + 1, _, l ++ [a], q, by omega, rfl, by go_num, HTO3, HS5, HT5, HR5, HB5, HZ5⟩
        · have hd : decide (i < ks.length) = false := decide_eq_false hlt
          obtain rfl : i = ks.length := by omega
          obtain ⟨A0, cl, rfl, hcl, _⟩ := Kd.R_reads HROW.out
          have hres : Hid (takeR b ks = (l, (p : Int), 0)) := Lib.hid (by
            unfold takeR
            rw [if_pos HKO.out, HTO.out.last])
          go_wp2
          have HBo := Lib.hid (below_drew1 (Below.refl wr.heap.size wr))
          have HSx : Hid (∀ wx, Below wr.heap.size wr wx → wx.cell? ⟨w.heap.size, 0, none⟩ = some (.slice A0 l.length cl) ∧ wx.cell? ⟨g, 1, none⟩ = some (.int .i64 (p : Int))) := Lib.hid (fun wx h => ⟨(HS.out.below h).c4, (HT.out.below h).c1⟩)
          refine start_ (n := 8) (S := fun wx => wx.cell? ⟨w.heap.size, 0, none⟩ = some (.slice A0 l.length cl) ∧ wx.cell? ⟨g, 1, none⟩ = some (.int .i64 (p : Int))) (ds := [6, 7]) #[false, false, false, false, false, false, false, false] (by kernel_rfl) rfl rfl (HSx.out _ HBo.out) (fun hHeld => ?_)
          refine with_tabW Take14.tab Take14.bits (fun HT_ HW_ => ?_)
          generalize wr.drew = wD at HBo hHeld ⊢
          refine take_ (i := 0) (N := (some 42)) (v := ?_) (a' := ?_) #[true, false, false, false, false, false, false, false] rfl rfl (take_ofW HT_.out HW_.out (by kernel_rfl)) (fun _ _ _ h => take_put (by decide) h) (Or.inl ⟨by rfl, ?_⟩) hHeld ?_ ?_
          rotate_left
          · rintro w' ⟨s0, s1⟩
            go_simp
            with_reducible rfl
          rotate_left
          · simp only [Act.put, List.setIfInBounds_toArray, List.set_cons_zero, List.set_cons_succ, i64_w, i32_w]
            rfl
          refine pure_ (i := 1) (N := (some 43)) (v := ?_) (a' := ?_) #[true, true, false, false, false, false, false, false] rfl rfl (any_of HT_.out (by kernel_rfl)) (fun _ _ _ h => take_put (by decide) h) (Or.inl ⟨by rfl, ?_⟩) ?_ ?_
          rotate_left
          · intro w'
            go_simp
            with_reducible rfl
          rotate_left
          · simp only [Act.put, List.setIfInBounds_toArray, List.set_cons_zero, List.set_cons_succ, i64_w, i32_w]
            rfl
          refine pure_ (i := 2) (N := (some 44)) (v := ?_) (a' := ?_) #[true, true, true, false, false, false, false, false] rfl rfl (any_of HT_.out (by kernel_rfl)) (fun _ _ _ h => take_put (by decide) h) (Or.inl ⟨by rfl, ?_⟩) ?_ ?_
          rotate_left
          · intro w'
            go_simp
            with_reducible rfl
          rotate_left
          · simp only [Act.put, List.setIfInBounds_toArray, List.set_cons_zero, List.set_cons_succ, i64_w, i32_w]
            rfl
          refine pure_ (i := 3) (N := (some 45)) (v := ?_) (a' := ?_) #[true, true, true, true, false, false, false, false] rfl rfl (any_of HT_.out (by kernel_rfl)) (fun _ _ _ h => take_put (by decide) h) (Or.inl ⟨by rfl, ?_⟩) ?_ ?_
          rotate_left
          · intro w'
            go_simp
            with_reducible rfl
          rotate_left
          · simp only [Act.put, List.setIfInBounds_toArray, List.set_cons_zero, List.set_cons_succ, i64_w, i32_w]
            rfl
          refine take_ (i := 4) (N := (some 46)) (v := ?_) (a' := ?_) #[true, true, true, true, true, false, false, false] rfl rfl (take_ofW HT_.out HW_.out (by kernel_rfl)) (fun _ _ _ h => take_put (by decide) h) (Or.inl ⟨by rfl, ?_⟩) hHeld ?_ ?_
          rotate_left
          · rintro w' ⟨s0, s1⟩
            go_simp
            with_reducible rfl
          rotate_left
          · simp only [Act.put, List.setIfInBounds_toArray, List.set_cons_zero, List.set_cons_succ, i64_w, i32_w]
            rfl
          refine one_ (i := 5) (N := none) #[true, true, true, true, true, true, false, false] rfl rfl (one_of HT_.out (by kernel_rfl)) (by decide) (fun K hK => ?_)
          have HS1 := Lib.hid (HS.out.below HBo.out)
          have HB1 := Lib.hid (below_step HB.out HBo.out)
          have HR1 := Lib.hid (Kd.R_below HROW.out HBo.out)
          have c4 := HS1.out.c4
          have f4 := HS1.out.f4
          refine skip_ (w1 := wD.setCell ⟨w.heap.size, 0, none⟩ (.slice A0 l.length cl)) (by rfl) (by rfl) ?_ ?_
          (go_simp; try rfl)
          clear c4 f4
          have HS2 := Lib.hid (HS1.out.s4 (.slice A0 l.length cl))
          have HB2 := Lib.hid (HB1.out.setCell (p := ⟨w.heap.size, 0, none⟩) (Nat.le_refl _) (.slice A0 l.length cl))
          have HT2 := Lib.hid ((HT.out.below HBo.out).other (h := w.heap.size) (by omega) (fun ad e h0 => Nat.ne_of_lt (HFAR.out ad e h0)) 0 (.slice A0 l.length cl))
          have HR2 := Lib.hid (Kd.R_grown2 HR1.out rfl (grown_set wD w.heap.size 0 (.slice A0 l.length cl)) (fun k2 hk2 he => by injection hk2 with hk2; have := Kd.R_base HR1.out k2 he.symm; omega))
          generalize wD.setCell ⟨w.heap.size, 0, none⟩ (.slice A0 l.length cl) = wE at HS2 HB2 HR2 HT2 ⊢
          refine hK.out _ _ (⟨HS2.out.c4, HT2.out.c1⟩) (fun hHeld => ?_)
          clear hK K
          refine last_ (i := 6) (N := none) #[true, true, true, true, true, true, true, false] rfl rfl (one_of HT_.out (by kernel_rfl)) (by decide) (fun K hK => ?_)
          have c5 := HS2.out.c5
          have f5 := HS2.out.f5
          refine skip_ (w1 := wE.setCell ⟨w.heap.size + 1, 0, none⟩ (.int .i64 (p : Int))) (by rfl) (by rfl) ?_ ?_
          (go_simp; try rfl)
          clear c5 f5
          have HS3 := Lib.hid (HS2.out.s5 (p : Int))
          have HB3 := Lib.hid (HB2.out.setCell (p := ⟨w.heap.size + 1, 0, none⟩) (Nat.le_succ _) (.int .i64 (p : Int)))
          have HR3 := Lib.hid (Kd.R_grown2 HR2.out rfl (grown_set wE (w.heap.size + 1) 0 (.int .i64 (p : Int))) (fun k2 hk2 he => by injection hk2 with hk2; have := Kd.R_base HR2.out k2 he.symm; omega))
          generalize wE.setCell ⟨w.heap.size + 1, 0, none⟩ (.int .i64 (p : Int)) = wF at HS3 HB3 HR3 ⊢
          refine hK.out _ _ ?_
          clear hK K
          refine last_ (i := 7) (N := none) #[true, true, true, true, true, true, true, true] rfl rfl (one_of HT_.out (by kernel_rfl)) (by decide) (fun K hK => ?_)
          have c6 := HS3.out.c6
          have f6 := HS3.out.f6
          refine skip_ (w1 := wF.setCell ⟨w.heap.size + 2, 0, none⟩ (.int .i64 0)) (by rfl) (by rfl) ?_ ?_
          (go_simp; try rfl)
          clear c6 f6
          have HS4 := Lib.hid (HS3.out.s6 0)
          have HB4 := Lib.hid (HB3.out.setCell (p := ⟨w.heap.size + 2, 0, none⟩) (by simp only; omega) (.int .i64 0))
          have HR4 := Lib.hid (Kd.R_grown2 HR3.out rfl (grown_set wF (w.heap.size + 2) 0 (.int .i64 0)) (fun k2 hk2 he => by injection hk2 with hk2; have := Kd.R_base HR3.out k2 he.symm; omega))
          generalize wF.setCell ⟨w.heap.size + 2, 0, none⟩ (.int .i64 0) = wG at HS4 HB4 HR4 ⊢
          refine hK.out _ _ ?_
          clear hK K
          refine done_ (done_of HT_.out (by kernel_rfl)) ?_
          go_wp2
          obtain ⟨A', c', he, hl', hr'⟩ := Kd.R_reads HR4.out
          injection he with h1 h2 h3
          subst h1 h3
          exact take_returns _ rfl rfl rfl rfl HS4.out HB4.out (RdT.of_C hr' HTO.out.2.1) hl' hres.out
end Go.Proofs.Ytbmcbhpkefjhbaa.Pac
