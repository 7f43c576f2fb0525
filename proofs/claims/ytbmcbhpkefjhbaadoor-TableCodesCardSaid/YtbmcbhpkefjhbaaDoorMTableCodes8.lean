/- Put together by wip/prune.py out of this claim's texts. -/
import Derived.Test.YtbmcbhpkefjhbaaDoorMTableCodes1
import Derived.Test.YtbmcbhpkefjhbaaDoorMTableCodes2
import Derived.Test.YtbmcbhpkefjhbaaDoorMTableCodes3
import Derived.Test.YtbmcbhpkefjhbaaDoorMTableCodes4
import Derived.Test.YtbmcbhpkefjhbaaDoorMTableCodes5
import Derived.Test.YtbmcbhpkefjhbaaDoorMTableCodes6
import Derived.Test.YtbmcbhpkefjhbaaDoorMTableCodes7
namespace Go.Proofs.YtbmcbhpkefjhbaaDoorW.PrintWords
open Go.RowKit
section
variable {P : Program} {ops : Array Oper} {rest : List Oper} {o : Oper} {a : Act} {Q : Exit → Act → World → Prop} {W : World}
theorem gate_guard (hw : Region.wanted o (yielded ops a.tmps) = true) (h : wpList P ops Q ({ o with guard := none } :: rest) a W) : wpList P ops Q (o :: rest) a W := by
  have h1 : Region.wanted { o with guard := none } (yielded ops a.tmps) = true := rfl
  unfold wpList at h ⊢
  rw [if_pos h1] at h
  rw [if_pos hw]
  exact h
end
end Go.Proofs.YtbmcbhpkefjhbaaDoorW.PrintWords
namespace Go.Proofs.YtbmcbhpkefjhbaaDoorW.PrintWords
open Go.RowKit
theorem q1_ {α : Type} (l : List α) (i : Nat) (a : α) : l.toArray.setIfInBounds i a = (l.set i a).toArray := List.setIfInBounds_toArray ..
theorem q2_ {α : Type} (x : α) (l : List α) (a : α) : (x :: l).set 0 a = a :: l := List.set_cons_zero ..
theorem q3_ {α : Type} (x : α) (l : List α) (n : Nat) (a : α) : (x :: l).set (n + 1) a = x :: l.set n a := List.set_cons_succ ..
abbrev tt : Bool := true
abbrev ff : Bool := false
theorem run_store_float (P : Program) (w : World) (a : Addr) (m : Mode) (k : FloatKind) (n : Nat) : (store a (.float k n) m).run P w = stored P w a (.float k n) m := run_store P w a _ m rfl
namespace Kd
def f64 : Kd Nat := scalar (Value.float .f64) (fun _ => rfl)
section
variable {w W : World} {A : Option Addr} {n : Nat}
end
end Kd
end Go.Proofs.YtbmcbhpkefjhbaaDoorW.PrintWords
namespace Go.Proofs.YtbmcbhpkefjhbaaDoorW.PrintWords
open Go.RowKit
theorem nil_eq {P : Program} {t e : TypeId} (ht : P.underlying t = some (.slice e)) (A : Option Addr) (n c : Nat) (w : World) : (binOp BinOp.eql t (.slice A n c) (.slice none 0 0)).run P w = .ok (.bool A.isNone) w := by
  have h0 : ∀ d, (Op.equalIn (d + 1) t (.slice A n c) (.slice none 0 0)).run P w = .ok A.isNone w := by intro d; cases A <;> simp [Op.equalIn, run_underlying ht]
  have hh : (Op.equal t (.slice A n c) (.slice none 0 0)).run P w = .ok A.isNone w := h0 9999
  simp [binOp, go_sem, hh]
theorem C_nil_ {α : Type} {d : Kd α} {w : World} {n : Nat} {l : List α} (h : Kd.C d w none n l) : l = [] := by
  rcases Nat.eq_zero_or_pos n with h0 | hp
  · exact List.eq_nil_of_length_eq_zero (h.1.trans h0)
  · obtain ⟨ad, e, _⟩ := h.2.2 hp; cases e
theorem blkf_4_0_3 {w : World} {g : Nat} {t : TypeId} {v0 v1 v2 v3 u0 u1 u2 u3 : Value} (h : w.heap[g]? = some (.cells #[v0, v1, v2, v3] t (0, 0))) : ((((w.setCell ⟨g, 0, none⟩ u0).setCell ⟨g, 1, none⟩ u1).setCell ⟨g, 2, none⟩ u2).setCell ⟨g, 3, none⟩ u3).heap[g]? = some (.cells #[u0, u1, u2, u3] t (0, 0)) := (blk_put (cs' := #[u0, u1, u2, u3]) (blk_put (cs' := #[u0, u1, u2, v3]) (blk_put (cs' := #[u0, u1, v2, v3]) (blk_put (cs' := #[u0, v1, v2, v3]) h 0 u0 rfl) 1 u1 rfl) 2 u2 rfl) 3 u3 rfl)
theorem blkz_3 {w : World} {g : Nat} {t : TypeId} {cs : Array Value} (h : w.heap[g]? = some (.cells cs t (0, 0))) : w.frozen? ⟨g, 0, none⟩ = false ∧ w.frozen? ⟨g, 1, none⟩ = false ∧ w.frozen? ⟨g, 2, none⟩ = false := ⟨blk_frozen h 0, blk_frozen h 1, blk_frozen h 2⟩
theorem blkc_4 {w : World} {g : Nat} {t : TypeId} {v0 v1 v2 v3 : Value} (h : w.heap[g]? = some (.cells #[v0, v1, v2, v3] t (0, 0))) : w.cell? ⟨g, 0, none⟩ = some v0 ∧ w.cell? ⟨g, 1, none⟩ = some v1 ∧ w.cell? ⟨g, 2, none⟩ = some v2 ∧ w.cell? ⟨g, 3, none⟩ = some v3 := ⟨blk_cell h 0, blk_cell h 1, blk_cell h 2, blk_cell h 3⟩
theorem blkz_4 {w : World} {g : Nat} {t : TypeId} {cs : Array Value} (h : w.heap[g]? = some (.cells cs t (0, 0))) : w.frozen? ⟨g, 0, none⟩ = false ∧ w.frozen? ⟨g, 1, none⟩ = false ∧ w.frozen? ⟨g, 2, none⟩ = false ∧ w.frozen? ⟨g, 3, none⟩ = false := ⟨blk_frozen h 0, blk_frozen h 1, blk_frozen h 2, blk_frozen h 3⟩
end Go.Proofs.YtbmcbhpkefjhbaaDoorW.PrintWords
namespace Go.Proofs
open Go.RowKit YtbmcbhpkefjhbaaDoorW.PrintWords YtbmcbhpkefjhbaaDoorW.PrintLast YtbmcbhpkefjhbaaDoorW.PrintMore
theorem bd_ : type_of% @pw_below_drewN := @pw_below_drewN
theorem be_ : type_of% @below_drew1 := @below_drew1
theorem ba_ : type_of% @below_alloc := @below_alloc
theorem ka_ : type_of% @blk_alloc := @blk_alloc
theorem kd_ : type_of% @blk_drewN := @blk_drewN
theorem ke_ : type_of% @blk_drew := @blk_drew
theorem bs_ : type_of% @below_set := @below_set
theorem wb_ : type_of% @World.block_lt_of_cell? := @World.block_lt_of_cell?
theorem dt_ : type_of% @decide_eq_true := @decide_eq_true
theorem df_ : type_of% @decide_eq_false := @decide_eq_false
theorem od_ : type_of% @of_decide_eq_true := @of_decide_eq_true
theorem bc_ : type_of% @blk_cell := @blk_cell
theorem ra_ : type_of% @Kd.R_alloc := @Kd.R_alloc
theorem rn_ : type_of% @Kd.R_drewN := @Kd.R_drewN
theorem re_ : type_of% @Kd.R_drew := @Kd.R_drew
theorem bp_ : type_of% @below_step := @below_step
theorem ab_ : type_of% @add_block := @add_block
theorem bz_ : type_of% @below_size := @below_size
theorem rf_ : type_of% @Kd.R_far := @Kd.R_far
theorem bf_ : type_of% @blk_frozen := @blk_frozen
theorem bb_ : type_of% @blk_below := @blk_below
theorem A_ {p : Prop} (h : p) : Aside0 p := ⟨h⟩
abbrev Y : Bool := true
abbrev Z : Bool := false
theorem u1_ {α : Type} (l : List α) (i : Nat) (a : α) : l.toArray.setIfInBounds i a = (l.set i a).toArray := List.setIfInBounds_toArray l i a
theorem u2_ {α : Type} (x : α) (xs : List α) (a : α) : (x :: xs).set 0 a = a :: xs := rfl
theorem u3_ {α : Type} (x : α) (xs : List α) (n : Nat) (a : α) : (x :: xs).set (n + 1) a = x :: xs.set n a := rfl
theorem N0_ : ((0 : Int)).toNat = 0 := rfl
theorem N1_ : ((1 : Int)).toNat = 1 := rfl
theorem N2_ : ((2 : Int)).toNat = 2 := rfl
theorem N3_ : ((3 : Int)).toNat = 3 := rfl
theorem pu_ {P : Program} {ops : Array Oper} {Q : Exit → Act → World → Prop} {md : Region.Mode} {S : World → Prop} {ds : List Nat} {i : Nat} {N : Option Tmp} {oi : Oper} {v : Value} {fuel : Nat} {l : Array Bool} {a : Act} {w : World} {T : Bool × List (List Nat × List Nat)} (l' : Array Bool) (h1 : ops[i]? = some oi) (h2 : oi.dst = N) (ht : rtab md ops = T) (hb : anyT T l.toList l'.toList i = true) (hq : ∀ (c : List PanicEntry) (a : Act) (w : World), Q (Exit.panic c) (a.put oi.dst v) w → Q (Exit.panic c) a w) (hw : Region.wanted oi (yielded ops a.tmps) = true) (hr : ∀ (w : World), Sem.run P (execOp a.eval oi) w = Result.ok (Next.value v) w) {a' : Act} (ha : a.put N v = a') (hn : wpAnyLast P md ops Q S ds fuel l' a' w) : wpAnyLast P md ops Q S ds (fuel + 1) l a w := pure_ l' h1 h2 (any_of ht hb) hq (Or.inl ⟨hw, hr⟩) ha hn
theorem pv_ {P : Program} {ops : Array Oper} {Q : Exit → Act → World → Prop} {md : Region.Mode} {S : World → Prop} {ds : List Nat} {i : Nat} {N : Option Tmp} {oi : Oper} {fuel : Nat} {l : Array Bool} {a : Act} {w : World} {T : Bool × List (List Nat × List Nat)} (l' : Array Bool) (h1 : ops[i]? = some oi) (h2 : oi.dst = N) (ht : rtab md ops = T) (hb : anyT T l.toList l'.toList i = true) (hq : ∀ (c : List PanicEntry) (a : Act) (w : World), Q (Exit.panic c) (a.put oi.dst undef) w → Q (Exit.panic c) a w) (hw : Region.wanted oi (yielded ops a.tmps) = false) {a' : Act} (ha : a.put N undef = a') (hn : wpAnyLast P md ops Q S ds fuel l' a' w) : wpAnyLast P md ops Q S ds (fuel + 1) l a w := pure_ l' h1 h2 (any_of ht hb) hq (Or.inr ⟨hw, rfl⟩) ha hn
theorem ta_ {P : Program} {ops : Array Oper} {Q : Exit → Act → World → Prop} {md : Region.Mode} {S : World → Prop} {ds : List Nat} {i : Nat} {N : Option Tmp} {oi : Oper} {v : Value} {fuel : Nat} {l : Array Bool} {a : Act} {w : World} {T : Bool × List (List Nat × List Nat)} {B : List Nat} (l' : Array Bool) (h1 : ops[i]? = some oi) (h2 : oi.dst = N) (ht : rtab md ops = T) (hws : waitsOk T.2 B = true) (hb : takeW T B ds l.toList l'.toList i = true) (hq : ∀ (c : List PanicEntry) (a : Act) (w : World), Q (Exit.panic c) (a.put oi.dst v) w → Q (Exit.panic c) a w) (hw : Region.wanted oi (yielded ops a.tmps) = true) (hr : ∀ (w : World), S w → Sem.run P (execOp a.eval oi) w = Result.ok (Next.value v) w) (hs : S w) {a' : Act} (ha : a.put N v = a') (hn : wpAnyLast P md ops Q S ds fuel l' a' w) : wpAnyLast P md ops Q S ds (fuel + 1) l a w := take_ l' h1 h2 (take_ofW ht hws hb) hq (Or.inl ⟨hw, hr⟩) hs ha hn
theorem bx_ {w0 w w' : World} {g : Nat} {o : Obj} (h0 : w0.heap[g]? = some o) (h : w0.heap[g]? = some o → w.heap[g]? = some o) (hb : Below w.heap.size w w') : w'.heap[g]? = some o := blk_below (h h0) hb
theorem bl_ {w0 w : World} {g : Nat} {o : Obj} (h0 : w0.heap[g]? = some o) (h : w0.heap[g]? = some o → w.heap[g]? = some o) : g < w.heap.size := blk_lt (h h0)
theorem kk_ {P Q : Prop} (h : P) (t : P → Q := by intro h_; (with_reducible repeat (first | refine kd_ ?_ _ | refine ke_ ?_ | refine ka_ ?_ _)); exact h_) : Q := t h
theorem kf_ {P Q : Prop} (t : P → Q := by intro h_; (with_reducible repeat (first | refine kd_ ?_ _ | refine ke_ ?_ | refine ka_ ?_ _)); exact h_) : P → Q := t
theorem hb0_ {P Q : Prop} (h : P) (t : P → Q := by intro h_; repeat (first | (with_reducible first | exact h_ | apply ba_ | apply bd_ | apply be_) | exact h_)) : Q := t h
theorem hb1_ {P G0 Q : Prop} (h : P) (g0 : G0) (t : P → G0 → Q := by intro h_ g0_; repeat (first | (with_reducible first | exact h_ | apply ba_ | apply bd_ | apply be_ | refine bs_ ?_ g0_) | exact h_)) : Q := t h g0
theorem hb2_ {P G0 G1 Q : Prop} (h : P) (g0 : G0) (g1 : G1) (t : P → G0 → G1 → Q := by intro h_ g0_ g1_; repeat (first | (with_reducible first | exact h_ | apply ba_ | apply bd_ | apply be_ | refine bs_ ?_ g0_ | refine bs_ ?_ g1_) | exact h_)) : Q := t h g0 g1
theorem hb3_ {P G0 G1 G2 Q : Prop} (h : P) (g0 : G0) (g1 : G1) (g2 : G2) (t : P → G0 → G1 → G2 → Q := by intro h_ g0_ g1_ g2_; repeat (first | (with_reducible first | exact h_ | apply ba_ | apply bd_ | apply be_ | refine bs_ ?_ g0_ | refine bs_ ?_ g1_ | refine bs_ ?_ g2_) | exact h_)) : Q := t h g0 g1 g2
theorem hb4_ {P G0 G1 G2 G3 Q : Prop} (h : P) (g0 : G0) (g1 : G1) (g2 : G2) (g3 : G3) (t : P → G0 → G1 → G2 → G3 → Q := by intro h_ g0_ g1_ g2_ g3_; repeat (first | (with_reducible first | exact h_ | apply ba_ | apply bd_ | apply be_ | refine bs_ ?_ g0_ | refine bs_ ?_ g1_ | refine bs_ ?_ g2_ | refine bs_ ?_ g3_) | exact h_)) : Q := t h g0 g1 g2 g3
end Go.Proofs
