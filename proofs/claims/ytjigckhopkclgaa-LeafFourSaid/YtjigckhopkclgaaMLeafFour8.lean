/- by wip/prune.py -/
import Derived.Test.YtjigckhopkclgaaMLeafFour3
import Derived.Test.YtjigckhopkclgaaMLeafFour4
import Derived.Test.YtjigckhopkclgaaMLeafFour6
import Derived.Test.YtjigckhopkclgaaMLeafFour7
set_option linter.unusedSimpArgs false
set_option linter.unusedVariables false
namespace Go.Proofs.Ytjigckhopkclgaa.P
open Go.RowKit YtjigckhopkclgaaW.PrintWords YtjigckhopkclgaaW.PrintLast YtjigckhopkclgaaW.PrintMore
attribute [local go_sem] max2_int min2_int max_two min_two max_three min_three max_four min_four   -- for this text's walks alone
attribute [local go_sem] run_store_float
def leaf_need.l0 : Nat → Int → List (List Int) → Int → Int → Option (Int)
 | 0,_,_,_,_ => none
 | k + 1,x3,x7,x8,x9 => if x9 < x8 then (if 0 ≤ x9 then (if x9 < (x7.length : Int) then (leaf_need.l0 k (wrap64 (x3 + (wrap64 (1 + ((rd_L2 x7 x9).length : Int))))) x7 x8 (wrap64 (x9 + 1))) else (none)) else (none)) else (some x3)
def leaf_need.f (k : Nat) (l0_0 : List Int) (l0_1 : List (List Int)) : Option (Int):=leaf_need.l0 k 18 l0_1 (l0_1.length : Int) 0
theorem leaf_need.mono_l : ∀ k,(∀ y0 y1 y2 y3,LeO (leaf_need.l0 k y0 y1 y2 y3) (leaf_need.l0 (k + 1) y0 y1 y2 y3))
 | 0 => fun _ _ _ _ r h => by simp [leaf_need.l0] at h
 | k + 1 => by
  have ih0:=leaf_need.mono_l k
  ·intro y0 y1 y2 y3
   unfold leaf_need.l0
   repeat' first
   | (with_reducible exact ih0 _ _ _ _)
   | (with_reducible exact LeO.refl _)
   | (with_reducible exact LeO.none _)
   | (with_reducible refine LeO.ite ?_ ?_)
   | (with_reducible refine LeO.bind ?_ (fun _ => ?_))
   | exact ih0 _ _ _ _
   | exact LeO.none _
   | refine LeO.ite ?_ ?_
   | refine LeO.bind ?_ (fun _ => ?_)
theorem leaf_need.mono : ∀ a0 a1 k,LeO (leaf_need.f k a0 a1) (leaf_need.f (k + 1) a0 a1):=by
 intro a0 a1 k;have ih0:=leaf_need.mono_l k
 unfold leaf_need.f
 repeat' first
   | (with_reducible exact ih0 _ _ _ _)
   | (with_reducible exact LeO.refl _)
   | (with_reducible exact LeO.none _)
   | (with_reducible refine LeO.ite ?_ ?_)
   | (with_reducible refine LeO.bind ?_ (fun _ => ?_))
   | exact ih0 _ _ _ _
   | exact LeO.none _
   | refine LeO.ite ?_ ?_
   | refine LeO.bind ?_ (fun _ => ?_)
set_option maxHeartbeats 8000000 in
set_option maxRecDepth 100000 in
theorem leaf_need.calls (k : Nat) (A0_0 : Option Addr) (c0_0 : Nat) (l0_0 : List Int) (A0_1 : Option Addr) (c0_1 : Nat) (l0_1 : List (List Int)) (r : Int) (w : World) (hr0_0 : Kd.C (Kd.int .i64) w A0_0 l0_0.length l0_0) (hc0_0 : l0_0.length ≤ c0_0) (hr0_1 : Kd.C (Kd.slice 5 (Kd.int .u8)) w A0_1 l0_1.length l0_1) (hc0_1 : l0_1.length ≤ c0_1) (h : leaf_need.f k l0_0 l0_1 = some r) :
  Calls Try.prog 46 #[.agg #[.slice A0_0 l0_0.length c0_0,.slice A0_1 l0_1.length c0_1]] w fun e w' => e = .returned (.int .i64 r) ∧ Below w.heap.size w w':=by
 have hu27:=Try.underlying27;have HR0_0:=A_ hr0_0;have HC0_0:=A_ hc0_0;clear hr0_0 hc0_0;have HR0_1:=A_ hr0_1;have HC0_1:=A_ hc0_1;clear hr0_1 hc0_1;have HB:=A_ (Below.refl w.heap.size w);have H : (leaf_need.l0 k 18 l0_1 (l0_1.length : Int) 0) = some r:=h;clear h;have H':=A_ H;clear H;go_enter Try.func46,Try.ntmps46
 go_wp2_with (first | ((with_reducible refine gate_dst (N:=1) rfl ?_);refine box_event ?hg (N:=1) ?hd (cs:=#[.slice A0_0 l0_0.length c0_0,.slice A0_1 l0_1.length c0_1]) (t:=27) ?hr ?_;(case hd => rfl);(case hg => rfl);(case hr => first | (go_simp;done) | (go_simp;rfl));intro gb103 hg w2 hbox hb;have n0_:=A_ (bp_ (by repeat (first | (with_reducible first | exact HB.out | apply ba_ | apply bd_ | apply be_) | exact HB.out)) hb);have n1_:=A_ (hbox);have n2_:=A_ ((by rw [hg];exact (bz_ (by repeat (first | (with_reducible first | exact HB.out | apply ba_ | apply bd_ | apply be_) | exact HB.out))) : w.heap.size ≤ gb103));have n3_:=n2_;clear HB;have HB:=n0_;have BK103:=n1_;have GW103:=n2_;have GE103:=n3_;clear n0_ n1_ n2_ n3_;clear hb hbox hg;have z3_0 : w2.cell? ⟨gb103,0,none⟩ = some (.slice A0_0 l0_0.length c0_0):=(bc_ BK103.out 0).trans rfl;have z3_1 : w2.cell? ⟨gb103,1,none⟩ = some (.slice A0_1 l0_1.length c0_1):=(bc_ BK103.out 1).trans rfl;have y3_0:=bf_ BK103.out 0;have y3_1:=bf_ BK103.out 1))
 go_loopg [3,9] k (fun kq v3 v9 w' => ∃ (x3_1 : Int) (x9_1 : Int),v3 = .int .i64 x3_1 ∧ v9 = .int .i64 x9_1 ∧ Aside0 (leaf_need.l0 kq x3_1 l0_1 (l0_1.length : Int) x9_1 = some r) ∧ Aside0 (kq ≤ k) ∧ Aside0 (w'.heap[gb103]? = some (.cells #[(.slice A0_0 l0_0.length c0_0),(.slice A0_1 l0_1.length c0_1)] 27 (0,0))) ∧ Aside0 (Below w.heap.size w w'))
 case atStart => exact ⟨(18),(0),(by first | rfl | (simp;done) | (simp [*];done)),(by first | rfl | (simp;done) | (simp [*];done)),H',⟨Nat.le_refl _⟩,⟨by (with_reducible repeat (first | refine kd_ ?_ _ | refine ke_ ?_ | refine ka_ ?_ _));exact BK103.out⟩,⟨by repeat (first | (with_reducible first | exact HB.out | apply ba_ | apply bd_ | apply be_ | refine bs_ ?_ GE103.out) | exact HB.out)⟩⟩
 case round =>
  clear H';(try clear p2);(try clear z3_0 z3_1 y3_0 y3_1);obtain ⟨x3_1,x9_1,rfl,rfl,HA,HK1,BK103,HB⟩:=hrel
  cases gk with
  | zero => exact absurd HA.out (by simp [leaf_need.l0])
  | succ k1 =>
   have H:=HA.out;clear HA
   simp only [leaf_need.l0] at H
   by_cases c4 : x9_1 < (l0_1.length : Int)
   ·rw [if_pos c4] at H
    have c4b0 : decide (x9_1 < (l0_1.length : Int)) = true:=dt_ c4;clear c4
    by_cases c5 : 0 ≤ x9_1
    ·rw [if_pos c5] at H
     have c5b0 : decide (0 ≤ x9_1) = true:=dt_ c5;clear c5
     by_cases c6 : x9_1 < (l0_1.length : Int)
     ·rw [if_pos c6] at H
      have c6b0 : decide (x9_1 < (l0_1.length : Int)) = true:=dt_ c6;clear c6;have H':=A_ H;clear H
      have p104 : 0 ≤ (x9_1 : Int):=od_ (by first | (with_reducible assumption) | assumption)
      have q104 : x9_1 < (l0_1.length : Int):=od_ (by first | (with_reducible assumption) | assumption)
      obtain ⟨ad104,A104_0,c104_0,e104,hx104_0,hl104_0,hi104_0⟩:=at_L2 HR0_1.out x9_1 p104 q104
      cases e104
      replace hx104_0:=(HB.out.cell (wb_ w _ hx104_0)).trans hx104_0;have HR104_0:=A_ hi104_0;have HC104_0:=A_ hl104_0;clear hi104_0 hl104_0;replace p104:=eq_true p104;replace q104:=eq_true q104;go_wp2;go_roundg k1
      case measure => have:=HK1.out;omega
      case rel => exact ⟨(wrap64 (x3_1 + (wrap64 (1 + ((rd_L2 l0_1 x9_1).length : Int))))),(wrap64 (x9_1 + 1)),(by first | rfl | (simp;done) | (simp [*];done)),(by first | rfl | (simp;done) | (simp [*];done)),H',⟨by have:=HK1.out;omega⟩,⟨by (with_reducible repeat (first | refine kd_ ?_ _ | refine ke_ ?_ | refine ka_ ?_ _));exact BK103.out⟩,⟨by repeat (first | (with_reducible first | exact HB.out | apply ba_ | apply bd_ | apply be_ | refine bs_ ?_ GE103.out) | exact HB.out)⟩⟩
     ·rw [if_neg c6] at H
      exact absurd H (by simp)
    ·rw [if_neg c5] at H
     exact absurd H (by simp)
   ·rw [if_neg c4] at H
    have c4b0 : decide (x9_1 < (l0_1.length : Int)) = false:=df_ c4;clear c4;obtain rfl:=Option.some.inj H;go_wp2;go_ret
    exact ⟨by first | rfl | (simp [errW_none,errW_some] <;> rfl) | (simp [*,errW_none,errW_some] <;> rfl),by repeat (first | (with_reducible first | exact HB.out | apply ba_ | apply bd_ | apply be_ | refine bs_ ?_ GE103.out) | exact HB.out)⟩
mutual
def leaf_Check.j0 : Nat → Bool → List Int → List (List Int) → Option (Int)
 | 0,_,_,_ => none
 | k + 1,x30,x106000,x106001 => if x30 = true then (some 1) else (leaf_Check.l0 k x106000 (x106000.length : Int) 0 x106000 x106001)
def leaf_Check.l0 : Nat → List Int → Int → Int → List Int → List (List Int) → Option (Int)
 | 0,_,_,_,_,_ => none
 | k + 1,x32,x33,x34,x106000,x106001 => if x34 < x33 then (if 0 ≤ x34 then (if x34 < (x32.length : Int) then (if (rd x32 x34) < 0 then (some 1) else (if (rd x32 x34) > 2147483647 then (some 1) else (if (rd x32 x34) > 0 then (if x34 ≤ (x106000.length : Int) then ((slices_Contains_int_int.f k (x106000.take (x34 : Int).toNat) (rd x32 x34)).bind fun t109 => (if t109 = true then (leaf_Check.j2 k 1) else (leaf_Check.l0 k x32 x33 (wrap64 (x34 + 1)) x106000 x106001))) else (none)) else (leaf_Check.l0 k x32 x33 (wrap64 (x34 + 1)) x106000 x106001)))) else (none)) else (none)) else ((containsFunc_leaf_Check_1.f x106001).bind fun t110 => (if t110 = true then (leaf_Check.j3 k 1) else ((leaf_need.f k x106000 x106001).bind fun t111 => (if t111 > 508 then (leaf_Check.j4 k 1) else (some 0)))))
def leaf_Check.j2 : Nat → Int → Option (Int)
 | 0,_ => none
 | k + 1,x2 => some x2
def leaf_Check.j3 : Nat → Int → Option (Int)
 | 0,_ => none
 | k + 1,x2 => some x2
def leaf_Check.j4 : Nat → Int → Option (Int)
 | 0,_ => none
 | k + 1,x2 => some x2
end
def leaf_Check.f (k : Nat) (l0_0 : List Int) (l0_1 : List (List Int)) : Option (Int):=if (l0_0.length : Int) = 4 then (if (l0_1.length : Int) > 64 then (leaf_Check.j0 k true l0_0 l0_1) else (if (l0_1.length : Int) > 0 then (if 0 ≤ (wrap64 ((l0_1.length : Int) - 1)) then (if (wrap64 ((l0_1.length : Int) - 1)) < (l0_1.length : Int) then (leaf_Check.j0 k (((rd_L2 l0_1 (wrap64 ((l0_1.length : Int) - 1))).length : Int) == 0) l0_0 l0_1) else (none)) else (none)) else (leaf_Check.j0 k false l0_0 l0_1))) else (leaf_Check.j0 k true l0_0 l0_1)
theorem leaf_Check.mono_l : ∀ k,(∀ y0 y1 y2,LeO (leaf_Check.j0 k y0 y1 y2) (leaf_Check.j0 (k + 1) y0 y1 y2)) ∧ (∀ y0 y1 y2 y3 y4,LeO (leaf_Check.l0 k y0 y1 y2 y3 y4) (leaf_Check.l0 (k + 1) y0 y1 y2 y3 y4)) ∧ (∀ y0,LeO (leaf_Check.j2 k y0) (leaf_Check.j2 (k + 1) y0)) ∧ (∀ y0,LeO (leaf_Check.j3 k y0) (leaf_Check.j3 (k + 1) y0)) ∧ (∀ y0,LeO (leaf_Check.j4 k y0) (leaf_Check.j4 (k + 1) y0))
 | 0 => ⟨fun _ _ _ r h => by simp [leaf_Check.j0] at h,fun _ _ _ _ _ r h => by simp [leaf_Check.l0] at h,fun _ r h => by simp [leaf_Check.j2] at h,fun _ r h => by simp [leaf_Check.j3] at h,fun _ r h => by simp [leaf_Check.j4] at h⟩
 | k + 1 => by
  obtain ⟨ih0,ih1,ih2,ih3,ih4⟩:=leaf_Check.mono_l k;refine ⟨?_,?_,?_,?_,?_⟩
  ·intro y0 y1 y2
   unfold leaf_Check.j0
   repeat' first
   | (with_reducible exact ih0 _ _ _)
   | (with_reducible exact ih1 _ _ _ _ _)
   | (with_reducible exact ih2 _)
   | (with_reducible exact ih3 _)
   | (with_reducible exact ih4 _)
   | (with_reducible exact leaf_need.mono _ _ _)
   | (with_reducible exact slices_Contains_int_int.mono _ _ _)
   | (with_reducible exact LeO.refl _)
   | (with_reducible exact LeO.none _)
   | (with_reducible refine LeO.ite ?_ ?_)
   | (with_reducible refine LeO.bind ?_ (fun _ => ?_))
   | exact ih0 _ _ _
   | exact ih1 _ _ _ _ _
   | exact ih2 _
   | exact ih3 _
   | exact ih4 _
   | exact leaf_need.mono _ _ _
   | exact slices_Contains_int_int.mono _ _ _
   | exact LeO.none _
   | refine LeO.ite ?_ ?_
   | refine LeO.bind ?_ (fun _ => ?_)
  ·intro y0 y1 y2 y3 y4
   unfold leaf_Check.l0
   repeat' first
   | (with_reducible exact ih0 _ _ _)
   | (with_reducible exact ih1 _ _ _ _ _)
   | (with_reducible exact ih2 _)
   | (with_reducible exact ih3 _)
   | (with_reducible exact ih4 _)
   | (with_reducible exact leaf_need.mono _ _ _)
   | (with_reducible exact slices_Contains_int_int.mono _ _ _)
   | (with_reducible exact LeO.refl _)
   | (with_reducible exact LeO.none _)
   | (with_reducible refine LeO.ite ?_ ?_)
   | (with_reducible refine LeO.bind ?_ (fun _ => ?_))
   | exact ih0 _ _ _
   | exact ih1 _ _ _ _ _
   | exact ih2 _
   | exact ih3 _
   | exact ih4 _
   | exact leaf_need.mono _ _ _
   | exact slices_Contains_int_int.mono _ _ _
   | exact LeO.none _
   | refine LeO.ite ?_ ?_
   | refine LeO.bind ?_ (fun _ => ?_)
  ·intro y0
   unfold leaf_Check.j2
   repeat' first
   | (with_reducible exact ih0 _ _ _)
   | (with_reducible exact ih1 _ _ _ _ _)
   | (with_reducible exact ih2 _)
   | (with_reducible exact ih3 _)
   | (with_reducible exact ih4 _)
   | (with_reducible exact leaf_need.mono _ _ _)
   | (with_reducible exact slices_Contains_int_int.mono _ _ _)
   | (with_reducible exact LeO.refl _)
   | (with_reducible exact LeO.none _)
   | (with_reducible refine LeO.ite ?_ ?_)
   | (with_reducible refine LeO.bind ?_ (fun _ => ?_))
   | exact ih0 _ _ _
   | exact ih1 _ _ _ _ _
   | exact ih2 _
   | exact ih3 _
   | exact ih4 _
   | exact leaf_need.mono _ _ _
   | exact slices_Contains_int_int.mono _ _ _
   | exact LeO.none _
   | refine LeO.ite ?_ ?_
   | refine LeO.bind ?_ (fun _ => ?_)
  ·intro y0
   unfold leaf_Check.j3
   repeat' first
   | (with_reducible exact ih0 _ _ _)
   | (with_reducible exact ih1 _ _ _ _ _)
   | (with_reducible exact ih2 _)
   | (with_reducible exact ih3 _)
   | (with_reducible exact ih4 _)
   | (with_reducible exact leaf_need.mono _ _ _)
   | (with_reducible exact slices_Contains_int_int.mono _ _ _)
   | (with_reducible exact LeO.refl _)
   | (with_reducible exact LeO.none _)
   | (with_reducible refine LeO.ite ?_ ?_)
   | (with_reducible refine LeO.bind ?_ (fun _ => ?_))
   | exact ih0 _ _ _
   | exact ih1 _ _ _ _ _
   | exact ih2 _
   | exact ih3 _
   | exact ih4 _
   | exact leaf_need.mono _ _ _
   | exact slices_Contains_int_int.mono _ _ _
   | exact LeO.none _
   | refine LeO.ite ?_ ?_
   | refine LeO.bind ?_ (fun _ => ?_)
  ·intro y0
   unfold leaf_Check.j4
   repeat' first
   | (with_reducible exact ih0 _ _ _)
   | (with_reducible exact ih1 _ _ _ _ _)
   | (with_reducible exact ih2 _)
   | (with_reducible exact ih3 _)
   | (with_reducible exact ih4 _)
   | (with_reducible exact leaf_need.mono _ _ _)
   | (with_reducible exact slices_Contains_int_int.mono _ _ _)
   | (with_reducible exact LeO.refl _)
   | (with_reducible exact LeO.none _)
   | (with_reducible refine LeO.ite ?_ ?_)
   | (with_reducible refine LeO.bind ?_ (fun _ => ?_))
   | exact ih0 _ _ _
   | exact ih1 _ _ _ _ _
   | exact ih2 _
   | exact ih3 _
   | exact ih4 _
   | exact leaf_need.mono _ _ _
   | exact slices_Contains_int_int.mono _ _ _
   | exact LeO.none _
   | refine LeO.ite ?_ ?_
   | refine LeO.bind ?_ (fun _ => ?_)
theorem leaf_Check.mono : ∀ a0 a1 k,LeO (leaf_Check.f k a0 a1) (leaf_Check.f (k + 1) a0 a1):=by
 intro a0 a1 k;obtain ⟨ih0,ih1,ih2,ih3,ih4⟩:=leaf_Check.mono_l k
 unfold leaf_Check.f
 repeat' first
   | (with_reducible exact ih0 _ _ _)
   | (with_reducible exact ih1 _ _ _ _ _)
   | (with_reducible exact ih2 _)
   | (with_reducible exact ih3 _)
   | (with_reducible exact ih4 _)
   | (with_reducible exact leaf_need.mono _ _ _)
   | (with_reducible exact slices_Contains_int_int.mono _ _ _)
   | (with_reducible exact LeO.refl _)
   | (with_reducible exact LeO.none _)
   | (with_reducible refine LeO.ite ?_ ?_)
   | (with_reducible refine LeO.bind ?_ (fun _ => ?_))
   | exact ih0 _ _ _
   | exact ih1 _ _ _ _ _
   | exact ih2 _
   | exact ih3 _
   | exact ih4 _
   | exact leaf_need.mono _ _ _
   | exact slices_Contains_int_int.mono _ _ _
   | exact LeO.none _
   | refine LeO.ite ?_ ?_
   | refine LeO.bind ?_ (fun _ => ?_)
set_option maxHeartbeats 8000000 in
set_option maxRecDepth 100000 in
theorem leaf_Check.calls (k : Nat) (A0_0 : Option Addr) (c0_0 : Nat) (l0_0 : List Int) (A0_1 : Option Addr) (c0_1 : Nat) (l0_1 : List (List Int)) (r : Int) (w : World) (hr0_0 : Kd.C (Kd.int .i64) w A0_0 l0_0.length l0_0) (hc0_0 : l0_0.length ≤ c0_0) (hr0_1 : Kd.C (Kd.slice 5 (Kd.int .u8)) w A0_1 l0_1.length l0_1) (hc0_1 : l0_1.length ≤ c0_1) (h : leaf_Check.f k l0_0 l0_1 = some r) :
  Calls Try.prog 21 #[.agg #[.slice A0_0 l0_0.length c0_0,.slice A0_1 l0_1.length c0_1]] w fun e w' => e = .returned (.int .i64 r) ∧ Below w.heap.size w w':=by
 have hu27:=Try.underlying27;have HR0_0:=A_ hr0_0;have HC0_0:=A_ hc0_0;clear hr0_0 hc0_0;have HR0_1:=A_ hr0_1;have HC0_1:=A_ hc0_1;clear hr0_1 hc0_1;have HB:=A_ (Below.refl w.heap.size w)
 have H : (if (l0_0.length : Int) = 4 then (if (l0_1.length : Int) > 64 then (leaf_Check.j0 k true l0_0 l0_1) else (if (l0_1.length : Int) > 0 then (if 0 ≤ (wrap64 ((l0_1.length : Int) - 1)) then (if (wrap64 ((l0_1.length : Int) - 1)) < (l0_1.length : Int) then (leaf_Check.j0 k (((rd_L2 l0_1 (wrap64 ((l0_1.length : Int) - 1))).length : Int) == 0) l0_0 l0_1) else (none)) else (none)) else (leaf_Check.j0 k false l0_0 l0_1))) else (leaf_Check.j0 k true l0_0 l0_1)) = some r:=h
 clear h;have HC2:=A_ H;clear H;go_enter Try.func21,Try.ntmps21
 go_upto_region 2 with (first | ((with_reducible refine gate_dst (N:=1) rfl ?_);(try (refine gate_guard (by rfl) ?_;dsimp only));refine box_event ?hg (N:=1) ?hd (cs:=#[.slice A0_0 l0_0.length c0_0,.slice A0_1 l0_1.length c0_1]) (t:=27) ?hr ?_;(case hd => rfl);(case hg => rfl);(case hr => first | (go_simp;done) | (go_simp;rfl));intro gb105 hg w3 hbox hb;have n0_:=A_ (bp_ (by repeat (first | (with_reducible first | exact HB.out | apply ba_ | apply bd_ | apply be_) | exact HB.out)) hb);have n1_:=A_ (hbox);have n2_:=A_ ((by rw [hg];exact (bz_ (by repeat (first | (with_reducible first | exact HB.out | apply ba_ | apply bd_ | apply be_) | exact HB.out))) : w.heap.size ≤ gb105));have n3_:=n2_;clear HB;have HB:=n0_;have BK105:=n1_;have GW105:=n2_;have GE105:=n3_;clear n0_ n1_ n2_ n3_;clear hb hbox hg;have z4_0 : w3.cell? ⟨gb105,0,none⟩ = some (.slice A0_0 l0_0.length c0_0):=(bc_ BK105.out 0).trans rfl;have z4_1 : w3.cell? ⟨gb105,1,none⟩ = some (.slice A0_1 l0_1.length c0_1):=(bc_ BK105.out 1).trans rfl;have y4_0:=bf_ BK105.out 0;have y4_1:=bf_ BK105.out 1))
 (try simp only [Act.put,u1_,u2_,u3_])
 go_cut [30] (fun v30 wc => ∃ (kq : Nat) (x30_1 : Bool),v30 = .bool x30_1 ∧ Aside0 (leaf_Check.j0 kq x30_1 l0_0 l0_1 = some r) ∧ Aside0 (kq ≤ k) ∧ Aside0 (wc.heap[gb105]? = some (.cells #[(.slice A0_0 l0_0.length c0_0),(.slice A0_1 l0_1.length c0_1)] 27 (0,0))) ∧ Aside0 (Below w.heap.size w wc))
 case first =>
  have H:=HC2.out;clear HC2
  by_cases c5 : (l0_0.length : Int) = 4
  ·rw [if_pos c5] at H
   have c5b0 : ((l0_0.length : Int) == 4) = true:=beq_iff_eq.mpr c5;have c5b1 : ((l0_0.length : Int) != 4) = false:=bne_eq_false_iff_eq.mpr c5;clear c5;(first | rw [c5b0] | (simp only [i64_w,i32_w];rw [c5b0]) | skip)
   by_cases c6 : (l0_1.length : Int) > 64
   ·rw [if_pos c6] at H
    have c6b0 : decide (64 < (l0_1.length : Int)) = true:=dt_ c6
    have c6b1 : decide (64 < l0_1.length) = true:=dt_ (by omega)
    clear c6;have H':=A_ H;clear H;have z7_0 : w3.cell? ⟨gb105,0,none⟩ = some (.slice A0_0 l0_0.length c0_0):=(bc_ BK105.out 0).trans rfl;have z7_1 : w3.cell? ⟨gb105,1,none⟩ = some (.slice A0_1 l0_1.length c0_1):=(bc_ BK105.out 1).trans rfl;have y7_0:=bf_ BK105.out 0;have y7_1:=bf_ BK105.out 1;go_wp2;go_meet
    case rel => exact ⟨_,true,rfl,H',⟨by first | omega | exact Nat.le_refl _⟩,⟨by (with_reducible repeat (first | refine kd_ ?_ _ | refine ke_ ?_ | refine ka_ ?_ _));exact BK105.out⟩,⟨by repeat (first | (with_reducible first | exact HB.out | apply ba_ | apply bd_ | apply be_ | refine bs_ ?_ GE105.out) | exact HB.out)⟩⟩
   ·rw [if_neg c6] at H
    have c6b0 : decide (64 < (l0_1.length : Int)) = false:=df_ c6
    have c6b1 : decide (64 < l0_1.length) = false:=df_ (by omega)
    clear c6
    by_cases c8 : (l0_1.length : Int) > 0
    ·rw [if_pos c8] at H
     have c8b0 : decide (0 < (l0_1.length : Int)) = true:=dt_ c8
     have c8b1 : decide (0 < l0_1.length) = true:=dt_ (by omega)
     clear c8
     obtain ⟨ji9,hji9⟩ : ∃ j_ : Int,(wrap64 ((l0_1.length : Int) - 1)) = j_:=⟨_,rfl⟩
     replace H : (if 0 ≤ (ji9) then (if (ji9) < (l0_1.length : Int) then (leaf_Check.j0 k (((rd_L2 l0_1 (ji9)).length : Int) == 0) l0_0 l0_1) else (none)) else (none)) = some r:=by first | (rw [hji9] at H;exact H) | (simp only [hji9] at H ⊢;exact H)
     have hji9w : (IntKind.i64.wrap ((l0_1.length : Int) - 1)) = ji9:=(i64_w _).trans hji9
     by_cases c10 : 0 ≤ (ji9)
     ·rw [if_pos c10] at H
      have c10b0 : decide (0 ≤ (ji9)) = true:=dt_ c10;clear c10
      by_cases c11 : (ji9) < (l0_1.length : Int)
      ·rw [if_pos c11] at H
       have c11b0 : decide ((ji9) < (l0_1.length : Int)) = true:=dt_ c11;clear c11;have H':=A_ H;clear H;have z12_0 : w3.cell? ⟨gb105,0,none⟩ = some (.slice A0_0 l0_0.length c0_0):=(bc_ BK105.out 0).trans rfl;have z12_1 : w3.cell? ⟨gb105,1,none⟩ = some (.slice A0_1 l0_1.length c0_1):=(bc_ BK105.out 1).trans rfl;have y12_0:=bf_ BK105.out 0;have y12_1:=bf_ BK105.out 1
       have p106 : 0 ≤ ((ji9) : Int):=od_ (by first | (with_reducible assumption) | assumption)
       have q106 : (ji9) < (l0_1.length : Int):=od_ (by first | (with_reducible assumption) | assumption)
       obtain ⟨ad106,A106_0,c106_0,e106,hx106_0,hl106_0,hi106_0⟩:=at_L2 HR0_1.out (ji9) p106 q106
       cases e106
       replace hx106_0:=(HB.out.cell (wb_ w _ hx106_0)).trans hx106_0;have HR106_0:=A_ hi106_0;have HC106_0:=A_ hl106_0;clear hi106_0 hl106_0;replace p106:=eq_true p106;replace q106:=eq_true q106;go_wp2;go_meet
       case rel => exact ⟨_,((((rd_L2 l0_1 (ji9)).length : Int) == 0)),(by first | rfl | (simp;done) | (simp only [← hji9] <;> (first | rfl | simp)) | (simp [*];done)),H',⟨by first | omega | exact Nat.le_refl _⟩,⟨by (with_reducible repeat (first | refine kd_ ?_ _ | refine ke_ ?_ | refine ka_ ?_ _));exact BK105.out⟩,⟨by repeat (first | (with_reducible first | exact HB.out | apply ba_ | apply bd_ | apply be_ | refine bs_ ?_ GE105.out) | exact HB.out)⟩⟩
      ·rw [if_neg c11] at H
       exact absurd H (by simp)
     ·rw [if_neg c10] at H
      exact absurd H (by simp)
    ·rw [if_neg c8] at H
     have c8b0 : decide (0 < (l0_1.length : Int)) = false:=df_ c8
     have c8b1 : decide (0 < l0_1.length) = false:=df_ (by omega)
     clear c8;have H':=A_ H;clear H;have z13_0 : w3.cell? ⟨gb105,0,none⟩ = some (.slice A0_0 l0_0.length c0_0):=(bc_ BK105.out 0).trans rfl;have z13_1 : w3.cell? ⟨gb105,1,none⟩ = some (.slice A0_1 l0_1.length c0_1):=(bc_ BK105.out 1).trans rfl;have y13_0:=bf_ BK105.out 0;have y13_1:=bf_ BK105.out 1;go_wp2;go_meet
     case rel => exact ⟨_,false,rfl,H',⟨by first | omega | exact Nat.le_refl _⟩,⟨by (with_reducible repeat (first | refine kd_ ?_ _ | refine ke_ ?_ | refine ka_ ?_ _));exact BK105.out⟩,⟨by repeat (first | (with_reducible first | exact HB.out | apply ba_ | apply bd_ | apply be_ | refine bs_ ?_ GE105.out) | exact HB.out)⟩⟩
  ·rw [if_neg c5] at H
   have c5b0 : ((l0_0.length : Int) == 4) = false:=beq_eq_false_iff_ne.mpr c5;have c5b1 : ((l0_0.length : Int) != 4) = true:=bne_iff_ne.mpr c5;(first | rw [c5b0] | (simp only [i64_w,i32_w];rw [c5b0]) | skip);have H':=A_ H;clear H;have z14_0 : w3.cell? ⟨gb105,0,none⟩ = some (.slice A0_0 l0_0.length c0_0):=(bc_ BK105.out 0).trans rfl;have z14_1 : w3.cell? ⟨gb105,1,none⟩ = some (.slice A0_1 l0_1.length c0_1):=(bc_ BK105.out 1).trans rfl;have y14_0:=bf_ BK105.out 0;have y14_1:=bf_ BK105.out 1;go_wp2;go_meet
   case rel => exact ⟨_,true,rfl,H',⟨by first | omega | exact Nat.le_refl _⟩,⟨by (with_reducible repeat (first | refine kd_ ?_ _ | refine ke_ ?_ | refine ka_ ?_ _));exact BK105.out⟩,⟨by repeat (first | (with_reducible first | exact HB.out | apply ba_ | apply bd_ | apply be_ | refine bs_ ?_ GE105.out) | exact HB.out)⟩⟩
 case rest =>
  clear HC2;(try clear c1);(try clear p1);(try clear q1);(try clear hx1);(try clear c2);(try clear p2);(try clear c5);(try clear c5b0);(try clear c5b1);(try clear c6);(try clear c6b0);(try clear c6b1);(try clear p6);(try clear c8);(try clear c8b0);(try clear c8b1);(try clear c10);(try clear c10b0);(try clear p10);(try clear q10);(try clear hx10);(try clear c11);(try clear c11b0);(try clear hx106_0);(try clear p106);(try clear q106);(try clear z12_0 z12_1 z13_0 z13_1 z14_0 z14_1 z4_0 z4_1 z7_0 z7_1 y12_0 y12_1 y13_0 y13_1 y14_0 y14_1 y4_0 y4_1 y7_0 y7_1);obtain ⟨kq,x30_1,rfl,HA,HJ1,BK105,HB⟩:=hcut
  cases kq with
  | zero => exact absurd HA.out (by simp [leaf_Check.j0])
  | succ kj1 =>
   have H:=HA.out;clear HA
   simp only [leaf_Check.j0] at H
   by_cases c15 : x30_1 = true
   ·subst c15
    have H1 : (some 1) = some r:=by rw [if_pos rfl] at H;exact H
    clear H;have H:=H1;clear H1;obtain rfl:=Option.some.inj H;go_wp2;go_ret
    exact ⟨by first | rfl | (simp [errW_none,errW_some] <;> rfl) | (simp [*,errW_none,errW_some] <;> rfl),by repeat (first | (with_reducible first | exact HB.out | apply ba_ | apply bd_ | apply be_ | refine bs_ ?_ GE105.out) | exact HB.out)⟩
   ·replace c15:=Bool.eq_false_iff.mpr c15
    subst c15
    have H1 : (leaf_Check.l0 kj1 l0_0 (l0_0.length : Int) 0 l0_0 l0_1) = some r:=by rw [if_neg (show ¬ (false = true) by decide)] at H;exact H
    clear H;have H:=H1;clear H1;have H':=A_ H;clear H;have z16_0 : wc.cell? ⟨gb105,0,none⟩ = some (.slice A0_0 l0_0.length c0_0):=(bc_ BK105.out 0).trans rfl;have z16_1 : wc.cell? ⟨gb105,1,none⟩ = some (.slice A0_1 l0_1.length c0_1):=(bc_ BK105.out 1).trans rfl;have y16_0:=bf_ BK105.out 0;have y16_1:=bf_ BK105.out 1;go_wp2
    go_loopg [34] kj1 (fun kq v34 w' => ∃ (x34_2 : Int),v34 = .int .i64 x34_2 ∧ Aside0 (leaf_Check.l0 kq l0_0 (l0_0.length : Int) x34_2 l0_0 l0_1 = some r) ∧ Aside0 (kq ≤ kj1) ∧ Aside0 (w'.heap[gb105]? = some (.cells #[(.slice A0_0 l0_0.length c0_0),(.slice A0_1 l0_1.length c0_1)] 27 (0,0))) ∧ Aside0 (Below w.heap.size w w'))
    case atStart => exact ⟨(0),(by first | rfl | (simp;done) | (simp [*];done)),H',⟨Nat.le_refl _⟩,⟨by (with_reducible repeat (first | refine kd_ ?_ _ | refine ke_ ?_ | refine ka_ ?_ _));exact BK105.out⟩,⟨by repeat (first | (with_reducible first | exact HB.out | apply ba_ | apply bd_ | apply be_ | refine bs_ ?_ GE105.out) | exact HB.out)⟩⟩
    case round =>
     clear H';(try clear c1);(try clear p1);(try clear q1);(try clear hx1);(try clear c2);(try clear p2);(try clear c5);(try clear c5b0);(try clear c5b1);(try clear c6);(try clear c6b0);(try clear c6b1);(try clear p6);(try clear c8);(try clear c8b0);(try clear c8b1);(try clear c10);(try clear c10b0);(try clear p10);(try clear q10);(try clear hx10);(try clear c11);(try clear c11b0);(try clear c15);(try clear hx106_0);(try clear p1);(try clear p10);(try clear p106);(try clear p2);(try clear p6);(try clear q1);(try clear q10);(try clear q106);(try clear z12_0 z12_1 z13_0 z13_1 z14_0 z14_1 z16_0 z16_1 z4_0 z4_1 z7_0 z7_1 y12_0 y12_1 y13_0 y13_1 y14_0 y14_1 y16_0 y16_1 y4_0 y4_1 y7_0 y7_1);obtain ⟨x34_2,rfl,HA,HK2,BK105,HB⟩:=hrel
     cases gk with
     | zero => exact absurd HA.out (by simp [leaf_Check.l0])
     | succ k2 =>
      have H:=HA.out;clear HA
      simp only [leaf_Check.l0] at H
      by_cases c17 : x34_2 < (l0_0.length : Int)
      ·rw [if_pos c17] at H
       have c17b0 : decide (x34_2 < (l0_0.length : Int)) = true:=dt_ c17;clear c17
       by_cases c18 : 0 ≤ x34_2
       ·rw [if_pos c18] at H
        have c18b0 : decide (0 ≤ x34_2) = true:=dt_ c18;clear c18
        by_cases c19 : x34_2 < (l0_0.length : Int)
        ·rw [if_pos c19] at H
         have c19b0 : decide (x34_2 < (l0_0.length : Int)) = true:=dt_ c19;clear c19
         by_cases c20 : (rd l0_0 x34_2) < 0
         ·rw [if_pos c20] at H
          have c20b0 : decide ((rd l0_0 x34_2) < 0) = true:=dt_ c20;clear c20;obtain rfl:=Option.some.inj H
          have p107 : 0 ≤ (x34_2 : Int):=od_ (by first | (with_reducible assumption) | assumption)
          have q107 : x34_2 < (l0_0.length : Int):=od_ (by first | (with_reducible assumption) | assumption)
          obtain ⟨ad107,e107,hx107_0⟩:=Kd.at_int HR0_0.out x34_2 p107 q107
          cases e107
          replace hx107_0:=(HB.out.cell (wb_ w _ hx107_0)).trans hx107_0;replace p107:=eq_true p107;replace q107:=eq_true q107;go_wp2;go_ret
          exact ⟨by first | rfl | (simp [errW_none,errW_some] <;> rfl) | (simp [*,errW_none,errW_some] <;> rfl),by repeat (first | (with_reducible first | exact HB.out | apply ba_ | apply bd_ | apply be_ | refine bs_ ?_ GE105.out) | exact HB.out)⟩
         ·rw [if_neg c20] at H
          have c20b0 : decide ((rd l0_0 x34_2) < 0) = false:=df_ c20;clear c20
          by_cases c21 : (rd l0_0 x34_2) > 2147483647
          ·rw [if_pos c21] at H
           have c21b0 : decide (2147483647 < (rd l0_0 x34_2)) = true:=dt_ c21;clear c21;obtain rfl:=Option.some.inj H
           have p107 : 0 ≤ (x34_2 : Int):=od_ (by first | (with_reducible assumption) | assumption)
           have q107 : x34_2 < (l0_0.length : Int):=od_ (by first | (with_reducible assumption) | assumption)
           obtain ⟨ad107,e107,hx107_0⟩:=Kd.at_int HR0_0.out x34_2 p107 q107
           cases e107
           replace hx107_0:=(HB.out.cell (wb_ w _ hx107_0)).trans hx107_0;replace p107:=eq_true p107;replace q107:=eq_true q107;go_wp2;go_ret
           exact ⟨by first | rfl | (simp [errW_none,errW_some] <;> rfl) | (simp [*,errW_none,errW_some] <;> rfl),by repeat (first | (with_reducible first | exact HB.out | apply ba_ | apply bd_ | apply be_ | refine bs_ ?_ GE105.out) | exact HB.out)⟩
          ·rw [if_neg c21] at H
           have c21b0 : decide (2147483647 < (rd l0_0 x34_2)) = false:=df_ c21;clear c21
           by_cases c22 : (rd l0_0 x34_2) > 0
           ·rw [if_pos c22] at H
            have c22b0 : decide (0 < (rd l0_0 x34_2)) = true:=dt_ c22;clear c22
            have c23b0:=eq_true (od_ (by first | (with_reducible assumption) | assumption) : 0 ≤ x34_2)
            by_cases c24 : x34_2 ≤ (l0_0.length : Int)
            ·rw [if_pos c24] at H
             have c24b0:=eq_true c24;have c24b1 : decide (x34_2 ≤ (l0_0.length : Int)) = true:=dt_ c24;clear c24;replace H:=Option.bind_eq_some_iff.mp H;obtain ⟨t109,A250,H⟩:=H
             replace H : (if t109 = true then (leaf_Check.j2 k2 1) else (leaf_Check.l0 k2 l0_0 (l0_0.length : Int) (wrap64 (x34_2 + 1)) l0_0 l0_1)) = some r:=H
             have A25:=A_ A250;clear A250
             by_cases c26 : t109 = true
             ·subst c26
              have H1 : (leaf_Check.j2 k2 1) = some r:=by rw [if_pos rfl] at H;exact H
              clear H;have H:=H1;clear H1;have HC27:=A_ H;clear H
              have p107 : 0 ≤ (x34_2 : Int):=od_ (by first | (with_reducible assumption) | assumption)
              have q107 : x34_2 < (l0_0.length : Int):=od_ (by first | (with_reducible assumption) | assumption)
              obtain ⟨ad107,e107,hx107_0⟩:=Kd.at_int HR0_0.out x34_2 p107 q107
              cases e107
              replace hx107_0:=(HB.out.cell (wb_ w _ hx107_0)).trans hx107_0;replace p107:=eq_true p107;replace q107:=eq_true q107;have z28_0 : wr.cell? ⟨gb105,0,none⟩ = some (.slice (some ad107) l0_0.length c0_0):=(bc_ BK105.out 0).trans rfl;have z28_1 : wr.cell? ⟨gb105,1,none⟩ = some (.slice A0_1 l0_1.length c0_1):=(bc_ BK105.out 1).trans rfl;have y28_0:=bf_ BK105.out 0;have y28_1:=bf_ BK105.out 1;obtain ⟨i029,hi029,_,hsz29,_⟩:=info_parts info3
              obtain ⟨hcut29,hA29,hC29⟩:=print_take_of (P:=Try.prog) (Value.int .i64) 0 24 3 .i64 Try.underlying24 hi029 hsz29 (some ad107) c0_0 l0_0 x34_2 (od_ (by first | (with_reducible assumption) | assumption)) (od_ (by first | (with_reducible assumption) | assumption)) HC0_0.out
              have HR108:=A_ (Kd.C_of_reads (h1:=fun _ => rfl) (hA29 _ (Kd.reads_of_C HR0_0.out)))
              have HC108:=A_ hC29;clear hA29 hC29 hi029 hsz29
              go_upto_region 8 with (first | (go_at_call 38;have ht_0 : (l0_0.take (x34_2 : Int).toNat).length = (x34_2 : Int).toNat:=(by rw [List.length_take];have h1_ : (x34_2 : Int) ≤ (l0_0.length : Int):=od_ (by first | (with_reducible assumption) | assumption);omega);refine calls_of_args (args':=#[.slice (some ad107) (l0_0.take (x34_2 : Int).toNat).length c0_0,.int .i64 (rd l0_0 x34_2)]) (by first | rfl | (rw [ht_0];rfl) | (simp only [ht_0];done)) ?_;(with_reducible refine (slices_Contains_int_int.calls k2 _ _ (l0_0.take (x34_2 : Int).toNat) (rd l0_0 x34_2) true _ ?side1 ?side2 A25.out).mono ?_);(case side1 => repeat (first | exact (Kd.C_below HR108.out HB.out) | (with_reducible refine Kd.C_alloc ?_ _) | (with_reducible refine Kd.C_drewN ?_ _) | (with_reducible refine Kd.C_drew ?_)));(case side2 => exact HC108.out);rintro e w' ⟨rfl,⟨nd,rfl⟩⟩))
              (try simp only [Act.put,u1_,u2_,u3_])
              go_cut [2] (fun v2 wc => ∃ (kq : Nat) (x2_26 : Int),v2 = .int .i64 x2_26 ∧ Aside0 (leaf_Check.j2 kq x2_26 = some r) ∧ Aside0 (kq ≤ k2) ∧ Aside0 (wc.heap[gb105]? = some (.cells #[(.slice (some ad107) l0_0.length c0_0),(.slice A0_1 l0_1.length c0_1)] 27 (0,0))) ∧ Aside0 (Below w.heap.size w wc))
              case first =>
               have H:=HC27.out;clear HC27;have H':=A_ H;clear H;go_wp2;go_meet
               case rel => exact ⟨_,(1),(by first | rfl | (simp;done) | (simp [*];done)),H',⟨by have:=HJ1.out;have:=HK2.out;first | omega | exact Nat.le_refl _⟩,⟨by (with_reducible repeat (first | refine kd_ ?_ _ | refine ke_ ?_ | refine ka_ ?_ _));exact BK105.out⟩,⟨by repeat (first | (with_reducible first | exact HB.out | apply ba_ | apply bd_ | apply be_ | refine bs_ ?_ GE105.out) | exact HB.out)⟩⟩
              case rest =>
               clear HC27;(try clear c1);(try clear p1);(try clear q1);(try clear hx1);(try clear c2);(try clear p2);(try clear c5);(try clear c5b0);(try clear c5b1);(try clear c6);(try clear c6b0);(try clear c6b1);(try clear p6);(try clear c8);(try clear c8b0);(try clear c8b1);(try clear c10);(try clear c10b0);(try clear p10);(try clear q10);(try clear hx10);(try clear c11);(try clear c11b0);(try clear c15);(try clear c17);(try clear c17b0);(try clear c18);(try clear c18b0);(try clear c19);(try clear c19b0);(try clear c20);(try clear c20b0);(try clear c21);(try clear c21b0);(try clear c22);(try clear c22b0);(try clear c23);(try clear c23b0);(try clear c24);(try clear c24b0);(try clear c24b1);(try clear c26);(try clear hx106_0);(try clear hx107_0);(try clear p1);(try clear p10);(try clear p106);(try clear p107);(try clear p2);(try clear p6);(try clear q1);(try clear q10);(try clear q106);(try clear q107);(try clear z12_0 z12_1 z13_0 z13_1 z14_0 z14_1 z16_0 z16_1 z28_0 z28_1 z4_0 z4_1 z7_0 z7_1 y12_0 y12_1 y13_0 y13_1 y14_0 y14_1 y16_0 y16_1 y28_0 y28_1 y4_0 y4_1 y7_0 y7_1);obtain ⟨kq,x2_26,rfl,HA,HJ26,BK105,HB⟩:=hcut
               cases kq with
               | zero => exact absurd HA.out (by simp [leaf_Check.j2])
               | succ kj26 =>
                have H:=HA.out;clear HA
                simp only [leaf_Check.j2] at H
                obtain rfl:=Option.some.inj H;go_wp2;go_ret
                exact ⟨by first | rfl | (simp [errW_none,errW_some] <;> rfl) | (simp [*,errW_none,errW_some] <;> rfl),by repeat (first | (with_reducible first | exact HB.out | apply ba_ | apply bd_ | apply be_ | refine bs_ ?_ GE105.out) | exact HB.out)⟩
             ·replace c26:=Bool.eq_false_iff.mpr c26
              subst c26
              have H1 : (leaf_Check.l0 k2 l0_0 (l0_0.length : Int) (wrap64 (x34_2 + 1)) l0_0 l0_1) = some r:=by rw [if_neg (show ¬ (false = true) by decide)] at H;exact H
              clear H;have H:=H1;clear H1;have H':=A_ H;clear H
              have p107 : 0 ≤ (x34_2 : Int):=od_ (by first | (with_reducible assumption) | assumption)
              have q107 : x34_2 < (l0_0.length : Int):=od_ (by first | (with_reducible assumption) | assumption)
              obtain ⟨ad107,e107,hx107_0⟩:=Kd.at_int HR0_0.out x34_2 p107 q107
              cases e107
              replace hx107_0:=(HB.out.cell (wb_ w _ hx107_0)).trans hx107_0;replace p107:=eq_true p107;replace q107:=eq_true q107;have z30_0 : wr.cell? ⟨gb105,0,none⟩ = some (.slice (some ad107) l0_0.length c0_0):=(bc_ BK105.out 0).trans rfl;have z30_1 : wr.cell? ⟨gb105,1,none⟩ = some (.slice A0_1 l0_1.length c0_1):=(bc_ BK105.out 1).trans rfl;have y30_0:=bf_ BK105.out 0;have y30_1:=bf_ BK105.out 1;obtain ⟨i031,hi031,_,hsz31,_⟩:=info_parts info3
              obtain ⟨hcut31,hA31,hC31⟩:=print_take_of (P:=Try.prog) (Value.int .i64) 0 24 3 .i64 Try.underlying24 hi031 hsz31 (some ad107) c0_0 l0_0 x34_2 (od_ (by first | (with_reducible assumption) | assumption)) (od_ (by first | (with_reducible assumption) | assumption)) HC0_0.out
              have HR108:=A_ (Kd.C_of_reads (h1:=fun _ => rfl) (hA31 _ (Kd.reads_of_C HR0_0.out)))
              have HC108:=A_ hC31;clear hA31 hC31 hi031 hsz31
              go_wp2_with (first | (go_at_call 38;have ht_0 : (l0_0.take (x34_2 : Int).toNat).length = (x34_2 : Int).toNat:=(by rw [List.length_take];have h1_ : (x34_2 : Int) ≤ (l0_0.length : Int):=od_ (by first | (with_reducible assumption) | assumption);omega);refine calls_of_args (args':=#[.slice (some ad107) (l0_0.take (x34_2 : Int).toNat).length c0_0,.int .i64 (rd l0_0 x34_2)]) (by first | rfl | (rw [ht_0];rfl) | (simp only [ht_0];done)) ?_;(with_reducible refine (slices_Contains_int_int.calls k2 _ _ (l0_0.take (x34_2 : Int).toNat) (rd l0_0 x34_2) false _ ?side1 ?side2 A25.out).mono ?_);(case side1 => repeat (first | exact (Kd.C_below HR108.out HB.out) | (with_reducible refine Kd.C_alloc ?_ _) | (with_reducible refine Kd.C_drewN ?_ _) | (with_reducible refine Kd.C_drew ?_)));(case side2 => exact HC108.out);rintro e w' ⟨rfl,⟨nd,rfl⟩⟩))
              go_roundg k2
              case measure => have:=HJ1.out;have:=HK2.out;omega
              case rel => exact ⟨(wrap64 (x34_2 + 1)),(by first | rfl | (simp;done) | (simp [*];done)),H',⟨by have:=HJ1.out;have:=HK2.out;omega⟩,⟨by (with_reducible repeat (first | refine kd_ ?_ _ | refine ke_ ?_ | refine ka_ ?_ _));exact BK105.out⟩,⟨by repeat (first | (with_reducible first | exact HB.out | apply ba_ | apply bd_ | apply be_ | refine bs_ ?_ GE105.out) | exact HB.out)⟩⟩
            ·rw [if_neg c24] at H
             exact absurd H (by simp)
           ·rw [if_neg c22] at H
            have c22b0 : decide (0 < (rd l0_0 x34_2)) = false:=df_ c22;clear c22;have H':=A_ H;clear H
            have p107 : 0 ≤ (x34_2 : Int):=od_ (by first | (with_reducible assumption) | assumption)
            have q107 : x34_2 < (l0_0.length : Int):=od_ (by first | (with_reducible assumption) | assumption)
            obtain ⟨ad107,e107,hx107_0⟩:=Kd.at_int HR0_0.out x34_2 p107 q107
            cases e107
            replace hx107_0:=(HB.out.cell (wb_ w _ hx107_0)).trans hx107_0;replace p107:=eq_true p107;replace q107:=eq_true q107;go_wp2;go_roundg k2
            case measure => have:=HJ1.out;have:=HK2.out;omega
            case rel => exact ⟨(wrap64 (x34_2 + 1)),(by first | rfl | (simp;done) | (simp [*];done)),H',⟨by have:=HJ1.out;have:=HK2.out;omega⟩,⟨by (with_reducible repeat (first | refine kd_ ?_ _ | refine ke_ ?_ | refine ka_ ?_ _));exact BK105.out⟩,⟨by repeat (first | (with_reducible first | exact HB.out | apply ba_ | apply bd_ | apply be_ | refine bs_ ?_ GE105.out) | exact HB.out)⟩⟩
        ·rw [if_neg c19] at H
         exact absurd H (by simp)
       ·rw [if_neg c18] at H
        exact absurd H (by simp)
      ·rw [if_neg c17] at H
       have c17b0 : decide (x34_2 < (l0_0.length : Int)) = false:=df_ c17;clear c17;replace H:=Option.bind_eq_some_iff.mp H;obtain ⟨t110,A320,H⟩:=H
       replace H : (if t110 = true then (leaf_Check.j3 k2 1) else ((leaf_need.f k2 l0_0 l0_1).bind fun t111 => (if t111 > 508 then (leaf_Check.j4 k2 1) else (some 0)))) = some r:=H
       have A32:=A_ A320;clear A320
       by_cases c33 : t110 = true
       ·subst c33
        have H1 : (leaf_Check.j3 k2 1) = some r:=by rw [if_pos rfl] at H;exact H
        clear H;have H:=H1;clear H1;have HC34:=A_ H;clear H;have z35_0 : wr.cell? ⟨gb105,0,none⟩ = some (.slice A0_0 l0_0.length c0_0):=(bc_ BK105.out 0).trans rfl;have z35_1 : wr.cell? ⟨gb105,1,none⟩ = some (.slice A0_1 l0_1.length c0_1):=(bc_ BK105.out 1).trans rfl;have y35_0:=bf_ BK105.out 0;have y35_1:=bf_ BK105.out 1
        go_upto_region 11 with (first | ((with_reducible refine gate_callee (f:=44) rfl ?_);refine goesL_ (some 60) rfl rfl Try.func44 (by kernel_rfl) rfl #[.slice A0_1 l0_1.length c0_1, .func (.func 45) #[] #[]] rfl (by (try simp only [List.map_toArray,List.map_cons,List.map_nil]);first | done | rfl | (simp only [List.length_drop,List.length_take];rfl)) ?_;(with_reducible refine (containsFunc_leaf_Check_1.calls _ _ l0_1 true _ ?side1 ?side2 A32.out).mono ?_);(case side1 => repeat (first | exact (Kd.C_below HR0_1.out HB.out) | (with_reducible refine Kd.C_alloc ?_ _) | (with_reducible refine Kd.C_drewN ?_ _) | (with_reducible refine Kd.C_drew ?_)));(case side2 => exact HC0_1.out);rintro e w36 ⟨rfl,hb⟩;refine ⟨_,rfl,?_⟩;have n0_:=A_ (bx_ BK105.out (by intro h_;(with_reducible repeat (first | refine kd_ ?_ _ | refine ke_ ?_ | refine ka_ ?_ _));exact h_) hb);have n1_:=A_ (bp_ (by repeat (first | (with_reducible first | exact HB.out | apply ba_ | apply bd_ | apply be_ | refine bs_ ?_ GE105.out) | exact HB.out)) hb);clear BK105;clear HB;have BK105:=n0_;have HB:=n1_;clear n0_ n1_;(try clear hb);(try clear hb2);(try clear hk);(try clear hi)))
        (try simp only [Act.put,u1_,u2_,u3_])
        go_cut [2] (fun v2 wc => ∃ (kq : Nat) (x2_33 : Int),v2 = .int .i64 x2_33 ∧ Aside0 (leaf_Check.j3 kq x2_33 = some r) ∧ Aside0 (kq ≤ k2) ∧ Aside0 (wc.heap[gb105]? = some (.cells #[(.slice A0_0 l0_0.length c0_0),(.slice A0_1 l0_1.length c0_1)] 27 (0,0))) ∧ Aside0 (Below w.heap.size w wc))
        case first =>
         have H:=HC34.out;clear HC34;have H':=A_ H;clear H;go_wp2;go_meet
         case rel => exact ⟨_,(1),(by first | rfl | (simp;done) | (simp [*];done)),H',⟨by have:=HJ1.out;have:=HK2.out;first | omega | exact Nat.le_refl _⟩,⟨by (with_reducible repeat (first | refine kd_ ?_ _ | refine ke_ ?_ | refine ka_ ?_ _));exact BK105.out⟩,⟨by repeat (first | (with_reducible first | exact HB.out | apply ba_ | apply bd_ | apply be_ | refine bs_ ?_ GE105.out) | exact HB.out)⟩⟩
        case rest =>
         clear HC34;(try clear c1);(try clear p1);(try clear q1);(try clear hx1);(try clear c2);(try clear p2);(try clear c3);(try clear c5);(try clear c5b0);(try clear c5b1);(try clear c6);(try clear c6b0);(try clear c6b1);(try clear p6);(try clear c8);(try clear c8b0);(try clear c8b1);(try clear c10);(try clear c10b0);(try clear p10);(try clear q10);(try clear hx10);(try clear c11);(try clear c11b0);(try clear c15);(try clear c17);(try clear c17b0);(try clear c18);(try clear c18b0);(try clear c19);(try clear c19b0);(try clear c20);(try clear c20b0);(try clear c21);(try clear c21b0);(try clear c22);(try clear c22b0);(try clear c23);(try clear c23b0);(try clear c24);(try clear c24b0);(try clear c24b1);(try clear c26);(try clear c33);(try clear hx106_0);(try clear hx107_0);(try clear p1);(try clear p10);(try clear p106);(try clear p107);(try clear p2);(try clear p6);(try clear q1);(try clear q10);(try clear q106);(try clear q107);(try clear z12_0 z12_1 z13_0 z13_1 z14_0 z14_1 z16_0 z16_1 z28_0 z28_1 z30_0 z30_1 z35_0 z35_1 z4_0 z4_1 z7_0 z7_1 y12_0 y12_1 y13_0 y13_1 y14_0 y14_1 y16_0 y16_1 y28_0 y28_1 y30_0 y30_1 y35_0 y35_1 y4_0 y4_1 y7_0 y7_1);obtain ⟨kq,x2_33,rfl,HA,HJ33,BK105,HB⟩:=hcut
         cases kq with
         | zero => exact absurd HA.out (by simp [leaf_Check.j3])
         | succ kj33 =>
          have H:=HA.out;clear HA
          simp only [leaf_Check.j3] at H
          obtain rfl:=Option.some.inj H;go_wp2;go_ret
          exact ⟨by first | rfl | (simp [errW_none,errW_some] <;> rfl) | (simp [*,errW_none,errW_some] <;> rfl),by repeat (first | (with_reducible first | exact HB.out | apply ba_ | apply bd_ | apply be_ | refine bs_ ?_ GE105.out) | exact HB.out)⟩
       ·replace c33:=Bool.eq_false_iff.mpr c33
        subst c33
        have H1 : ((leaf_need.f k2 l0_0 l0_1).bind fun t111 => (if t111 > 508 then (leaf_Check.j4 k2 1) else (some 0))) = some r:=by rw [if_neg (show ¬ (false = true) by decide)] at H;exact H
        clear H;have H:=H1;clear H1;replace H:=Option.bind_eq_some_iff.mp H;obtain ⟨t111,A370,H⟩:=H
        replace H : (if t111 > 508 then (leaf_Check.j4 k2 1) else (some 0)) = some r:=H
        have A37:=A_ A370;clear A370
        by_cases c38 : t111 > 508
        ·rw [if_pos c38] at H
         have c38b0 : decide (508 < t111) = true:=dt_ c38;clear c38;have HC39:=A_ H;clear H;have z40_0 : wr.cell? ⟨gb105,0,none⟩ = some (.slice A0_0 l0_0.length c0_0):=(bc_ BK105.out 0).trans rfl;have z40_1 : wr.cell? ⟨gb105,1,none⟩ = some (.slice A0_1 l0_1.length c0_1):=(bc_ BK105.out 1).trans rfl;have y40_0:=bf_ BK105.out 0;have y40_1:=bf_ BK105.out 1
         go_upto_region 11 with (first | ((with_reducible refine gate_callee (f:=44) rfl ?_);refine goesL_ (some 60) rfl rfl Try.func44 (by kernel_rfl) rfl #[.slice A0_1 l0_1.length c0_1, .func (.func 45) #[] #[]] rfl (by (try simp only [List.map_toArray,List.map_cons,List.map_nil]);first | done | rfl | (simp only [List.length_drop,List.length_take];rfl)) ?_;(with_reducible refine (containsFunc_leaf_Check_1.calls _ _ l0_1 false _ ?side1 ?side2 A32.out).mono ?_);(case side1 => repeat (first | exact (Kd.C_below HR0_1.out HB.out) | (with_reducible refine Kd.C_alloc ?_ _) | (with_reducible refine Kd.C_drewN ?_ _) | (with_reducible refine Kd.C_drew ?_)));(case side2 => exact HC0_1.out);rintro e w41 ⟨rfl,hb⟩;refine ⟨_,rfl,?_⟩;have n0_:=A_ (bx_ BK105.out (by intro h_;(with_reducible repeat (first | refine kd_ ?_ _ | refine ke_ ?_ | refine ka_ ?_ _));exact h_) hb);have n1_:=A_ (bp_ (by repeat (first | (with_reducible first | exact HB.out | apply ba_ | apply bd_ | apply be_ | refine bs_ ?_ GE105.out) | exact HB.out)) hb);clear BK105;clear HB;have BK105:=n0_;have HB:=n1_;clear n0_ n1_;(try clear hb);(try clear hb2);(try clear hk);(try clear hi);have z42_0 : w41.cell? ⟨gb105,0,none⟩ = some (.slice A0_0 l0_0.length c0_0):=(bc_ BK105.out 0).trans rfl;have z42_1 : w41.cell? ⟨gb105,1,none⟩ = some (.slice A0_1 l0_1.length c0_1):=(bc_ BK105.out 1).trans rfl;have y42_0:=bf_ BK105.out 0;have y42_1:=bf_ BK105.out 1) | (go_at_call 46;(with_reducible refine (leaf_need.calls k2 _ _ l0_0 _ _ l0_1 t111 _ ?side1 ?side2 ?side3 ?side4 A37.out).mono ?_);(case side1 => repeat (first | exact (Kd.C_below HR0_0.out HB.out) | (with_reducible refine Kd.C_alloc ?_ _) | (with_reducible refine Kd.C_drewN ?_ _) | (with_reducible refine Kd.C_drew ?_)));(case side2 => exact HC0_0.out);(case side3 => repeat (first | exact (Kd.C_below HR0_1.out HB.out) | (with_reducible refine Kd.C_alloc ?_ _) | (with_reducible refine Kd.C_drewN ?_ _) | (with_reducible refine Kd.C_drew ?_)));(case side4 => exact HC0_1.out);rintro e w43 ⟨rfl,hb⟩;have n0_:=A_ (bx_ BK105.out (by intro h_;(with_reducible repeat (first | refine kd_ ?_ _ | refine ke_ ?_ | refine ka_ ?_ _));exact h_) hb);have n1_:=A_ (bp_ (by repeat (first | (with_reducible first | exact HB.out | apply ba_ | apply bd_ | apply be_ | refine bs_ ?_ GE105.out) | exact HB.out)) hb);clear BK105;clear HB;have BK105:=n0_;have HB:=n1_;clear n0_ n1_;(try clear hb);(try clear hb2);(try clear hk);(try clear hi)))
         (try simp only [Act.put,u1_,u2_,u3_])
         go_cut [2] (fun v2 wc => ∃ (kq : Nat) (x2_38 : Int),v2 = .int .i64 x2_38 ∧ Aside0 (leaf_Check.j4 kq x2_38 = some r) ∧ Aside0 (kq ≤ k2) ∧ Aside0 (wc.heap[gb105]? = some (.cells #[(.slice A0_0 l0_0.length c0_0),(.slice A0_1 l0_1.length c0_1)] 27 (0,0))) ∧ Aside0 (Below w.heap.size w wc))
         case first =>
          have H:=HC39.out;clear HC39;have H':=A_ H;clear H;go_wp2;go_meet
          case rel => exact ⟨_,(1),(by first | rfl | (simp;done) | (simp [*];done)),H',⟨by have:=HJ1.out;have:=HK2.out;first | omega | exact Nat.le_refl _⟩,⟨by (with_reducible repeat (first | refine kd_ ?_ _ | refine ke_ ?_ | refine ka_ ?_ _));exact BK105.out⟩,⟨by repeat (first | (with_reducible first | exact HB.out | apply ba_ | apply bd_ | apply be_ | refine bs_ ?_ GE105.out) | exact HB.out)⟩⟩
         case rest =>
          clear HC39;(try clear c1);(try clear p1);(try clear q1);(try clear hx1);(try clear c2);(try clear p2);(try clear c3);(try clear c5);(try clear c5b0);(try clear c5b1);(try clear c6);(try clear c6b0);(try clear c6b1);(try clear p6);(try clear c8);(try clear c8b0);(try clear c8b1);(try clear c10);(try clear c10b0);(try clear p10);(try clear q10);(try clear hx10);(try clear c11);(try clear c11b0);(try clear c15);(try clear c17);(try clear c17b0);(try clear c18);(try clear c18b0);(try clear c19);(try clear c19b0);(try clear c20);(try clear c20b0);(try clear c21);(try clear c21b0);(try clear c22);(try clear c22b0);(try clear c23);(try clear c23b0);(try clear c24);(try clear c24b0);(try clear c24b1);(try clear c26);(try clear c33);(try clear c38);(try clear c38b0);(try clear hx106_0);(try clear hx107_0);(try clear p1);(try clear p10);(try clear p106);(try clear p107);(try clear p2);(try clear p6);(try clear q1);(try clear q10);(try clear q106);(try clear q107);(try clear z12_0 z12_1 z13_0 z13_1 z14_0 z14_1 z16_0 z16_1 z28_0 z28_1 z30_0 z30_1 z35_0 z35_1 z40_0 z40_1 z42_0 z42_1 z4_0 z4_1 z7_0 z7_1 y12_0 y12_1 y13_0 y13_1 y14_0 y14_1 y16_0 y16_1 y28_0 y28_1 y30_0 y30_1 y35_0 y35_1 y40_0 y40_1 y42_0 y42_1 y4_0 y4_1 y7_0 y7_1);obtain ⟨kq,x2_38,rfl,HA,HJ38,BK105,HB⟩:=hcut
          cases kq with
          | zero => exact absurd HA.out (by simp [leaf_Check.j4])
          | succ kj38 =>
           have H:=HA.out;clear HA
           simp only [leaf_Check.j4] at H
           obtain rfl:=Option.some.inj H;go_wp2;go_ret
           exact ⟨by first | rfl | (simp [errW_none,errW_some] <;> rfl) | (simp [*,errW_none,errW_some] <;> rfl),by repeat (first | (with_reducible first | exact HB.out | apply ba_ | apply bd_ | apply be_ | refine bs_ ?_ GE105.out) | exact HB.out)⟩
        ·rw [if_neg c38] at H
         have c38b0 : decide (508 < t111) = false:=df_ c38;clear c38;obtain rfl:=Option.some.inj H;have z44_0 : wr.cell? ⟨gb105,0,none⟩ = some (.slice A0_0 l0_0.length c0_0):=(bc_ BK105.out 0).trans rfl;have z44_1 : wr.cell? ⟨gb105,1,none⟩ = some (.slice A0_1 l0_1.length c0_1):=(bc_ BK105.out 1).trans rfl;have y44_0:=bf_ BK105.out 0;have y44_1:=bf_ BK105.out 1
         go_wp2_with (first | ((with_reducible refine gate_callee (f:=44) rfl ?_);refine goesL_ (some 60) rfl rfl Try.func44 (by kernel_rfl) rfl #[.slice A0_1 l0_1.length c0_1, .func (.func 45) #[] #[]] rfl (by (try simp only [List.map_toArray,List.map_cons,List.map_nil]);first | done | rfl | (simp only [List.length_drop,List.length_take];rfl)) ?_;(with_reducible refine (containsFunc_leaf_Check_1.calls _ _ l0_1 false _ ?side1 ?side2 A32.out).mono ?_);(case side1 => repeat (first | exact (Kd.C_below HR0_1.out HB.out) | (with_reducible refine Kd.C_alloc ?_ _) | (with_reducible refine Kd.C_drewN ?_ _) | (with_reducible refine Kd.C_drew ?_)));(case side2 => exact HC0_1.out);rintro e w45 ⟨rfl,hb⟩;refine ⟨_,rfl,?_⟩;have n0_:=A_ (bx_ BK105.out (by intro h_;(with_reducible repeat (first | refine kd_ ?_ _ | refine ke_ ?_ | refine ka_ ?_ _));exact h_) hb);have n1_:=A_ (bp_ (by repeat (first | (with_reducible first | exact HB.out | apply ba_ | apply bd_ | apply be_ | refine bs_ ?_ GE105.out) | exact HB.out)) hb);clear BK105;clear HB;have BK105:=n0_;have HB:=n1_;clear n0_ n1_;(try clear hb);(try clear hb2);(try clear hk);(try clear hi);have z46_0 : w45.cell? ⟨gb105,0,none⟩ = some (.slice A0_0 l0_0.length c0_0):=(bc_ BK105.out 0).trans rfl;have z46_1 : w45.cell? ⟨gb105,1,none⟩ = some (.slice A0_1 l0_1.length c0_1):=(bc_ BK105.out 1).trans rfl;have y46_0:=bf_ BK105.out 0;have y46_1:=bf_ BK105.out 1) | (go_at_call 46;(with_reducible refine (leaf_need.calls k2 _ _ l0_0 _ _ l0_1 t111 _ ?side1 ?side2 ?side3 ?side4 A37.out).mono ?_);(case side1 => repeat (first | exact (Kd.C_below HR0_0.out HB.out) | (with_reducible refine Kd.C_alloc ?_ _) | (with_reducible refine Kd.C_drewN ?_ _) | (with_reducible refine Kd.C_drew ?_)));(case side2 => exact HC0_0.out);(case side3 => repeat (first | exact (Kd.C_below HR0_1.out HB.out) | (with_reducible refine Kd.C_alloc ?_ _) | (with_reducible refine Kd.C_drewN ?_ _) | (with_reducible refine Kd.C_drew ?_)));(case side4 => exact HC0_1.out);rintro e w47 ⟨rfl,hb⟩;have n0_:=A_ (bx_ BK105.out (by intro h_;(with_reducible repeat (first | refine kd_ ?_ _ | refine ke_ ?_ | refine ka_ ?_ _));exact h_) hb);have n1_:=A_ (bp_ (by repeat (first | (with_reducible first | exact HB.out | apply ba_ | apply bd_ | apply be_ | refine bs_ ?_ GE105.out) | exact HB.out)) hb);clear BK105;clear HB;have BK105:=n0_;have HB:=n1_;clear n0_ n1_;(try clear hb);(try clear hb2);(try clear hk);(try clear hi)))
         go_ret
         exact ⟨by first | rfl | (simp [errW_none,errW_some] <;> rfl) | (simp [*,errW_none,errW_some] <;> rfl),by repeat (first | (with_reducible first | exact HB.out | apply ba_ | apply bd_ | apply be_ | refine bs_ ?_ GE105.out) | exact HB.out)⟩
def humusref08_Need.l0 : Nat → Int → Int → List Int → List (List Int) → Option (Int)
 | 0,_,_,_,_ => none
 | k + 1,x3,x4,x313000,x313001 => if x4 < (x313001.length : Int) then (if 0 ≤ x4 then (humusref08_Need.l0 k (wrap64 ((wrap64 (x3 + 1)) + ((rd_L2 x313001 x4).length : Int))) (wrap64 (x4 + 1)) x313000 x313001) else (none)) else (some x3)
def humusref08_Need.f (k : Nat) (l0_0 : List Int) (l0_1 : List (List Int)) : Option (Int):=humusref08_Need.l0 k 18 0 l0_0 l0_1
set_option maxHeartbeats 8000000 in
set_option maxRecDepth 100000 in
theorem humusref08_Need.calls (k : Nat) (A0_0 : Option Addr) (c0_0 : Nat) (l0_0 : List Int) (A0_1 : Option Addr) (c0_1 : Nat) (l0_1 : List (List Int)) (r : Int) (w : World) (hr0_0 : Kd.C (Kd.int .i64) w A0_0 l0_0.length l0_0) (hc0_0 : l0_0.length ≤ c0_0) (hr0_1 : Kd.C (Kd.slice 5 (Kd.int .u8)) w A0_1 l0_1.length l0_1) (hc0_1 : l0_1.length ≤ c0_1) (h : humusref08_Need.f k l0_0 l0_1 = some r) :
  Calls Try.prog 23 #[.agg #[.slice A0_0 l0_0.length c0_0,.slice A0_1 l0_1.length c0_1]] w fun e w' => e = .returned (.int .i64 r) ∧ Below w.heap.size w w':=by
 have hu27:=Try.underlying27;have HR0_0:=A_ hr0_0;have HC0_0:=A_ hc0_0;clear hr0_0 hc0_0;have HR0_1:=A_ hr0_1;have HC0_1:=A_ hc0_1;clear hr0_1 hc0_1;have HB:=A_ (Below.refl w.heap.size w);have H : (humusref08_Need.l0 k 18 0 l0_0 l0_1) = some r:=h;clear h;have H':=A_ H;clear H;go_enter Try.func23,Try.ntmps23
 go_wp2_with (first | ((with_reducible refine gate_dst (N:=1) rfl ?_);refine box_event ?hg (N:=1) ?hd (cs:=#[.slice A0_0 l0_0.length c0_0,.slice A0_1 l0_1.length c0_1]) (t:=27) ?hr ?_;(case hd => rfl);(case hg => rfl);(case hr => first | (go_simp;done) | (go_simp;rfl));intro gb312 hg w2 hbox hb;have n0_:=A_ (bp_ (by repeat (first | (with_reducible first | exact HB.out | apply ba_ | apply bd_ | apply be_) | exact HB.out)) hb);have n1_:=A_ (hbox);have n2_:=A_ ((by rw [hg];exact (bz_ (by repeat (first | (with_reducible first | exact HB.out | apply ba_ | apply bd_ | apply be_) | exact HB.out))) : w.heap.size ≤ gb312));have n3_:=n2_;clear HB;have HB:=n0_;have BK312:=n1_;have GW312:=n2_;have GE312:=n3_;clear n0_ n1_ n2_ n3_;clear hb hbox hg))
 go_loopg [3,4] k (fun kq v3 v4 w' => ∃ (x3_1 : Int) (x4_1 : Int),v3 = .int .i64 x3_1 ∧ v4 = .int .i64 x4_1 ∧ Aside0 (humusref08_Need.l0 kq x3_1 x4_1 l0_0 l0_1 = some r) ∧ Aside0 (kq ≤ k) ∧ Aside0 (w'.heap[gb312]? = some (.cells #[(.slice A0_0 l0_0.length c0_0),(.slice A0_1 l0_1.length c0_1)] 27 (0,0))) ∧ Aside0 (Below w.heap.size w w'))
 case atStart => exact ⟨(18),(0),(by first | rfl | (simp;done) | (simp [*];done)),(by first | rfl | (simp;done) | (simp [*];done)),H',⟨Nat.le_refl _⟩,⟨by (with_reducible repeat (first | refine kd_ ?_ _ | refine ke_ ?_ | refine ka_ ?_ _));exact BK312.out⟩,⟨by repeat (first | (with_reducible first | exact HB.out | apply ba_ | apply bd_ | apply be_ | refine bs_ ?_ GE312.out) | exact HB.out)⟩⟩
 case round =>
  clear H';(try clear c2);(try clear p2);obtain ⟨x3_1,x4_1,rfl,rfl,HA,HK1,BK312,HB⟩:=hrel
  cases gk with
  | zero => exact absurd HA.out (by simp [humusref08_Need.l0])
  | succ k1 =>
   have H:=HA.out;clear HA
   simp only [humusref08_Need.l0] at H
   by_cases c3 : x4_1 < (l0_1.length : Int)
   ·rw [if_pos c3] at H
    have c3b0 : decide (x4_1 < (l0_1.length : Int)) = true:=dt_ c3;clear c3
    by_cases c4 : 0 ≤ x4_1
    ·rw [if_pos c4] at H
     have c4b0 : decide (0 ≤ x4_1) = true:=dt_ c4;clear c4;have H':=A_ H;clear H;have z5_0 : wr.cell? ⟨gb312,0,none⟩ = some (.slice A0_0 l0_0.length c0_0):=(bc_ BK312.out 0).trans rfl;have z5_1 : wr.cell? ⟨gb312,1,none⟩ = some (.slice A0_1 l0_1.length c0_1):=(bc_ BK312.out 1).trans rfl;have y5_0:=bf_ BK312.out 0;have y5_1:=bf_ BK312.out 1
     have p313 : 0 ≤ (x4_1 : Int):=od_ (by first | (with_reducible assumption) | assumption)
     have q313 : x4_1 < (l0_1.length : Int):=od_ (by first | (with_reducible assumption) | assumption)
     obtain ⟨ad313,A313_0,c313_0,e313,hx313_0,hl313_0,hi313_0⟩:=at_L2 HR0_1.out x4_1 p313 q313
     cases e313
     replace hx313_0:=(HB.out.cell (wb_ w _ hx313_0)).trans hx313_0;have HR313_0:=A_ hi313_0;have HC313_0:=A_ hl313_0;clear hi313_0 hl313_0;replace p313:=eq_true p313;replace q313:=eq_true q313;go_wp2;go_roundg k1
     case measure => have:=HK1.out;omega
     case rel => exact ⟨(wrap64 ((wrap64 (x3_1 + 1)) + ((rd_L2 l0_1 x4_1).length : Int))),(wrap64 (x4_1 + 1)),(by first | rfl | (simp;done) | (simp [*];done)),(by first | rfl | (simp;done) | (simp [*];done)),H',⟨by have:=HK1.out;omega⟩,⟨by (with_reducible repeat (first | refine kd_ ?_ _ | refine ke_ ?_ | refine ka_ ?_ _));exact BK312.out⟩,⟨by repeat (first | (with_reducible first | exact HB.out | apply ba_ | apply bd_ | apply be_ | refine bs_ ?_ GE312.out) | exact HB.out)⟩⟩
    ·rw [if_neg c4] at H
     exact absurd H (by simp)
   ·rw [if_neg c3] at H
    have c3b0 : decide (x4_1 < (l0_1.length : Int)) = false:=df_ c3;clear c3;obtain rfl:=Option.some.inj H;have z6_0 : wr.cell? ⟨gb312,0,none⟩ = some (.slice A0_0 l0_0.length c0_0):=(bc_ BK312.out 0).trans rfl;have z6_1 : wr.cell? ⟨gb312,1,none⟩ = some (.slice A0_1 l0_1.length c0_1):=(bc_ BK312.out 1).trans rfl;have y6_0:=bf_ BK312.out 0;have y6_1:=bf_ BK312.out 1;go_wp2;go_ret
    exact ⟨by first | rfl | (simp [errW_none,errW_some] <;> rfl) | (simp [*,errW_none,errW_some] <;> rfl),by repeat (first | (with_reducible first | exact HB.out | apply ba_ | apply bd_ | apply be_ | refine bs_ ?_ GE312.out) | exact HB.out)⟩
mutual
def humusref08_May.j0 : Nat → Bool → List Int → List (List Int) → Option (Bool)
 | 0,_,_,_ => none
 | k + 1,x15,x315000,x315001 => if x15 = true then (some false) else (humusref08_May.l0 k 0 x315000 x315001)
def humusref08_May.l0 : Nat → Int → List Int → List (List Int) → Option (Bool)
 | 0,_,_,_ => none
 | k + 1,x3,x315000,x315001 => if x3 < 4 then (if 0 ≤ x3 then (if x3 < (x315000.length : Int) then (if (rd x315000 x3) < 0 then (humusref08_May.j2 k x3 true x315000 x315001) else (humusref08_May.j2 k x3 (decide ((rd x315000 x3) > 2147483647)) x315000 x315001)) else (none)) else (none)) else (humusref08_May.l2 k 0 x315000 x315001)
def humusref08_May.j2 : Nat → Int → Bool → List Int → List (List Int) → Option (Bool)
 | 0,_,_,_,_ => none
 | k + 1,x3,x33,x315000,x315001 => if x33 = true then (some false) else (humusref08_May.l1 k x3 0 x315000 x315001)
def humusref08_May.l1 : Nat → Int → Int → List Int → List (List Int) → Option (Bool)
 | 0,_,_,_,_ => none
 | k + 1,x3,x4,x315000,x315001 => if x4 < x3 then (if 0 ≤ x4 then (if x4 < (x315000.length : Int) then (if (rd x315000 x4) = 0 then (humusref08_May.l1 k x3 (wrap64 (x4 + 1)) x315000 x315001) else (if 0 ≤ x3 then (if x3 < (x315000.length : Int) then (if (rd x315000 x4) = (rd x315000 x3) then (some false) else (humusref08_May.l1 k x3 (wrap64 (x4 + 1)) x315000 x315001)) else (none)) else (none))) else (none)) else (none)) else (humusref08_May.l0 k (wrap64 (x3 + 1)) x315000 x315001)
def humusref08_May.l2 : Nat → Int → List Int → List (List Int) → Option (Bool)
 | 0,_,_,_ => none
 | k + 1,x5,x315000,x315001 => if x5 < (x315001.length : Int) then (if 0 ≤ x5 then (if ((rd_L2 x315001 x5).length : Int) > 255 then (some false) else (if x5 = (wrap64 ((x315001.length : Int) - 1)) then (if ((rd_L2 x315001 x5).length : Int) = 0 then (some false) else (humusref08_May.l2 k (wrap64 (x5 + 1)) x315000 x315001)) else (humusref08_May.l2 k (wrap64 (x5 + 1)) x315000 x315001))) else (none)) else ((humusref08_Need.f k x315000 x315001).bind fun t322 => (some (decide (t322 ≤ 508))))
end
def humusref08_May.f (k : Nat) (l0_0 : List Int) (l0_1 : List (List Int)) : Option (Bool):=if (l0_0.length : Int) = 4 then (humusref08_May.j0 k (decide ((l0_1.length : Int) > 64)) l0_0 l0_1) else (humusref08_May.j0 k true l0_0 l0_1)
set_option maxHeartbeats 8000000 in
set_option maxRecDepth 100000 in
theorem humusref08_May.calls (k : Nat) (A0_0 : Option Addr) (c0_0 : Nat) (l0_0 : List Int) (A0_1 : Option Addr) (c0_1 : Nat) (l0_1 : List (List Int)) (r : Bool) (w : World) (hr0_0 : Kd.C (Kd.int .i64) w A0_0 l0_0.length l0_0) (hc0_0 : l0_0.length ≤ c0_0) (hr0_1 : Kd.C (Kd.slice 5 (Kd.int .u8)) w A0_1 l0_1.length l0_1) (hc0_1 : l0_1.length ≤ c0_1) (h : humusref08_May.f k l0_0 l0_1 = some r) :
  Calls Try.prog 13 #[.agg #[.slice A0_0 l0_0.length c0_0,.slice A0_1 l0_1.length c0_1]] w fun e w' => e = .returned (.bool r) ∧ Below w.heap.size w w':=by
 have hu27:=Try.underlying27;have HR0_0:=A_ hr0_0;have HC0_0:=A_ hc0_0;clear hr0_0 hc0_0;have HR0_1:=A_ hr0_1;have HC0_1:=A_ hc0_1;clear hr0_1 hc0_1;have HB:=A_ (Below.refl w.heap.size w)
 have H : (if (l0_0.length : Int) = 4 then (humusref08_May.j0 k (decide ((l0_1.length : Int) > 64)) l0_0 l0_1) else (humusref08_May.j0 k true l0_0 l0_1)) = some r:=h
 clear h;have HC2:=A_ H;clear H;go_enter Try.func13,Try.ntmps13
 go_upto_region 1 with (first | ((with_reducible refine gate_dst (N:=1) rfl ?_);(try (refine gate_guard (by rfl) ?_;dsimp only));refine box_event ?hg (N:=1) ?hd (cs:=#[.slice A0_0 l0_0.length c0_0,.slice A0_1 l0_1.length c0_1]) (t:=27) ?hr ?_;(case hd => rfl);(case hg => rfl);(case hr => first | (go_simp;done) | (go_simp;rfl));intro gb314 hg w3 hbox hb;have n0_:=A_ (bp_ (by repeat (first | (with_reducible first | exact HB.out | apply ba_ | apply bd_ | apply be_) | exact HB.out)) hb);have n1_:=A_ (hbox);have n2_:=A_ ((by rw [hg];exact (bz_ (by repeat (first | (with_reducible first | exact HB.out | apply ba_ | apply bd_ | apply be_) | exact HB.out))) : w.heap.size ≤ gb314));have n3_:=n2_;clear HB;have HB:=n0_;have BK314:=n1_;have GW314:=n2_;have GE314:=n3_;clear n0_ n1_ n2_ n3_;clear hb hbox hg))
 repeat (go_quiet (first | ((with_reducible refine gate_dst (N:=1) rfl ?_);(try (refine gate_guard (by rfl) ?_;dsimp only));refine box_event ?hg (N:=1) ?hd (cs:=#[.slice A0_0 l0_0.length c0_0,.slice A0_1 l0_1.length c0_1]) (t:=27) ?hr ?_;(case hd => rfl);(case hg => rfl);(case hr => first | (go_simp;done) | (go_simp;rfl));intro gb314 hg w3 hbox hb;have n0_:=A_ (bp_ (by repeat (first | (with_reducible first | exact HB.out | apply ba_ | apply bd_ | apply be_) | exact HB.out)) hb);have n1_:=A_ (hbox);have n2_:=A_ ((by rw [hg];exact (bz_ (by repeat (first | (with_reducible first | exact HB.out | apply ba_ | apply bd_ | apply be_) | exact HB.out))) : w.heap.size ≤ gb314));have n3_:=n2_;clear HB;have HB:=n0_;have BK314:=n1_;have GW314:=n2_;have GE314:=n3_;clear n0_ n1_ n2_ n3_;clear hb hbox hg));go_upto_region 1 with (first | ((with_reducible refine gate_dst (N:=1) rfl ?_);(try (refine gate_guard (by rfl) ?_;dsimp only));refine box_event ?hg (N:=1) ?hd (cs:=#[.slice A0_0 l0_0.length c0_0,.slice A0_1 l0_1.length c0_1]) (t:=27) ?hr ?_;(case hd => rfl);(case hg => rfl);(case hr => first | (go_simp;done) | (go_simp;rfl));intro gb314 hg w3 hbox hb;have n0_:=A_ (bp_ (by repeat (first | (with_reducible first | exact HB.out | apply ba_ | apply bd_ | apply be_) | exact HB.out)) hb);have n1_:=A_ (hbox);have n2_:=A_ ((by rw [hg];exact (bz_ (by repeat (first | (with_reducible first | exact HB.out | apply ba_ | apply bd_ | apply be_) | exact HB.out))) : w.heap.size ≤ gb314));have n3_:=n2_;clear HB;have HB:=n0_;have BK314:=n1_;have GW314:=n2_;have GE314:=n3_;clear n0_ n1_ n2_ n3_;clear hb hbox hg)))
 (try simp only [Act.put,u1_,u2_,u3_])
 go_cut [15] (fun v15 wc => ∃ (kq : Nat) (x15_1 : Bool),v15 = .bool x15_1 ∧ Aside0 (humusref08_May.j0 kq x15_1 l0_0 l0_1 = some r) ∧ Aside0 (kq ≤ k) ∧ Aside0 (wc.heap[gb314]? = some (.cells #[(.slice A0_0 l0_0.length c0_0),(.slice A0_1 l0_1.length c0_1)] 27 (0,0))) ∧ Aside0 (Below w.heap.size w wc))
 case first =>
  have H:=HC2.out;clear HC2
  by_cases c4 : (l0_0.length : Int) = 4
  ·rw [if_pos c4] at H
   have c4b0 : ((l0_0.length : Int) == 4) = true:=beq_iff_eq.mpr c4;have c4b1 : ((l0_0.length : Int) != 4) = false:=bne_eq_false_iff_eq.mpr c4;clear c4;(first | rw [c4b0] | (simp only [i64_w,i32_w];rw [c4b0]) | skip);have H':=A_ H;clear H;have z5_0 : w3.cell? ⟨gb314,0,none⟩ = some (.slice A0_0 l0_0.length c0_0):=(bc_ BK314.out 0).trans rfl;have z5_1 : w3.cell? ⟨gb314,1,none⟩ = some (.slice A0_1 l0_1.length c0_1):=(bc_ BK314.out 1).trans rfl;have y5_0:=bf_ BK314.out 0;have y5_1:=bf_ BK314.out 1;go_wp2
   repeat (go_quiet (fail);try go_wp2)
   go_meet
   case rel => exact ⟨_,(decide ((l0_1.length : Int) > 64)),(by first | rfl | (simp;done) | (simp [*];done)),H',⟨by first | omega | exact Nat.le_refl _⟩,⟨by (with_reducible repeat (first | refine kd_ ?_ _ | refine ke_ ?_ | refine ka_ ?_ _));exact BK314.out⟩,⟨by repeat (first | (with_reducible first | exact HB.out | apply ba_ | apply bd_ | apply be_ | refine bs_ ?_ GE314.out) | exact HB.out)⟩⟩
  ·rw [if_neg c4] at H
   have c4b0 : ((l0_0.length : Int) == 4) = false:=beq_eq_false_iff_ne.mpr c4;have c4b1 : ((l0_0.length : Int) != 4) = true:=bne_iff_ne.mpr c4;(first | rw [c4b0] | (simp only [i64_w,i32_w];rw [c4b0]) | skip);have H':=A_ H;clear H;have z6_0 : w3.cell? ⟨gb314,0,none⟩ = some (.slice A0_0 l0_0.length c0_0):=(bc_ BK314.out 0).trans rfl;have z6_1 : w3.cell? ⟨gb314,1,none⟩ = some (.slice A0_1 l0_1.length c0_1):=(bc_ BK314.out 1).trans rfl;have y6_0:=bf_ BK314.out 0;have y6_1:=bf_ BK314.out 1;go_wp2
   repeat (go_quiet (fail);try go_wp2)
   go_meet
   case rel => exact ⟨_,true,rfl,H',⟨by first | omega | exact Nat.le_refl _⟩,⟨by (with_reducible repeat (first | refine kd_ ?_ _ | refine ke_ ?_ | refine ka_ ?_ _));exact BK314.out⟩,⟨by repeat (first | (with_reducible first | exact HB.out | apply ba_ | apply bd_ | apply be_ | refine bs_ ?_ GE314.out) | exact HB.out)⟩⟩
 case rest =>
  clear HC2;(try clear c1);(try clear p2);(try clear c4);(try clear c4b0);(try clear c4b1);(try clear z5_0 z5_1 z6_0 z6_1 y5_0 y5_1 y6_0 y6_1);obtain ⟨kq,x15_1,rfl,HA,HJ1,BK314,HB⟩:=hcut
  cases kq with
  | zero => exact absurd HA.out (by simp [humusref08_May.j0])
  | succ kj1 =>
   have H:=HA.out;clear HA
   simp only [humusref08_May.j0] at H
   by_cases c7 : x15_1 = true
   ·subst c7
    have H1 : (some false) = some r:=by rw [if_pos rfl] at H;exact H
    clear H;have H:=H1;clear H1;obtain rfl:=Option.some.inj H;go_wp2
    repeat (go_quiet (fail);try go_wp2)
    go_ret
    exact ⟨by first | rfl | (simp [errW_none,errW_some] <;> rfl) | (simp [*,errW_none,errW_some] <;> rfl),by repeat (first | (with_reducible first | exact HB.out | apply ba_ | apply bd_ | apply be_ | refine bs_ ?_ GE314.out) | exact HB.out)⟩
   ·replace c7:=Bool.eq_false_iff.mpr c7
    subst c7
    have H1 : (humusref08_May.l0 kj1 0 l0_0 l0_1) = some r:=by rw [if_neg (show ¬ (false = true) by decide)] at H;exact H
    clear H;have H:=H1;clear H1;have H':=A_ H;clear H;go_wp2
    repeat (go_quiet (fail);try go_wp2)
    go_loopg [3] kj1 (fun kq v3 w' => ∃ (x3_2 : Int),v3 = .int .i64 x3_2 ∧ Aside0 (humusref08_May.l0 kq x3_2 l0_0 l0_1 = some r) ∧ Aside0 (kq ≤ kj1) ∧ Aside0 (w'.heap[gb314]? = some (.cells #[(.slice A0_0 l0_0.length c0_0),(.slice A0_1 l0_1.length c0_1)] 27 (0,0))) ∧ Aside0 (Below w.heap.size w w'))
    case atStart => exact ⟨(0),(by first | rfl | (simp;done) | (simp [*];done)),H',⟨Nat.le_refl _⟩,⟨by (with_reducible repeat (first | refine kd_ ?_ _ | refine ke_ ?_ | refine ka_ ?_ _));exact BK314.out⟩,⟨by repeat (first | (with_reducible first | exact HB.out | apply ba_ | apply bd_ | apply be_ | refine bs_ ?_ GE314.out) | exact HB.out)⟩⟩
    case round =>
     clear H';(try clear c1);(try clear p2);(try clear c4);(try clear c4b0);(try clear c4b1);(try clear c7);(try clear p2);(try clear z5_0 z5_1 z6_0 z6_1 y5_0 y5_1 y6_0 y6_1);obtain ⟨x3_2,rfl,HA,HK2,BK314,HB⟩:=hrel
     cases gk with
     | zero => exact absurd HA.out (by simp [humusref08_May.l0])
     | succ k2 =>
      have H:=HA.out;clear HA
      simp only [humusref08_May.l0] at H
      by_cases c8 : x3_2 < 4
      ·rw [if_pos c8] at H
       have c8b0 : decide (x3_2 < 4) = true:=dt_ c8;clear c8;have HC9:=A_ H;clear H
       go_upto_region 6 with (fail)
       repeat (go_quiet (fail);go_upto_region 6 with (fail))
       go_cut [33] (fun v33 wc => ∃ (kq : Nat) (x33_8 : Bool),v33 = .bool x33_8 ∧ Aside0 (humusref08_May.j2 kq x3_2 x33_8 l0_0 l0_1 = some r) ∧ Aside0 (kq ≤ k2) ∧ Aside0 (wc.heap[gb314]? = some (.cells #[(.slice A0_0 l0_0.length c0_0),(.slice A0_1 l0_1.length c0_1)] 27 (0,0))) ∧ Aside0 (Below w.heap.size w wc))
       case first =>
        have H:=HC9.out;clear HC9
        by_cases c10 : 0 ≤ x3_2
        ·rw [if_pos c10] at H
         have c10b0 : decide (0 ≤ x3_2) = true:=dt_ c10;clear c10;(first | rw [c10b0] | (simp only [i64_w,i32_w];rw [c10b0]) | skip)
         by_cases c11 : x3_2 < (l0_0.length : Int)
         ·rw [if_pos c11] at H
          have c11b0 : decide (x3_2 < (l0_0.length : Int)) = true:=dt_ c11;clear c11
          by_cases c12 : (rd l0_0 x3_2) < 0
          ·rw [if_pos c12] at H
           have c12b0 : decide ((rd l0_0 x3_2) < 0) = true:=dt_ c12;clear c12;have H':=A_ H;clear H;have z13_0 : wr.cell? ⟨gb314,0,none⟩ = some (.slice A0_0 l0_0.length c0_0):=(bc_ BK314.out 0).trans rfl;have z13_1 : wr.cell? ⟨gb314,1,none⟩ = some (.slice A0_1 l0_1.length c0_1):=(bc_ BK314.out 1).trans rfl;have y13_0:=bf_ BK314.out 0;have y13_1:=bf_ BK314.out 1
           have p315 : 0 ≤ (x3_2 : Int):=od_ (by first | (with_reducible assumption) | assumption)
           have q315 : x3_2 < (l0_0.length : Int):=od_ (by first | (with_reducible assumption) | assumption)
           obtain ⟨ad315,e315,hx315_0⟩:=Kd.at_int HR0_0.out x3_2 p315 q315
           cases e315
           replace hx315_0:=(HB.out.cell (wb_ w _ hx315_0)).trans hx315_0;replace p315:=eq_true p315;replace q315:=eq_true q315;go_wp2
           repeat (go_quiet (fail);try go_wp2)
           go_meet
           case rel => exact ⟨_,true,rfl,H',⟨by have:=HJ1.out;have:=HK2.out;first | omega | exact Nat.le_refl _⟩,⟨by (with_reducible repeat (first | refine kd_ ?_ _ | refine ke_ ?_ | refine ka_ ?_ _));exact BK314.out⟩,⟨by repeat (first | (with_reducible first | exact HB.out | apply ba_ | apply bd_ | apply be_ | refine bs_ ?_ GE314.out) | exact HB.out)⟩⟩
          ·rw [if_neg c12] at H
           have c12b0 : decide ((rd l0_0 x3_2) < 0) = false:=df_ c12;clear c12;have H':=A_ H;clear H;have z14_0 : wr.cell? ⟨gb314,0,none⟩ = some (.slice A0_0 l0_0.length c0_0):=(bc_ BK314.out 0).trans rfl;have z14_1 : wr.cell? ⟨gb314,1,none⟩ = some (.slice A0_1 l0_1.length c0_1):=(bc_ BK314.out 1).trans rfl;have y14_0:=bf_ BK314.out 0;have y14_1:=bf_ BK314.out 1
           have p315 : 0 ≤ (x3_2 : Int):=od_ (by first | (with_reducible assumption) | assumption)
           have q315 : x3_2 < (l0_0.length : Int):=od_ (by first | (with_reducible assumption) | assumption)
           obtain ⟨ad315,e315,hx315_0⟩:=Kd.at_int HR0_0.out x3_2 p315 q315
           cases e315
           replace hx315_0:=(HB.out.cell (wb_ w _ hx315_0)).trans hx315_0;replace p315:=eq_true p315;replace q315:=eq_true q315
           have p316 : 0 ≤ (x3_2 : Int):=od_ (by first | (with_reducible assumption) | assumption)
           have q316 : x3_2 < (l0_0.length : Int):=od_ (by first | (with_reducible assumption) | assumption)
           obtain ⟨ad316,e316,hx316_0⟩:=Kd.at_int HR0_0.out x3_2 p316 q316
           obtain rfl : ad315 = ad316:=(by injection e316)
           replace hx316_0:=(HB.out.cell (wb_ w _ hx316_0)).trans hx316_0;replace p316:=eq_true p316;replace q316:=eq_true q316;go_wp2
           repeat (go_quiet (fail);try go_wp2)
           go_meet
           case rel => exact ⟨_,(decide ((rd l0_0 x3_2) > 2147483647)),(by first | rfl | (simp;done) | (simp [*];done)),H',⟨by have:=HJ1.out;have:=HK2.out;first | omega | exact Nat.le_refl _⟩,⟨by (with_reducible repeat (first | refine kd_ ?_ _ | refine ke_ ?_ | refine ka_ ?_ _));exact BK314.out⟩,⟨by repeat (first | (with_reducible first | exact HB.out | apply ba_ | apply bd_ | apply be_ | refine bs_ ?_ GE314.out) | exact HB.out)⟩⟩
         ·rw [if_neg c11] at H
          exact absurd H (by simp)
        ·rw [if_neg c10] at H
         exact absurd H (by simp)
       case rest =>
        clear HC9;(try clear c1);(try clear p2);(try clear p3);(try clear q3);(try clear hx3);(try clear c4);(try clear c4b0);(try clear c4b1);(try clear c7);(try clear c8);(try clear c8b0);(try clear c10);(try clear c10b0);(try clear c11);(try clear c11b0);(try clear c12);(try clear c12b0);(try clear c13);(try clear hx315_0);(try clear hx316_0);(try clear p2);(try clear p315);(try clear p316);(try clear q315);(try clear q316);(try clear z13_0 z13_1 z14_0 z14_1 z5_0 z5_1 z6_0 z6_1 y13_0 y13_1 y14_0 y14_1 y5_0 y5_1 y6_0 y6_1);obtain ⟨kq,x33_8,rfl,HA,HJ8,BK314,HB⟩:=hcut
        cases kq with
        | zero => exact absurd HA.out (by simp [humusref08_May.j2])
        | succ kj8 =>
         have H:=HA.out;clear HA
         simp only [humusref08_May.j2] at H
         by_cases c15 : x33_8 = true
         ·subst c15
          have H1 : (some false) = some r:=by rw [if_pos rfl] at H;exact H
          clear H;have H:=H1;clear H1;obtain rfl:=Option.some.inj H;go_wp2
          repeat (go_quiet (fail);try go_wp2)
          go_ret
          exact ⟨by first | rfl | (simp [errW_none,errW_some] <;> rfl) | (simp [*,errW_none,errW_some] <;> rfl),by repeat (first | (with_reducible first | exact HB.out | apply ba_ | apply bd_ | apply be_ | refine bs_ ?_ GE314.out) | exact HB.out)⟩
         ·replace c15:=Bool.eq_false_iff.mpr c15
          subst c15
          have H1 : (humusref08_May.l1 kj8 x3_2 0 l0_0 l0_1) = some r:=by rw [if_neg (show ¬ (false = true) by decide)] at H;exact H
          clear H;have H:=H1;clear H1;have H':=A_ H;clear H;go_wp2
          repeat (go_quiet (fail);try go_wp2)
          go_loopg [4] kj8 (fun kq v4 w' => ∃ (x4_4 : Int),v4 = .int .i64 x4_4 ∧ Aside0 (humusref08_May.l1 kq x3_2 x4_4 l0_0 l0_1 = some r) ∧ Aside0 (kq ≤ kj8) ∧ Aside0 (w'.heap[gb314]? = some (.cells #[(.slice A0_0 l0_0.length c0_0),(.slice A0_1 l0_1.length c0_1)] 27 (0,0))) ∧ Aside0 (Below w.heap.size w w'))
          case atStart => exact ⟨(0),(by first | rfl | (simp;done) | (simp [*];done)),H',⟨Nat.le_refl _⟩,⟨by (with_reducible repeat (first | refine kd_ ?_ _ | refine ke_ ?_ | refine ka_ ?_ _));exact BK314.out⟩,⟨by repeat (first | (with_reducible first | exact HB.out | apply ba_ | apply bd_ | apply be_ | refine bs_ ?_ GE314.out) | exact HB.out)⟩⟩
          case round =>
           clear H';(try clear c1);(try clear p2);(try clear p3);(try clear q3);(try clear hx3);(try clear c4);(try clear c4b0);(try clear c4b1);(try clear c7);(try clear c8);(try clear c8b0);(try clear c10);(try clear c10b0);(try clear c11);(try clear c11b0);(try clear c12);(try clear c12b0);(try clear c13);(try clear c15);(try clear hx315_0);(try clear hx316_0);(try clear p2);(try clear p3);(try clear p315);(try clear p316);(try clear q3);(try clear q315);(try clear q316);(try clear z13_0 z13_1 z14_0 z14_1 z5_0 z5_1 z6_0 z6_1 y13_0 y13_1 y14_0 y14_1 y5_0 y5_1 y6_0 y6_1);obtain ⟨x4_4,rfl,HA,HK4,BK314,HB⟩:=hrel
           cases gk with
           | zero => exact absurd HA.out (by simp [humusref08_May.l1])
           | succ k4 =>
            have H:=HA.out;clear HA
            simp only [humusref08_May.l1] at H
            by_cases c16 : x4_4 < x3_2
            ·rw [if_pos c16] at H
             have c16b0 : decide (x4_4 < x3_2) = true:=dt_ c16;clear c16
             by_cases c17 : 0 ≤ x4_4
             ·rw [if_pos c17] at H
              have c17b0 : decide (0 ≤ x4_4) = true:=dt_ c17;clear c17
              by_cases c18 : x4_4 < (l0_0.length : Int)
              ·rw [if_pos c18] at H
               have c18b0 : decide (x4_4 < (l0_0.length : Int)) = true:=dt_ c18;clear c18
               by_cases c19 : (rd l0_0 x4_4) = 0
               ·rw [if_pos c19] at H
                have c19b0 : ((rd l0_0 x4_4) == 0) = true:=beq_iff_eq.mpr c19;have c19b1 : ((rd l0_0 x4_4) != 0) = false:=bne_eq_false_iff_eq.mpr c19;clear c19;have H':=A_ H;clear H;have z20_0 : wr.cell? ⟨gb314,0,none⟩ = some (.slice A0_0 l0_0.length c0_0):=(bc_ BK314.out 0).trans rfl;have z20_1 : wr.cell? ⟨gb314,1,none⟩ = some (.slice A0_1 l0_1.length c0_1):=(bc_ BK314.out 1).trans rfl;have y20_0:=bf_ BK314.out 0;have y20_1:=bf_ BK314.out 1
                have p317 : 0 ≤ (x4_4 : Int):=od_ (by first | (with_reducible assumption) | assumption)
                have q317 : x4_4 < (l0_0.length : Int):=od_ (by first | (with_reducible assumption) | assumption)
                obtain ⟨ad317,e317,hx317_0⟩:=Kd.at_int HR0_0.out x4_4 p317 q317
                cases e317
                replace hx317_0:=(HB.out.cell (wb_ w _ hx317_0)).trans hx317_0;replace p317:=eq_true p317;replace q317:=eq_true q317;go_wp2
                repeat (go_quiet (fail);try go_wp2)
                go_roundg k4
                case measure => have:=HJ1.out;have:=HK2.out;have:=HJ8.out;have:=HK4.out;omega
                case rel => exact ⟨(wrap64 (x4_4 + 1)),(by first | rfl | (simp;done) | (simp [*];done)),H',⟨by have:=HJ1.out;have:=HK2.out;have:=HJ8.out;have:=HK4.out;omega⟩,⟨by (with_reducible repeat (first | refine kd_ ?_ _ | refine ke_ ?_ | refine ka_ ?_ _));exact BK314.out⟩,⟨by repeat (first | (with_reducible first | exact HB.out | apply ba_ | apply bd_ | apply be_ | refine bs_ ?_ GE314.out) | exact HB.out)⟩⟩
               ·rw [if_neg c19] at H
                have c19b0 : ((rd l0_0 x4_4) == 0) = false:=beq_eq_false_iff_ne.mpr c19;have c19b1 : ((rd l0_0 x4_4) != 0) = true:=bne_iff_ne.mpr c19
                by_cases c21 : 0 ≤ x3_2
                ·rw [if_pos c21] at H
                 have c21b0 : decide (0 ≤ x3_2) = true:=dt_ c21;clear c21
                 by_cases c22 : x3_2 < (l0_0.length : Int)
                 ·rw [if_pos c22] at H
                  have c22b0 : decide (x3_2 < (l0_0.length : Int)) = true:=dt_ c22;clear c22
                  by_cases c23 : (rd l0_0 x4_4) = (rd l0_0 x3_2)
                  ·rw [if_pos c23] at H
                   have c23b0 : ((rd l0_0 x4_4) == (rd l0_0 x3_2)) = true:=beq_iff_eq.mpr c23;have c23b1 : ((rd l0_0 x4_4) != (rd l0_0 x3_2)) = false:=bne_eq_false_iff_eq.mpr c23;clear c23;obtain rfl:=Option.some.inj H;have z24_0 : wr.cell? ⟨gb314,0,none⟩ = some (.slice A0_0 l0_0.length c0_0):=(bc_ BK314.out 0).trans rfl;have z24_1 : wr.cell? ⟨gb314,1,none⟩ = some (.slice A0_1 l0_1.length c0_1):=(bc_ BK314.out 1).trans rfl;have y24_0:=bf_ BK314.out 0;have y24_1:=bf_ BK314.out 1
                   have p317 : 0 ≤ (x4_4 : Int):=od_ (by first | (with_reducible assumption) | assumption)
                   have q317 : x4_4 < (l0_0.length : Int):=od_ (by first | (with_reducible assumption) | assumption)
                   obtain ⟨ad317,e317,hx317_0⟩:=Kd.at_int HR0_0.out x4_4 p317 q317
                   cases e317
                   replace hx317_0:=(HB.out.cell (wb_ w _ hx317_0)).trans hx317_0;replace p317:=eq_true p317;replace q317:=eq_true q317
                   have p318 : 0 ≤ (x4_4 : Int):=od_ (by first | (with_reducible assumption) | assumption)
                   have q318 : x4_4 < (l0_0.length : Int):=od_ (by first | (with_reducible assumption) | assumption)
                   obtain ⟨ad318,e318,hx318_0⟩:=Kd.at_int HR0_0.out x4_4 p318 q318
                   obtain rfl : ad317 = ad318:=(by injection e318)
                   replace hx318_0:=(HB.out.cell (wb_ w _ hx318_0)).trans hx318_0;replace p318:=eq_true p318;replace q318:=eq_true q318
                   have p319 : 0 ≤ (x3_2 : Int):=od_ (by first | (with_reducible assumption) | assumption)
                   have q319 : x3_2 < (l0_0.length : Int):=od_ (by first | (with_reducible assumption) | assumption)
                   obtain ⟨ad319,e319,hx319_0⟩:=Kd.at_int HR0_0.out x3_2 p319 q319
                   obtain rfl : ad317 = ad319:=(by injection e319)
                   replace hx319_0:=(HB.out.cell (wb_ w _ hx319_0)).trans hx319_0;replace p319:=eq_true p319;replace q319:=eq_true q319;go_wp2
                   repeat (go_quiet (fail);try go_wp2)
                   go_ret
                   exact ⟨by first | rfl | (simp [errW_none,errW_some] <;> rfl) | (simp [*,errW_none,errW_some] <;> rfl),by repeat (first | (with_reducible first | exact HB.out | apply ba_ | apply bd_ | apply be_ | refine bs_ ?_ GE314.out) | exact HB.out)⟩
                  ·rw [if_neg c23] at H
                   have c23b0 : ((rd l0_0 x4_4) == (rd l0_0 x3_2)) = false:=beq_eq_false_iff_ne.mpr c23;have c23b1 : ((rd l0_0 x4_4) != (rd l0_0 x3_2)) = true:=bne_iff_ne.mpr c23;have H':=A_ H;clear H;have z25_0 : wr.cell? ⟨gb314,0,none⟩ = some (.slice A0_0 l0_0.length c0_0):=(bc_ BK314.out 0).trans rfl;have z25_1 : wr.cell? ⟨gb314,1,none⟩ = some (.slice A0_1 l0_1.length c0_1):=(bc_ BK314.out 1).trans rfl;have y25_0:=bf_ BK314.out 0;have y25_1:=bf_ BK314.out 1
                   have p317 : 0 ≤ (x4_4 : Int):=od_ (by first | (with_reducible assumption) | assumption)
                   have q317 : x4_4 < (l0_0.length : Int):=od_ (by first | (with_reducible assumption) | assumption)
                   obtain ⟨ad317,e317,hx317_0⟩:=Kd.at_int HR0_0.out x4_4 p317 q317
                   cases e317
                   replace hx317_0:=(HB.out.cell (wb_ w _ hx317_0)).trans hx317_0;replace p317:=eq_true p317;replace q317:=eq_true q317
                   have p318 : 0 ≤ (x4_4 : Int):=od_ (by first | (with_reducible assumption) | assumption)
                   have q318 : x4_4 < (l0_0.length : Int):=od_ (by first | (with_reducible assumption) | assumption)
                   obtain ⟨ad318,e318,hx318_0⟩:=Kd.at_int HR0_0.out x4_4 p318 q318
                   obtain rfl : ad317 = ad318:=(by injection e318)
                   replace hx318_0:=(HB.out.cell (wb_ w _ hx318_0)).trans hx318_0;replace p318:=eq_true p318;replace q318:=eq_true q318
                   have p319 : 0 ≤ (x3_2 : Int):=od_ (by first | (with_reducible assumption) | assumption)
                   have q319 : x3_2 < (l0_0.length : Int):=od_ (by first | (with_reducible assumption) | assumption)
                   obtain ⟨ad319,e319,hx319_0⟩:=Kd.at_int HR0_0.out x3_2 p319 q319
                   obtain rfl : ad317 = ad319:=(by injection e319)
                   replace hx319_0:=(HB.out.cell (wb_ w _ hx319_0)).trans hx319_0;replace p319:=eq_true p319;replace q319:=eq_true q319;go_wp2
                   repeat (go_quiet (fail);try go_wp2)
                   go_roundg k4
                   case measure => have:=HJ1.out;have:=HK2.out;have:=HJ8.out;have:=HK4.out;omega
                   case rel => exact ⟨(wrap64 (x4_4 + 1)),(by first | rfl | (simp;done) | (simp [*];done)),H',⟨by have:=HJ1.out;have:=HK2.out;have:=HJ8.out;have:=HK4.out;omega⟩,⟨by (with_reducible repeat (first | refine kd_ ?_ _ | refine ke_ ?_ | refine ka_ ?_ _));exact BK314.out⟩,⟨by repeat (first | (with_reducible first | exact HB.out | apply ba_ | apply bd_ | apply be_ | refine bs_ ?_ GE314.out) | exact HB.out)⟩⟩
                 ·rw [if_neg c22] at H
                  exact absurd H (by simp)
                ·rw [if_neg c21] at H
                 exact absurd H (by simp)
              ·rw [if_neg c18] at H
               exact absurd H (by simp)
             ·rw [if_neg c17] at H
              exact absurd H (by simp)
            ·rw [if_neg c16] at H
             have c16b0 : decide (x4_4 < x3_2) = false:=df_ c16;clear c16;have H':=A_ H;clear H;go_wp2
             repeat (go_quiet (fail);try go_wp2)
             go_roundg k4
             case measure => have:=HJ1.out;have:=HK2.out;have:=HJ8.out;have:=HK4.out;omega
             case rel => exact ⟨(wrap64 (x3_2 + 1)),(by first | rfl | (simp;done) | (simp [*];done)),H',⟨by have:=HJ1.out;have:=HK2.out;have:=HJ8.out;have:=HK4.out;omega⟩,⟨by (with_reducible repeat (first | refine kd_ ?_ _ | refine ke_ ?_ | refine ka_ ?_ _));exact BK314.out⟩,⟨by repeat (first | (with_reducible first | exact HB.out | apply ba_ | apply bd_ | apply be_ | refine bs_ ?_ GE314.out) | exact HB.out)⟩⟩
      ·rw [if_neg c8] at H
       have c8b0 : decide (x3_2 < 4) = false:=df_ c8;clear c8;have H':=A_ H;clear H;go_wp2
       repeat (go_quiet (fail);try go_wp2)
       go_loopg [5] k2 (fun kq v5 w' => ∃ (x5_3 : Int),v5 = .int .i64 x5_3 ∧ Aside0 (humusref08_May.l2 kq x5_3 l0_0 l0_1 = some r) ∧ Aside0 (kq ≤ k2) ∧ Aside0 (w'.heap[gb314]? = some (.cells #[(.slice A0_0 l0_0.length c0_0),(.slice A0_1 l0_1.length c0_1)] 27 (0,0))) ∧ Aside0 (Below w.heap.size w w'))
       case atStart => exact ⟨(0),(by first | rfl | (simp;done) | (simp [*];done)),H',⟨Nat.le_refl _⟩,⟨by (with_reducible repeat (first | refine kd_ ?_ _ | refine ke_ ?_ | refine ka_ ?_ _));exact BK314.out⟩,⟨by repeat (first | (with_reducible first | exact HB.out | apply ba_ | apply bd_ | apply be_ | refine bs_ ?_ GE314.out) | exact HB.out)⟩⟩
       case round =>
        clear H';(try clear c1);(try clear c2);(try clear p2);(try clear p3);(try clear q3);(try clear hx3);(try clear c4);(try clear c4b0);(try clear c4b1);(try clear p6);(try clear c7);(try clear c8);(try clear c8b0);(try clear c10);(try clear c10b0);(try clear c11);(try clear c11b0);(try clear c12);(try clear c12b0);(try clear c13);(try clear c15);(try clear c16);(try clear c16b0);(try clear c17);(try clear c17b0);(try clear c18);(try clear c18b0);(try clear c19);(try clear c19b0);(try clear c19b1);(try clear c21);(try clear c21b0);(try clear c22);(try clear c22b0);(try clear c23);(try clear c23b0);(try clear c23b1);(try clear hx315_0);(try clear hx316_0);(try clear hx317_0);(try clear hx318_0);(try clear hx319_0);(try clear p2);(try clear p3);(try clear p315);(try clear p316);(try clear p317);(try clear p318);(try clear p319);(try clear q3);(try clear q315);(try clear q316);(try clear q317);(try clear q318);(try clear q319);(try clear z13_0 z13_1 z14_0 z14_1 z20_0 z20_1 z24_0 z24_1 z25_0 z25_1 z5_0 z5_1 z6_0 z6_1 y13_0 y13_1 y14_0 y14_1 y20_0 y20_1 y24_0 y24_1 y25_0 y25_1 y5_0 y5_1 y6_0 y6_1);obtain ⟨x5_3,rfl,HA,HK3,BK314,HB⟩:=hrel
        cases gk with
        | zero => exact absurd HA.out (by simp [humusref08_May.l2])
        | succ k3 =>
         have H:=HA.out;clear HA
         simp only [humusref08_May.l2] at H
         by_cases c26 : x5_3 < (l0_1.length : Int)
         ·rw [if_pos c26] at H
          have c26b0 : decide (x5_3 < (l0_1.length : Int)) = true:=dt_ c26;clear c26
          by_cases c27 : 0 ≤ x5_3
          ·rw [if_pos c27] at H
           have c27b0 : decide (0 ≤ x5_3) = true:=dt_ c27;clear c27
           by_cases c28 : ((rd_L2 l0_1 x5_3).length : Int) > 255
           ·rw [if_pos c28] at H
            have c28b0 : decide (255 < ((rd_L2 l0_1 x5_3).length : Int)) = true:=dt_ c28
            have c28b1 : decide (255 < (rd_L2 l0_1 x5_3).length) = true:=dt_ (by omega)
            clear c28;obtain rfl:=Option.some.inj H;have z29_0 : wr.cell? ⟨gb314,0,none⟩ = some (.slice A0_0 l0_0.length c0_0):=(bc_ BK314.out 0).trans rfl;have z29_1 : wr.cell? ⟨gb314,1,none⟩ = some (.slice A0_1 l0_1.length c0_1):=(bc_ BK314.out 1).trans rfl;have y29_0:=bf_ BK314.out 0;have y29_1:=bf_ BK314.out 1
            have p320 : 0 ≤ (x5_3 : Int):=od_ (by first | (with_reducible assumption) | assumption)
            have q320 : x5_3 < (l0_1.length : Int):=od_ (by first | (with_reducible assumption) | assumption)
            obtain ⟨ad320,A320_0,c320_0,e320,hx320_0,hl320_0,hi320_0⟩:=at_L2 HR0_1.out x5_3 p320 q320
            cases e320
            replace hx320_0:=(HB.out.cell (wb_ w _ hx320_0)).trans hx320_0;have HR320_0:=A_ hi320_0;have HC320_0:=A_ hl320_0;clear hi320_0 hl320_0;replace p320:=eq_true p320;replace q320:=eq_true q320;go_wp2
            repeat (go_quiet (fail);try go_wp2)
            go_ret
            exact ⟨by first | rfl | (simp [errW_none,errW_some] <;> rfl) | (simp [*,errW_none,errW_some] <;> rfl),by repeat (first | (with_reducible first | exact HB.out | apply ba_ | apply bd_ | apply be_ | refine bs_ ?_ GE314.out) | exact HB.out)⟩
           ·rw [if_neg c28] at H
            have c28b0 : decide (255 < ((rd_L2 l0_1 x5_3).length : Int)) = false:=df_ c28
            have c28b1 : decide (255 < (rd_L2 l0_1 x5_3).length) = false:=df_ (by omega)
            clear c28
            by_cases c30 : x5_3 = (wrap64 ((l0_1.length : Int) - 1))
            ·rw [if_pos c30] at H
             have c30b0 : (x5_3 == (wrap64 ((l0_1.length : Int) - 1))) = true:=beq_iff_eq.mpr c30;have c30b1 : (x5_3 != (wrap64 ((l0_1.length : Int) - 1))) = false:=bne_eq_false_iff_eq.mpr c30;clear c30
             by_cases c31 : ((rd_L2 l0_1 x5_3).length : Int) = 0
             ·rw [if_pos c31] at H
              have c31b0 : (((rd_L2 l0_1 x5_3).length : Int) == 0) = true:=beq_iff_eq.mpr c31;have c31b1 : (((rd_L2 l0_1 x5_3).length : Int) != 0) = false:=bne_eq_false_iff_eq.mpr c31;clear c31;obtain rfl:=Option.some.inj H;have z32_0 : wr.cell? ⟨gb314,0,none⟩ = some (.slice A0_0 l0_0.length c0_0):=(bc_ BK314.out 0).trans rfl;have z32_1 : wr.cell? ⟨gb314,1,none⟩ = some (.slice A0_1 l0_1.length c0_1):=(bc_ BK314.out 1).trans rfl;have y32_0:=bf_ BK314.out 0;have y32_1:=bf_ BK314.out 1
              have p320 : 0 ≤ (x5_3 : Int):=od_ (by first | (with_reducible assumption) | assumption)
              have q320 : x5_3 < (l0_1.length : Int):=od_ (by first | (with_reducible assumption) | assumption)
              obtain ⟨ad320,A320_0,c320_0,e320,hx320_0,hl320_0,hi320_0⟩:=at_L2 HR0_1.out x5_3 p320 q320
              cases e320
              replace hx320_0:=(HB.out.cell (wb_ w _ hx320_0)).trans hx320_0;have HR320_0:=A_ hi320_0;have HC320_0:=A_ hl320_0;clear hi320_0 hl320_0;replace p320:=eq_true p320;replace q320:=eq_true q320
              have p321 : 0 ≤ (x5_3 : Int):=od_ (by first | (with_reducible assumption) | assumption)
              have q321 : x5_3 < (l0_1.length : Int):=od_ (by first | (with_reducible assumption) | assumption)
              obtain ⟨ad321,A321_0,c321_0,e321,hx321_0,hl321_0,hi321_0⟩:=at_L2 HR0_1.out x5_3 p321 q321
              obtain rfl : ad320 = ad321:=(by injection e321)
              replace hx321_0:=(HB.out.cell (wb_ w _ hx321_0)).trans hx321_0;have HR321_0:=A_ hi321_0;have HC321_0:=A_ hl321_0;clear hi321_0 hl321_0;replace p321:=eq_true p321;replace q321:=eq_true q321;have ea_:=Option.some.inj (hx320_0.symm.trans hx321_0)
              injection ea_ with ea_ en_ ec_
              subst ea_;subst ec_;clear en_;go_wp2
              repeat (go_quiet (fail);try go_wp2)
              go_ret
              exact ⟨by first | rfl | (simp [errW_none,errW_some] <;> rfl) | (simp [*,errW_none,errW_some] <;> rfl),by repeat (first | (with_reducible first | exact HB.out | apply ba_ | apply bd_ | apply be_ | refine bs_ ?_ GE314.out) | exact HB.out)⟩
             ·rw [if_neg c31] at H
              have c31b0 : (((rd_L2 l0_1 x5_3).length : Int) == 0) = false:=beq_eq_false_iff_ne.mpr c31;have c31b1 : (((rd_L2 l0_1 x5_3).length : Int) != 0) = true:=bne_iff_ne.mpr c31
              have c31b2 : ¬ ((rd_L2 l0_1 x5_3) = []):=fun h_ => c31 (by rw [h_];rfl)
              have H':=A_ H;clear H;have z33_0 : wr.cell? ⟨gb314,0,none⟩ = some (.slice A0_0 l0_0.length c0_0):=(bc_ BK314.out 0).trans rfl;have z33_1 : wr.cell? ⟨gb314,1,none⟩ = some (.slice A0_1 l0_1.length c0_1):=(bc_ BK314.out 1).trans rfl;have y33_0:=bf_ BK314.out 0;have y33_1:=bf_ BK314.out 1
              have p320 : 0 ≤ (x5_3 : Int):=od_ (by first | (with_reducible assumption) | assumption)
              have q320 : x5_3 < (l0_1.length : Int):=od_ (by first | (with_reducible assumption) | assumption)
              obtain ⟨ad320,A320_0,c320_0,e320,hx320_0,hl320_0,hi320_0⟩:=at_L2 HR0_1.out x5_3 p320 q320
              cases e320
              replace hx320_0:=(HB.out.cell (wb_ w _ hx320_0)).trans hx320_0;have HR320_0:=A_ hi320_0;have HC320_0:=A_ hl320_0;clear hi320_0 hl320_0;replace p320:=eq_true p320;replace q320:=eq_true q320
              have p321 : 0 ≤ (x5_3 : Int):=od_ (by first | (with_reducible assumption) | assumption)
              have q321 : x5_3 < (l0_1.length : Int):=od_ (by first | (with_reducible assumption) | assumption)
              obtain ⟨ad321,A321_0,c321_0,e321,hx321_0,hl321_0,hi321_0⟩:=at_L2 HR0_1.out x5_3 p321 q321
              obtain rfl : ad320 = ad321:=(by injection e321)
              replace hx321_0:=(HB.out.cell (wb_ w _ hx321_0)).trans hx321_0;have HR321_0:=A_ hi321_0;have HC321_0:=A_ hl321_0;clear hi321_0 hl321_0;replace p321:=eq_true p321;replace q321:=eq_true q321;have ea_:=Option.some.inj (hx320_0.symm.trans hx321_0)
              injection ea_ with ea_ en_ ec_
              subst ea_;subst ec_;clear en_;go_wp2
              repeat (go_quiet (fail);try go_wp2)
              go_roundg k3
              case measure => have:=HJ1.out;have:=HK2.out;have:=HK3.out;omega
              case rel => exact ⟨(wrap64 (x5_3 + 1)),(by first | rfl | (simp;done) | (simp [*];done)),H',⟨by have:=HJ1.out;have:=HK2.out;have:=HK3.out;omega⟩,⟨by (with_reducible repeat (first | refine kd_ ?_ _ | refine ke_ ?_ | refine ka_ ?_ _));exact BK314.out⟩,⟨by repeat (first | (with_reducible first | exact HB.out | apply ba_ | apply bd_ | apply be_ | refine bs_ ?_ GE314.out) | exact HB.out)⟩⟩
            ·rw [if_neg c30] at H
             have c30b0 : (x5_3 == (wrap64 ((l0_1.length : Int) - 1))) = false:=beq_eq_false_iff_ne.mpr c30;have c30b1 : (x5_3 != (wrap64 ((l0_1.length : Int) - 1))) = true:=bne_iff_ne.mpr c30;have H':=A_ H;clear H;have z34_0 : wr.cell? ⟨gb314,0,none⟩ = some (.slice A0_0 l0_0.length c0_0):=(bc_ BK314.out 0).trans rfl;have z34_1 : wr.cell? ⟨gb314,1,none⟩ = some (.slice A0_1 l0_1.length c0_1):=(bc_ BK314.out 1).trans rfl;have y34_0:=bf_ BK314.out 0;have y34_1:=bf_ BK314.out 1
             have p320 : 0 ≤ (x5_3 : Int):=od_ (by first | (with_reducible assumption) | assumption)
             have q320 : x5_3 < (l0_1.length : Int):=od_ (by first | (with_reducible assumption) | assumption)
             obtain ⟨ad320,A320_0,c320_0,e320,hx320_0,hl320_0,hi320_0⟩:=at_L2 HR0_1.out x5_3 p320 q320
             cases e320
             replace hx320_0:=(HB.out.cell (wb_ w _ hx320_0)).trans hx320_0;have HR320_0:=A_ hi320_0;have HC320_0:=A_ hl320_0;clear hi320_0 hl320_0;replace p320:=eq_true p320;replace q320:=eq_true q320;go_wp2
             repeat (go_quiet (fail);try go_wp2)
             go_roundg k3
             case measure => have:=HJ1.out;have:=HK2.out;have:=HK3.out;omega
             case rel => exact ⟨(wrap64 (x5_3 + 1)),(by first | rfl | (simp;done) | (simp [*];done)),H',⟨by have:=HJ1.out;have:=HK2.out;have:=HK3.out;omega⟩,⟨by (with_reducible repeat (first | refine kd_ ?_ _ | refine ke_ ?_ | refine ka_ ?_ _));exact BK314.out⟩,⟨by repeat (first | (with_reducible first | exact HB.out | apply ba_ | apply bd_ | apply be_ | refine bs_ ?_ GE314.out) | exact HB.out)⟩⟩
          ·rw [if_neg c27] at H
           exact absurd H (by simp)
         ·rw [if_neg c26] at H
          have c26b0 : decide (x5_3 < (l0_1.length : Int)) = false:=df_ c26;clear c26;replace H:=Option.bind_eq_some_iff.mp H;obtain ⟨t322,A350,H⟩:=H;replace H : (some (decide (t322 ≤ 508))) = some r:=H;have A35:=A_ A350;clear A350;obtain rfl:=Option.some.inj H;have z36_0 : wr.cell? ⟨gb314,0,none⟩ = some (.slice A0_0 l0_0.length c0_0):=(bc_ BK314.out 0).trans rfl;have z36_1 : wr.cell? ⟨gb314,1,none⟩ = some (.slice A0_1 l0_1.length c0_1):=(bc_ BK314.out 1).trans rfl;have y36_0:=bf_ BK314.out 0;have y36_1:=bf_ BK314.out 1
          go_wp2_with (first | (go_at_call 23;(with_reducible refine (humusref08_Need.calls k3 _ _ l0_0 _ _ l0_1 t322 _ ?side1 ?side2 ?side3 ?side4 A35.out).mono ?_);(case side1 => repeat (first | exact (Kd.C_below HR0_0.out HB.out) | (with_reducible refine Kd.C_alloc ?_ _) | (with_reducible refine Kd.C_drewN ?_ _) | (with_reducible refine Kd.C_drew ?_)));(case side2 => exact HC0_0.out);(case side3 => repeat (first | exact (Kd.C_below HR0_1.out HB.out) | (with_reducible refine Kd.C_alloc ?_ _) | (with_reducible refine Kd.C_drewN ?_ _) | (with_reducible refine Kd.C_drew ?_)));(case side4 => exact HC0_1.out);rintro e w37 ⟨rfl,hb⟩;have n0_:=A_ (bx_ BK314.out (by intro h_;(with_reducible repeat (first | refine kd_ ?_ _ | refine ke_ ?_ | refine ka_ ?_ _));exact h_) hb);have n1_:=A_ (bp_ (by repeat (first | (with_reducible first | exact HB.out | apply ba_ | apply bd_ | apply be_ | refine bs_ ?_ GE314.out) | exact HB.out)) hb);clear BK314;clear HB;have BK314:=n0_;have HB:=n1_;clear n0_ n1_;(try clear hb);(try clear hb2);(try clear hk);(try clear hi)))
          repeat (go_quiet (first | (go_at_call 23;(with_reducible refine (humusref08_Need.calls k3 _ _ l0_0 _ _ l0_1 t322 _ ?side1 ?side2 ?side3 ?side4 A35.out).mono ?_);(case side1 => repeat (first | exact (Kd.C_below HR0_0.out HB.out) | (with_reducible refine Kd.C_alloc ?_ _) | (with_reducible refine Kd.C_drewN ?_ _) | (with_reducible refine Kd.C_drew ?_)));(case side2 => exact HC0_0.out);(case side3 => repeat (first | exact (Kd.C_below HR0_1.out HB.out) | (with_reducible refine Kd.C_alloc ?_ _) | (with_reducible refine Kd.C_drewN ?_ _) | (with_reducible refine Kd.C_drew ?_)));(case side4 => exact HC0_1.out);rintro e w37 ⟨rfl,hb⟩;have n0_:=A_ (bx_ BK314.out (by intro h_;(with_reducible repeat (first | refine kd_ ?_ _ | refine ke_ ?_ | refine ka_ ?_ _));exact h_) hb);have n1_:=A_ (bp_ (by repeat (first | (with_reducible first | exact HB.out | apply ba_ | apply bd_ | apply be_ | refine bs_ ?_ GE314.out) | exact HB.out)) hb);clear BK314;clear HB;have BK314:=n0_;have HB:=n1_;clear n0_ n1_;(try clear hb);(try clear hb2);(try clear hk);(try clear hi)));try go_wp2_with (first | (go_at_call 23;(with_reducible refine (humusref08_Need.calls k3 _ _ l0_0 _ _ l0_1 t322 _ ?side1 ?side2 ?side3 ?side4 A35.out).mono ?_);(case side1 => repeat (first | exact (Kd.C_below HR0_0.out HB.out) | (with_reducible refine Kd.C_alloc ?_ _) | (with_reducible refine Kd.C_drewN ?_ _) | (with_reducible refine Kd.C_drew ?_)));(case side2 => exact HC0_0.out);(case side3 => repeat (first | exact (Kd.C_below HR0_1.out HB.out) | (with_reducible refine Kd.C_alloc ?_ _) | (with_reducible refine Kd.C_drewN ?_ _) | (with_reducible refine Kd.C_drew ?_)));(case side4 => exact HC0_1.out);rintro e w37 ⟨rfl,hb⟩;have n0_:=A_ (bx_ BK314.out (by intro h_;(with_reducible repeat (first | refine kd_ ?_ _ | refine ke_ ?_ | refine ka_ ?_ _));exact h_) hb);have n1_:=A_ (bp_ (by repeat (first | (with_reducible first | exact HB.out | apply ba_ | apply bd_ | apply be_ | refine bs_ ?_ GE314.out) | exact HB.out)) hb);clear BK314;clear HB;have BK314:=n0_;have HB:=n1_;clear n0_ n1_;(try clear hb);(try clear hb2);(try clear hk);(try clear hi))))
          go_ret
          exact ⟨by first | rfl | (simp [errW_none,errW_some] <;> rfl) | (simp [*,errW_none,errW_some] <;> rfl),by repeat (first | (with_reducible first | exact HB.out | apply ba_ | apply bd_ | apply be_ | refine bs_ ?_ GE314.out) | exact HB.out)⟩
def slices_Clone_int_int.f (l0 : List Int) : Option (List Int):=(some (([] : List Int) : List Int)).bind fun y142 => (if y142.length + l0.length < 17592186044416 then (some (y142 ++ l0)) else (none))
set_option maxHeartbeats 8000000 in
set_option maxRecDepth 100000 in
theorem slices_Clone_int_int.calls (A0 : Option Addr) (c0 : Nat) (l0 : List Int) (r : List Int) (w : World) (hr0 : Kd.C (Kd.int .i64) w A0 l0.length l0) (hc0 : l0.length ≤ c0) (h : slices_Clone_int_int.f l0 = some r) :
  Calls Try.prog 57 #[.slice A0 l0.length c0] w fun e w' => ∃ v0_ : Value,e = .returned (v0_) ∧ Kd.R (Kd.int .i64) 3 w' w.heap.size (fun _ => True) v0_ r ∧ Below w.heap.size w w':=by
 have hnl0_:=fun w_ => nil_eq Try.underlying24 A0 l0.length c0 w_
 by_cases hA_ : A0 = none
 ·subst hA_
  obtain rfl:=C_nil_ hr0
  have h2_ : slices_Clone_int_int.f [] = some []:=by simp [slices_Clone_int_int.f]
  rw [h2_] at h;obtain rfl:=Option.some.inj h;clear hnl0_
  have hnl1_ : ∀ w_,(binOp BinOp.eql 24 (.slice none 0 c0) (.slice none 0 0)).run Try.prog w_ = .ok (.bool true) w_:=fun w_ => nil_eq Try.underlying24 none 0 c0 w_
  simp only [List.length_nil]
  go_enter Try.func57,Try.ntmps57;go_wp2;go_ret
  exact ⟨_,by rfl,by first | exact Kd.R_nil _ _ _ _ _ | exact Kd.N_nil _ _ _ _ _ | exact Kd.V_nil _ _ _ _ _ | exact Kd.S_nil _ _ _ _ _,Below.refl _ _⟩
 have hnl_ : ∀ w_,(binOp BinOp.eql 24 (.slice A0 l0.length c0) (.slice none 0 0)).run Try.prog w_ = .ok (.bool false) w_:=by
  intro w_;have h3_:=hnl0_ w_
  cases A0 with
  | none => exact absurd rfl hA_
  | some a_ => exact h3_
 clear hnl0_ hA_;have HR0:=A_ hr0;have HC0:=A_ hc0;clear hr0 hc0;have HB:=A_ (Below.refl w.heap.size w)
 have H : ((some (([] : List Int) : List Int)).bind fun y142 => (if y142.length + l0.length < 17592186044416 then (some (y142 ++ l0)) else (none))) = some r:=h
 clear h
 obtain ⟨y142,hy142⟩ : ∃ y_ : List Int,y_ = (([] : List Int)):=⟨_,rfl⟩
 replace H : (if y142.length + l0.length < 17592186044416 then (some (y142 ++ l0)) else (none)) = some r:=by first | (rw [hy142];with_reducible exact H) | (have H2_:=(Option.bind_some _ _).symm.trans H;rw [hy142];with_reducible exact H2_) | (have H2_:=(Option.bind_some _ _).symm.trans H;with_reducible exact H2_) | with_reducible exact H | (rw [hy142];exact H) | exact H
 have Ny142:=A_ hy142;clear hy142
 by_cases c2 : y142.length + l0.length < 17592186044416
 ·rw [if_pos c2] at H
  have LMc2:=A_ c2;clear c2
  obtain ⟨y145,hy145⟩ : ∃ y_ : List Int,y_ = (y142 ++ l0):=⟨_,rfl⟩
  replace H : (some y145) = some r:=by first | (rw [hy145];with_reducible exact H) | (have H2_:=(Option.bind_some _ _).symm.trans H;rw [hy145];with_reducible exact H2_) | (have H2_:=(Option.bind_some _ _).symm.trans H;with_reducible exact H2_) | with_reducible exact H | (rw [hy145];exact H) | exact H
  have Ny145:=A_ hy145;clear hy145;obtain rfl:=Option.some.inj H;go_enter Try.func57,Try.ntmps57
  go_wp2_with (first | ((with_reducible refine gate_dst (N:=5) rfl ?_);refine Kd.R_lit (Kd.int .i64) _ 3 ?hg (N:=5) ?hd (xs:=([] : List Int)) (inner:=[]) (ok:=fun _ => True) (okp:=fun _ => True) ?hr ?hp (fun _ hk => hk) trivial (Below.refl _ _) (Nat.le_refl _) (by simp) ?_;(case hd => rfl);(case hg => rfl);(case hr => first | (go_simp;done) | (go_simp;rfl));(case hp => exact (Reps.none _ _));intro v143 w3 ho4 hb hg_ hnew_;clear hg_ hnew_;(first | rw [← Ny142.out] at ho4 | (simp only [Int.reduceToNat] at ho4;rw [← Ny142.out] at ho4));have n0_:=A_ (Kd.R_lower ho4 (bz_ (by repeat (first | (with_reducible first | exact HB.out | apply ba_ | apply bd_ | apply be_) | exact HB.out))));have n1_:=A_ (bp_ (by repeat (first | (with_reducible first | exact HB.out | apply ba_ | apply bd_ | apply be_) | exact HB.out)) hb);clear HB;have HO144:=n0_;have HB:=n1_;clear n0_ n1_;clear hb ho4) | ((with_reducible refine gate_builtin (b:=.append) (xs:=#[.tmp 5,.tmp 6]) rfl ?_);at_builtin;refine Kd.R_append_rows (Kd.int .i64) (w0:=w) w.heap.size rfl (.tmp 5) (.tmp 6) 24 3 (.int .i64 0) 8 rfl Try.underlying24 info3 rfl (by decide) (by omega) v143 y142 l0 _ _ _ (fun _ => True) (fun _ => False) rfl rfl ?aO ?aR (fun _ _ h => h) (fun _ h => h.elim) ?aF ?aB ?aS ?aL ?_;(case aR => repeat (first | exact (Kd.C_below HR0.out HB.out) | (with_reducible refine Kd.C_alloc ?_ _) | (with_reducible refine Kd.C_drewN ?_ _) | (with_reducible refine Kd.C_drew ?_)));(case aB => exact (by repeat (first | (with_reducible first | exact HB.out | apply ba_ | apply bd_ | apply be_) | exact HB.out)));(case aF => exact (fun _ _ => trivial));(case aO => exact (by (with_reducible repeat (first | apply ra_ | apply rn_ | apply re_));exact HO144.out));(case aS => exact (bz_ (by repeat (first | (with_reducible first | exact HB.out | apply ba_ | apply bd_ | apply be_) | exact HB.out))));(case aL => have:=LMc2.out;omega);intro v146 w5 ho hb hg hat;rw [← Ny145.out] at ho;have n0_:=A_ (hb);have n1_:=A_ (ho);clear HB;clear HO144;have HB:=n0_;have HO147:=n1_;clear n0_ n1_;clear ho hb hg hat))
  go_ret
  exact ⟨_,by first | rfl | (simp [errW_none,errW_some] <;> rfl) | (simp [*,errW_none,errW_some] <;> rfl),by (with_reducible repeat (first | apply ra_ | apply rn_ | apply re_));exact HO147.out,by repeat (first | (with_reducible first | exact HB.out | apply ba_ | apply bd_ | apply be_) | exact HB.out)⟩
 ·rw [if_neg c2] at H
  exact absurd H (by simp)
def slices_Clone_byte_byte_58.f (l0 : List (List Int)) : Option ((List (List Int))):=(some (([] : List (List Int)) : List (List Int))).bind fun y148 => (if y148.length + l0.length < 5864062014805 then (some (y148 ++ l0)) else (none))
set_option maxHeartbeats 8000000 in
set_option maxRecDepth 100000 in
theorem slices_Clone_byte_byte_58.calls (P0_ : Nat → Prop) (A0 : Option Addr) (c0 : Nat) (l0 : List (List Int)) (r : List (List Int)) (w : World) (hs0 : Kd.V (Kd.slice 5 (Kd.int .u8)) 22 w w.heap.size (fun k_ => P0_ k_) (.slice A0 l0.length c0) l0) (h : slices_Clone_byte_byte_58.f l0 = some r) :
  Calls Try.prog 58 #[.slice A0 l0.length c0] w fun e w' => ∃ v0_ : Value,e = .returned (v0_) ∧ Kd.N (Kd.slice 5 (Kd.int .u8)) 22 w' w.heap.size (fun k_ => (P0_ k_ ∨ w.heap.size ≤ k_)) v0_ r ∧ Below w.heap.size w w':=by
 have hnl0_:=fun w_ => nil_eq Try.underlying25 A0 l0.length c0 w_
 by_cases hA_ : A0 = none
 ·subst hA_
  obtain rfl:=C_nil_ (Kd.V_reads' hs0).2.2
  have h2_ : slices_Clone_byte_byte_58.f [] = some []:=by simp [slices_Clone_byte_byte_58.f]
  rw [h2_] at h;obtain rfl:=Option.some.inj h;clear hnl0_
  have hnl1_ : ∀ w_,(binOp BinOp.eql 25 (.slice none 0 c0) (.slice none 0 0)).run Try.prog w_ = .ok (.bool true) w_:=fun w_ => nil_eq Try.underlying25 none 0 c0 w_
  simp only [List.length_nil]
  go_enter Try.func58,Try.ntmps58;go_wp2;go_ret
  exact ⟨_,by rfl,by first | exact Kd.R_nil _ _ _ _ _ | exact Kd.N_nil _ _ _ _ _ | exact Kd.V_nil _ _ _ _ _ | exact Kd.S_nil _ _ _ _ _,Below.refl _ _⟩
 have hnl_ : ∀ w_,(binOp BinOp.eql 25 (.slice A0 l0.length c0) (.slice none 0 0)).run Try.prog w_ = .ok (.bool false) w_:=by
  intro w_;have h3_:=hnl0_ w_
  cases A0 with
  | none => exact absurd rfl hA_
  | some a_ => exact h3_
 clear hnl0_ hA_
 have HO0:=A_ (show Kd.V (Kd.slice 5 (Kd.int .u8)) 22 w w.heap.size (fun k_ => (P0_ k_ ∨ w.heap.size ≤ k_)) (.slice A0 l0.length c0) l0 from Kd.V_mono hs0 (fun k_ hk => .inl hk))
 have HB:=A_ (Below.refl w.heap.size w)
 have H : ((some (([] : List (List Int)) : List (List Int))).bind fun y148 => (if y148.length + l0.length < 5864062014805 then (some (y148 ++ l0)) else (none))) = some r:=h
 clear h
 obtain ⟨y148,hy148⟩ : ∃ y_ : List (List Int),y_ = (([] : List (List Int))):=⟨_,rfl⟩
 replace H : (if y148.length + l0.length < 5864062014805 then (some (y148 ++ l0)) else (none)) = some r:=by first | (rw [hy148];with_reducible exact H) | (have H2_:=(Option.bind_some _ _).symm.trans H;rw [hy148];with_reducible exact H2_) | (have H2_:=(Option.bind_some _ _).symm.trans H;with_reducible exact H2_) | with_reducible exact H | (rw [hy148];exact H) | exact H
 have Ny148:=A_ hy148;clear hy148
 by_cases c2 : y148.length + l0.length < 5864062014805
 ·rw [if_pos c2] at H
  have LMc2:=A_ c2;clear c2
  obtain ⟨y151,hy151⟩ : ∃ y_ : List (List Int),y_ = (y148 ++ l0):=⟨_,rfl⟩
  replace H : (some y151) = some r:=by first | (rw [hy151];with_reducible exact H) | (have H2_:=(Option.bind_some _ _).symm.trans H;rw [hy151];with_reducible exact H2_) | (have H2_:=(Option.bind_some _ _).symm.trans H;with_reducible exact H2_) | with_reducible exact H | (rw [hy151];exact H) | exact H
  have Ny151:=A_ hy151;clear hy151;obtain rfl:=Option.some.inj H;go_enter Try.func58,Try.ntmps58
  go_wp2_with (first | ((with_reducible refine gate_dst (N:=5) rfl ?_);refine Kd.N_lit (Kd.slice 5 (Kd.int .u8)) _ 22 ?hg (N':=5) ?hd (xs:=([] : List (List Int))) (inner:=[]) (ok:=(fun k_ => (P0_ k_ ∨ w.heap.size ≤ k_))) (okp:=(fun k_ => (P0_ k_ ∨ w.heap.size ≤ k_))) ?hr ?hp (fun _ hk => hk) ((show ∀ k_,w.heap.size ≤ k_ → (fun k_ => (P0_ k_ ∨ w.heap.size ≤ k_)) k_ from fun k_ hk => (.inr (Nat.le_trans (bz_ (by repeat (first | (with_reducible first | exact HB.out | apply ba_ | apply bd_ | apply be_) | exact HB.out))) hk))) _ (Nat.le_refl _)) (Below.refl _ _) (Nat.le_refl _) (by simp) ?_;(case hd => rfl);(case hg => rfl);(case hr => first | (go_simp;done) | (go_simp;rfl));(case hp => exact (Reps.none _ _));intro v149 w3 ho4 hb hg_ hnew_;clear hg_ hnew_;(first | rw [← Ny148.out] at ho4 | (simp only [Int.reduceToNat] at ho4;rw [← Ny148.out] at ho4));have n0_:=A_ (Kd.V_elder' (by (with_reducible repeat (first | apply Kd.V_alloc | apply Kd.V_drewN | apply Kd.V_drew));exact HO0.out) (Kd.N_base ho4) hb);have n1_:=A_ (Kd.N_lower ho4 (bz_ (by repeat (first | (with_reducible first | exact HB.out | apply ba_ | apply bd_ | apply be_) | exact HB.out))));have n2_:=A_ (bp_ (by repeat (first | (with_reducible first | exact HB.out | apply ba_ | apply bd_ | apply be_) | exact HB.out)) hb);clear HO0;clear HB;have HO0:=n0_;have HO150:=n1_;have HB:=n2_;clear n0_ n1_ n2_;clear hb ho4) | ((with_reducible refine gate_builtin (b:=.append) (xs:=#[.tmp 5,.tmp 6]) rfl ?_);at_builtin;refine Kd.N_append_rows (Kd.slice 5 (Kd.int .u8)) (w0:=w) w.heap.size rfl (.tmp 5) (.tmp 6) 25 22 (.slice none 0 0) 24 rfl Try.underlying25 info22 rfl (by decide) (by omega) v149 y148 l0 _ _ _ (fun k_ => (P0_ k_ ∨ w.heap.size ≤ k_)) (fun k_ => ((fun k_ => (P0_ k_ ∨ w.heap.size ≤ k_))) k_ ∧ some k_ ≠ (v149 : Value).ownBlock) rfl rfl ?aO ?aR (fun _ hk => hk) ?aF ?aB ?aS ?aL ?_;(case aR => exact (by skip;exact Kd.V_F (Kd.V_mono (ok':=(fun k_ => ((fun k_ => (P0_ k_ ∨ w.heap.size ≤ k_))) k_ ∧ some k_ ≠ (v149 : Value).ownBlock)) (HO0.out) (fun k_ hk => ⟨hk.1,hk.2⟩))));(case aB => exact (by repeat (first | (with_reducible first | exact HB.out | apply ba_ | apply bd_ | apply be_) | exact HB.out)));(case aF => exact (fun k_ hk => (.inr (Nat.le_trans (bz_ (by repeat (first | (with_reducible first | exact HB.out | apply ba_ | apply bd_ | apply be_) | exact HB.out))) hk))));(case aO => exact (by (with_reducible repeat (first | apply Kd.N_alloc | apply Kd.N_drewN | apply Kd.N_drew));exact HO150.out));(case aS => exact (bz_ (by repeat (first | (with_reducible first | exact HB.out | apply ba_ | apply bd_ | apply be_) | exact HB.out))));(case aL => have:=LMc2.out;omega);intro v152 w5 ho hb hg hat;rw [← Ny151.out] at ho;have n0_:=A_ (Kd.V_afterv (ok:=(fun k_ => (P0_ k_ ∨ w.heap.size ≤ k_))) (by (with_reducible repeat (first | apply Kd.V_alloc | apply Kd.V_drewN | apply Kd.V_drew));exact HO0.out) hg hat);have n1_:=A_ (hb);have n2_:=A_ (ho);clear HO0;clear HB;clear HO150;have HO0:=n0_;have HB:=n1_;have HO153:=n2_;clear n0_ n1_ n2_;clear ho hb hg hat))
  go_ret
  exact ⟨_,by first | rfl | (simp [errW_none,errW_some] <;> rfl) | (simp [*,errW_none,errW_some] <;> rfl),by (with_reducible repeat (first | apply Kd.N_alloc | apply Kd.N_drewN | apply Kd.N_drew));exact HO153.out,by repeat (first | (with_reducible first | exact HB.out | apply ba_ | apply bd_ | apply be_) | exact HB.out)⟩
 ·rw [if_neg c2] at H
  exact absurd H (by simp)
def slices_Clone_byte_byte_59.f (l0 : List Int) : Option (List Int):=(some (([] : List Int) : List Int)).bind fun y154 => (if y154.length + l0.length < 140737488355328 then (some (y154 ++ l0)) else (none))
set_option maxHeartbeats 8000000 in
set_option maxRecDepth 100000 in
theorem slices_Clone_byte_byte_59.calls (A0 : Option Addr) (c0 : Nat) (l0 : List Int) (r : List Int) (w : World) (hr0 : Kd.C (Kd.int .u8) w A0 l0.length l0) (hc0 : l0.length ≤ c0) (h : slices_Clone_byte_byte_59.f l0 = some r) :
  Calls Try.prog 59 #[.slice A0 l0.length c0] w fun e w' => ∃ v0_ : Value,e = .returned (v0_) ∧ Kd.R (Kd.int .u8) 5 w' w.heap.size (fun _ => True) v0_ r ∧ Below w.heap.size w w':=by
 have hnl0_:=fun w_ => nil_eq Try.underlying22 A0 l0.length c0 w_
 by_cases hA_ : A0 = none
 ·subst hA_
  obtain rfl:=C_nil_ hr0
  have h2_ : slices_Clone_byte_byte_59.f [] = some []:=by simp [slices_Clone_byte_byte_59.f]
  rw [h2_] at h;obtain rfl:=Option.some.inj h;clear hnl0_
  have hnl1_ : ∀ w_,(binOp BinOp.eql 22 (.slice none 0 c0) (.slice none 0 0)).run Try.prog w_ = .ok (.bool true) w_:=fun w_ => nil_eq Try.underlying22 none 0 c0 w_
  simp only [List.length_nil]
  go_enter Try.func59,Try.ntmps59;go_wp2;go_ret
  exact ⟨_,by rfl,by first | exact Kd.R_nil _ _ _ _ _ | exact Kd.N_nil _ _ _ _ _ | exact Kd.V_nil _ _ _ _ _ | exact Kd.S_nil _ _ _ _ _,Below.refl _ _⟩
 have hnl_ : ∀ w_,(binOp BinOp.eql 22 (.slice A0 l0.length c0) (.slice none 0 0)).run Try.prog w_ = .ok (.bool false) w_:=by
  intro w_;have h3_:=hnl0_ w_
  cases A0 with
  | none => exact absurd rfl hA_
  | some a_ => exact h3_
 clear hnl0_ hA_;have HR0:=A_ hr0;have HC0:=A_ hc0;clear hr0 hc0;have HB:=A_ (Below.refl w.heap.size w)
 have H : ((some (([] : List Int) : List Int)).bind fun y154 => (if y154.length + l0.length < 140737488355328 then (some (y154 ++ l0)) else (none))) = some r:=h
 clear h
 obtain ⟨y154,hy154⟩ : ∃ y_ : List Int,y_ = (([] : List Int)):=⟨_,rfl⟩
 replace H : (if y154.length + l0.length < 140737488355328 then (some (y154 ++ l0)) else (none)) = some r:=by first | (rw [hy154];with_reducible exact H) | (have H2_:=(Option.bind_some _ _).symm.trans H;rw [hy154];with_reducible exact H2_) | (have H2_:=(Option.bind_some _ _).symm.trans H;with_reducible exact H2_) | with_reducible exact H | (rw [hy154];exact H) | exact H
 have Ny154:=A_ hy154;clear hy154
 by_cases c2 : y154.length + l0.length < 140737488355328
 ·rw [if_pos c2] at H
  have LMc2:=A_ c2;clear c2
  obtain ⟨y157,hy157⟩ : ∃ y_ : List Int,y_ = (y154 ++ l0):=⟨_,rfl⟩
  replace H : (some y157) = some r:=by first | (rw [hy157];with_reducible exact H) | (have H2_:=(Option.bind_some _ _).symm.trans H;rw [hy157];with_reducible exact H2_) | (have H2_:=(Option.bind_some _ _).symm.trans H;with_reducible exact H2_) | with_reducible exact H | (rw [hy157];exact H) | exact H
  have Ny157:=A_ hy157;clear hy157;obtain rfl:=Option.some.inj H;go_enter Try.func59,Try.ntmps59
  go_wp2_with (first | ((with_reducible refine gate_dst (N:=5) rfl ?_);refine Kd.R_lit (Kd.int .u8) _ 5 ?hg (N:=5) ?hd (xs:=([] : List Int)) (inner:=[]) (ok:=fun _ => True) (okp:=fun _ => True) ?hr ?hp (fun _ hk => hk) trivial (Below.refl _ _) (Nat.le_refl _) (by simp) ?_;(case hd => rfl);(case hg => rfl);(case hr => first | (go_simp;done) | (go_simp;rfl));(case hp => exact (Reps.none _ _));intro v155 w3 ho4 hb hg_ hnew_;clear hg_ hnew_;(first | rw [← Ny154.out] at ho4 | (simp only [Int.reduceToNat] at ho4;rw [← Ny154.out] at ho4));have n0_:=A_ (Kd.R_lower ho4 (bz_ (by repeat (first | (with_reducible first | exact HB.out | apply ba_ | apply bd_ | apply be_) | exact HB.out))));have n1_:=A_ (bp_ (by repeat (first | (with_reducible first | exact HB.out | apply ba_ | apply bd_ | apply be_) | exact HB.out)) hb);clear HB;have HO156:=n0_;have HB:=n1_;clear n0_ n1_;clear hb ho4) | ((with_reducible refine gate_builtin (b:=.append) (xs:=#[.tmp 5,.tmp 6]) rfl ?_);at_builtin;refine Kd.R_append_rows (Kd.int .u8) (w0:=w) w.heap.size rfl (.tmp 5) (.tmp 6) 22 5 (.int .u8 0) 1 rfl Try.underlying22 info5 rfl (by decide) (by omega) v155 y154 l0 _ _ _ (fun _ => True) (fun _ => False) rfl rfl ?aO ?aR (fun _ _ h => h) (fun _ h => h.elim) ?aF ?aB ?aS ?aL ?_;(case aR => repeat (first | exact (Kd.C_below HR0.out HB.out) | (with_reducible refine Kd.C_alloc ?_ _) | (with_reducible refine Kd.C_drewN ?_ _) | (with_reducible refine Kd.C_drew ?_)));(case aB => exact (by repeat (first | (with_reducible first | exact HB.out | apply ba_ | apply bd_ | apply be_) | exact HB.out)));(case aF => exact (fun _ _ => trivial));(case aO => exact (by (with_reducible repeat (first | apply ra_ | apply rn_ | apply re_));exact HO156.out));(case aS => exact (bz_ (by repeat (first | (with_reducible first | exact HB.out | apply ba_ | apply bd_ | apply be_) | exact HB.out))));(case aL => have:=LMc2.out;omega);intro v158 w5 ho hb hg hat;rw [← Ny157.out] at ho;have n0_:=A_ (hb);have n1_:=A_ (ho);clear HB;clear HO156;have HB:=n0_;have HO159:=n1_;clear n0_ n1_;clear ho hb hg hat))
  go_ret
  exact ⟨_,by first | rfl | (simp [errW_none,errW_some] <;> rfl) | (simp [*,errW_none,errW_some] <;> rfl),by (with_reducible repeat (first | apply ra_ | apply rn_ | apply re_));exact HO159.out,by repeat (first | (with_reducible first | exact HB.out | apply ba_ | apply bd_ | apply be_) | exact HB.out)⟩
 ·rw [if_neg c2] at H
  exact absurd H (by simp)
def leaf_own.l0 : Nat → List (List Int) → Int → Int → List Int → Option (List Int × (List (List Int)))
 | 0,_,_,_,_ => none
 | k + 1,x10,x15,x16,x161000 => if x16 < x15 then (if 0 ≤ x16 then (if x16 < (x10.length : Int) then ((slices_Clone_byte_byte_59.f (rd_L2 x10 x16)).bind fun t169 => (leaf_own.l0 k (x10.set (x16 : Int).toNat t169) x15 (wrap64 (x16 + 1)) x161000)) else (none)) else (none)) else (some (x161000,x10))
def leaf_own.f (k : Nat) (l0_0 : List Int) (l0_1 : List (List Int)) : Option (List Int × (List (List Int))):=(slices_Clone_int_int.f l0_0).bind fun t162 => ((slices_Clone_byte_byte_58.f l0_1).bind fun t165 => (leaf_own.l0 k t165 (t165.length : Int) 0 t162))
theorem leaf_own.mono_l : ∀ k,(∀ y0 y1 y2 y3,LeO (leaf_own.l0 k y0 y1 y2 y3) (leaf_own.l0 (k + 1) y0 y1 y2 y3))
 | 0 => fun _ _ _ _ r h => by simp [leaf_own.l0] at h
 | k + 1 => by
  have ih0:=leaf_own.mono_l k
  ·intro y0 y1 y2 y3
   unfold leaf_own.l0
   repeat' first
   | (with_reducible exact ih0 _ _ _ _)
   | (with_reducible exact LeO.refl _)
   | (with_reducible exact LeO.none _)
   | (with_reducible refine LeO.ite ?_ ?_)
   | (with_reducible refine LeO.bind ?_ (fun _ => ?_))
   | exact ih0 _ _ _ _
   | exact LeO.none _
   | refine LeO.ite ?_ ?_
   | refine LeO.bind ?_ (fun _ => ?_)
theorem leaf_own.mono : ∀ a0 a1 k,LeO (leaf_own.f k a0 a1) (leaf_own.f (k + 1) a0 a1):=by
 intro a0 a1 k;have ih0:=leaf_own.mono_l k
 unfold leaf_own.f
 repeat' first
   | (with_reducible exact ih0 _ _ _ _)
   | (with_reducible exact LeO.refl _)
   | (with_reducible exact LeO.none _)
   | (with_reducible refine LeO.ite ?_ ?_)
   | (with_reducible refine LeO.bind ?_ (fun _ => ?_))
   | exact ih0 _ _ _ _
   | exact LeO.none _
   | refine LeO.ite ?_ ?_
   | refine LeO.bind ?_ (fun _ => ?_)
def leaf_own.T1 : Bool × List (List Nat × List Nat):=(true,[([],[]),([0],[0]),([1],[1]),([],[]),([3],[3]),([4,2],[4]),([0,1,2,3,4],[]),([6,2,5,0,1,2,3,4],[2,6]),([0,1,2,3,4,5,6,7],[]),([8,5,7,0,1,2,3,4,5,6,7],[5,8])])
def leaf_own.B1 : List Nat:=[0,1,3,0,8,31,31,127,255,511]
theorem leaf_own.tab1 : rtab .any (opsOf Try.f33 1) = leaf_own.T1:=by kernel_rfl
theorem leaf_own.bits1 : waitsOk leaf_own.T1.2 leaf_own.B1 = true:=by kernel_rfl
set_option maxHeartbeats 8000000 in
set_option maxRecDepth 100000 in
theorem leaf_own.calls (k : Nat) (A0_0 : Option Addr) (c0_0 : Nat) (l0_0 : List Int) (P0_1_ : Nat → Prop) (A0_1 : Option Addr) (c0_1 : Nat) (l0_1 : List (List Int)) (r1 : List Int) (r2 : List (List Int)) (w : World) (hr0_0 : Kd.C (Kd.int .i64) w A0_0 l0_0.length l0_0) (hc0_0 : l0_0.length ≤ c0_0) (hs0_1 : Kd.V (Kd.slice 5 (Kd.int .u8)) 22 w w.heap.size (fun k_ => P0_1_ k_) (.slice A0_1 l0_1.length c0_1) l0_1) (h : leaf_own.f k l0_0 l0_1 = some (r1,r2)) :
  Calls Try.prog 33 #[.agg #[.slice A0_0 l0_0.length c0_0,.slice A0_1 l0_1.length c0_1]] w fun e w' => ∃ v0_ v1_ : Value,e = .returned (.agg #[v0_,v1_]) ∧ Kd.R (Kd.int .i64) 3 w' w.heap.size (fun k_ => (w.heap.size ≤ k_)) v0_ r1 ∧ Kd.N (Kd.slice 5 (Kd.int .u8)) 22 w' w.heap.size (fun k_ => (P0_1_ k_ ∨ w.heap.size ≤ k_) ∧ some k_ ≠ (v0_ : Value).ownBlock) v1_ r2 ∧ Below w.heap.size w w':=by
 have hu27:=Try.underlying27;have HR0_0:=A_ hr0_0;have HC0_0:=A_ hc0_0;clear hr0_0 hc0_0
 have HO0_1:=A_ (show Kd.V (Kd.slice 5 (Kd.int .u8)) 22 w w.heap.size (fun k_ => (P0_1_ k_ ∨ w.heap.size ≤ k_)) (.slice A0_1 l0_1.length c0_1) l0_1 from Kd.V_mono hs0_1 (fun k_ hk => .inl hk))
 have HB:=A_ (Below.refl w.heap.size w)
 have H : ((slices_Clone_int_int.f l0_0).bind fun t162 => ((slices_Clone_byte_byte_58.f l0_1).bind fun t165 => (leaf_own.l0 k t165 (t165.length : Int) 0 t162))) = some (r1,r2):=h
 clear h;replace H:=Option.bind_eq_some_iff.mp H;obtain ⟨t162,A20,H⟩:=H
 replace H : ((slices_Clone_byte_byte_58.f l0_1).bind fun t165 => (leaf_own.l0 k t165 (t165.length : Int) 0 t162)) = some (r1,r2):=H
 have A2:=A_ A20;clear A20;replace H:=Option.bind_eq_some_iff.mp H;obtain ⟨t165,A30,H⟩:=H;replace H : (leaf_own.l0 k t165 (t165.length : Int) 0 t162) = some (r1,r2):=H;have A3:=A_ A30;clear A30;have H':=A_ H;clear H;go_enter Try.func33,Try.ntmps33
 try go_wp2_with (first | ((with_reducible refine gate_dst (N:=1) rfl ?_);refine box_event ?hg (N:=1) ?hd (cs:=#[.slice A0_0 l0_0.length c0_0,.slice A0_1 l0_1.length c0_1]) (t:=27) ?hr ?_;(case hd => rfl);(case hg => rfl);(case hr => first | (go_simp;done) | (go_simp;rfl));intro gb160 hg w4 hbox hb;have n0_:=A_ (Kd.V_below (Kd.V_elderB (by (with_reducible repeat (first | apply Kd.V_alloc | apply Kd.V_drewN | apply Kd.V_drew));exact HO0_1.out) gb160 (Nat.le_of_eq hg.symm)) hb);have n1_:=A_ (bp_ (by repeat (first | (with_reducible first | exact HB.out | apply ba_ | apply bd_ | apply be_) | exact HB.out)) hb);have n2_:=A_ (hbox);have n3_:=A_ ((by rw [hg];exact (bz_ (by repeat (first | (with_reducible first | exact HB.out | apply ba_ | apply bd_ | apply be_) | exact HB.out))) : w.heap.size ≤ gb160));have n4_:=n3_;clear HO0_1;clear HB;have HO0_1:=n0_;have HB:=n1_;have BK160:=n2_;have GW160:=n3_;have GE160:=n4_;clear n0_ n1_ n2_ n3_ n4_;clear hb hbox hg) | ((with_reducible refine gate_dst (N:=2) rfl ?_);refine box_event ?hg (N:=2) ?hd (cs:=#[.slice none 0 0,.slice none 0 0]) (t:=27) ?hr ?_;(case hd => rfl);(case hg => rfl);(case hr => first | (go_simp;done) | (go_simp;rfl));intro gb161 hg w5 hbox hb;have n0_:=A_ (Kd.V_below (Kd.V_elderB (by (with_reducible repeat (first | apply Kd.V_alloc | apply Kd.V_drewN | apply Kd.V_drew));exact HO0_1.out) gb161 (Nat.le_of_eq hg.symm)) hb);have n1_:=A_ (bx_ BK160.out (by intro h_;(with_reducible repeat (first | refine kd_ ?_ _ | refine ke_ ?_ | refine ka_ ?_ _));exact h_) hb);have n2_:=A_ (bp_ (by repeat (first | (with_reducible first | exact HB.out | apply ba_ | apply bd_ | apply be_ | refine bs_ ?_ GE160.out) | exact HB.out)) hb);have n3_:=A_ (hbox);have n4_:=A_ ((by rw [hg];exact (bz_ (by repeat (first | (with_reducible first | exact HB.out | apply ba_ | apply bd_ | apply be_ | refine bs_ ?_ GE160.out) | exact HB.out))) : w.heap.size ≤ gb161));have n5_:=n4_;have n6_:=A_ ((by rw [hg];exact Nat.ne_of_lt (bl_ BK160.out (by intro h_;(with_reducible repeat (first | refine kd_ ?_ _ | refine ke_ ?_ | refine ka_ ?_ _));exact h_)) : gb160 ≠ gb161));have n7_:=A_ (Ne.symm n6_.out);clear HO0_1;clear BK160;clear HB;have HO0_1:=n0_;have BK160:=n1_;have HB:=n2_;have BK161:=n3_;have GW161:=n4_;have GE161:=n5_;have NB160_161:=n6_;have NB161_160:=n7_;clear n0_ n1_ n2_ n3_ n4_ n5_ n6_ n7_;clear hb hbox hg))
 have n0_:=A_ (Kd.V_drew HO0_1.out);have n1_:=A_ (ke_ BK160.out);have n2_:=A_ (ke_ BK161.out);have n3_:=A_ (be_ HB.out);clear HO0_1;clear BK160;clear BK161;clear HB;have HO0_1:=n0_;have BK160:=n1_;have BK161:=n2_;have HB:=n3_;clear n0_ n1_ n2_ n3_
 refine start_ (n:=10) (S:=fun w' => w'.cell? ⟨gb160,0,none⟩ = some (.slice A0_0 l0_0.length c0_0) ∧ w'.cell? ⟨gb160,1,none⟩ = some (.slice A0_1 l0_1.length c0_1)) (ds:=[7,9]) #[Z,Z,Z,Z,Z,Z,Z,Z,Z,Z] (by kernel_rfl) rfl rfl ⟨(bc_ BK160.out 0).trans rfl,(bc_ BK160.out 1).trans rfl⟩ (fun hHeld => ?_);refine with_tabW leaf_own.tab1 leaf_own.bits1 (fun HT_ HW_ => ?_)
 generalize w5.drew = w6 at HO0_1 BK160 BK161 HB hHeld ⊢
 refine pu_ (i:=0) (N:=some 5) (v:=?_) (a':=?_) #[Y,Z,Z,Z,Z,Z,Z,Z,Z,Z] rfl rfl HT_.out (by kernel_rfl) (fun _ _ _ h => h) (by rfl) ?_ ?_ ?_;rotate_left;(intro w';go_simp;with_reducible rfl);rotate_left;(simp only [Act.put,q1_,q2_,q3_,i64_w,i32_w];rfl)
 refine pu_ (i:=3) (N:=some 8) (v:=?_) (a':=?_) #[Y,Z,Z,Y,Z,Z,Z,Z,Z,Z] rfl rfl HT_.out (by kernel_rfl) (fun _ _ _ h => h) (by rfl) ?_ ?_ ?_;rotate_left;(intro w';go_simp;with_reducible rfl);rotate_left;(simp only [Act.put,q1_,q2_,q3_,i64_w,i32_w];rfl)
 refine ta_ (i:=1) (N:=some 6) (v:=?_) (a':=?_) #[Y,Y,Z,Y,Z,Z,Z,Z,Z,Z] rfl rfl HT_.out HW_.out (by kernel_rfl) (fun _ _ _ h => h) (by rfl) ?_ hHeld ?_ ?_;rotate_left;(rintro w' ⟨s0,s1⟩;go_simp;with_reducible rfl);rotate_left;(simp only [Act.put,q1_,q2_,q3_,i64_w,i32_w];rfl)
 refine ta_ (i:=4) (N:=some 9) (v:=?_) (a':=?_) #[Y,Y,Z,Y,Y,Z,Z,Z,Z,Z] rfl rfl HT_.out HW_.out (by kernel_rfl) (fun _ _ _ h => h) (by rfl) ?_ hHeld ?_ ?_;rotate_left;(rintro w' ⟨s0,s1⟩;go_simp;with_reducible rfl);rotate_left;(simp only [Act.put,q1_,q2_,q3_,i64_w,i32_w];rfl)
 refine one_ (i:=2) (N:=some 7) #[Y,Y,Y,Y,Y,Z,Z,Z,Z,Z] rfl rfl (one_of HT_.out (by kernel_rfl)) (by decide) (fun K hK => ?_)
 refine goes_ Try.func57 (by kernel_rfl) rfl #[.slice A0_0 l0_0.length c0_0] (by rfl) rfl rfl (by (try simp only [List.map_toArray,List.map_cons,List.map_nil]);first | done | rfl | (simp only [List.length_drop,List.length_take];rfl)) ?_
 with_reducible refine (slices_Clone_int_int.calls _ _ l0_0 t162 _ ?side1 ?side2 A2.out).mono ?_
 (case side1 => repeat (first | exact (Kd.C_below HR0_0.out HB.out) | (with_reducible refine Kd.C_alloc ?_ _) | (with_reducible refine Kd.C_drewN ?_ _) | (with_reducible refine Kd.C_drew ?_)))
 (case side2 => exact HC0_0.out)
 rintro e w7 ⟨v163,rfl,ho0,hb⟩;refine ⟨_,rfl,?_⟩
 have n0_:=A_ (Kd.V_elder' (by (with_reducible repeat (first | apply Kd.V_alloc | apply Kd.V_drewN | apply Kd.V_drew));exact HO0_1.out) (Kd.R_base ho0) hb)
 have n1_:=A_ (Kd.R_lower (Kd.R_newM (M:=fun k_ => (w.heap.size ≤ k_)) ho0 (bz_ (by repeat (first | (with_reducible first | exact HB.out | apply ba_ | apply bd_ | apply be_ | refine bs_ ?_ GE160.out | refine bs_ ?_ GE161.out) | exact HB.out))) (fun k_ h_ => h_)) (bz_ (by repeat (first | (with_reducible first | exact HB.out | apply ba_ | apply bd_ | apply be_ | refine bs_ ?_ GE160.out | refine bs_ ?_ GE161.out) | exact HB.out))))
 have n2_:=A_ (bx_ BK160.out (by intro h_;(with_reducible repeat (first | refine kd_ ?_ _ | refine ke_ ?_ | refine ka_ ?_ _));exact h_) hb)
 have n3_:=A_ (bx_ BK161.out (by intro h_;(with_reducible repeat (first | refine kd_ ?_ _ | refine ke_ ?_ | refine ka_ ?_ _));exact h_) hb)
 have n4_:=A_ (bp_ (by repeat (first | (with_reducible first | exact HB.out | apply ba_ | apply bd_ | apply be_ | refine bs_ ?_ GE160.out | refine bs_ ?_ GE161.out) | exact HB.out)) hb)
 clear HO0_1;clear BK160;clear BK161;clear HB;have HO0_1:=n0_;have HO164:=n1_;have BK160:=n2_;have BK161:=n3_;have HB:=n4_;clear n0_ n1_ n2_ n3_ n4_;(try clear hb);(try clear hb2);(try clear hk);(try clear hi);(try clear ho0)
 refine hK.out _ _ ⟨(bc_ BK160.out 0).trans rfl,(bc_ BK160.out 1).trans rfl⟩ (fun hHeld => ?_)
 clear hK K
 refine norm_ (a':=?_) ?_ ?_;rotate_left;(show Act.put _ (some 7) _ = _;simp only [Act.put,q1_,q2_,q3_,i64_w,i32_w];rfl)
 refine pu_ (i:=6) (N:=some 11) (v:=?_) (a':=?_) #[Y,Y,Y,Y,Y,Z,Y,Z,Z,Z] rfl rfl HT_.out (by kernel_rfl) (fun _ _ _ h => h) (by rfl) ?_ ?_ ?_;rotate_left;(intro w';go_simp;with_reducible rfl);rotate_left;(simp only [Act.put,q1_,q2_,q3_,i64_w,i32_w];rfl)
 refine one_ (i:=5) (N:=some 10) #[Y,Y,Y,Y,Y,Y,Y,Z,Z,Z] rfl rfl (one_of HT_.out (by kernel_rfl)) (by decide) (fun K hK => ?_)
 refine goes_ Try.func58 (by kernel_rfl) rfl #[.slice A0_1 l0_1.length c0_1] (by rfl) rfl rfl (by (try simp only [List.map_toArray,List.map_cons,List.map_nil]);first | done | rfl | (simp only [List.length_drop,List.length_take];rfl)) ?_
 with_reducible refine (slices_Clone_byte_byte_58.calls (fun k_ => ((((P0_1_ k_ ∨ w.heap.size ≤ k_) ∧ k_ ≠ gb160) ∧ k_ ≠ gb161) ∧ some k_ ≠ (v163 : Value).ownBlock)) _ _ l0_1 t165 _ ?side1 A3.out).mono ?_
 (case side1 => exact HO0_1.out)
 rintro e w8 ⟨v166,rfl,ho0,hb⟩;refine ⟨_,rfl,?_⟩
 have n0_:=A_ (Kd.V_elder' (by (with_reducible repeat (first | apply Kd.V_alloc | apply Kd.V_drewN | apply Kd.V_drew));exact HO0_1.out) (Kd.N_base ho0) hb)
 have n1_:=A_ (Kd.R_below (by (with_reducible repeat (first | apply ra_ | apply rn_ | apply re_));exact HO164.out) hb)
 have n2_:=A_ (Kd.N_lower (Kd.N_mono (ok':=fun k_ => (P0_1_ k_ ∨ w.heap.size ≤ k_) ∧ some k_ ≠ (v163 : Value).ownBlock ∧ k_ ≠ gb160 ∧ k_ ≠ gb161) ho0 (fun k_ hk_ => ⟨Or.elim hk_ (fun hs_ => hs_.1.1.1) (fun hn_ => (.inr (Nat.le_trans (bz_ (by repeat (first | (with_reducible first | exact HB.out | apply ba_ | apply bd_ | apply be_ | refine bs_ ?_ GE160.out | refine bs_ ?_ GE161.out) | exact HB.out))) hn_))),Or.elim hk_ (fun hs_ => hs_.2) (fun hn_ => (Kd.fresh' (Kd.R_lt (by (with_reducible repeat (first | apply ra_ | apply rn_ | apply re_));exact HO164.out)) k_ hn_)),Or.elim hk_ (fun hs_ => hs_.1.1.2) (fun hn_ => (Kd.freshB (g:=gb160) (o:=.cells #[.slice A0_0 l0_0.length c0_0,.slice A0_1 l0_1.length c0_1] 27 (0,0)) (by (with_reducible repeat (first | refine kd_ ?_ _ | refine ke_ ?_ | refine ka_ ?_ _));exact BK160.out) k_ hn_)),Or.elim hk_ (fun hs_ => hs_.1.2) (fun hn_ => (Kd.freshB (g:=gb161) (o:=.cells #[.slice none 0 0,.slice none 0 0] 27 (0,0)) (by (with_reducible repeat (first | refine kd_ ?_ _ | refine ke_ ?_ | refine ka_ ?_ _));exact BK161.out) k_ hn_))⟩)) (bz_ (by repeat (first | (with_reducible first | exact HB.out | apply ba_ | apply bd_ | apply be_ | refine bs_ ?_ GE160.out | refine bs_ ?_ GE161.out) | exact HB.out))))
 have n3_:=A_ (bx_ BK160.out (by intro h_;(with_reducible repeat (first | refine kd_ ?_ _ | refine ke_ ?_ | refine ka_ ?_ _));exact h_) hb)
 have n4_:=A_ (bx_ BK161.out (by intro h_;(with_reducible repeat (first | refine kd_ ?_ _ | refine ke_ ?_ | refine ka_ ?_ _));exact h_) hb)
 have n5_:=A_ (bp_ (by repeat (first | (with_reducible first | exact HB.out | apply ba_ | apply bd_ | apply be_ | refine bs_ ?_ GE160.out | refine bs_ ?_ GE161.out) | exact HB.out)) hb)
 clear HO0_1;clear HO164;clear BK160;clear BK161;clear HB;have HO0_1:=n0_;have HO164:=n1_;have HO167:=n2_;have BK160:=n3_;have BK161:=n4_;have HB:=n5_;clear n0_ n1_ n2_ n3_ n4_ n5_;(try clear hb);(try clear hb2);(try clear hk);(try clear hi);(try clear ho0);obtain ⟨Ao9,co9,eo9⟩:=Kd.R_slice HO164.out
 (first | subst eo9 | (injection eo9 with f1_ f2_ f3_;have f4_:=f1_.symm;have f5_:=f3_.symm;clear f1_ f2_ f3_;subst f4_;subst f5_))
 obtain ⟨Ao11,co11,eo11⟩:=Kd.N_slice HO167.out
 (first | subst eo11 | (injection eo11 with f1_ f2_ f3_;have f4_:=f1_.symm;have f5_:=f3_.symm;clear f1_ f2_ f3_;subst f4_;subst f5_))
 refine hK.out _ _ ⟨(bc_ BK160.out 0).trans rfl,(bc_ BK160.out 1).trans rfl⟩ (fun hHeld => ?_)
 clear hK K
 refine norm_ (a':=?_) ?_ ?_;rotate_left;(show Act.put _ (some 10) _ = _;simp only [Act.put,q1_,q2_,q3_,i64_w,i32_w];rfl)
 refine last_ (i:=7) (N:=none) #[Y,Y,Y,Y,Y,Y,Y,Y,Z,Z] rfl rfl (one_of HT_.out (by kernel_rfl)) (by decide) (fun K hK => ?_)
 have hs10 : w8.cell? ⟨gb160,0,none⟩ = some (.slice A0_0 l0_0.length c0_0):=(bc_ BK160.out 0).trans rfl;have hfs10:=bf_ BK160.out 0;have hns10_1:=NB161_160.out;have hms10_1:=NB160_161.out
 refine skip_ (w1:=?_) (by rfl) rfl ?_ ?_
 rotate_left
 ·go_simp
  rfl
 refine hK.out _ _ ?_;clear hK K
 refine pu_ (i:=8) (N:=some 12) (v:=?_) (a':=?_) #[Y,Y,Y,Y,Y,Y,Y,Y,Y,Z] rfl rfl HT_.out (by kernel_rfl) (fun _ _ _ h => h) (by rfl) ?_ ?_ ?_;rotate_left;(intro w';go_simp;with_reducible rfl);rotate_left;(simp only [Act.put,q1_,q2_,q3_,i64_w,i32_w];rfl)
 refine last_ (i:=9) (N:=none) #[Y,Y,Y,Y,Y,Y,Y,Y,Y,Y] rfl rfl (one_of HT_.out (by kernel_rfl)) (by decide) (fun K hK => ?_)
 have hs12 : w8.cell? ⟨gb160,1,none⟩ = some (.slice A0_1 l0_1.length c0_1):=(bc_ BK160.out 1).trans rfl;have hfs12:=bf_ BK160.out 1;have hns12_1:=NB161_160.out;have hms12_1:=NB160_161.out
 refine skip_ (w1:=?_) (by rfl) rfl ?_ ?_
 rotate_left
 ·go_simp
  rfl
 refine hK.out _ _ ?_;clear hK K;refine done_ (done_of HT_.out (by kernel_rfl)) ?_;have hnb13:=NB160_161.out;have hnc13:=NB161_160.out;have z14_0 : w8.cell? ⟨gb160,0,none⟩ = some (.slice A0_0 l0_0.length c0_0):=(bc_ BK160.out 0).trans rfl;have z14_1 : w8.cell? ⟨gb160,1,none⟩ = some (.slice A0_1 l0_1.length c0_1):=(bc_ BK160.out 1).trans rfl;have y14_0:=bf_ BK160.out 0;have y14_1:=bf_ BK160.out 1
 try go_wp2
 go_loopg [16] k (fun kq v16 w' => ∃ (x10_1 : List (List Int)) (x16_1 : Int),v16 = .int .i64 x16_1 ∧ Aside0 (leaf_own.l0 kq x10_1 (t165.length : Int) x16_1 t162 = some (r1,r2)) ∧ Aside0 (kq ≤ k) ∧ Aside0 (Kd.N (Kd.slice 5 (Kd.int .u8)) 22 w' w.heap.size (fun k_ => (P0_1_ k_ ∨ w.heap.size ≤ k_) ∧ some k_ ≠ ((.slice Ao9 t162.length co9) : Value).ownBlock ∧ k_ ≠ gb160 ∧ k_ ≠ gb161) (.slice Ao11 t165.length co11) x10_1) ∧ Aside0 (Kd.R (Kd.int .i64) 3 w' w.heap.size (fun k_ => (w.heap.size ≤ k_)) (.slice Ao9 t162.length co9) t162) ∧ Aside0 (w'.heap[gb160]? = some (.cells #[(.slice Ao9 t162.length co9),(.slice Ao11 t165.length co11)] 27 (0,0))) ∧ Aside0 (w'.heap[gb161]? = some (.cells #[(.slice none 0 0),(.slice none 0 0)] 27 (0,0))) ∧ Aside0 (Below w.heap.size w w'))
 case atStart => exact ⟨(t165),(0),(by first | rfl | (simp;done) | (simp [*];done)),H',⟨Nat.le_refl _⟩,⟨by (with_reducible repeat (first | apply Kd.N_alloc | apply Kd.N_drewN | apply Kd.N_drew));exact Kd.N_mono (Kd.N_far (p:=⟨gb160,1,none⟩) (Kd.N_far (p:=⟨gb160,0,none⟩) (Kd.N_mono HO167.out (fun k_ hk => (⟨hk,hk.2.2.1⟩ : _ ∧ k_ ≠ gb160))) (fun _ hk => hk.2) (.slice Ao9 t162.length co9)) (fun _ hk => hk.2) (.slice Ao11 t165.length co11)) (fun _ hk => ⟨hk.1.1,⟨hk.1.2.1,⟨hk.1.2.2.1,hk.1.2.2.2⟩⟩⟩)⟩,⟨by (with_reducible repeat (first | apply ra_ | apply rn_ | apply re_));exact Kd.R_mono (rf_ (p:=⟨gb160,1,none⟩) (rf_ (p:=⟨gb160,0,none⟩) (Kd.R_types HO164.out BK160.out (by decide)) (fun _ hk => hk.2) (.slice Ao9 t162.length co9)) (fun _ hk => hk.2) (.slice Ao11 t165.length co11)) (fun _ hk => hk.1.1)⟩,⟨by (with_reducible repeat (first | refine kd_ ?_ _ | refine ke_ ?_ | refine ka_ ?_ _));refine blk_put (cs:=#[.slice Ao9 t162.length co9,.slice A0_1 l0_1.length c0_1]) ?_ 1 _ rfl;(with_reducible repeat (first | refine kd_ ?_ _ | refine ke_ ?_ | refine ka_ ?_ _));refine blk_put (cs:=#[.slice A0_0 l0_0.length c0_0,.slice A0_1 l0_1.length c0_1]) ?_ 0 _ rfl;(with_reducible repeat (first | refine kd_ ?_ _ | refine ke_ ?_ | refine ka_ ?_ _));exact BK160.out⟩,⟨by (with_reducible repeat (first | refine kd_ ?_ _ | refine ke_ ?_ | refine ka_ ?_ _));refine blk_far ?_ NB161_160.out _;(with_reducible repeat (first | refine kd_ ?_ _ | refine ke_ ?_ | refine ka_ ?_ _));refine blk_far ?_ NB161_160.out _;(with_reducible repeat (first | refine kd_ ?_ _ | refine ke_ ?_ | refine ka_ ?_ _));exact BK161.out⟩,⟨by repeat (first | (with_reducible first | exact HB.out | apply ba_ | apply bd_ | apply be_ | refine bs_ ?_ GE160.out | refine bs_ ?_ GE161.out) | exact HB.out)⟩⟩
 case round =>
  clear H';(try clear c1);(try clear p2);(try clear c3);(try clear c5);(try clear c13);(try clear z14_0 z14_1 y14_0 y14_1);obtain ⟨x10_1,x16_1,rfl,HA,HK1,HO_10,HO_161000,BK160,BK161,HB⟩:=hrel;have hl10_1:=(Kd.N_reads' HO_10.out).1;rw [hl10_1] at HO_10;(try simp only [hl10_1]);(try simp only [hl10_1] at BK160);(try simp only [hl10_1] at BK161);(try simp only [hl10_1] at HO_161000)
  cases gk with
  | zero => exact absurd HA.out (by simp [leaf_own.l0])
  | succ k1 =>
   have H:=HA.out;clear HA
   simp only [leaf_own.l0] at H
   by_cases c15 : x16_1 < (t165.length : Int)
   ·rw [if_pos c15] at H
    have c15b0 : decide (x16_1 < (t165.length : Int)) = true:=dt_ c15;(try (have c15b0h := c15b0; simp only [hl10_1] at c15b0h));clear c15
    by_cases c16 : 0 ≤ x16_1
    ·rw [if_pos c16] at H
     have c16b0 : decide (0 ≤ x16_1) = true:=dt_ c16;clear c16
     by_cases c17 : x16_1 < (x10_1.length : Int)
     ·rw [if_pos c17] at H
      have c17b0 : decide (x16_1 < (x10_1.length : Int)) = true:=dt_ c17;(try (have c17b0h := c17b0; simp only [hl10_1] at c17b0h));clear c17;replace H:=Option.bind_eq_some_iff.mp H;obtain ⟨t169,A180,H⟩:=H;replace H : (leaf_own.l0 k1 (x10_1.set (x16_1 : Int).toNat t169) (t165.length : Int) (wrap64 (x16_1 + 1)) t162) = some (r1,r2):=H;have A18:=A_ A180;clear A180
      obtain ⟨y172,hy172⟩ : ∃ y_ : List (List Int),y_ = (x10_1.set (x16_1 : Int).toNat t169):=⟨_,rfl⟩
      replace H : (leaf_own.l0 k1 y172 (t165.length : Int) (wrap64 (x16_1 + 1)) t162) = some (r1,r2):=by first | (rw [hy172];with_reducible exact H) | (have H2_:=(Option.bind_some _ _).symm.trans H;rw [hy172];with_reducible exact H2_) | (have H2_:=(Option.bind_some _ _).symm.trans H;with_reducible exact H2_) | with_reducible exact H | (rw [hy172];exact H) | exact H
      have Ny172:=A_ hy172;clear hy172;have H':=A_ H;clear H
      have p168 : 0 ≤ (x16_1 : Int):=od_ (by first | (with_reducible assumption) | assumption)
      have q168 : x16_1 < (x10_1.length : Int):=od_ (by first | (with_reducible assumption) | assumption)
      obtain ⟨ad168,A168_0,c168_0,e168,hx168_0,hl168_0,hi168_0⟩:=at_L2 (Kd.N_reads' HO_10.out).2.2 x16_1 p168 q168
      cases e168
      obtain ⟨ce168,hce168,hMe168,hcc168⟩:=Kd.N_get HO_10.out [] x16_1 p168 (by first | exact q168 | exact od_ (by first | (with_reducible assumption) | assumption) | (have e_:=(Kd.N_reads' HO_10.out).1;omega))
      obtain ⟨ua168_0,uc168_0,rfl,ul168_0,ge168_0⟩:=Kd.FK_slice_open hMe168;have hv168_0:=hcc168 0 _ rfl
      rw [Nat.add_zero,show ((Kd.slice 5 (Kd.int .u8))).sz = 1 from rfl,Nat.mul_one] at hv168_0
      replace hv168_0:=Option.some.inj (hv168_0.symm.trans hx168_0)
      injection hv168_0 with hva_ hvn_ hvc_
      rw [hva_] at ge168_0;rw [hvc_] at ul168_0
      have HL168_0:=A_ (show Kd.V (Kd.int .u8) 5 _ w.heap.size _ _ (rd_L2 x10_1 x16_1) from Kd.V_mk ul168_0 ge168_0)
      clear hva_ hvn_ hvc_ ge168_0 ul168_0;clear hcc168 hce168;have HR168_0:=A_ hi168_0;have HC168_0:=A_ hl168_0;clear hi168_0 hl168_0;replace p168:=eq_true p168;replace q168:=eq_true q168
      try go_wp2
      have n0_:=A_ (Kd.N_drew HO_10.out);have n1_:=A_ (re_ HO_161000.out);have n2_:=A_ (Kd.V_drew HL168_0.out);have n3_:=A_ (ke_ BK160.out);have n4_:=A_ (ke_ BK161.out);have n5_:=A_ (Kd.C_drew HR168_0.out);have n6_:=A_ (be_ HB.out);clear HO_10;clear HO_161000;clear HL168_0;clear BK160;clear BK161;clear HR168_0;clear HB;have HO_10:=n0_;have HO_161000:=n1_;have HL168_0:=n2_;have BK160:=n3_;have BK161:=n4_;have HR168_0:=n5_;have HB:=n6_;clear n0_ n1_ n2_ n3_ n4_ n5_ n6_
      refine start_ (n:=7) (S:=fun w' => w'.cell? ⟨gb160,0,none⟩ = some (.slice Ao9 t162.length co9) ∧ w'.cell? ⟨gb160,1,none⟩ = some (.slice (some ad168) x10_1.length co11)) (ds:=[6]) #[Z,Z,Z,Z,Z,Z,Z] (by kernel_rfl) rfl rfl ⟨(bc_ BK160.out 0).trans rfl,(bc_ BK160.out 1).trans rfl⟩ (fun hHeld => ?_)
      generalize wr.drew = w20 at HO_10 HO_161000 HL168_0 BK160 BK161 HR168_0 HB hHeld ⊢
      refine pure_ (i:=0) (N:=some 21) (v:=?_) (a':=?_) #[Y,Z,Z,Z,Z,Z,Z] rfl rfl (by kernel_rfl) (fun _ _ _ h => h) (Or.inl ⟨by rfl,?_⟩) ?_ ?_;rotate_left;(intro w';go_simp;with_reducible rfl);rotate_left;(simp only [Act.put,q1_,q2_,q3_,i64_w,i32_w];rfl);refine pure_ (i:=2) (N:=some 23) (v:=?_) (a':=?_) #[Y,Z,Y,Z,Z,Z,Z] rfl rfl (by kernel_rfl) (fun _ _ _ h => h) (Or.inl ⟨by rfl,?_⟩) ?_ ?_;rotate_left;(intro w';go_simp;with_reducible rfl);rotate_left;(simp only [Act.put,q1_,q2_,q3_,i64_w,i32_w];rfl);refine pure_ (i:=3) (N:=some 24) (v:=?_) (a':=?_) #[Y,Z,Y,Y,Z,Z,Z] rfl rfl (by kernel_rfl) (fun _ _ _ h => h) (Or.inl ⟨by rfl,?_⟩) ?_ ?_;rotate_left;(intro w';go_simp;with_reducible rfl);rotate_left;(simp only [Act.put,q1_,q2_,q3_,i64_w,i32_w];rfl);refine take_ (i:=1) (N:=some 22) (v:=?_) (a':=?_) #[Y,Y,Y,Y,Z,Z,Z] rfl rfl (by kernel_rfl) (fun _ _ _ h => h) (Or.inl ⟨by rfl,?_⟩) hHeld ?_ ?_;rotate_left;(rintro w' ⟨s0,s1⟩;go_simp;with_reducible rfl);rotate_left;(simp only [Act.put,q1_,q2_,q3_,i64_w,i32_w];rfl)
      refine one_ (i:=4) (N:=some 25) #[Y,Y,Y,Y,Y,Z,Z] rfl rfl (by kernel_rfl) (by decide) (fun K hK => ?_)
      refine goes_ Try.func59 (by kernel_rfl) rfl #[.slice A168_0 (rd_L2 x10_1 x16_1).length c168_0] (by rfl) rfl rfl (by (try simp only [List.map_toArray,List.map_cons,List.map_nil]);first | done | rfl | (simp only [List.length_drop,List.length_take];rfl)) ?_
      with_reducible refine (slices_Clone_byte_byte_59.calls _ _ (rd_L2 x10_1 x16_1) t169 _ ?side1 ?side2 A18.out).mono ?_
      (case side1 => repeat (first | exact (by repeat (first | (with_reducible exact HR168_0.out) | (with_reducible refine Kd.C_alloc ?_ _) | (with_reducible refine Kd.C_drewN ?_ _) | (with_reducible refine Kd.C_drew ?_) | exact HR168_0.out)) | (with_reducible refine Kd.C_alloc ?_ _) | (with_reducible refine Kd.C_drewN ?_ _) | (with_reducible refine Kd.C_drew ?_)))
      (case side2 => exact HC168_0.out)
      rintro e w21 ⟨v170,rfl,ho0,hb⟩;refine ⟨_,rfl,?_⟩
      have n0_:=A_ (Kd.N_elder' (by (with_reducible repeat (first | apply Kd.N_alloc | apply Kd.N_drewN | apply Kd.N_drew));exact HO_10.out) (Kd.R_base ho0) hb)
      have n1_:=A_ (Kd.R_below (by (with_reducible repeat (first | apply ra_ | apply rn_ | apply re_));exact HO_161000.out) hb)
      have n2_:=A_ (Kd.V_elder' (by (with_reducible repeat (first | apply Kd.V_alloc | apply Kd.V_drewN | apply Kd.V_drew));exact HL168_0.out) (Kd.R_base ho0) hb)
      have n3_:=A_ (Kd.R_lower (Kd.R_newM (M:=fun k_ => (w.heap.size ≤ k_)) ho0 (bz_ (by repeat (first | (with_reducible first | exact HB.out | apply ba_ | apply bd_ | apply be_ | refine bs_ ?_ GE160.out | refine bs_ ?_ GE161.out) | exact HB.out))) (fun k_ h_ => h_)) (bz_ (by repeat (first | (with_reducible first | exact HB.out | apply ba_ | apply bd_ | apply be_ | refine bs_ ?_ GE160.out | refine bs_ ?_ GE161.out) | exact HB.out))))
      have n4_:=A_ (bx_ BK160.out (by intro h_;(with_reducible repeat (first | refine kd_ ?_ _ | refine ke_ ?_ | refine ka_ ?_ _));exact h_) hb)
      have n5_:=A_ (bx_ BK161.out (by intro h_;(with_reducible repeat (first | refine kd_ ?_ _ | refine ke_ ?_ | refine ka_ ?_ _));exact h_) hb)
      have n6_:=A_ (Kd.C_below (by repeat (first | (with_reducible exact HR168_0.out) | (with_reducible refine Kd.C_alloc ?_ _) | (with_reducible refine Kd.C_drewN ?_ _) | (with_reducible refine Kd.C_drew ?_) | exact HR168_0.out)) hb)
      have n7_:=A_ (bp_ (by repeat (first | (with_reducible first | exact HB.out | apply ba_ | apply bd_ | apply be_ | refine bs_ ?_ GE160.out | refine bs_ ?_ GE161.out) | exact HB.out)) hb)
      clear HO_10;clear HO_161000;clear HL168_0;clear BK160;clear BK161;clear HR168_0;clear HB;have HO_10:=n0_;have HO_161000:=n1_;have HL168_0:=n2_;have HO171:=n3_;have BK160:=n4_;have BK161:=n5_;have HR168_0:=n6_;have HB:=n7_;clear n0_ n1_ n2_ n3_ n4_ n5_ n6_ n7_;(try clear hb);(try clear hb2);(try clear hk);(try clear hi);(try clear ho0)
      have p19 : 0 ≤ (x16_1 : Int):=od_ (by first | (with_reducible assumption) | assumption)
      have q19 : (x16_1 : Int) < ((x10_1.length : Int) : Int):=od_ (by first | (with_reducible assumption) | assumption)
      obtain ⟨go19,co19,eo19,gb19,gl19,cl19,HG19⟩:=Kd.N_form HO_10.out (by omega)
      (first | cases eo19 | (injection eo19 with ea_ en_ ec_;(first | subst ea_ | (injection ea_ with ea_;subst ea_));subst ec_;clear en_))
      have GB19:=A_ gb19;have GG19:=A_ HG19;clear gb19 gl19 HG19;(first | simp only [add_plain] at hx168_0 | skip);obtain ⟨ce19,hcl19,hM19,hcc19,hfr19⟩:=Kd.N_elem HO_10.out [] (x16_1 : Int) p19 q19;obtain ⟨ua19_0,uc19_0,rfl,ul19_0,ge19_0⟩:=Kd.FK_slice_open hM19;have hx19_0:=hcc19 0 _ rfl;have hf19_0:=hfr19 0
      (try simp only [show ((Kd.slice 5 (Kd.int .u8))).sz = 1 from rfl,Nat.mul_one,Nat.add_zero] at hx19_0)
      (try simp only [show ((Kd.slice 5 (Kd.int .u8))).sz = 1 from rfl,Nat.mul_one,Nat.add_zero] at hf19_0)
      clear hcl19 hcc19 hfr19 hM19;replace p19:=eq_true p19;replace q19:=eq_true q19;obtain ⟨Ao22,co22,eo22⟩:=Kd.R_slice HO171.out
      (first | subst eo22 | (injection eo22 with f1_ f2_ f3_;have f4_:=f1_.symm;have f5_:=f3_.symm;clear f1_ f2_ f3_;subst f4_;subst f5_))
      have HX23:=A_ (show Kd.N (Kd.slice 5 (Kd.int .u8)) 22 _ w.heap.size (fun k_ => (P0_1_ k_ ∨ w.heap.size ≤ k_) ∧ some k_ ≠ (.slice Ao9 t162.length co9 : Value).ownBlock ∧ some k_ ≠ (.slice Ao22 t169.length co22 : Value).ownBlock ∧ k_ ≠ gb160 ∧ k_ ≠ gb161) (.slice (some ⟨go19,0,none⟩) x10_1.length co11) x10_1 from (Kd.N_mono (HO_10.out) (fun k_ hk => ⟨hk.1.1,⟨hk.1.2.1,⟨hk.2,⟨hk.1.2.2.1,hk.1.2.2.2⟩⟩⟩⟩)))
      replace HX23:=A_ (show Kd.N (Kd.slice 5 (Kd.int .u8)) 22 _ w.heap.size (fun k_ => (P0_1_ k_ ∨ w.heap.size ≤ k_) ∧ some k_ ≠ (.slice Ao9 t162.length co9 : Value).ownBlock ∧ k_ ≠ gb160 ∧ k_ ≠ gb161) (.slice (some ⟨go19,0,none⟩) x10_1.length co11) x10_1 from Kd.N_mono HX23.out (fun k_ hk => ⟨hk.1,⟨hk.2.1,⟨hk.2.2.2.1,hk.2.2.2.2⟩⟩⟩))
      obtain ⟨ce23,hcl23,hM23,hcc23,hfr23⟩:=Kd.N_elem HX23.out [] (x16_1 : Int) (od_ (by first | (with_reducible assumption) | assumption)) (by have h_ : (x16_1 : Int) < ((x10_1.length : Int) : Int):=od_ (by first | (with_reducible assumption) | assumption);first | exact h_ | (have e_:=(Kd.N_reads' HO_10.out).1;omega) | simpa using h_)
      obtain ⟨ua23_0,uc23_0,rfl,ul23_0,ge23_0⟩:=Kd.FK_slice_open hM23
      have HP23:=(Kd.N_seg HX23.out (x16_1 : Int) (od_ (by first | (with_reducible assumption) | assumption)) (by have h_ : (x16_1 : Int) < ((x10_1.length : Int) : Int):=od_ (by first | (with_reducible assumption) | assumption);first | exact h_ | (have e_:=(Kd.N_reads' HO_10.out).1;omega) | simpa using h_) (seg:=[.slice Ao22 t169.length co22]) (j:=0) hcl23 hcc23 (show 1 ≤ 1 from by decide) (x':=t169) (Kd.FK_slice_mk (Kd.R_reads' (Kd.R_mono (ok':=(fun k_ => ((fun k_ => (P0_1_ k_ ∨ w.heap.size ≤ k_) ∧ some k_ ≠ (.slice Ao9 t162.length co9 : Value).ownBlock ∧ k_ ≠ gb160 ∧ k_ ≠ gb161)) k_ ∧ k_ ≠ go19)) (Kd.R_types (Kd.R_types (Kd.R_apart' (Kd.R_apart' (HO171.out) (Kd.R_typed HO_161000.out) (by decide)) (Kd.N_typed HO_10.out) (by decide)) BK160.out (by decide)) BK161.out (by decide)) (fun k_ hk => ⟨⟨(.inr (hk.1.1.1.1.1)),⟨hk.1.1.1.2,⟨hk.1.2,hk.2⟩⟩⟩,fun e_ => (hk.1.1.2) (by rw [e_];rfl)⟩))).2.1 (Kd.R_F (Kd.R_mono (ok':=(fun k_ => ((fun k_ => (P0_1_ k_ ∨ w.heap.size ≤ k_) ∧ some k_ ≠ (.slice Ao9 t162.length co9 : Value).ownBlock ∧ k_ ≠ gb160 ∧ k_ ≠ gb161)) k_ ∧ k_ ≠ go19)) (Kd.R_types (Kd.R_types (Kd.R_apart' (Kd.R_apart' (HO171.out) (Kd.R_typed HO_161000.out) (by decide)) (Kd.N_typed HO_10.out) (by decide)) BK160.out (by decide)) BK161.out (by decide)) (fun k_ hk => ⟨⟨(.inr (hk.1.1.1.1.1)),⟨hk.1.1.1.2,⟨hk.1.2,hk.2⟩⟩⟩,fun e_ => (hk.1.1.2) (by rw [e_];rfl)⟩)))) (fun _ hk => hk)).1
      (try simp only [show ((Kd.slice 5 (Kd.int .u8))).sz = 1 from rfl,Nat.mul_one,Nat.add_zero] at HP23)
      rw [← Ny172.out] at HP23;have HQ23:=A_ HP23;clear hcl23 hcc23 hfr23 hM23 HP23
      refine hK.out _ _ ⟨(bc_ BK160.out 0).trans rfl,(bc_ BK160.out 1).trans rfl⟩ (fun hHeld => ?_)
      clear hK K
      refine norm_ (a':=?_) ?_ ?_;rotate_left;(show Act.put _ (some 25) _ = _;simp only [Act.put,q1_,q2_,q3_,i64_w,i32_w];rfl)
      refine pure_ (i:=5) (N:=some 26) (v:=?_) (a':=?_) #[Y,Y,Y,Y,Y,Y,Z] rfl rfl (by kernel_rfl) (fun _ _ _ h => h) (Or.inl ⟨by rfl,?_⟩) ?_ ?_;rotate_left;(intro w';go_simp;with_reducible rfl);rotate_left;(simp only [Act.put,q1_,q2_,q3_,i64_w,i32_w];rfl)
      refine last_ (i:=6) (N:=none) #[Y,Y,Y,Y,Y,Y,Y] rfl rfl (by kernel_rfl) (by decide) (fun K hK => ?_)
      refine skip_ (w1:=?_) (by rfl) rfl ?_ ?_
      rotate_left
      ·go_simp
       rfl
      refine hK.out _ _ ?_;clear hK K;refine done_ (by kernel_rfl) ?_
      try go_wp2
      (try simp only [← hl10_1]);go_roundg k1
      case measure => have:=HK1.out;omega
      case rel => exact ⟨(y172),(wrap64 (x16_1 + 1)),(by first | rfl | (simp;done) | (simp [*];done)),H',⟨by have:=HK1.out;omega⟩,⟨by (try simp only [hl10_1]);(with_reducible repeat (first | apply Kd.N_alloc | apply Kd.N_drewN | apply Kd.N_drew));exact HQ23.out⟩,⟨by (try simp only [hl10_1]);(with_reducible repeat (first | apply ra_ | apply rn_ | apply re_));exact Kd.R_mono (rf_ (p:=⟨go19,(x16_1 : Int).toNat,none⟩) (Kd.R_types HO_161000.out GG19.out (by decide)) (fun _ hk => hk.2) (.slice Ao22 t169.length co22)) (fun _ hk => hk.1)⟩,⟨by (try simp only [hl10_1]);(with_reducible repeat (first | refine kd_ ?_ _ | refine ke_ ?_ | refine ka_ ?_ _));refine blk_far ?_ (by have h_:=Kd.N_away HO_10.out (fun _ hk => hk.1.2.2.1);intro e_;exact h_ (by rw [e_];rfl)) _;(with_reducible repeat (first | refine kd_ ?_ _ | refine ke_ ?_ | refine ka_ ?_ _));exact BK160.out⟩,⟨by (try simp only [hl10_1]);(with_reducible repeat (first | refine kd_ ?_ _ | refine ke_ ?_ | refine ka_ ?_ _));refine blk_far ?_ (by have h_:=Kd.N_away HO_10.out (fun _ hk => hk.1.2.2.2);intro e_;exact h_ (by rw [e_];rfl)) _;(with_reducible repeat (first | refine kd_ ?_ _ | refine ke_ ?_ | refine ka_ ?_ _));exact BK161.out⟩,⟨by repeat (first | (with_reducible first | exact HB.out | apply ba_ | apply bd_ | apply be_ | refine bs_ ?_ GB19.out | refine bs_ ?_ GE160.out | refine bs_ ?_ GE161.out) | exact HB.out)⟩⟩
     ·rw [if_neg c17] at H
      exact absurd H (by simp)
    ·rw [if_neg c16] at H
     exact absurd H (by simp)
   ·rw [if_neg c15] at H
    have c15b0 : decide (x16_1 < (t165.length : Int)) = false:=df_ c15;(try (have c15b0h := c15b0; simp only [hl10_1] at c15b0h));clear c15
    simp only [Option.some.injEq,Prod.mk.injEq] at H
    obtain ⟨rfl,rfl⟩:=H;have hnb24:=NB160_161.out;have hnc24:=NB161_160.out;have z25_0 : wr.cell? ⟨gb160,0,none⟩ = some (.slice Ao9 t162.length co9):=(bc_ BK160.out 0).trans rfl;have z25_1 : wr.cell? ⟨gb160,1,none⟩ = some (.slice Ao11 x10_1.length co11):=(bc_ BK160.out 1).trans rfl;have y25_0:=bf_ BK160.out 0;have y25_1:=bf_ BK160.out 1;have z26_0 : wr.cell? ⟨gb161,0,none⟩ = some (.slice none 0 0):=(bc_ BK161.out 0).trans rfl;have z26_1 : wr.cell? ⟨gb161,1,none⟩ = some (.slice none 0 0):=(bc_ BK161.out 1).trans rfl;have y26_0:=bf_ BK161.out 0;have y26_1:=bf_ BK161.out 1;go_wp2
    refine bodyPost_ret (results_cell_row rfl _ _ gb161 27 #[.slice Ao9 t162.length co9,.slice Ao11 x10_1.length co11] (0,0) _ rfl (by (with_reducible repeat (first | refine kd_ ?_ _ | refine ke_ ?_ | refine ka_ ?_ _));refine blk_put (cs:=#[.slice Ao9 t162.length co9,.slice none 0 0]) ?_ 1 _ rfl;(with_reducible repeat (first | refine kd_ ?_ _ | refine ke_ ?_ | refine ka_ ?_ _));refine blk_put (cs:=#[.slice none 0 0,.slice none 0 0]) ?_ 0 _ rfl;(with_reducible repeat (first | refine kd_ ?_ _ | refine ke_ ?_ | refine ka_ ?_ _));exact BK161.out) Try.underlying27 rfl (by kernel_rfl)) rfl ?_
    exact ⟨_,_,by first | rfl | (simp [errW_none,errW_some] <;> rfl) | (simp [*,errW_none,errW_some] <;> rfl),by (with_reducible repeat (first | apply ra_ | apply rn_ | apply re_));exact Kd.R_mono (rf_ (p:=⟨gb161,1,none⟩) (rf_ (p:=⟨gb161,0,none⟩) (Kd.R_types HO_161000.out BK161.out (by decide)) (fun _ hk => hk.2) (.slice Ao9 t162.length co9)) (fun _ hk => hk.2) (.slice Ao11 x10_1.length co11)) (fun _ hk => hk.1),by (with_reducible repeat (first | apply Kd.N_alloc | apply Kd.N_drewN | apply Kd.N_drew));exact Kd.N_mono (Kd.N_far (p:=⟨gb161,1,none⟩) (Kd.N_far (p:=⟨gb161,0,none⟩) (Kd.N_mono HO_10.out (fun k_ hk => (⟨hk,hk.2.2.2⟩ : _ ∧ k_ ≠ gb161))) (fun _ hk => hk.2) (.slice Ao9 t162.length co9)) (fun _ hk => hk.2) (.slice Ao11 x10_1.length co11)) (fun _ hk => ⟨hk.1.1,hk.1.2.1⟩),by repeat (first | (with_reducible first | exact HB.out | apply ba_ | apply bd_ | apply be_ | refine bs_ ?_ GE160.out | refine bs_ ?_ GE161.out) | exact HB.out)⟩
mutual
def humuslaw08_Light.l0 : Nat → Int → List Int → List (List Int) → Option (Bool)
 | 0,_,_,_ => none
 | k + 1,x3,x311000,x311001 => if x3 < (x311001.length : Int) then (humuslaw08_Light.j1 k x3 (decide (x3 < 80)) x311000 x311001) else (humuslaw08_Light.j1 k x3 false x311000 x311001)
def humuslaw08_Light.j1 : Nat → Int → Bool → List Int → List (List Int) → Option (Bool)
 | 0,_,_,_,_ => none
 | k + 1,x3,x12,x311000,x311001 => if x12 = true then (if 0 ≤ x3 then (if x3 < (x311001.length : Int) then (if ((rd_L2 x311001 x3).length : Int) > 600 then (some false) else (humuslaw08_Light.l0 k (wrap64 (x3 + 1)) x311000 x311001)) else (none)) else (none)) else (if (x311001.length : Int) ≤ 80 then (some (decide ((x311000.length : Int) ≤ 20))) else (some false))
end
def humuslaw08_Light.f (k : Nat) (l0_0 : List Int) (l0_1 : List (List Int)) : Option (Bool):=humuslaw08_Light.l0 k 0 l0_0 l0_1
set_option maxHeartbeats 8000000 in
set_option maxRecDepth 100000 in
theorem humuslaw08_Light.calls (k : Nat) (A0_0 : Option Addr) (c0_0 : Nat) (l0_0 : List Int) (A0_1 : Option Addr) (c0_1 : Nat) (l0_1 : List (List Int)) (r : Bool) (w : World) (hr0_0 : Kd.C (Kd.int .i64) w A0_0 l0_0.length l0_0) (hc0_0 : l0_0.length ≤ c0_0) (hr0_1 : Kd.C (Kd.slice 5 (Kd.int .u8)) w A0_1 l0_1.length l0_1) (hc0_1 : l0_1.length ≤ c0_1) (h : humuslaw08_Light.f k l0_0 l0_1 = some r) :
  Calls Try.prog 12 #[.agg #[.slice A0_0 l0_0.length c0_0,.slice A0_1 l0_1.length c0_1]] w fun e w' => e = .returned (.bool r) ∧ Below w.heap.size w w':=by
 have hu27:=Try.underlying27;have HR0_0:=A_ hr0_0;have HC0_0:=A_ hc0_0;clear hr0_0 hc0_0;have HR0_1:=A_ hr0_1;have HC0_1:=A_ hc0_1;clear hr0_1 hc0_1;have HB:=A_ (Below.refl w.heap.size w);have H : (humuslaw08_Light.l0 k 0 l0_0 l0_1) = some r:=h;clear h;have H':=A_ H;clear H;go_enter Try.func12,Try.ntmps12
 go_wp2_with (first | ((with_reducible refine gate_dst (N:=1) rfl ?_);(try (refine gate_guard (by rfl) ?_;dsimp only));refine box_event ?hg (N:=1) ?hd (cs:=#[.slice A0_0 l0_0.length c0_0,.slice A0_1 l0_1.length c0_1]) (t:=27) ?hr ?_;(case hd => rfl);(case hg => rfl);(case hr => first | (go_simp;done) | (go_simp;rfl));intro gb310 hg w2 hbox hb;have n0_:=A_ (bp_ (by repeat (first | (with_reducible first | exact HB.out | apply ba_ | apply bd_ | apply be_) | exact HB.out)) hb);have n1_:=A_ (hbox);have n2_:=A_ ((by rw [hg];exact (bz_ (by repeat (first | (with_reducible first | exact HB.out | apply ba_ | apply bd_ | apply be_) | exact HB.out))) : w.heap.size ≤ gb310));have n3_:=n2_;clear HB;have HB:=n0_;have BK310:=n1_;have GW310:=n2_;have GE310:=n3_;clear n0_ n1_ n2_ n3_;clear hb hbox hg))
 go_loopg [3] k (fun kq v3 w' => ∃ (x3_1 : Int),v3 = .int .i64 x3_1 ∧ Aside0 (humuslaw08_Light.l0 kq x3_1 l0_0 l0_1 = some r) ∧ Aside0 (kq ≤ k) ∧ Aside0 (w'.heap[gb310]? = some (.cells #[(.slice A0_0 l0_0.length c0_0),(.slice A0_1 l0_1.length c0_1)] 27 (0,0))) ∧ Aside0 (Below w.heap.size w w'))
 case atStart => exact ⟨(0),(by first | rfl | (simp;done) | (simp [*];done)),H',⟨Nat.le_refl _⟩,⟨by (with_reducible repeat (first | refine kd_ ?_ _ | refine ke_ ?_ | refine ka_ ?_ _));exact BK310.out⟩,⟨by repeat (first | (with_reducible first | exact HB.out | apply ba_ | apply bd_ | apply be_ | refine bs_ ?_ GE310.out) | exact HB.out)⟩⟩
 case round =>
  clear H';(try clear c1);(try clear p2);obtain ⟨x3_1,rfl,HA,HK1,BK310,HB⟩:=hrel
  cases gk with
  | zero => exact absurd HA.out (by simp [humuslaw08_Light.l0])
  | succ k1 =>
   have H:=HA.out;clear HA
   simp only [humuslaw08_Light.l0] at H
   have HC3:=A_ H;clear H
   go_upto_region 2 with (fail)
   go_cut [12] (fun v12 wc => ∃ (kq : Nat) (x12_2 : Bool),v12 = .bool x12_2 ∧ Aside0 (humuslaw08_Light.j1 kq x3_1 x12_2 l0_0 l0_1 = some r) ∧ Aside0 (kq ≤ k1) ∧ Aside0 (wc.heap[gb310]? = some (.cells #[(.slice A0_0 l0_0.length c0_0),(.slice A0_1 l0_1.length c0_1)] 27 (0,0))) ∧ Aside0 (Below w.heap.size w wc))
   case first =>
    have H:=HC3.out;clear HC3
    by_cases c4 : x3_1 < (l0_1.length : Int)
    ·rw [if_pos c4] at H
     have c4b0 : decide (x3_1 < (l0_1.length : Int)) = true:=dt_ c4;clear c4;(first | rw [c4b0] | (simp only [i64_w,i32_w];rw [c4b0]) | skip);have H':=A_ H;clear H;have z5_0 : wr.cell? ⟨gb310,0,none⟩ = some (.slice A0_0 l0_0.length c0_0):=(bc_ BK310.out 0).trans rfl;have z5_1 : wr.cell? ⟨gb310,1,none⟩ = some (.slice A0_1 l0_1.length c0_1):=(bc_ BK310.out 1).trans rfl;have y5_0:=bf_ BK310.out 0;have y5_1:=bf_ BK310.out 1;go_wp2;go_meet
     case rel => exact ⟨_,(decide (x3_1 < 80)),(by first | rfl | (simp;done) | (simp [*];done)),H',⟨by have:=HK1.out;first | omega | exact Nat.le_refl _⟩,⟨by (with_reducible repeat (first | refine kd_ ?_ _ | refine ke_ ?_ | refine ka_ ?_ _));exact BK310.out⟩,⟨by repeat (first | (with_reducible first | exact HB.out | apply ba_ | apply bd_ | apply be_ | refine bs_ ?_ GE310.out) | exact HB.out)⟩⟩
    ·rw [if_neg c4] at H
     have c4b0 : decide (x3_1 < (l0_1.length : Int)) = false:=df_ c4;clear c4;(first | rw [c4b0] | (simp only [i64_w,i32_w];rw [c4b0]) | skip);have H':=A_ H;clear H;have z6_0 : wr.cell? ⟨gb310,0,none⟩ = some (.slice A0_0 l0_0.length c0_0):=(bc_ BK310.out 0).trans rfl;have z6_1 : wr.cell? ⟨gb310,1,none⟩ = some (.slice A0_1 l0_1.length c0_1):=(bc_ BK310.out 1).trans rfl;have y6_0:=bf_ BK310.out 0;have y6_1:=bf_ BK310.out 1;go_wp2;go_meet
     case rel => exact ⟨_,false,rfl,H',⟨by have:=HK1.out;first | omega | exact Nat.le_refl _⟩,⟨by (with_reducible repeat (first | refine kd_ ?_ _ | refine ke_ ?_ | refine ka_ ?_ _));exact BK310.out⟩,⟨by repeat (first | (with_reducible first | exact HB.out | apply ba_ | apply bd_ | apply be_ | refine bs_ ?_ GE310.out) | exact HB.out)⟩⟩
   case rest =>
    clear HC3;(try clear c1);(try clear p2);(try clear c4);(try clear c4b0);(try clear p2);(try clear z5_0 z5_1 z6_0 z6_1 y5_0 y5_1 y6_0 y6_1);obtain ⟨kq,x12_2,rfl,HA,HJ2,BK310,HB⟩:=hcut
    cases kq with
    | zero => exact absurd HA.out (by simp [humuslaw08_Light.j1])
    | succ kj2 =>
     have H:=HA.out;clear HA
     simp only [humuslaw08_Light.j1] at H
     by_cases c7 : x12_2 = true
     ·subst c7
      have H1 : (if 0 ≤ x3_1 then (if x3_1 < (l0_1.length : Int) then (if ((rd_L2 l0_1 x3_1).length : Int) > 600 then (some false) else (humuslaw08_Light.l0 kj2 (wrap64 (x3_1 + 1)) l0_0 l0_1)) else (none)) else (none)) = some r:=by rw [if_pos rfl] at H;exact H
      clear H;have H:=H1;clear H1
      by_cases c8 : 0 ≤ x3_1
      ·rw [if_pos c8] at H
       have c8b0 : decide (0 ≤ x3_1) = true:=dt_ c8;clear c8
       by_cases c9 : x3_1 < (l0_1.length : Int)
       ·rw [if_pos c9] at H
        have c9b0 : decide (x3_1 < (l0_1.length : Int)) = true:=dt_ c9;clear c9
        by_cases c10 : ((rd_L2 l0_1 x3_1).length : Int) > 600
        ·rw [if_pos c10] at H
         have c10b0 : decide (600 < ((rd_L2 l0_1 x3_1).length : Int)) = true:=dt_ c10
         have c10b1 : decide (600 < (rd_L2 l0_1 x3_1).length) = true:=dt_ (by omega)
         clear c10;obtain rfl:=Option.some.inj H;have z11_0 : wc.cell? ⟨gb310,0,none⟩ = some (.slice A0_0 l0_0.length c0_0):=(bc_ BK310.out 0).trans rfl;have z11_1 : wc.cell? ⟨gb310,1,none⟩ = some (.slice A0_1 l0_1.length c0_1):=(bc_ BK310.out 1).trans rfl;have y11_0:=bf_ BK310.out 0;have y11_1:=bf_ BK310.out 1
         have p311 : 0 ≤ (x3_1 : Int):=od_ (by first | (with_reducible assumption) | assumption)
         have q311 : x3_1 < (l0_1.length : Int):=od_ (by first | (with_reducible assumption) | assumption)
         obtain ⟨ad311,A311_0,c311_0,e311,hx311_0,hl311_0,hi311_0⟩:=at_L2 HR0_1.out x3_1 p311 q311
         cases e311
         replace hx311_0:=(HB.out.cell (wb_ w _ hx311_0)).trans hx311_0;have HR311_0:=A_ hi311_0;have HC311_0:=A_ hl311_0;clear hi311_0 hl311_0;replace p311:=eq_true p311;replace q311:=eq_true q311;go_wp2;go_ret
         exact ⟨by first | rfl | (simp [errW_none,errW_some] <;> rfl) | (simp [*,errW_none,errW_some] <;> rfl),by repeat (first | (with_reducible first | exact HB.out | apply ba_ | apply bd_ | apply be_ | refine bs_ ?_ GE310.out) | exact HB.out)⟩
        ·rw [if_neg c10] at H
         have c10b0 : decide (600 < ((rd_L2 l0_1 x3_1).length : Int)) = false:=df_ c10
         have c10b1 : decide (600 < (rd_L2 l0_1 x3_1).length) = false:=df_ (by omega)
         clear c10;have H':=A_ H;clear H;have z12_0 : wc.cell? ⟨gb310,0,none⟩ = some (.slice A0_0 l0_0.length c0_0):=(bc_ BK310.out 0).trans rfl;have z12_1 : wc.cell? ⟨gb310,1,none⟩ = some (.slice A0_1 l0_1.length c0_1):=(bc_ BK310.out 1).trans rfl;have y12_0:=bf_ BK310.out 0;have y12_1:=bf_ BK310.out 1
         have p311 : 0 ≤ (x3_1 : Int):=od_ (by first | (with_reducible assumption) | assumption)
         have q311 : x3_1 < (l0_1.length : Int):=od_ (by first | (with_reducible assumption) | assumption)
         obtain ⟨ad311,A311_0,c311_0,e311,hx311_0,hl311_0,hi311_0⟩:=at_L2 HR0_1.out x3_1 p311 q311
         cases e311
         replace hx311_0:=(HB.out.cell (wb_ w _ hx311_0)).trans hx311_0;have HR311_0:=A_ hi311_0;have HC311_0:=A_ hl311_0;clear hi311_0 hl311_0;replace p311:=eq_true p311;replace q311:=eq_true q311;go_wp2;go_roundg kj2
         case measure => have:=HK1.out;have:=HJ2.out;omega
         case rel => exact ⟨(wrap64 (x3_1 + 1)),(by first | rfl | (simp;done) | (simp [*];done)),H',⟨by have:=HK1.out;have:=HJ2.out;omega⟩,⟨by (with_reducible repeat (first | refine kd_ ?_ _ | refine ke_ ?_ | refine ka_ ?_ _));exact BK310.out⟩,⟨by repeat (first | (with_reducible first | exact HB.out | apply ba_ | apply bd_ | apply be_ | refine bs_ ?_ GE310.out) | exact HB.out)⟩⟩
       ·rw [if_neg c9] at H
        exact absurd H (by simp)
      ·rw [if_neg c8] at H
       exact absurd H (by simp)
     ·replace c7:=Bool.eq_false_iff.mpr c7
      subst c7
      have H1 : (if (l0_1.length : Int) ≤ 80 then (some (decide ((l0_0.length : Int) ≤ 20))) else (some false)) = some r:=by rw [if_neg (show ¬ (false = true) by decide)] at H;exact H
      clear H;have H:=H1;clear H1
      by_cases c13 : (l0_1.length : Int) ≤ 80
      ·rw [if_pos c13] at H
       have c13b0 : decide ((l0_1.length : Int) ≤ 80) = true:=dt_ c13
       have c13b1 : decide (l0_1.length ≤ 80) = true:=dt_ (by omega)
       clear c13;obtain rfl:=Option.some.inj H;have z14_0 : wc.cell? ⟨gb310,0,none⟩ = some (.slice A0_0 l0_0.length c0_0):=(bc_ BK310.out 0).trans rfl;have z14_1 : wc.cell? ⟨gb310,1,none⟩ = some (.slice A0_1 l0_1.length c0_1):=(bc_ BK310.out 1).trans rfl;have y14_0:=bf_ BK310.out 0;have y14_1:=bf_ BK310.out 1;go_wp2;go_ret
       exact ⟨by first | rfl | (simp [errW_none,errW_some] <;> rfl) | (simp [*,errW_none,errW_some] <;> rfl),by repeat (first | (with_reducible first | exact HB.out | apply ba_ | apply bd_ | apply be_ | refine bs_ ?_ GE310.out) | exact HB.out)⟩
      ·rw [if_neg c13] at H
       have c13b0 : decide ((l0_1.length : Int) ≤ 80) = false:=df_ c13
       have c13b1 : decide (l0_1.length ≤ 80) = false:=df_ (by omega)
       clear c13;obtain rfl:=Option.some.inj H;have z15_0 : wc.cell? ⟨gb310,0,none⟩ = some (.slice A0_0 l0_0.length c0_0):=(bc_ BK310.out 0).trans rfl;have z15_1 : wc.cell? ⟨gb310,1,none⟩ = some (.slice A0_1 l0_1.length c0_1):=(bc_ BK310.out 1).trans rfl;have y15_0:=bf_ BK310.out 0;have y15_1:=bf_ BK310.out 1;go_wp2;go_ret
       exact ⟨by first | rfl | (simp [errW_none,errW_some] <;> rfl) | (simp [*,errW_none,errW_some] <;> rfl),by repeat (first | (with_reducible first | exact HB.out | apply ba_ | apply bd_ | apply be_ | refine bs_ ?_ GE310.out) | exact HB.out)⟩
end Go.Proofs.Ytjigckhopkclgaa.P
namespace Go.Proofs.Ytjigckhopkclgaa.P
open Go.RowKit Ytjigckhopkclgaa Ytjigckhopkclgaa.Mem YtjigckhopkclgaaW.PrintWords YtjigckhopkclgaaW.PrintLast YtjigckhopkclgaaW.PrintMore
def slotsL : List (List Int) → Int
  | [] => 0
  | s :: S => 1 + (s.length : Int) + slotsL S
def needL (S : List (List Int)) : Int := 18 + slotsL S
structure Small (S : List (List Int)) : Prop where
  len : S.length ≤ 1000
  each : ∀ s ∈ S, s.length ≤ 1000
theorem rdR_mem {S : List (List Int)} {i : Nat} (h : i < S.length) : rd_L2 S (i : Int) ∈ S := List.mem_of_getElem? (rdR_at h)
theorem drop_rd {S : List (List Int)} {i : Nat} (h : i < S.length) : S.drop i = rd_L2 S (i : Int) :: S.drop (i + 1) := by
  rw [List.drop_eq_getElem_cons h];have := rdR_at h;rw [List.getElem?_eq_getElem h] at this
  injection this with this
  rw [this]
theorem need_l0 {S : List (List Int)} (hs : Small S) : ∀ (d i k : Nat) (x : Int), d = S.length - i → i ≤ S.length → d + 1 ≤ k → 0 ≤ x → x ≤ 100 + 1001 * (i : Int) → leaf_need.l0 k x S (S.length : Int) (i : Int) = some (x + slotsL (S.drop i)) := by
  intro d
  induction d with
  | zero =>
    intro i k x hd hi hk h0 h1
    obtain ⟨k, rfl⟩ : ∃ m, k = m + 1 := ⟨k - 1, by omega⟩
    rw [leaf_need.l0, if_neg (by omega), List.drop_eq_nil_of_le (by omega)]
    simp [slotsL]
  | succ d ih =>
    intro i k x hd hi hk h0 h1
    obtain ⟨k, rfl⟩ : ∃ m, k = m + 1 := ⟨k - 1, by omega⟩
    have hlt : i < S.length := by omega
    have hl := hs.len;have he := hs.each _ (rdR_mem hlt)
    have hw : wrap64 ((i : Int) + 1) = ((i + 1 : Nat) : Int) := by unfold wrap64; omega
    have hw2 : wrap64 (x + wrap64 (1 + ((rd_L2 S (i : Int)).length : Int))) = x + (1 + ((rd_L2 S (i : Int)).length : Int)) := by unfold wrap64; omega
    rw [leaf_need.l0, if_pos (by omega), if_pos (by omega), if_pos (by omega), hw, hw2, ih (i + 1) k _ (by omega) (by omega) (by omega) (by omega) (by omega), drop_rd hlt]
    simp only [slotsL]
    congr 1; omega
theorem need_ev {k : Nat} {I : List Int} {S : List (List Int)} (hs : Small S) (hk : 1002 ≤ k) : leaf_need.f k I S = some (needL S) := by
  have := hs.len
  unfold leaf_need.f
  have h := need_l0 hs S.length 0 k 18 (by omega) (by omega) (by omega) (by omega) (by omega)
  rw [List.drop_zero] at h;exact h
theorem Need_l0 {I : List Int} {S : List (List Int)} (hs : Small S) : ∀ (d i k : Nat) (x : Int), d = S.length - i → i ≤ S.length → d + 1 ≤ k → 0 ≤ x → x ≤ 100 + 1001 * (i : Int) → humusref08_Need.l0 k x (i : Int) I S = some (x + slotsL (S.drop i)) := by
  intro d
  induction d with
  | zero =>
    intro i k x hd hi hk h0 h1
    obtain ⟨k, rfl⟩ : ∃ m, k = m + 1 := ⟨k - 1, by omega⟩
    rw [humusref08_Need.l0, if_neg (by omega), List.drop_eq_nil_of_le (by omega)]
    simp [slotsL]
  | succ d ih =>
    intro i k x hd hi hk h0 h1
    obtain ⟨k, rfl⟩ : ∃ m, k = m + 1 := ⟨k - 1, by omega⟩
    have hlt : i < S.length := by omega
    have hl := hs.len;have he := hs.each _ (rdR_mem hlt)
    have hw : wrap64 ((i : Int) + 1) = ((i + 1 : Nat) : Int) := by unfold wrap64; omega
    have hw2 : wrap64 (wrap64 (x + 1) + ((rd_L2 S (i : Int)).length : Int)) = x + (1 + ((rd_L2 S (i : Int)).length : Int)) := by unfold wrap64; omega
    rw [humusref08_Need.l0, if_pos (by omega), if_pos (by omega), hw, hw2, ih (i + 1) k _ (by omega) (by omega) (by omega) (by omega) (by omega), drop_rd hlt]
    simp only [slotsL]
    congr 1; omega
theorem Need_ev {k : Nat} {I : List Int} {S : List (List Int)} (hs : Small S) (hk : 1002 ≤ k) : humusref08_Need.f k I S = some (needL S) := by
  have := hs.len
  unfold humusref08_Need.f
  have h := Need_l0 (I := I) hs S.length 0 k 18 (by omega) (by omega) (by omega) (by omega) (by omega)
  rw [List.drop_zero] at h;exact h
def OkS (S : List (List Int)) : Prop := S.length ≤ 64 ∧ (0 < S.length → (rd_L2 S ((S.length - 1 : Nat) : Int)).length ≠ 0) ∧ (∀ s ∈ S, s.length ≤ 255) ∧ needL S ≤ 508
def OkI (a b c d : Int) : Prop := (0 ≤ a ∧ a ≤ 2147483647) ∧ (0 ≤ b ∧ b ≤ 2147483647) ∧ (0 ≤ c ∧ c ≤ 2147483647) ∧ (0 ≤ d ∧ d ≤ 2147483647) ∧ (0 < b → b ≠ a) ∧ (0 < c → c ≠ a ∧ c ≠ b) ∧ (0 < d → d ≠ a ∧ d ≠ b ∧ d ≠ c)
def MayL (I : List Int) (S : List (List Int)) : Prop := (∃ a b c d, I = [a, b, c, d] ∧ OkI a b c d) ∧ OkS S
theorem wsub {n : Nat} (h : 0 < n) (h2 : n ≤ 1000000) : wrap64 ((n : Int) - 1) = ((n - 1 : Nat) : Int) := by unfold wrap64; omega
theorem any255 {S : List (List Int)} : (S.any fun e => decide ((e.length : Int) > 255)) = false ↔ ∀ s ∈ S, s.length ≤ 255 := by
  rw [List.any_eq_false]
  constructor
  · intro h s hs
    have := h s hs;rw [decide_eq_true_eq] at this;omega
  · intro h s hs
    have := h s hs;rw [decide_eq_true_eq];omega
theorem Check_end {k : Nat} {I : List Int} {S : List (List Int)} (hs : Small S) (hk : 1010 ≤ k) (n : Int) (x : Nat) (hx : ¬ (x : Int) < n) (J : List Int) : (((∀ s ∈ S, s.length ≤ 255) ∧ needL S ≤ 508) → leaf_Check.l0 k J n (x : Int) I S = some 0) ∧ (¬ ((∀ s ∈ S, s.length ≤ 255) ∧ needL S ≤ 508) → leaf_Check.l0 k J n (x : Int) I S = some 1) := by
  have hl := hs.len
  obtain ⟨k, rfl⟩ : ∃ m, k = m + 2 := ⟨k - 2, by omega⟩
  rw [leaf_Check.l0, if_neg hx]
  unfold containsFunc_leaf_Check_1.f
  rw [if_pos (by omega), Option.bind_some]
  cases hb : S.any fun e => decide ((e.length : Int) > 255) with
  | true =>
    rw [if_pos rfl, leaf_Check.j3]
    have : ¬ ∀ s ∈ S, s.length ≤ 255 := fun h => by rw [any255.2 h] at hb; cases hb
    exact ⟨fun h => absurd h.1 this, fun _ => rfl⟩
  | false =>
    have h5 := any255.1 hb
    rw [if_neg (by decide), need_ev hs (by omega), Option.bind_some]
    by_cases h : needL S > 508
    · rw [if_pos h, leaf_Check.j4]
      exact ⟨fun hh => absurd hh.2 (by omega), fun _ => rfl⟩
    · rw [if_neg h]
      exact ⟨fun _ => rfl, fun hh => absurd ⟨h5, by omega⟩ hh⟩
theorem Check_step {k : Nat} {I J : List Int} {S : List (List Int)} (n : Int) (x : Nat) (w : Int) (hI : I = J) (hl : J.length ≤ 1000) (hn : (x : Int) < n) (hx : x < J.length) (hw : rd J (x : Int) = w) (hk : 1010 ≤ k) :
    (0 ≤ w ∧ w ≤ 2147483647 ∧ (0 < w → ∀ y ∈ J.take x, y ≠ w) → leaf_Check.l0 (k + 1) J n (x : Int) I S = leaf_Check.l0 k J n ((x + 1 : Nat) : Int) I S) ∧ (¬ (0 ≤ w ∧ w ≤ 2147483647 ∧ (0 < w → ∀ y ∈ J.take x, y ≠ w)) → leaf_Check.l0 (k + 1) J n (x : Int) I S = some 1) := by
  subst hI
  have hw1 : wrap64 ((x : Int) + 1) = ((x + 1 : Nat) : Int) := by unfold wrap64; omega
  rw [leaf_Check.l0, if_pos hn, if_pos (by omega), if_pos (by omega), hw, hw1]
  by_cases h1 : w < 0
  · rw [if_pos h1]; exact ⟨fun h => by omega, fun _ => rfl⟩
  · rw [if_neg h1]
    by_cases h2 : w > 2147483647
    · rw [if_pos h2]; exact ⟨fun h => by omega, fun _ => rfl⟩
    · rw [if_neg h2]
      by_cases h3 : w > 0
      · rw [if_pos h3, if_pos (by omega), Int.toNat_natCast, Contains_ev w (by rw [List.length_take]; omega) (by rw [List.length_take]; omega), Option.bind_some]
        cases hb : (I.take x).any fun y => w == y with
        | true =>
          obtain ⟨k, rfl⟩ : ∃ m, k = m + 1 := ⟨k - 1, by omega⟩
          rw [if_pos rfl, leaf_Check.j2];rw [List.any_eq_true] at hb;obtain ⟨y, hy, he⟩ := hb
          exact ⟨fun h => absurd (beq_iff_eq.mp he).symm (h.2.2 (by omega) y hy), fun _ => rfl⟩
        | false =>
          rw [if_neg (by decide)]
          rw [List.any_eq_false] at hb
          exact ⟨fun _ => rfl, fun h => absurd ⟨by omega, by omega, fun _ y hy he => hb y hy (beq_iff_eq.mpr he.symm)⟩ h⟩
      · rw [if_neg h3]
        exact ⟨fun _ => rfl, fun h => absurd ⟨by omega, by omega, fun hh => absurd hh (by omega)⟩ h⟩
theorem Check_loop {k : Nat} {a b c d : Int} {S : List (List Int)} (hs : Small S) (hk : 1020 ≤ k) : ((OkI a b c d ∧ (∀ s ∈ S, s.length ≤ 255) ∧ needL S ≤ 508) → leaf_Check.l0 k [a, b, c, d] 4 0 [a, b, c, d] S = some 0) ∧ (¬ (OkI a b c d ∧ (∀ s ∈ S, s.length ≤ 255) ∧ needL S ≤ 508) → leaf_Check.l0 k [a, b, c, d] 4 0 [a, b, c, d] S = some 1) := by
  obtain ⟨k, rfl⟩ : ∃ m, k = m + 4 := ⟨k - 4, by omega⟩
  have s0 := @Check_step (k + 3) [a, b, c, d] [a, b, c, d] S 4 0 a rfl (by simp) (by decide) (by simp) rfl (by omega)
  have s1 := @Check_step (k + 2) [a, b, c, d] [a, b, c, d] S 4 1 b rfl (by simp) (by decide) (by simp) rfl (by omega)
  have s2 := @Check_step (k + 1) [a, b, c, d] [a, b, c, d] S 4 2 c rfl (by simp) (by decide) (by simp) rfl (by omega)
  have s3 := @Check_step k [a, b, c, d] [a, b, c, d] S 4 3 d rfl (by simp) (by decide) (by simp) rfl (by omega)
  have s4 := @Check_end k [a, b, c, d] S hs (by omega) 4 4 (by decide) [a, b, c, d]
  simp only [List.take_succ_cons, List.take_zero, List.mem_cons, List.not_mem_nil, or_false, forall_eq_or_imp, forall_eq, false_imp_iff, imp_true_iff, implies_true, Nat.zero_add, Nat.reduceAdd] at s0 s1 s2 s3 s4
  have e0 : ((0 : Nat) : Int) = 0 := rfl;have e1 : ((1 : Nat) : Int) = 1 := rfl;have e2 : ((2 : Nat) : Int) = 2 := rfl;have e3 : ((3 : Nat) : Int) = 3 := rfl;have e4 : ((4 : Nat) : Int) = 4 := rfl
  simp only [e0, e1, e2, e3, e4] at s0 s1 s2 s3 s4
  unfold OkI
  by_cases h0 : 0 ≤ a ∧ a ≤ 2147483647
  · rw [s0.1 (by simpa using h0)]
    by_cases h1 : 0 ≤ b ∧ b ≤ 2147483647 ∧ (0 < b → a ≠ b)
    · rw [s1.1 h1]
      by_cases h2 : 0 ≤ c ∧ c ≤ 2147483647 ∧ (0 < c → a ≠ c ∧ b ≠ c)
      · rw [s2.1 h2]
        by_cases h3 : 0 ≤ d ∧ d ≤ 2147483647 ∧ (0 < d → a ≠ d ∧ b ≠ d ∧ c ≠ d)
        · rw [s3.1 h3]
          refine ⟨fun h => s4.1 h.2, fun h => s4.2 fun hh => h ⟨⟨h0, ⟨h1.1, h1.2.1⟩, ⟨h2.1, h2.2.1⟩, ⟨h3.1, h3.2.1⟩, fun p q => h1.2.2 p q.symm, fun p => ⟨fun q => (h2.2.2 p).1 q.symm, fun q => (h2.2.2 p).2 q.symm⟩, fun p => ⟨fun q => (h3.2.2 p).1 q.symm, fun q => (h3.2.2 p).2.1 q.symm, fun q => (h3.2.2 p).2.2 q.symm⟩⟩, hh⟩⟩
        · rw [s3.2 h3]
          refine ⟨fun h => absurd ⟨h.1.2.2.2.1.1, h.1.2.2.2.1.2, fun p => ⟨fun q => (h.1.2.2.2.2.2.2 p).1 q.symm, fun q => (h.1.2.2.2.2.2.2 p).2.1 q.symm, fun q => (h.1.2.2.2.2.2.2 p).2.2 q.symm⟩⟩ h3, fun _ => rfl⟩
      · rw [s2.2 h2]
        exact ⟨fun h => absurd ⟨h.1.2.2.1.1, h.1.2.2.1.2, fun p => ⟨fun q => (h.1.2.2.2.2.2.1 p).1 q.symm, fun q => (h.1.2.2.2.2.2.1 p).2 q.symm⟩⟩ h2, fun _ => rfl⟩
    · rw [s1.2 h1]
      exact ⟨fun h => absurd ⟨h.1.2.1.1, h.1.2.1.2, fun p q => h.1.2.2.2.2.1 p q.symm⟩ h1, fun _ => rfl⟩
  · rw [s0.2 (by simpa using h0)]
    exact ⟨fun h => absurd h.1.1 h0, fun _ => rfl⟩
theorem four {I : List Int} (h : I.length = 4) : ∃ a b c d, I = [a, b, c, d] := by
  match I, h with
  | [a, b, c, d], _ => exact ⟨a, b, c, d, rfl⟩
theorem Check_ev {k : Nat} {I : List Int} {S : List (List Int)} (hs : Small S) (hk : 1030 ≤ k) : (MayL I S → leaf_Check.f k I S = some 0) ∧ (¬ MayL I S → leaf_Check.f k I S = some 1) := by
  have hl := hs.len
  obtain ⟨k, rfl⟩ : ∃ m, k = m + 1 := ⟨k - 1, by omega⟩
  unfold leaf_Check.f
  by_cases h4 : (I.length : Int) = 4
  · rw [if_pos h4]
    obtain ⟨a, b, c, d, rfl⟩ := four (I := I) (by omega)
    have hL := Check_loop (k := k) (a := a) (b := b) (c := c) (d := d) hs (by omega)
    have hM : MayL [a, b, c, d] S ↔ OkI a b c d ∧ OkS S := ⟨fun ⟨⟨a', b', c', d', he, ho⟩, h2⟩ => by
      injection he with e1 e2; injection e2 with e2 e3; injection e3 with e3 e4; injection e4 with e4 _
      subst e1 e2 e3 e4; exact ⟨ho, h2⟩, fun h => ⟨⟨a, b, c, d, rfl, h.1⟩, h.2⟩⟩
    rw [hM]
    by_cases h64 : (S.length : Int) > 64
    · rw [if_pos h64, leaf_Check.j0, if_pos rfl]
      exact ⟨fun h => by have := h.2.1; omega, fun _ => rfl⟩
    · rw [if_neg h64]
      by_cases h0 : (S.length : Int) > 0
      · rw [if_pos h0, wsub (by omega) (by omega), if_pos (by omega), if_pos (by omega), leaf_Check.j0]
        by_cases hz : (rd_L2 S ((S.length - 1 : Nat) : Int)).length = 0
        · rw [if_pos (by rw [hz]; rfl)]
          exact ⟨fun h => absurd hz (h.2.2.1 (by omega)), fun _ => rfl⟩
        · rw [if_neg (by rw [beq_iff_eq]; omega)]
          exact ⟨fun h => hL.1 ⟨h.1, h.2.2.2⟩, fun h => hL.2 fun hh => h ⟨hh.1, by omega, fun _ => hz, hh.2⟩⟩
      · rw [if_neg h0, leaf_Check.j0, if_neg (by decide)]
        exact ⟨fun h => hL.1 ⟨h.1, h.2.2.2⟩, fun h => hL.2 fun hh => h ⟨hh.1, by omega, fun q => absurd q (by omega), hh.2⟩⟩
  · rw [if_neg h4, leaf_Check.j0, if_pos rfl]
    refine ⟨fun h => ?_, fun _ => rfl⟩
    obtain ⟨⟨a, b, c, d, rfl, _⟩, _⟩ := h;exact absurd rfl h4
theorem set_rdR {S : List (List Int)} {i : Nat} (h : i < S.length) : S.set i (rd_L2 S (i : Int)) = S := by
  apply List.ext_getElem?;intro j
  by_cases e : i = j
  · subst e; rw [List.getElem?_set_self h, rdR_at h]
  · rw [List.getElem?_set_ne e]
theorem own_l0 {I : List Int} {S : List (List Int)} (hs : Small S) : ∀ (d i k : Nat), d = S.length - i → i ≤ S.length → d + 1 ≤ k → leaf_own.l0 k S (S.length : Int) (i : Int) I = some (I, S) := by
  intro d
  induction d with
  | zero =>
    intro i k hd hi hk
    obtain ⟨k, rfl⟩ : ∃ m, k = m + 1 := ⟨k - 1, by omega⟩
    rw [leaf_own.l0, if_neg (by omega)]
  | succ d ih =>
    intro i k hd hi hk
    obtain ⟨k, rfl⟩ : ∃ m, k = m + 1 := ⟨k - 1, by omega⟩
    have hl := hs.len
    have hlt : i < S.length := by omega
    have he := hs.each _ (rdR_mem hlt)
    have hw : wrap64 ((i : Int) + 1) = ((i + 1 : Nat) : Int) := by unfold wrap64; omega
    rw [leaf_own.l0, if_pos (by omega), if_pos (by omega), if_pos (by omega)]
    unfold slices_Clone_byte_byte_59.f
    rw [Option.bind_some, if_pos (by simp only [List.length_nil]; omega), Option.bind_some, List.nil_append, Int.toNat_natCast, set_rdR hlt, hw]
    exact ih (i + 1) k (by omega) (by omega) (by omega)
theorem own_ev {k : Nat} {I : List Int} {S : List (List Int)} (hs : Small S) (hI : I.length ≤ 1000) (hk : 1002 ≤ k) : leaf_own.f k I S = some (I, S) := by
  have hl := hs.len
  unfold leaf_own.f slices_Clone_int_int.f slices_Clone_byte_byte_58.f
  rw [Option.bind_some, if_pos (by simp only [List.length_nil]; omega), Option.bind_some, Option.bind_some, if_pos (by simp only [List.length_nil]; omega), Option.bind_some, List.nil_append, List.nil_append]
  exact own_l0 hs S.length 0 k (by omega) (by omega) (by omega)
open Go.RowKit YtjigckhopkclgaaW.PrintWords YtjigckhopkclgaaW.PrintLast YtjigckhopkclgaaW.PrintMore
attribute [local go_sem] max2_int min2_int max_two min_two max_three min_three max_four min_four   -- for this text's walks alone
attribute [local go_sem] run_store_float
def leaf_nought.f (l0 : List Int) : Option (Bool):=(containsFunc_leaf_nought_1.f l0).bind fun t112 => (some (!t112))
set_option maxHeartbeats 8000000 in
set_option maxRecDepth 100000 in
theorem leaf_nought.calls (A0 : Option Addr) (c0 : Nat) (l0 : List Int) (r : Bool) (w : World) (hr0 : Kd.C (Kd.int .u8) w A0 l0.length l0) (hc0 : l0.length ≤ c0) (h : leaf_nought.f l0 = some r) :
  Calls Try.prog 25 #[.slice A0 l0.length c0] w fun e w' => e = .returned (.bool r) ∧ Below w.heap.size w w':=by
 have HR0:=A_ hr0;have HC0:=A_ hc0;clear hr0 hc0;have HB:=A_ (Below.refl w.heap.size w)
 have H : ((containsFunc_leaf_nought_1.f l0).bind fun t112 => (some (!t112))) = some r:=h
 clear h;replace H:=Option.bind_eq_some_iff.mp H;obtain ⟨t112,A20,H⟩:=H;replace H : (some (!t112)) = some r:=H;have A2:=A_ A20;clear A20;obtain rfl:=Option.some.inj H;go_enter Try.func25,Try.ntmps25
 go_wp2_with (first | ((with_reducible refine gate_callee (f:=49) rfl ?_);refine goesL_ (some 4) rfl rfl Try.func49 (by kernel_rfl) rfl #[.slice A0 l0.length c0, .func (.func 50) #[] #[]] rfl (by (try simp only [List.map_toArray,List.map_cons,List.map_nil]);first | done | rfl | (simp only [List.length_drop,List.length_take];rfl)) ?_;(with_reducible refine (containsFunc_leaf_nought_1.calls _ _ l0 t112 _ ?side1 ?side2 A2.out).mono ?_);(case side1 => repeat (first | exact HR0.out | (with_reducible refine Kd.C_alloc ?_ _) | (with_reducible refine Kd.C_drewN ?_ _) | (with_reducible refine Kd.C_drew ?_)));(case side2 => exact HC0.out);rintro e w3 ⟨rfl,hb⟩;refine ⟨_,rfl,?_⟩;have n0_:=A_ (bp_ (by repeat (first | (with_reducible first | exact HB.out | apply ba_ | apply bd_ | apply be_) | exact HB.out)) hb);clear HB;have HB:=n0_;clear n0_;(try clear hb);(try clear hb2);(try clear hk);(try clear hi)))
 go_ret
 exact ⟨by first | rfl | (simp [errW_none,errW_some] <;> rfl) | (simp [*,errW_none,errW_some] <;> rfl),by repeat (first | (with_reducible first | exact HB.out | apply ba_ | apply bd_ | apply be_) | exact HB.out)⟩
def leaf_Decode.f (l0 : List Int) : Option (List Int × (List (List Int)) × Int):=if 4 ≤ 35184372088832 then (if (l0.length : Int) = 512 then ((leaf_nought.f l0).bind fun t139 => (if t139 = true then (some ((List.replicate 4 0),([] : List (List Int)),0)) else (none))) else (some (([] : List Int),([] : List (List Int)),1))) else (none)
set_option maxHeartbeats 8000000 in
set_option maxRecDepth 100000 in
theorem leaf_Decode.calls (A0 : Option Addr) (c0 : Nat) (l0 : List Int) (r1 : List Int) (r2 : List (List Int)) (r3 : Int) (w : World) (hr0 : Kd.C (Kd.int .u8) w A0 l0.length l0) (hc0 : l0.length ≤ c0) (h : leaf_Decode.f l0 = some (r1,r2,r3)) :
  Calls Try.prog 9 #[.slice A0 l0.length c0] w fun e w' => ∃ v0_ v1_ : Value,e = .returned (.tuple #[.agg #[v0_,v1_],.int .i64 r3]) ∧ Kd.R (Kd.int .i64) 3 w' w.heap.size (fun _ => True) v0_ r1 ∧ Kd.S (Kd.slice 5 (Kd.int .u8)) 22 w' w.heap.size (fun _ => True) v1_ r2 ∧ Below w.heap.size w w':=by
 have hu27:=Try.underlying27;have hu56:=Try.underlying56;have HR0:=A_ hr0;have HC0:=A_ hc0;clear hr0 hc0;have HB:=A_ (Below.refl w.heap.size w)
 have H : (if 4 ≤ 35184372088832 then (if (l0.length : Int) = 512 then ((leaf_nought.f l0).bind fun t139 => (if t139 = true then (some ((List.replicate 4 0),([] : List (List Int)),0)) else (none))) else (some (([] : List Int),([] : List (List Int)),1))) else (none)) = some (r1,r2,r3):=h
 clear h
 by_cases c2 : 4 ≤ 35184372088832
 ·rw [if_pos c2] at H
  have c2b0:=eq_true c2;have c2b1 : decide (4 ≤ 35184372088832) = true:=dt_ c2;clear c2
  obtain ⟨y135,hy135⟩ : ∃ y_ : List Int,y_ = (List.replicate 4 0):=⟨_,rfl⟩
  replace H : (if (l0.length : Int) = 512 then ((leaf_nought.f l0).bind fun t139 => (if t139 = true then (some (y135,([] : List (List Int)),0)) else (none))) else (some (([] : List Int),([] : List (List Int)),1))) = some (r1,r2,r3):=by first | (rw [hy135];with_reducible exact H) | (have H2_:=(Option.bind_some _ _).symm.trans H;rw [hy135];with_reducible exact H2_) | (have H2_:=(Option.bind_some _ _).symm.trans H;with_reducible exact H2_) | with_reducible exact H | (rw [hy135];exact H) | exact H
  have Ny135:=A_ hy135;clear hy135
  by_cases c3 : (l0.length : Int) = 512
  ·rw [if_pos c3] at H
   have c3b0 : ((l0.length : Int) == 512) = true:=beq_iff_eq.mpr c3;have c3b1 : ((l0.length : Int) != 512) = false:=bne_eq_false_iff_eq.mpr c3;clear c3;replace H:=Option.bind_eq_some_iff.mp H;obtain ⟨t139,A40,H⟩:=H
   replace H : (if t139 = true then (some (y135,([] : List (List Int)),0)) else (none)) = some (r1,r2,r3):=H
   have A4:=A_ A40;clear A40
   by_cases c5 : t139 = true
   ·subst c5
    have H1 : (some (y135,([] : List (List Int)),0)) = some (r1,r2,r3):=by rw [if_pos rfl] at H;exact H
    clear H;have H:=H1;clear H1
    simp only [Option.some.injEq,Prod.mk.injEq] at H
    obtain ⟨rfl,rfl,rfl⟩:=H;go_enter Try.func9,Try.ntmps9
    go_wp2_with (first | ((with_reducible refine gate_dst (N:=2) rfl ?_);refine box_event ?hg (N:=2) ?hd (cs:=#[.slice none 0 0,.slice none 0 0]) (t:=27) ?hr ?_;(case hd => rfl);(case hg => rfl);(case hr => first | (go_simp;done) | (go_simp;rfl));intro gb134 hg w6 hbox hb;have n0_:=A_ (bp_ (by repeat (first | (with_reducible first | exact HB.out | apply ba_ | apply bd_ | apply be_) | exact HB.out)) hb);have n1_:=A_ (hbox);have n2_:=A_ ((by rw [hg];exact (bz_ (by repeat (first | (with_reducible first | exact HB.out | apply ba_ | apply bd_ | apply be_) | exact HB.out))) : w.heap.size ≤ gb134));have n3_:=n2_;clear HB;have HB:=n0_;have BK134:=n1_;have GW134:=n2_;have GE134:=n3_;clear n0_ n1_ n2_ n3_;clear hb hbox hg) | ((with_reducible refine gate_dst (N:=15) rfl ?_);refine Kd.R_make (Kd.int .i64) _ 3 rfl (N:=15) rfl 24 _ _ rfl 4 rfl rfl Try.underlying24 (.int .i64 0) 8 info3 rfl (by decide) (by omega) 0 (ok:=fun _ => True) (okp:=fun _ => True) rfl (fun _ hk => hk) trivial (by omega) (by omega) (Below.refl _ _) (Nat.le_refl _) ?_;intro v136 w7 ho8 hb hg_ hnew_;clear hg_ hnew_;(first | rw [← Ny135.out] at ho8 | (simp only [Int.reduceToNat] at ho8;rw [← Ny135.out] at ho8));have n0_:=A_ (Kd.R_lower ho8 (bz_ (by repeat (first | (with_reducible first | exact HB.out | apply ba_ | apply bd_ | apply be_ | refine bs_ ?_ GE134.out) | exact HB.out))));have n1_:=A_ (bx_ BK134.out (by intro h_;(with_reducible repeat (first | refine kd_ ?_ _ | refine ke_ ?_ | refine ka_ ?_ _));exact h_) hb);have n2_:=A_ (bp_ (by repeat (first | (with_reducible first | exact HB.out | apply ba_ | apply bd_ | apply be_ | refine bs_ ?_ GE134.out) | exact HB.out)) hb);clear BK134;clear HB;have HO137:=n0_;have BK134:=n1_;have HB:=n2_;clear n0_ n1_ n2_;clear hb ho8;obtain ⟨Ao9,co9,eo9⟩:=Kd.R_slice HO137.out;subst eo9) | ((with_reducible refine gate_dst (N:=4) rfl ?_);refine box_event ?hg (N:=4) ?hd (cs:=#[.slice none 0 0,.slice none 0 0]) (t:=27) ?hr ?_;(case hd => rfl);(case hg => rfl);(case hr => first | (go_simp;done) | (go_simp;rfl));intro gb138 hg w10 hbox hb;have n0_:=A_ (Kd.R_below (by (with_reducible repeat (first | apply ra_ | apply rn_ | apply re_));exact HO137.out) hb);have n1_:=A_ (bx_ BK134.out (by intro h_;(with_reducible repeat (first | refine kd_ ?_ _ | refine ke_ ?_ | refine ka_ ?_ _));exact h_) hb);have n2_:=A_ (bp_ (by repeat (first | (with_reducible first | exact HB.out | apply ba_ | apply bd_ | apply be_ | refine bs_ ?_ GE134.out) | exact HB.out)) hb);have n3_:=A_ (hbox);have n4_:=A_ ((by rw [hg];exact (bz_ (by repeat (first | (with_reducible first | exact HB.out | apply ba_ | apply bd_ | apply be_ | refine bs_ ?_ GE134.out) | exact HB.out))) : w.heap.size ≤ gb138));have n5_:=n4_;have n6_:=A_ ((by rw [hg];exact Nat.ne_of_lt (bl_ BK134.out (by intro h_;(with_reducible repeat (first | refine kd_ ?_ _ | refine ke_ ?_ | refine ka_ ?_ _));exact h_)) : gb134 ≠ gb138));have n7_:=A_ (Ne.symm n6_.out);clear HO137;clear BK134;clear HB;have HO137:=n0_;have BK134:=n1_;have HB:=n2_;have BK138:=n3_;have GW138:=n4_;have GE138:=n5_;have NB134_138:=n6_;have NB138_134:=n7_;clear n0_ n1_ n2_ n3_ n4_ n5_ n6_ n7_;clear hb hbox hg;have hnb11:=NB138_134.out;have hnc11:=NB134_138.out;have z12_0 : w10.cell? ⟨gb138,0,none⟩ = some (.slice none 0 0):=(bc_ BK138.out 0).trans rfl;have z12_1 : w10.cell? ⟨gb138,1,none⟩ = some (.slice none 0 0):=(bc_ BK138.out 1).trans rfl;have y12_0:=bf_ BK138.out 0;have y12_1:=bf_ BK138.out 1) | ((with_reducible refine gate_callee (f:=25) rfl ?_);refine goesL_ (some 24) rfl rfl Try.func25 (by kernel_rfl) rfl #[.slice A0 l0.length c0] rfl (by (try simp only [List.map_toArray,List.map_cons,List.map_nil]);first | done | rfl | (simp only [List.length_drop,List.length_take];rfl)) ?_;(with_reducible refine (leaf_nought.calls _ _ l0 true _ ?side1 ?side2 A4.out).mono ?_);(case side1 => exact Kd.C_below HR0.out (by repeat (first | (with_reducible first | exact HB.out | apply ba_ | apply bd_ | apply be_ | refine bs_ ?_ GE134.out | refine bs_ ?_ GE138.out) | exact HB.out)));(case side2 => exact HC0.out);rintro e w13 ⟨rfl,hb⟩;refine ⟨_,rfl,?_⟩;have n0_:=A_ (Kd.R_below (by (with_reducible repeat (first | apply ra_ | apply rn_ | apply re_));exact (Kd.R_mono (rf_ (p:=⟨gb138,1,none⟩) (rf_ (p:=⟨gb138,0,none⟩) (Kd.R_types HO137.out BK138.out (by decide)) (fun _ hk => hk.2) (.slice Ao9 y135.length co9)) (fun _ hk => hk.2) (.slice none 0 0)) (fun _ h_ => h_.1))) hb);have n1_:=A_ (bb_ (g:=gb134) (o:=.cells #[.slice none 0 0,.slice none 0 0] 27 (0,0)) (by (with_reducible repeat (first | refine kd_ ?_ _ | refine ke_ ?_ | refine ka_ ?_ _));refine blk_far ?_ NB134_138.out _;(with_reducible repeat (first | refine kd_ ?_ _ | refine ke_ ?_ | refine ka_ ?_ _));refine blk_far ?_ NB134_138.out _;(with_reducible repeat (first | refine kd_ ?_ _ | refine ke_ ?_ | refine ka_ ?_ _));exact BK134.out) hb);have n2_:=A_ (bb_ (g:=gb138) (o:=.cells #[.slice Ao9 y135.length co9,.slice none 0 0] 27 (0,0)) (by (with_reducible repeat (first | refine kd_ ?_ _ | refine ke_ ?_ | refine ka_ ?_ _));refine blk_put (cs:=#[.slice Ao9 y135.length co9,.slice none 0 0]) ?_ 1 _ rfl;(with_reducible repeat (first | refine kd_ ?_ _ | refine ke_ ?_ | refine ka_ ?_ _));refine blk_put (cs:=#[.slice none 0 0,.slice none 0 0]) ?_ 0 _ rfl;(with_reducible repeat (first | refine kd_ ?_ _ | refine ke_ ?_ | refine ka_ ?_ _));exact BK138.out) hb);have n3_:=A_ (bp_ (by repeat (first | (with_reducible first | exact HB.out | apply ba_ | apply bd_ | apply be_ | refine bs_ ?_ GE134.out | refine bs_ ?_ GE138.out) | exact HB.out)) hb);clear HO137;clear BK134;clear BK138;clear HB;have HO137:=n0_;have BK134:=n1_;have BK138:=n2_;have HB:=n3_;clear n0_ n1_ n2_ n3_;(try clear hb);(try clear hb2);(try clear hk);(try clear hi);have z14_0 : w13.cell? ⟨gb138,0,none⟩ = some (.slice Ao9 y135.length co9):=(bc_ BK138.out 0).trans rfl;have z14_1 : w13.cell? ⟨gb138,1,none⟩ = some (.slice none 0 0):=(bc_ BK138.out 1).trans rfl;have y14_0:=bf_ BK138.out 0;have y14_1:=bf_ BK138.out 1;have z15_0 : w13.cell? ⟨gb134,0,none⟩ = some (.slice none 0 0):=(bc_ BK134.out 0).trans rfl;have z15_1 : w13.cell? ⟨gb134,1,none⟩ = some (.slice none 0 0):=(bc_ BK134.out 1).trans rfl;have y15_0:=bf_ BK134.out 0;have y15_1:=bf_ BK134.out 1))
    refine bodyPost_ret (results_ct rfl _ _ gb134 27 #[.slice Ao9 y135.length co9,.slice none 0 0] (0,0) _ rfl (by (with_reducible repeat (first | refine kd_ ?_ _ | refine ke_ ?_ | refine ka_ ?_ _));refine blk_put (cs:=#[.slice Ao9 y135.length co9,.slice none 0 0]) ?_ 1 _ rfl;(with_reducible repeat (first | refine kd_ ?_ _ | refine ke_ ?_ | refine ka_ ?_ _));refine blk_put (cs:=#[.slice none 0 0,.slice none 0 0]) ?_ 0 _ rfl;(with_reducible repeat (first | refine kd_ ?_ _ | refine ke_ ?_ | refine ka_ ?_ _));exact BK134.out) Try.underlying27 rfl (by kernel_rfl)) rfl ?_
    exact ⟨_,_,by first | rfl | (simp [errW_none,errW_some] <;> rfl) | (simp [*,errW_none,errW_some] <;> rfl),by (with_reducible repeat (first | apply ra_ | apply rn_ | apply re_));exact Kd.R_mono (rf_ (p:=⟨gb134,1,none⟩) (rf_ (p:=⟨gb134,0,none⟩) (Kd.R_types HO137.out BK134.out (by decide)) (fun _ hk => hk.2) (.slice Ao9 y135.length co9)) (fun _ hk => hk.2) (.slice none 0 0)) (fun _ hk => trivial),by first | exact Kd.S_nil _ _ _ _ _ | exact Kd.N_nil _ _ _ _ _ | exact Kd.V_nil _ _ _ _ _ | exact Kd.Q_nil _ _ _ _ _ | exact Kd.R_nil _ _ _ _ _,by repeat (first | (with_reducible first | exact HB.out | apply ba_ | apply bd_ | apply be_ | refine bs_ ?_ GE134.out | refine bs_ ?_ GE138.out) | exact HB.out)⟩
   ·replace c5:=Bool.eq_false_iff.mpr c5
    subst c5
    have H1 : (none) = some (r1,r2,r3):=by rw [if_neg (show ¬ (false = true) by decide)] at H;exact H
    clear H;have H:=H1;clear H1
    exact absurd H (by simp)
  ·rw [if_neg c3] at H
   have c3b0 : ((l0.length : Int) == 512) = false:=beq_eq_false_iff_ne.mpr c3;have c3b1 : ((l0.length : Int) != 512) = true:=bne_iff_ne.mpr c3
   simp only [Option.some.injEq,Prod.mk.injEq] at H
   obtain ⟨rfl,rfl,rfl⟩:=H;go_enter Try.func9,Try.ntmps9
   go_wp2_with (first | ((with_reducible refine gate_dst (N:=2) rfl ?_);refine box_event ?hg (N:=2) ?hd (cs:=#[.slice none 0 0,.slice none 0 0]) (t:=27) ?hr ?_;(case hd => rfl);(case hg => rfl);(case hr => first | (go_simp;done) | (go_simp;rfl));intro gb134 hg w16 hbox hb;have n0_:=A_ (bp_ (by repeat (first | (with_reducible first | exact HB.out | apply ba_ | apply bd_ | apply be_) | exact HB.out)) hb);have n1_:=A_ (hbox);have n2_:=A_ ((by rw [hg];exact (bz_ (by repeat (first | (with_reducible first | exact HB.out | apply ba_ | apply bd_ | apply be_) | exact HB.out))) : w.heap.size ≤ gb134));have n3_:=n2_;clear HB;have HB:=n0_;have BK134:=n1_;have GW134:=n2_;have GE134:=n3_;clear n0_ n1_ n2_ n3_;clear hb hbox hg) | ((with_reducible refine gate_dst (N:=15) rfl ?_);refine Kd.R_make (Kd.int .i64) _ 3 rfl (N:=15) rfl 24 _ _ rfl 4 rfl rfl Try.underlying24 (.int .i64 0) 8 info3 rfl (by decide) (by omega) 0 (ok:=fun _ => True) (okp:=fun _ => True) rfl (fun _ hk => hk) trivial (by omega) (by omega) (Below.refl _ _) (Nat.le_refl _) ?_;intro v136 w17 ho18 hb hg_ hnew_;clear hg_ hnew_;(first | rw [← Ny135.out] at ho18 | (simp only [Int.reduceToNat] at ho18;rw [← Ny135.out] at ho18));have n0_:=A_ (Kd.R_lower ho18 (bz_ (by repeat (first | (with_reducible first | exact HB.out | apply ba_ | apply bd_ | apply be_ | refine bs_ ?_ GE134.out) | exact HB.out))));have n1_:=A_ (bx_ BK134.out (by intro h_;(with_reducible repeat (first | refine kd_ ?_ _ | refine ke_ ?_ | refine ka_ ?_ _));exact h_) hb);have n2_:=A_ (bp_ (by repeat (first | (with_reducible first | exact HB.out | apply ba_ | apply bd_ | apply be_ | refine bs_ ?_ GE134.out) | exact HB.out)) hb);clear BK134;clear HB;have HO137:=n0_;have BK134:=n1_;have HB:=n2_;clear n0_ n1_ n2_;clear hb ho18;obtain ⟨Ao19,co19,eo19⟩:=Kd.R_slice HO137.out;subst eo19) | ((with_reducible refine gate_dst (N:=4) rfl ?_);refine box_event ?hg (N:=4) ?hd (cs:=#[.slice none 0 0,.slice none 0 0]) (t:=27) ?hr ?_;(case hd => rfl);(case hg => rfl);(case hr => first | (go_simp;done) | (go_simp;rfl));intro gb138 hg w20 hbox hb;have n0_:=A_ (Kd.R_below (by (with_reducible repeat (first | apply ra_ | apply rn_ | apply re_));exact HO137.out) hb);have n1_:=A_ (bx_ BK134.out (by intro h_;(with_reducible repeat (first | refine kd_ ?_ _ | refine ke_ ?_ | refine ka_ ?_ _));exact h_) hb);have n2_:=A_ (bp_ (by repeat (first | (with_reducible first | exact HB.out | apply ba_ | apply bd_ | apply be_ | refine bs_ ?_ GE134.out) | exact HB.out)) hb);have n3_:=A_ (hbox);have n4_:=A_ ((by rw [hg];exact (bz_ (by repeat (first | (with_reducible first | exact HB.out | apply ba_ | apply bd_ | apply be_ | refine bs_ ?_ GE134.out) | exact HB.out))) : w.heap.size ≤ gb138));have n5_:=n4_;have n6_:=A_ ((by rw [hg];exact Nat.ne_of_lt (bl_ BK134.out (by intro h_;(with_reducible repeat (first | refine kd_ ?_ _ | refine ke_ ?_ | refine ka_ ?_ _));exact h_)) : gb134 ≠ gb138));have n7_:=A_ (Ne.symm n6_.out);clear HO137;clear BK134;clear HB;have HO137:=n0_;have BK134:=n1_;have HB:=n2_;have BK138:=n3_;have GW138:=n4_;have GE138:=n5_;have NB134_138:=n6_;have NB138_134:=n7_;clear n0_ n1_ n2_ n3_ n4_ n5_ n6_ n7_;clear hb hbox hg;have hnb21:=NB138_134.out;have hnc21:=NB134_138.out;have z22_0 : w20.cell? ⟨gb138,0,none⟩ = some (.slice none 0 0):=(bc_ BK138.out 0).trans rfl;have z22_1 : w20.cell? ⟨gb138,1,none⟩ = some (.slice none 0 0):=(bc_ BK138.out 1).trans rfl;have y22_0:=bf_ BK138.out 0;have y22_1:=bf_ BK138.out 1;have z23_0 : w20.cell? ⟨gb134,0,none⟩ = some (.slice none 0 0):=(bc_ BK134.out 0).trans rfl;have z23_1 : w20.cell? ⟨gb134,1,none⟩ = some (.slice none 0 0):=(bc_ BK134.out 1).trans rfl;have y23_0:=bf_ BK134.out 0;have y23_1:=bf_ BK134.out 1))
   refine bodyPost_ret (results_ct rfl _ _ gb134 27 #[.slice none 0 0,.slice none 0 0] (0,0) _ rfl (by (with_reducible repeat (first | refine kd_ ?_ _ | refine ke_ ?_ | refine ka_ ?_ _));refine blk_put (cs:=#[.slice none 0 0,.slice none 0 0]) ?_ 1 _ rfl;(with_reducible repeat (first | refine kd_ ?_ _ | refine ke_ ?_ | refine ka_ ?_ _));refine blk_put (cs:=#[.slice none 0 0,.slice none 0 0]) ?_ 0 _ rfl;(with_reducible repeat (first | refine kd_ ?_ _ | refine ke_ ?_ | refine ka_ ?_ _));refine blk_far ?_ NB134_138.out _;(with_reducible repeat (first | refine kd_ ?_ _ | refine ke_ ?_ | refine ka_ ?_ _));refine blk_far ?_ NB134_138.out _;(with_reducible repeat (first | refine kd_ ?_ _ | refine ke_ ?_ | refine ka_ ?_ _));exact BK134.out) Try.underlying27 rfl (by kernel_rfl)) rfl ?_
   exact ⟨_,_,by first | rfl | (simp [errW_none,errW_some] <;> rfl) | (simp [*,errW_none,errW_some] <;> rfl),by first | exact Kd.R_nil _ _ _ _ _ | exact Kd.N_nil _ _ _ _ _ | exact Kd.V_nil _ _ _ _ _ | exact Kd.Q_nil _ _ _ _ _ | exact Kd.S_nil _ _ _ _ _,by first | exact Kd.S_nil _ _ _ _ _ | exact Kd.N_nil _ _ _ _ _ | exact Kd.V_nil _ _ _ _ _ | exact Kd.Q_nil _ _ _ _ _ | exact Kd.R_nil _ _ _ _ _,by repeat (first | (with_reducible first | exact HB.out | apply ba_ | apply bd_ | apply be_ | refine bs_ ?_ GE134.out | refine bs_ ?_ GE138.out) | exact HB.out)⟩
 ·rw [if_neg c2] at H
  exact absurd H (by simp)
def leaf_stands.f (l0_0 : List Int) (l0_1 : List (List Int)) (a1 : Int) : Option (Bool):=if a1 ≥ 0 then (if a1 < (l0_1.length : Int) then (if 0 ≤ a1 then (some (decide (((rd_L2 l0_1 a1).length : Int) > 0))) else (none)) else (some false)) else (some false)
set_option maxHeartbeats 8000000 in
set_option maxRecDepth 100000 in
theorem leaf_stands.calls (A0_0 : Option Addr) (c0_0 : Nat) (l0_0 : List Int) (A0_1 : Option Addr) (c0_1 : Nat) (l0_1 : List (List Int)) (a1 : Int) (r : Bool) (w : World) (hr0_0 : Kd.C (Kd.int .i64) w A0_0 l0_0.length l0_0) (hc0_0 : l0_0.length ≤ c0_0) (hr0_1 : Kd.C (Kd.slice 5 (Kd.int .u8)) w A0_1 l0_1.length l0_1) (hc0_1 : l0_1.length ≤ c0_1) (h : leaf_stands.f l0_0 l0_1 a1 = some r) :
  Calls Try.prog 32 #[.agg #[.slice A0_0 l0_0.length c0_0,.slice A0_1 l0_1.length c0_1],.int .i64 a1] w fun e w' => e = .returned (.bool r) ∧ Below w.heap.size w w':=by
 have hu27:=Try.underlying27;have HR0_0:=A_ hr0_0;have HC0_0:=A_ hc0_0;clear hr0_0 hc0_0;have HR0_1:=A_ hr0_1;have HC0_1:=A_ hc0_1;clear hr0_1 hc0_1;have HB:=A_ (Below.refl w.heap.size w)
 have H : (if a1 ≥ 0 then (if a1 < (l0_1.length : Int) then (if 0 ≤ a1 then (some (decide (((rd_L2 l0_1 a1).length : Int) > 0))) else (none)) else (some false)) else (some false)) = some r:=h
 clear h
 by_cases c3 : a1 ≥ 0
 ·rw [if_pos c3] at H
  have c3b0 : decide (0 ≤ a1) = true:=dt_ c3;clear c3
  by_cases c4 : a1 < (l0_1.length : Int)
  ·rw [if_pos c4] at H
   have c4b0 : decide (a1 < (l0_1.length : Int)) = true:=dt_ c4;clear c4
   by_cases c5 : 0 ≤ a1
   ·rw [if_pos c5] at H
    have c5b0 : decide (0 ≤ a1) = true:=dt_ c5;clear c5;obtain rfl:=Option.some.inj H;go_enter Try.func32,Try.ntmps32
    go_wp2_with (first | ((with_reducible refine gate_dst (N:=2) rfl ?_);(try (refine gate_guard (by rfl) ?_;dsimp only));refine box_event ?hg (N:=2) ?hd (cs:=#[.slice A0_0 l0_0.length c0_0,.slice A0_1 l0_1.length c0_1]) (t:=27) ?hr ?_;(case hd => rfl);(case hg => rfl);(case hr => first | (go_simp;done) | (go_simp;rfl));intro gb140 hg w6 hbox hb;have n0_:=A_ (bp_ (by repeat (first | (with_reducible first | exact HB.out | apply ba_ | apply bd_ | apply be_) | exact HB.out)) hb);have n1_:=A_ (hbox);have n2_:=A_ ((by rw [hg];exact (bz_ (by repeat (first | (with_reducible first | exact HB.out | apply ba_ | apply bd_ | apply be_) | exact HB.out))) : w.heap.size ≤ gb140));have n3_:=n2_;clear HB;have HB:=n0_;have BK140:=n1_;have GW140:=n2_;have GE140:=n3_;clear n0_ n1_ n2_ n3_;clear hb hbox hg;have z7_0 : w6.cell? ⟨gb140,0,none⟩ = some (.slice A0_0 l0_0.length c0_0):=(bc_ BK140.out 0).trans rfl;have z7_1 : w6.cell? ⟨gb140,1,none⟩ = some (.slice A0_1 l0_1.length c0_1):=(bc_ BK140.out 1).trans rfl;have y7_0:=bf_ BK140.out 0;have y7_1:=bf_ BK140.out 1;have p141 : 0 ≤ (a1 : Int):=od_ (by first | (with_reducible assumption) | assumption);have q141 : a1 < (l0_1.length : Int):=od_ (by first | (with_reducible assumption) | assumption);obtain ⟨ad141,A141_0,c141_0,e141,hx141_0,hl141_0,hi141_0⟩:=at_L2 HR0_1.out a1 p141 q141;cases e141;replace hx141_0:=(HB.out.cell (wb_ w _ hx141_0)).trans hx141_0;have HR141_0:=A_ hi141_0;have HC141_0:=A_ hl141_0;clear hi141_0 hl141_0;replace p141:=eq_true p141;replace q141:=eq_true q141))
    go_ret
    exact ⟨by first | rfl | (simp [errW_none,errW_some] <;> rfl) | (simp [*,errW_none,errW_some] <;> rfl),by repeat (first | (with_reducible first | exact HB.out | apply ba_ | apply bd_ | apply be_ | refine bs_ ?_ GE140.out) | exact HB.out)⟩
   ·rw [if_neg c5] at H
    exact absurd H (by simp)
  ·rw [if_neg c4] at H
   have c4b0 : decide (a1 < (l0_1.length : Int)) = false:=df_ c4;clear c4;obtain rfl:=Option.some.inj H;go_enter Try.func32,Try.ntmps32
   go_wp2_with (first | ((with_reducible refine gate_dst (N:=2) rfl ?_);(try (refine gate_guard (by rfl) ?_;dsimp only));refine box_event ?hg (N:=2) ?hd (cs:=#[.slice A0_0 l0_0.length c0_0,.slice A0_1 l0_1.length c0_1]) (t:=27) ?hr ?_;(case hd => rfl);(case hg => rfl);(case hr => first | (go_simp;done) | (go_simp;rfl));intro gb140 hg w8 hbox hb;have n0_:=A_ (bp_ (by repeat (first | (with_reducible first | exact HB.out | apply ba_ | apply bd_ | apply be_) | exact HB.out)) hb);have n1_:=A_ (hbox);have n2_:=A_ ((by rw [hg];exact (bz_ (by repeat (first | (with_reducible first | exact HB.out | apply ba_ | apply bd_ | apply be_) | exact HB.out))) : w.heap.size ≤ gb140));have n3_:=n2_;clear HB;have HB:=n0_;have BK140:=n1_;have GW140:=n2_;have GE140:=n3_;clear n0_ n1_ n2_ n3_;clear hb hbox hg;have z9_0 : w8.cell? ⟨gb140,0,none⟩ = some (.slice A0_0 l0_0.length c0_0):=(bc_ BK140.out 0).trans rfl;have z9_1 : w8.cell? ⟨gb140,1,none⟩ = some (.slice A0_1 l0_1.length c0_1):=(bc_ BK140.out 1).trans rfl;have y9_0:=bf_ BK140.out 0;have y9_1:=bf_ BK140.out 1))
   go_ret
   exact ⟨by first | rfl | (simp [errW_none,errW_some] <;> rfl) | (simp [*,errW_none,errW_some] <;> rfl),by repeat (first | (with_reducible first | exact HB.out | apply ba_ | apply bd_ | apply be_ | refine bs_ ?_ GE140.out) | exact HB.out)⟩
 ·rw [if_neg c3] at H
  have c3b0 : decide (0 ≤ a1) = false:=df_ c3;clear c3;obtain rfl:=Option.some.inj H;go_enter Try.func32,Try.ntmps32
  go_wp2_with (first | ((with_reducible refine gate_dst (N:=2) rfl ?_);(try (refine gate_guard (by rfl) ?_;dsimp only));refine box_event ?hg (N:=2) ?hd (cs:=#[.slice A0_0 l0_0.length c0_0,.slice A0_1 l0_1.length c0_1]) (t:=27) ?hr ?_;(case hd => rfl);(case hg => rfl);(case hr => first | (go_simp;done) | (go_simp;rfl));intro gb140 hg w10 hbox hb;have n0_:=A_ (bp_ (by repeat (first | (with_reducible first | exact HB.out | apply ba_ | apply bd_ | apply be_) | exact HB.out)) hb);have n1_:=A_ (hbox);have n2_:=A_ ((by rw [hg];exact (bz_ (by repeat (first | (with_reducible first | exact HB.out | apply ba_ | apply bd_ | apply be_) | exact HB.out))) : w.heap.size ≤ gb140));have n3_:=n2_;clear HB;have HB:=n0_;have BK140:=n1_;have GW140:=n2_;have GE140:=n3_;clear n0_ n1_ n2_ n3_;clear hb hbox hg))
  go_ret
  exact ⟨by first | rfl | (simp [errW_none,errW_some] <;> rfl) | (simp [*,errW_none,errW_some] <;> rfl),by repeat (first | (with_reducible first | exact HB.out | apply ba_ | apply bd_ | apply be_ | refine bs_ ?_ GE140.out) | exact HB.out)⟩
end Go.Proofs.Ytjigckhopkclgaa.P
