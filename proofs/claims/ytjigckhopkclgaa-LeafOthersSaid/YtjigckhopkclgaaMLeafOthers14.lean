/- Put together by wip/prune.py out of this claim's texts. -/
import Derived.Test.YtjigckhopkclgaaMLeafOthers4
import Derived.Test.YtjigckhopkclgaaMLeafOthers8
import Derived.Test.YtjigckhopkclgaaMLeafOthers9
import Derived.Test.YtjigckhopkclgaaMLeafOthers10
import Derived.Test.YtjigckhopkclgaaMLeafOthers11
import Derived.Test.YtjigckhopkclgaaMLeafOthers12
import Derived.Test.YtjigckhopkclgaaMLeafOthers13
namespace Go.Proofs.Ytjigckhopkclgaa.P
open Go.RowKit Go.Proofs.YtjigckhopkclgaaW.PrintWords Go.Proofs.YtjigckhopkclgaaW.PrintLast Go.Proofs.YtjigckhopkclgaaW.PrintMore
attribute [local go_sem] max2_int min2_int max_two min_two max_three min_three max_four min_four   -- for this text's walks alone
attribute [local go_sem] run_store_float
set_option linter.unusedVariables false
set_option linter.unusedSimpArgs false
mutual
def humuslaw08_LeafOthers.j0 : Nat → List (List Int) → List Int → Bool → List Int → List (List Int) → Option (Bool)
 | 0,_,_,_,_,_ => none
 | k + 1,x1,x2,x20,x348000,x348001 => if x20 = true then ((humuslaw08_awake.f k).bind fun t350 => (some t350)) else (humuslaw08_LeafOthers.j1 k x1 x2 0 x348000 x348001)
def humuslaw08_LeafOthers.j1 : Nat → List (List Int) → List Int → Int → List Int → List (List Int) → Option (Bool)
 | 0,_,_,_,_,_ => none
 | k + 1,x1,x2,x8,x352000,x352001 => humuslaw08_LeafOthers.l0 k x1 x2 x8 x352000 x352001
def humuslaw08_LeafOthers.l0 : Nat → List (List Int) → List Int → Int → List Int → List (List Int) → Option (Bool)
 | 0,_,_,_,_,_ => none
 | k + 1,x1,x2,x8,x352000,x352001 => if x8 < (x1.length : Int) then (if x8 < (x2.length : Int) then (humuslaw08_LeafOthers.j3 k x1 x2 x8 (decide (x8 < 40)) x352000 x352001) else (humuslaw08_LeafOthers.j3 k x1 x2 x8 false x352000 x352001)) else (humuslaw08_LeafOthers.j3 k x1 x2 x8 false x352000 x352001)
def humuslaw08_LeafOthers.j3 : Nat → List (List Int) → List Int → Int → Bool → List Int → List (List Int) → Option (Bool)
 | 0,_,_,_,_,_,_ => none
 | k + 1,x1,x2,x8,x36,x352000,x352001 => if x36 = true then (if 0 ≤ x8 then (if x8 < (x1.length : Int) then (if ((rd_L2 x1 x8).length : Int) > 300 then (humuslaw08_LeafOthers.j4 k x1 x2 (wrap64 (x8 + 1)) x352000 x352001) else (if x8 < (x2.length : Int) then (if (Int.tmod (rd x2 x8) 3) = 0 then ((leaf_Set.f k x352000 x352001 (((Int.tdiv (rd x2 x8) 3) % 256) % 66) (rd_L2 x1 x8)).bind fun bt358 => (humuslaw08_LeafOthers.j6 k x1 x2 x8 (((Int.tdiv (rd x2 x8) 3) % 256) % 66) bt358.2.2 x352000 x352001 bt358.1 bt358.2.1)) else (humuslaw08_LeafOthers.j5 k x1 x2 x8 (((Int.tdiv (rd x2 x8) 3) % 256) % 66) ((Int.tmod (rd x2 x8) 3) == 1) x352000 x352001)) else (none))) else (none)) else (none)) else ((humuslaw08_awake.f k).bind fun t352 => (some t352))
def humuslaw08_LeafOthers.j4 : Nat → List (List Int) → List Int → Int → List Int → List (List Int) → Option (Bool)
 | 0,_,_,_,_,_ => none
 | k + 1,x1,x2,x8,x352000,x352001 => humuslaw08_LeafOthers.l0 k x1 x2 x8 x352000 x352001
def humuslaw08_LeafOthers.j6 : Nat → List (List Int) → List Int → Int → Int → Int → List Int → List (List Int) → List Int → List (List Int) → Option (Bool)
 | 0,_,_,_,_,_,_,_,_,_ => none
 | k + 1,x1,x2,x8,x9,x11,x352000,x352001,x356000,x356001 => if x11 = 0 then (humuslaw08_LeafOthers.j7 k x1 x2 x8 x9 false x352000 x352001 x356000 x356001) else ((humusref08_Same.f k x356000 x356001 x352000 x352001).bind fun t381 => (humuslaw08_LeafOthers.j7 k x1 x2 x8 x9 (!t381) x352000 x352001 x356000 x356001))
def humuslaw08_LeafOthers.j7 : Nat → List (List Int) → List Int → Int → Int → Bool → List Int → List (List Int) → List Int → List (List Int) → Option (Bool)
 | 0,_,_,_,_,_,_,_,_,_ => none
 | k + 1,x1,x2,x8,x9,x95,x352000,x352001,x356000,x356001 => if x95 = true then (none) else (humuslaw08_LeafOthers.l1 k x1 x2 x8 x9 0 x352000 x352001 x356000 x356001)
def humuslaw08_LeafOthers.l1 : Nat → List (List Int) → List Int → Int → Int → Int → List Int → List (List Int) → List Int → List (List Int) → Option (Bool)
 | 0,_,_,_,_,_,_,_,_,_ => none
 | k + 1,x1,x2,x8,x9,x12,x352000,x352001,x356000,x356001 => if x12 < (x352001.length : Int) then (if x12 = x9 then (humuslaw08_LeafOthers.l1 k x1 x2 x8 x9 (wrap64 (x12 + 1)) x352000 x352001 x356000 x356001) else (if 0 ≤ x12 then (if ((rd_L2 x352001 x12).length : Int) > 0 then (if x12 ≥ (x356001.length : Int) then (none) else (if x12 < (x356001.length : Int) then (if (strOfNums (rd_L2 x356001 x12)).toList = (strOfNums (rd_L2 x352001 x12)).toList then (humuslaw08_LeafOthers.l1 k x1 x2 x8 x9 (wrap64 (x12 + 1)) x352000 x352001 x356000 x356001) else (none)) else (none))) else (humuslaw08_LeafOthers.l1 k x1 x2 x8 x9 (wrap64 (x12 + 1)) x352000 x352001 x356000 x356001)) else (none))) else (humuslaw08_LeafOthers.l0 k x1 x2 (wrap64 (x8 + 1)) x356000 x356001)
def humuslaw08_LeafOthers.j5 : Nat → List (List Int) → List Int → Int → Int → Bool → List Int → List (List Int) → Option (Bool)
 | 0,_,_,_,_,_,_,_ => none
 | k + 1,x1,x2,x8,x9,x80,x352000,x352001 => if x80 = true then ((leaf_Drop.f k x352000 x352001 x9).bind fun bt365 => (humuslaw08_LeafOthers.j6 k x1 x2 x8 x9 bt365.2.2 x352000 x352001 bt365.1 bt365.2.1)) else (if 0 ≤ x8 then (if x8 < (x1.length : Int) then ((leaf_Insert.f k x352000 x352001 (rd_L2 x1 x8)).bind fun bt373 => (humuslaw08_LeafOthers.j6 k x1 x2 x8 bt373.2.2.1 bt373.2.2.2 x352000 x352001 bt373.1 bt373.2.1)) else (none)) else (none))
end
def humuslaw08_LeafOthers.f (k : Nat) (l0_0 : List Int) (l0_1 : List (List Int)) (l1 : List (List Int)) (l2 : List Int) : Option (Bool):=(humuslaw08_Light.f k l0_0 l0_1).bind fun t348 => (if t348 = true then ((humusref08_May.f k l0_0 l0_1).bind fun t349 => (humuslaw08_LeafOthers.j0 k l1 l2 (!t349) l0_0 l0_1)) else (humuslaw08_LeafOthers.j0 k l1 l2 true l0_0 l0_1))
def humuslaw08_LeafOthers.T11 : Bool × List (List Nat × List Nat):=(true,[([],[]),([],[]),([],[]),([1,2],[1,2]),([3],[3]),([0,4],[0,4]),([5],[5]),([6],[6]),([6],[6]),([6],[6]),([7,5,0,1,2,3,4,5,6,7],[7]),([8,10,0,1,2,3,4,5,6,7,8,10],[8]),([9,11,0,1,2,3,4,5,6,7,8,9,10,11],[9])])
def humuslaw08_LeafOthers.B11 : List Nat:=[0,0,0,6,14,31,63,127,127,127,255,1535,4095]
theorem humuslaw08_LeafOthers.tab11 : rtab .any (opsOf Try.f4 11) = humuslaw08_LeafOthers.T11:=by kernel_rfl
theorem humuslaw08_LeafOthers.bits11 : waitsOk humuslaw08_LeafOthers.T11.2 humuslaw08_LeafOthers.B11 = true:=by kernel_rfl
def humuslaw08_LeafOthers.T13 : Bool × List (List Nat × List Nat):=(true,[([],[]),([],[]),([],[]),([],[]),([2,3],[2,3]),([4],[4]),([0,1,5],[0,1,5]),([6],[6]),([7],[7]),([7],[7]),([8,6,0,1,2,3,4,5,6,7,8],[8]),([9,10,0,1,2,3,4,5,6,7,8,9,10],[9])])
def humuslaw08_LeafOthers.B13 : List Nat:=[0,0,0,0,12,28,63,127,255,255,511,2047]
theorem humuslaw08_LeafOthers.tab13 : rtab .any (opsOf Try.f4 13) = humuslaw08_LeafOthers.T13:=by kernel_rfl
theorem humuslaw08_LeafOthers.bits13 : waitsOk humuslaw08_LeafOthers.T13.2 humuslaw08_LeafOthers.B13 = true:=by kernel_rfl
def humuslaw08_LeafOthers.T21 : Bool × List (List Nat × List Nat):=(true,[([],[]),([],[]),([0,1],[0,1]),([2],[2]),([3],[3]),([4,3],[3,4]),([3],[3]),([5,6,3],[3,5,6]),([7,3],[3,7]),([8,3],[3,8]),([9,3],[3,9]),([3,10],[3,10]),([11,3],[11]),([12],[12]),([12],[12]),([14,12],[12,14]),([15,12],[12,15]),([13,16,12],[12,13,16]),([17,12,12],[12,17]),([18],[18]),([19,18],[18,19]),([18],[18]),([20,21,18],[18,20,21]),([22,18],[18,22]),([23,18],[18,23]),([18],[18]),([25,18],[18,25]),([18],[18]),([26,27,18],[18,26,27]),([28,18],[18,28]),([29,18],[18,29]),([24,30,18],[18,24,30]),([18,31,12],[12,18,31]),([12,32],[12,32])])
def humuslaw08_LeafOthers.B21 : List Nat:=[0,0,3,7,15,31,15,127,255,511,1023,2047,4095,8191,8191,24575,57343,131071,262143,524287,1048575,524287,4194303,8388607,16777215,524287,34078719,524287,235405311,503840767,1040711679,2147483647,4294967295,8589934591]
theorem humuslaw08_LeafOthers.tab21 : rtab .any (opsOf Try.f4 21) = humuslaw08_LeafOthers.T21:=by kernel_rfl
theorem humuslaw08_LeafOthers.bits21 : waitsOk humuslaw08_LeafOthers.T21.2 humuslaw08_LeafOthers.B21 = true:=by kernel_rfl
set_option maxHeartbeats 8000000 in
set_option maxRecDepth 100000 in
theorem humuslaw08_LeafOthers.calls (k : Nat) (P0_0_ : Nat → Prop) (A0_0 : Option Addr) (c0_0 : Nat) (l0_0 : List Int) (P0_1_ : Nat → Prop) (A0_1 : Option Addr) (c0_1 : Nat) (l0_1 : List (List Int)) (A1 : Option Addr) (c1 : Nat) (l1 : List (List Int)) (A2 : Option Addr) (c2 : Nat) (l2 : List Int) (r : Bool) (w : World) (hs0_0 : Kd.V (Kd.int .i64) 3 w w.heap.size (fun k_ => P0_0_ k_) (.slice A0_0 l0_0.length c0_0) l0_0) (hs0_1 : Kd.V (Kd.slice 5 (Kd.int .u8)) 22 w w.heap.size (fun k_ => P0_1_ k_) (.slice A0_1 l0_1.length c0_1) l0_1) (hr1 : Kd.C (Kd.slice 5 (Kd.int .u8)) w A1 l1.length l1) (hc1 : l1.length ≤ c1) (hr2 : Kd.C (Kd.int .u8) w A2 l2.length l2) (hc2 : l2.length ≤ c2) (h : humuslaw08_LeafOthers.f k l0_0 l0_1 l1 l2 = some r) :
  Calls Try.prog 4 #[.agg #[.slice A0_0 l0_0.length c0_0,.slice A0_1 l0_1.length c0_1],.slice A1 l1.length c1,.slice A2 l2.length c2] w fun e w' => e = .returned (.bool r) ∧ Below w.heap.size w w':=by
 have hu27:=Try.underlying27
 have HO0_0:=Aside0.mk (show Kd.V (Kd.int .i64) 3 w w.heap.size (fun k_ => ((P0_0_ k_ ∨ P0_1_ k_) ∨ w.heap.size ≤ k_)) (.slice A0_0 l0_0.length c0_0) l0_0 from Kd.V_mono hs0_0 (fun k_ hk => .inl (.inl hk)))
 have HO0_1:=Aside0.mk (show Kd.V (Kd.slice 5 (Kd.int .u8)) 22 w w.heap.size (fun k_ => ((P0_0_ k_ ∨ P0_1_ k_) ∨ w.heap.size ≤ k_)) (.slice A0_1 l0_1.length c0_1) l0_1 from Kd.V_mono hs0_1 (fun k_ hk => .inl (.inr hk)))
 have HR1:=Aside0.mk hr1
 have HC1:=Aside0.mk hc1
 clear hr1 hc1
 have HR2:=Aside0.mk hr2
 have HC2:=Aside0.mk hc2
 clear hr2 hc2
 have HB:=Aside0.mk (Below.refl w.heap.size w)
 have H : ((humuslaw08_Light.f k l0_0 l0_1).bind fun t348 => (if t348 = true then ((humusref08_May.f k l0_0 l0_1).bind fun t349 => (humuslaw08_LeafOthers.j0 k l1 l2 (!t349) l0_0 l0_1)) else (humuslaw08_LeafOthers.j0 k l1 l2 true l0_0 l0_1))) = some r:=h
 clear h
 have HC4:=Aside0.mk H
 clear H
 go_enter Try.func4,Try.ntmps4
 go_upto_region 1 with (first | ((with_reducible refine gate_dst (N:=3) rfl ?_);(try (refine gate_guard (by rfl) ?_;dsimp only));refine box_event ?hg (N:=3) ?hd (cs:=#[.slice A0_0 l0_0.length c0_0,.slice A0_1 l0_1.length c0_1]) (t:=27) ?hr ?_;(case hd => rfl);(case hg => rfl);(case hr => first | (go_simp;done) | (go_simp;rfl));intro gb347 hg w5 hbox hb;have n0_:=Aside0.mk (Kd.V_below (Kd.V_elderB (by (with_reducible repeat (first | apply Kd.V_alloc | apply Kd.V_drewN | apply Kd.V_drew));exact HO0_0.out) gb347 (Nat.le_of_eq hg.symm)) hb);have n1_:=Aside0.mk (Kd.V_below (Kd.V_elderB (by (with_reducible repeat (first | apply Kd.V_alloc | apply Kd.V_drewN | apply Kd.V_drew));exact HO0_1.out) gb347 (Nat.le_of_eq hg.symm)) hb);have n2_:=Aside0.mk (below_step (by repeat (first | (with_reducible first | exact HB.out | apply below_alloc | apply pw_below_drewN | apply below_drew1) | exact HB.out)) hb);have n3_:=Aside0.mk (hbox);have n4_:=Aside0.mk ((by rw [hg];exact (below_size (by repeat (first | (with_reducible first | exact HB.out | apply below_alloc | apply pw_below_drewN | apply below_drew1) | exact HB.out))) : w.heap.size ≤ gb347));have n5_:=Aside0.mk ((by rw [hg];exact (below_size (by repeat (first | (with_reducible first | exact HB.out | apply below_alloc | apply pw_below_drewN | apply below_drew1) | exact HB.out))) : w.heap.size ≤ gb347));clear HO0_0;clear HO0_1;clear HB;have HO0_0:=n0_;have HO0_1:=n1_;have HB:=n2_;have BK347:=n3_;have GW347:=n4_;have GE347:=n5_;clear n0_ n1_ n2_ n3_ n4_ n5_;clear hb hbox hg))
 (try simp only [Act.put,List.setIfInBounds_toArray,List.set_cons_zero,List.set_cons_succ])
 go_cut [20] (fun v20 wc => ∃ (kq : Nat) (x20_3 : Bool),v20 = .bool x20_3 ∧ Aside0 (humuslaw08_LeafOthers.j0 kq l1 l2 x20_3 l0_0 l0_1 = some r) ∧ Aside0 (kq ≤ k) ∧ Aside0 (Kd.V (Kd.int .i64) 3 wc w.heap.size (fun k_ => ((P0_0_ k_ ∨ P0_1_ k_) ∨ w.heap.size ≤ k_) ∧ k_ ≠ gb347) (.slice A0_0 l0_0.length c0_0) l0_0) ∧ Aside0 (Kd.V (Kd.slice 5 (Kd.int .u8)) 22 wc w.heap.size (fun k_ => ((P0_0_ k_ ∨ P0_1_ k_) ∨ w.heap.size ≤ k_) ∧ k_ ≠ gb347) (.slice A0_1 l0_1.length c0_1) l0_1) ∧ Aside0 (wc.heap[gb347]? = some (.cells #[(.slice A0_0 l0_0.length c0_0),(.slice A0_1 l0_1.length c0_1)] 27 (0,0))) ∧ Aside0 (Below w.heap.size w wc))
 case first =>
  have H:=HC4.out
  clear HC4
  replace H:=Option.bind_eq_some_iff.mp H
  obtain ⟨t348,A60,H⟩:=H
  replace H : (if t348 = true then ((humusref08_May.f k l0_0 l0_1).bind fun t349 => (humuslaw08_LeafOthers.j0 k l1 l2 (!t349) l0_0 l0_1)) else (humuslaw08_LeafOthers.j0 k l1 l2 true l0_0 l0_1)) = some r:=H
  have A6:=Aside0.mk A60
  clear A60
  by_cases c7 : t348 = true
  ·subst c7
   have H1 : ((humusref08_May.f k l0_0 l0_1).bind fun t349 => (humuslaw08_LeafOthers.j0 k l1 l2 (!t349) l0_0 l0_1)) = some r:=by rw [if_pos rfl] at H;exact H
   clear H
   have H:=H1
   clear H1
   replace H:=Option.bind_eq_some_iff.mp H
   obtain ⟨t349,A80,H⟩:=H
   replace H : (humuslaw08_LeafOthers.j0 k l1 l2 (!t349) l0_0 l0_1) = some r:=H
   have A8:=Aside0.mk A80
   clear A80
   have H':=Aside0.mk H
   clear H
   have hcz9_0 : w5.cell? ⟨gb347,0,none⟩ = some (.slice A0_0 l0_0.length c0_0):=(blk_cell BK347.out 0).trans rfl
   have hcz9_1 : w5.cell? ⟨gb347,1,none⟩ = some (.slice A0_1 l0_1.length c0_1):=(blk_cell BK347.out 1).trans rfl
   have hfz9_0:=blk_frozen BK347.out 0
   have hfz9_1:=blk_frozen BK347.out 1
   go_wp2_with (first | ((with_reducible refine gate_callee (f:=12) rfl ?_);refine goesL_ (some 14) rfl rfl Try.func12 (by kernel_rfl) rfl #[.agg #[.slice A0_0 l0_0.length c0_0,.slice A0_1 l0_1.length c0_1]] rfl (by (try simp only [List.map_toArray,List.map_cons,List.map_nil]);first | done | rfl | (simp only [List.length_drop,List.length_take];rfl)) ?_;(with_reducible refine (humuslaw08_Light.calls k _ _ l0_0 _ _ l0_1 true _ ?side1 ?side2 ?side3 ?side4 A6.out).mono ?_);(case side1 => repeat (first | exact (Kd.V_reads' HO0_0.out).2.2 | (with_reducible refine Kd.C_alloc ?_ _) | (with_reducible refine Kd.C_drewN ?_ _) | (with_reducible refine Kd.C_drew ?_)));(case side2 => exact (Kd.V_reads' HO0_0.out).2.1);(case side3 => repeat (first | exact (Kd.V_reads' HO0_1.out).2.2 | (with_reducible refine Kd.C_alloc ?_ _) | (with_reducible refine Kd.C_drewN ?_ _) | (with_reducible refine Kd.C_drew ?_)));(case side4 => exact (Kd.V_reads' HO0_1.out).2.1);rintro e w10 ⟨rfl,hb⟩;refine ⟨_,rfl,?_⟩;have n0_:=Aside0.mk (Kd.V_below (by (with_reducible repeat (first | apply Kd.V_alloc | apply Kd.V_drewN | apply Kd.V_drew));exact HO0_0.out) hb);have n1_:=Aside0.mk (Kd.V_below (by (with_reducible repeat (first | apply Kd.V_alloc | apply Kd.V_drewN | apply Kd.V_drew));exact HO0_1.out) hb);have n2_:=Aside0.mk (blk_below (g:=gb347) (o:=.cells #[.slice A0_0 l0_0.length c0_0,.slice A0_1 l0_1.length c0_1] 27 (0,0)) (by (with_reducible repeat (first | refine blk_drewN ?_ _ | refine blk_drew ?_ | refine blk_alloc ?_ _));exact BK347.out) hb);have n3_:=Aside0.mk (below_step (by repeat (first | (with_reducible first | exact HB.out | apply below_alloc | apply pw_below_drewN | apply below_drew1 | refine below_set ?_ GE347.out) | exact HB.out)) hb);clear HO0_0;clear HO0_1;clear BK347;clear HB;have HO0_0:=n0_;have HO0_1:=n1_;have BK347:=n2_;have HB:=n3_;clear n0_ n1_ n2_ n3_;(try clear hb);(try clear hb2);(try clear hk);(try clear hi);have hcz11_0 : w10.cell? ⟨gb347,0,none⟩ = some (.slice A0_0 l0_0.length c0_0):=(blk_cell BK347.out 0).trans rfl;have hcz11_1 : w10.cell? ⟨gb347,1,none⟩ = some (.slice A0_1 l0_1.length c0_1):=(blk_cell BK347.out 1).trans rfl;have hfz11_0:=blk_frozen BK347.out 0;have hfz11_1:=blk_frozen BK347.out 1) | (go_at_call 13;(with_reducible refine (humusref08_May.calls k _ _ l0_0 _ _ l0_1 t349 _ ?side1 ?side2 ?side3 ?side4 A8.out).mono ?_);(case side1 => repeat (first | exact (Kd.V_reads' HO0_0.out).2.2 | (with_reducible refine Kd.C_alloc ?_ _) | (with_reducible refine Kd.C_drewN ?_ _) | (with_reducible refine Kd.C_drew ?_)));(case side2 => exact (Kd.V_reads' HO0_0.out).2.1);(case side3 => repeat (first | exact (Kd.V_reads' HO0_1.out).2.2 | (with_reducible refine Kd.C_alloc ?_ _) | (with_reducible refine Kd.C_drewN ?_ _) | (with_reducible refine Kd.C_drew ?_)));(case side4 => exact (Kd.V_reads' HO0_1.out).2.1);rintro e w12 ⟨rfl,hb⟩;have n0_:=Aside0.mk (Kd.V_below (by (with_reducible repeat (first | apply Kd.V_alloc | apply Kd.V_drewN | apply Kd.V_drew));exact HO0_0.out) hb);have n1_:=Aside0.mk (Kd.V_below (by (with_reducible repeat (first | apply Kd.V_alloc | apply Kd.V_drewN | apply Kd.V_drew));exact HO0_1.out) hb);have n2_:=Aside0.mk (blk_below (g:=gb347) (o:=.cells #[.slice A0_0 l0_0.length c0_0,.slice A0_1 l0_1.length c0_1] 27 (0,0)) (by (with_reducible repeat (first | refine blk_drewN ?_ _ | refine blk_drew ?_ | refine blk_alloc ?_ _));exact BK347.out) hb);have n3_:=Aside0.mk (below_step (by repeat (first | (with_reducible first | exact HB.out | apply below_alloc | apply pw_below_drewN | apply below_drew1 | refine below_set ?_ GE347.out) | exact HB.out)) hb);clear HO0_0;clear HO0_1;clear BK347;clear HB;have HO0_0:=n0_;have HO0_1:=n1_;have BK347:=n2_;have HB:=n3_;clear n0_ n1_ n2_ n3_;(try clear hb);(try clear hb2);(try clear hk);(try clear hi)))
   go_meet
   case rel => exact ⟨_,(!t349),(by first | rfl | (simp;done) | (simp [*];done)),H',⟨by first | omega | exact Nat.le_refl _⟩,⟨by (with_reducible repeat (first | apply Kd.V_alloc | apply Kd.V_drewN | apply Kd.V_drew));exact HO0_0.out⟩,⟨by (with_reducible repeat (first | apply Kd.V_alloc | apply Kd.V_drewN | apply Kd.V_drew));exact HO0_1.out⟩,⟨by (with_reducible repeat (first | refine blk_drewN ?_ _ | refine blk_drew ?_ | refine blk_alloc ?_ _));exact BK347.out⟩,⟨by repeat (first | (with_reducible first | exact HB.out | apply below_alloc | apply pw_below_drewN | apply below_drew1 | refine below_set ?_ GE347.out) | exact HB.out)⟩⟩
  ·replace c7:=Bool.eq_false_iff.mpr c7
   subst c7
   have H1 : (humuslaw08_LeafOthers.j0 k l1 l2 true l0_0 l0_1) = some r:=by rw [if_neg (show ¬ (false = true) by decide)] at H;exact H
   clear H
   have H:=H1
   clear H1
   have H':=Aside0.mk H
   clear H
   have hcz13_0 : w5.cell? ⟨gb347,0,none⟩ = some (.slice A0_0 l0_0.length c0_0):=(blk_cell BK347.out 0).trans rfl
   have hcz13_1 : w5.cell? ⟨gb347,1,none⟩ = some (.slice A0_1 l0_1.length c0_1):=(blk_cell BK347.out 1).trans rfl
   have hfz13_0:=blk_frozen BK347.out 0
   have hfz13_1:=blk_frozen BK347.out 1
   go_wp2_with (first | ((with_reducible refine gate_callee (f:=12) rfl ?_);refine goesL_ (some 14) rfl rfl Try.func12 (by kernel_rfl) rfl #[.agg #[.slice A0_0 l0_0.length c0_0,.slice A0_1 l0_1.length c0_1]] rfl (by (try simp only [List.map_toArray,List.map_cons,List.map_nil]);first | done | rfl | (simp only [List.length_drop,List.length_take];rfl)) ?_;(with_reducible refine (humuslaw08_Light.calls k _ _ l0_0 _ _ l0_1 false _ ?side1 ?side2 ?side3 ?side4 A6.out).mono ?_);(case side1 => repeat (first | exact (Kd.V_reads' HO0_0.out).2.2 | (with_reducible refine Kd.C_alloc ?_ _) | (with_reducible refine Kd.C_drewN ?_ _) | (with_reducible refine Kd.C_drew ?_)));(case side2 => exact (Kd.V_reads' HO0_0.out).2.1);(case side3 => repeat (first | exact (Kd.V_reads' HO0_1.out).2.2 | (with_reducible refine Kd.C_alloc ?_ _) | (with_reducible refine Kd.C_drewN ?_ _) | (with_reducible refine Kd.C_drew ?_)));(case side4 => exact (Kd.V_reads' HO0_1.out).2.1);rintro e w14 ⟨rfl,hb⟩;refine ⟨_,rfl,?_⟩;have n0_:=Aside0.mk (Kd.V_below (by (with_reducible repeat (first | apply Kd.V_alloc | apply Kd.V_drewN | apply Kd.V_drew));exact HO0_0.out) hb);have n1_:=Aside0.mk (Kd.V_below (by (with_reducible repeat (first | apply Kd.V_alloc | apply Kd.V_drewN | apply Kd.V_drew));exact HO0_1.out) hb);have n2_:=Aside0.mk (blk_below (g:=gb347) (o:=.cells #[.slice A0_0 l0_0.length c0_0,.slice A0_1 l0_1.length c0_1] 27 (0,0)) (by (with_reducible repeat (first | refine blk_drewN ?_ _ | refine blk_drew ?_ | refine blk_alloc ?_ _));exact BK347.out) hb);have n3_:=Aside0.mk (below_step (by repeat (first | (with_reducible first | exact HB.out | apply below_alloc | apply pw_below_drewN | apply below_drew1 | refine below_set ?_ GE347.out) | exact HB.out)) hb);clear HO0_0;clear HO0_1;clear BK347;clear HB;have HO0_0:=n0_;have HO0_1:=n1_;have BK347:=n2_;have HB:=n3_;clear n0_ n1_ n2_ n3_;(try clear hb);(try clear hb2);(try clear hk);(try clear hi)))
   go_meet
   case rel => exact ⟨_,(true),(by first | rfl | (simp;done) | (simp [*];done)),H',⟨by first | omega | exact Nat.le_refl _⟩,⟨by (with_reducible repeat (first | apply Kd.V_alloc | apply Kd.V_drewN | apply Kd.V_drew));exact HO0_0.out⟩,⟨by (with_reducible repeat (first | apply Kd.V_alloc | apply Kd.V_drewN | apply Kd.V_drew));exact HO0_1.out⟩,⟨by (with_reducible repeat (first | refine blk_drewN ?_ _ | refine blk_drew ?_ | refine blk_alloc ?_ _));exact BK347.out⟩,⟨by repeat (first | (with_reducible first | exact HB.out | apply below_alloc | apply pw_below_drewN | apply below_drew1 | refine below_set ?_ GE347.out) | exact HB.out)⟩⟩
 case rest =>
  clear HC4
  try clear c1
  try clear c2
  try clear p2
  try clear c4
  try clear c7
  try clear c12
  try clear hcz11_0
  try clear hcz11_1
  try clear hcz13_0
  try clear hcz13_1
  try clear hcz9_0
  try clear hcz9_1
  try clear hfz11_0
  try clear hfz11_1
  try clear hfz13_0
  try clear hfz13_1
  try clear hfz9_0
  try clear hfz9_1
  obtain ⟨kq,x20_3,rfl,HA,HJ3,HO_348000,HO_348001,BK347,HB⟩:=hcut
  cases kq with
  | zero => exact absurd HA.out (by simp [humuslaw08_LeafOthers.j0])
  | succ kj3 =>
   have H:=HA.out
   clear HA
   simp only [humuslaw08_LeafOthers.j0] at H
   by_cases c15 : x20_3 = true
   ·subst c15
    have H1 : ((humuslaw08_awake.f kj3).bind fun t350 => (some t350)) = some r:=by rw [if_pos rfl] at H;exact H
    clear H
    have H:=H1
    clear H1
    replace H:=Option.bind_eq_some_iff.mp H
    obtain ⟨t350,A160,H⟩:=H
    replace H : (some t350) = some r:=H
    have A16:=Aside0.mk A160
    clear A160
    obtain rfl:=Option.some.inj H
    go_wp2_with (first | ((with_reducible refine gate_callee (f:=8) rfl ?_);refine goesL_ (some 21) rfl rfl Try.func8 (by kernel_rfl) rfl #[] rfl (by (try simp only [List.map_toArray,List.map_cons,List.map_nil]);first | done | rfl | (simp only [List.length_drop,List.length_take];rfl)) ?_;(with_reducible refine (humuslaw08_awake.calls kj3  t350 _ A16.out).mono ?_);rintro e w17 ⟨rfl,hb⟩;refine ⟨_,rfl,?_⟩;have n0_:=Aside0.mk (Kd.V_below (by (with_reducible repeat (first | apply Kd.V_alloc | apply Kd.V_drewN | apply Kd.V_drew));exact HO_348000.out) hb);have n1_:=Aside0.mk (Kd.V_below (by (with_reducible repeat (first | apply Kd.V_alloc | apply Kd.V_drewN | apply Kd.V_drew));exact HO_348001.out) hb);have n2_:=Aside0.mk (blk_below (g:=gb347) (o:=.cells #[.slice A0_0 l0_0.length c0_0,.slice A0_1 l0_1.length c0_1] 27 (0,0)) (by (with_reducible repeat (first | refine blk_drewN ?_ _ | refine blk_drew ?_ | refine blk_alloc ?_ _));exact BK347.out) hb);have n3_:=Aside0.mk (below_step (by repeat (first | (with_reducible first | exact HB.out | apply below_alloc | apply pw_below_drewN | apply below_drew1 | refine below_set ?_ GE347.out) | exact HB.out)) hb);clear HO_348000;clear HO_348001;clear BK347;clear HB;have HO_348000:=n0_;have HO_348001:=n1_;have BK347:=n2_;have HB:=n3_;clear n0_ n1_ n2_ n3_;(try clear hb);(try clear hb2);(try clear hk);(try clear hi)))
    go_ret
    exact ⟨by first | rfl | (simp [errW_none,errW_some] <;> rfl) | (simp [*,errW_none,errW_some] <;> rfl),by repeat (first | (with_reducible first | exact HB.out | apply below_alloc | apply pw_below_drewN | apply below_drew1 | refine below_set ?_ GE347.out) | exact HB.out)⟩
   ·replace c15:=Bool.eq_false_iff.mpr c15
    subst c15
    have H1 : (humuslaw08_LeafOthers.j1 kj3 l1 l2 0 l0_0 l0_1) = some r:=by rw [if_neg (show ¬ (false = true) by decide)] at H;exact H
    clear H
    have H:=H1
    clear H1
    have HC18:=Aside0.mk H
    clear H
    have hcz19_0 : wc.cell? ⟨gb347,0,none⟩ = some (.slice A0_0 l0_0.length c0_0):=(blk_cell BK347.out 0).trans rfl
    have hcz19_1 : wc.cell? ⟨gb347,1,none⟩ = some (.slice A0_1 l0_1.length c0_1):=(blk_cell BK347.out 1).trans rfl
    have hfz19_0:=blk_frozen BK347.out 0
    have hfz19_1:=blk_frozen BK347.out 1
    go_upto_region 4 with (first | ((with_reducible refine gate_dst (N:=7) rfl ?_);(try (refine gate_guard (by rfl) ?_;dsimp only));refine box_event ?hg (N:=7) ?hd (cs:=#[.slice none 0 0,.slice none 0 0]) (t:=27) ?hr ?_;(case hd => rfl);(case hg => rfl);(case hr => first | (go_simp;done) | (go_simp;rfl));intro gb351 hg w20 hbox hb;have n0_:=Aside0.mk (Kd.V_below (Kd.V_elderB (by (with_reducible repeat (first | apply Kd.V_alloc | apply Kd.V_drewN | apply Kd.V_drew));exact HO_348000.out) gb351 (Nat.le_of_eq hg.symm)) hb);have n1_:=Aside0.mk (Kd.V_below (Kd.V_elderB (by (with_reducible repeat (first | apply Kd.V_alloc | apply Kd.V_drewN | apply Kd.V_drew));exact HO_348001.out) gb351 (Nat.le_of_eq hg.symm)) hb);have n2_:=Aside0.mk (blk_below (g:=gb347) (o:=.cells #[.slice A0_0 l0_0.length c0_0,.slice A0_1 l0_1.length c0_1] 27 (0,0)) (by (with_reducible repeat (first | refine blk_drewN ?_ _ | refine blk_drew ?_ | refine blk_alloc ?_ _));exact BK347.out) hb);have n3_:=Aside0.mk (below_step (by repeat (first | (with_reducible first | exact HB.out | apply below_alloc | apply pw_below_drewN | apply below_drew1 | refine below_set ?_ GE347.out) | exact HB.out)) hb);have n4_:=Aside0.mk (hbox);have n5_:=Aside0.mk ((by rw [hg];exact (below_size (by repeat (first | (with_reducible first | exact HB.out | apply below_alloc | apply pw_below_drewN | apply below_drew1 | refine below_set ?_ GE347.out) | exact HB.out))) : w.heap.size ≤ gb351));have n6_:=Aside0.mk ((by rw [hg];exact (below_size (by repeat (first | (with_reducible first | exact HB.out | apply below_alloc | apply pw_below_drewN | apply below_drew1 | refine below_set ?_ GE347.out) | exact HB.out))) : w.heap.size ≤ gb351));have n7_:=Aside0.mk ((by rw [hg];exact Nat.ne_of_lt (blk_lt (g:=gb347) (o:=.cells #[.slice A0_0 l0_0.length c0_0,.slice A0_1 l0_1.length c0_1] 27 (0,0)) (by (with_reducible repeat (first | refine blk_drewN ?_ _ | refine blk_drew ?_ | refine blk_alloc ?_ _));exact BK347.out)) : gb347 ≠ gb351));have n8_:=Aside0.mk ((by rw [hg];exact Nat.ne_of_gt (blk_lt (g:=gb347) (o:=.cells #[.slice A0_0 l0_0.length c0_0,.slice A0_1 l0_1.length c0_1] 27 (0,0)) (by (with_reducible repeat (first | refine blk_drewN ?_ _ | refine blk_drew ?_ | refine blk_alloc ?_ _));exact BK347.out)) : gb351 ≠ gb347));clear HO_348000;clear HO_348001;clear BK347;clear HB;have HO_348000:=n0_;have HO_348001:=n1_;have BK347:=n2_;have HB:=n3_;have BK351:=n4_;have GW351:=n5_;have GE351:=n6_;have NB347_351:=n7_;have NB351_347:=n8_;clear n0_ n1_ n2_ n3_ n4_ n5_ n6_ n7_ n8_;clear hb hbox hg;have hnb21:=NB351_347.out;have hnc21:=NB347_351.out;have hcz22_0 : w20.cell? ⟨gb351,0,none⟩ = some (.slice none 0 0):=(blk_cell BK351.out 0).trans rfl;have hcz22_1 : w20.cell? ⟨gb351,1,none⟩ = some (.slice none 0 0):=(blk_cell BK351.out 1).trans rfl;have hfz22_0:=blk_frozen BK351.out 0;have hfz22_1:=blk_frozen BK351.out 1))
    (try simp only [Act.put,List.setIfInBounds_toArray,List.set_cons_zero,List.set_cons_succ])
    go_cut [8] (fun v8 wc => ∃ (kq : Nat) (x8_17 : Int),v8 = .int .i64 x8_17 ∧ Aside0 (humuslaw08_LeafOthers.j1 kq l1 l2 x8_17 l0_0 l0_1 = some r) ∧ Aside0 (kq ≤ kj3) ∧ Aside0 (Kd.V (Kd.int .i64) 3 wc w.heap.size (fun k_ => ((P0_0_ k_ ∨ P0_1_ k_) ∨ w.heap.size ≤ k_) ∧ k_ ≠ gb347 ∧ k_ ≠ gb351) (.slice A0_0 l0_0.length c0_0) l0_0) ∧ Aside0 (Kd.V (Kd.slice 5 (Kd.int .u8)) 22 wc w.heap.size (fun k_ => ((P0_0_ k_ ∨ P0_1_ k_) ∨ w.heap.size ≤ k_) ∧ k_ ≠ gb347 ∧ k_ ≠ gb351) (.slice A0_1 l0_1.length c0_1) l0_1) ∧ Aside0 (Kd.V (Kd.int .i64) 3 wc w.heap.size (fun k_ => ((P0_0_ k_ ∨ P0_1_ k_) ∨ w.heap.size ≤ k_) ∧ k_ ≠ gb347 ∧ k_ ≠ gb351) (.slice A0_0 l0_0.length c0_0) l0_0) ∧ Aside0 (Kd.V (Kd.slice 5 (Kd.int .u8)) 22 wc w.heap.size (fun k_ => ((P0_0_ k_ ∨ P0_1_ k_) ∨ w.heap.size ≤ k_) ∧ k_ ≠ gb347 ∧ k_ ≠ gb351) (.slice A0_1 l0_1.length c0_1) l0_1) ∧ Aside0 (wc.heap[gb347]? = some (.cells #[(.slice A0_0 l0_0.length c0_0),(.slice A0_1 l0_1.length c0_1)] 27 (0,0))) ∧ Aside0 (wc.heap[gb351]? = some (.cells #[(.slice A0_0 l0_0.length c0_0),(.slice A0_1 l0_1.length c0_1)] 27 (0,0))) ∧ Aside0 (Below w.heap.size w wc))
    case first =>
     have H:=HC18.out
     clear HC18
     have H':=Aside0.mk H
     clear H
     go_wp2
     go_meet
     case rel => exact ⟨_,(0),(by first | rfl | (simp;done) | (simp [*];done)),H',⟨by have:=HJ3.out;first | omega | exact Nat.le_refl _⟩,⟨by (with_reducible repeat (first | apply Kd.V_alloc | apply Kd.V_drewN | apply Kd.V_drew));exact Kd.V_mono (Kd.V_far (p:=⟨gb351,1,none⟩) (Kd.V_far (p:=⟨gb351,0,none⟩) (Kd.V_mono HO_348000.out (fun k_ hk => (⟨hk,hk.2⟩ : _ ∧ k_ ≠ gb351))) (fun _ hk => hk.2) (.slice A0_0 l0_0.length c0_0)) (fun _ hk => hk.2) (.slice A0_1 l0_1.length c0_1)) (fun _ hk => ⟨hk.1.1.1,⟨hk.1.1.2,hk.1.2⟩⟩)⟩,⟨by (with_reducible repeat (first | apply Kd.V_alloc | apply Kd.V_drewN | apply Kd.V_drew));exact Kd.V_mono (Kd.V_far (p:=⟨gb351,1,none⟩) (Kd.V_far (p:=⟨gb351,0,none⟩) (Kd.V_mono HO_348001.out (fun k_ hk => (⟨hk,hk.2⟩ : _ ∧ k_ ≠ gb351))) (fun _ hk => hk.2) (.slice A0_0 l0_0.length c0_0)) (fun _ hk => hk.2) (.slice A0_1 l0_1.length c0_1)) (fun _ hk => ⟨hk.1.1.1,⟨hk.1.1.2,hk.1.2⟩⟩)⟩,⟨by (with_reducible repeat (first | apply Kd.V_alloc | apply Kd.V_drewN | apply Kd.V_drew));exact Kd.V_mono (Kd.V_far (p:=⟨gb351,1,none⟩) (Kd.V_far (p:=⟨gb351,0,none⟩) (Kd.V_mono HO_348000.out (fun k_ hk => (⟨hk,hk.2⟩ : _ ∧ k_ ≠ gb351))) (fun _ hk => hk.2) (.slice A0_0 l0_0.length c0_0)) (fun _ hk => hk.2) (.slice A0_1 l0_1.length c0_1)) (fun _ hk => ⟨hk.1.1.1,⟨hk.1.1.2,hk.1.2⟩⟩)⟩,⟨by (with_reducible repeat (first | apply Kd.V_alloc | apply Kd.V_drewN | apply Kd.V_drew));exact Kd.V_mono (Kd.V_far (p:=⟨gb351,1,none⟩) (Kd.V_far (p:=⟨gb351,0,none⟩) (Kd.V_mono HO_348001.out (fun k_ hk => (⟨hk,hk.2⟩ : _ ∧ k_ ≠ gb351))) (fun _ hk => hk.2) (.slice A0_0 l0_0.length c0_0)) (fun _ hk => hk.2) (.slice A0_1 l0_1.length c0_1)) (fun _ hk => ⟨hk.1.1.1,⟨hk.1.1.2,hk.1.2⟩⟩)⟩,⟨by (with_reducible repeat (first | refine blk_drewN ?_ _ | refine blk_drew ?_ | refine blk_alloc ?_ _));refine blk_far ?_ NB347_351.out _;(with_reducible repeat (first | refine blk_drewN ?_ _ | refine blk_drew ?_ | refine blk_alloc ?_ _));refine blk_far ?_ NB347_351.out _;(with_reducible repeat (first | refine blk_drewN ?_ _ | refine blk_drew ?_ | refine blk_alloc ?_ _));exact BK347.out⟩,⟨by (with_reducible repeat (first | refine blk_drewN ?_ _ | refine blk_drew ?_ | refine blk_alloc ?_ _));refine blk_put (cs:=#[.slice A0_0 l0_0.length c0_0,.slice none 0 0]) ?_ 1 _ rfl;(with_reducible repeat (first | refine blk_drewN ?_ _ | refine blk_drew ?_ | refine blk_alloc ?_ _));refine blk_put (cs:=#[.slice none 0 0,.slice none 0 0]) ?_ 0 _ rfl;(with_reducible repeat (first | refine blk_drewN ?_ _ | refine blk_drew ?_ | refine blk_alloc ?_ _));exact BK351.out⟩,⟨by repeat (first | (with_reducible first | exact HB.out | apply below_alloc | apply pw_below_drewN | apply below_drew1 | refine below_set ?_ GE347.out | refine below_set ?_ GE351.out) | exact HB.out)⟩⟩
    case rest =>
     clear HC18
     try clear c1
     try clear c2
     try clear p2
     try clear c4
     try clear c7
     try clear c8
     try clear c12
     try clear c15
     try clear c21
     try clear hcz11_0
     try clear hcz11_1
     try clear hcz13_0
     try clear hcz13_1
     try clear hcz19_0
     try clear hcz19_1
     try clear hcz22_0
     try clear hcz22_1
     try clear hcz9_0
     try clear hcz9_1
     try clear hfz11_0
     try clear hfz11_1
     try clear hfz13_0
     try clear hfz13_1
     try clear hfz19_0
     try clear hfz19_1
     try clear hfz22_0
     try clear hfz22_1
     try clear hfz9_0
     try clear hfz9_1
     try clear p2
     obtain ⟨kq,x8_17,rfl,HA,HJ17,HO_348000,HO_348001,HO_352000,HO_352001,BK347,BK351,HB⟩:=hcut
     cases kq with
     | zero => exact absurd HA.out (by simp [humuslaw08_LeafOthers.j1])
     | succ kj17 =>
      have H:=HA.out
      clear HA
      simp only [humuslaw08_LeafOthers.j1] at H
      have H':=Aside0.mk H
      clear H
      go_wp2
      go_loopg [8] kj17 (fun kq v8 w' => ∃ (x8_3 : Int) (x352000_3 : List Int) (x352001_3 : List (List Int)) (u352000 : Value) (u352001 : Value),v8 = .int .i64 x8_3 ∧ Aside0 (humuslaw08_LeafOthers.l0 kq l1 l2 x8_3 x352000_3 x352001_3 = some r) ∧ Aside0 (kq ≤ kj17) ∧ Aside0 (Kd.V (Kd.int .i64) 3 w' w.heap.size (fun k_ => ((P0_0_ k_ ∨ P0_1_ k_) ∨ w.heap.size ≤ k_) ∧ k_ ≠ gb347 ∧ k_ ≠ gb351) (.slice A0_0 l0_0.length c0_0) l0_0) ∧ Aside0 (Kd.V (Kd.slice 5 (Kd.int .u8)) 22 w' w.heap.size (fun k_ => ((P0_0_ k_ ∨ P0_1_ k_) ∨ w.heap.size ≤ k_) ∧ k_ ≠ gb347 ∧ k_ ≠ gb351) (.slice A0_1 l0_1.length c0_1) l0_1) ∧ Aside0 (Kd.V (Kd.int .i64) 3 w' w.heap.size (fun k_ => ((P0_0_ k_ ∨ P0_1_ k_) ∨ w.heap.size ≤ k_) ∧ k_ ≠ gb347 ∧ k_ ≠ gb351) u352000 x352000_3) ∧ Aside0 (Kd.V (Kd.slice 5 (Kd.int .u8)) 22 w' w.heap.size (fun k_ => ((P0_0_ k_ ∨ P0_1_ k_) ∨ w.heap.size ≤ k_) ∧ k_ ≠ gb347 ∧ k_ ≠ gb351) u352001 x352001_3) ∧ Aside0 (w'.heap[gb347]? = some (.cells #[(.slice A0_0 l0_0.length c0_0),(.slice A0_1 l0_1.length c0_1)] 27 (0,0))) ∧ Aside0 (w'.heap[gb351]? = some (.cells #[u352000,u352001] 27 (0,0))) ∧ Aside0 (Below w.heap.size w w'))
      case atStart => exact ⟨(x8_17),(l0_0),(l0_1),(.slice A0_0 l0_0.length c0_0),(.slice A0_1 l0_1.length c0_1),(by first | rfl | (simp;done) | (simp [*];done)),H',⟨Nat.le_refl _⟩,⟨by (with_reducible repeat (first | apply Kd.V_alloc | apply Kd.V_drewN | apply Kd.V_drew));exact HO_348000.out⟩,⟨by (with_reducible repeat (first | apply Kd.V_alloc | apply Kd.V_drewN | apply Kd.V_drew));exact HO_348001.out⟩,⟨by (with_reducible repeat (first | apply Kd.V_alloc | apply Kd.V_drewN | apply Kd.V_drew));exact HO_352000.out⟩,⟨by (with_reducible repeat (first | apply Kd.V_alloc | apply Kd.V_drewN | apply Kd.V_drew));exact HO_352001.out⟩,⟨by (with_reducible repeat (first | refine blk_drewN ?_ _ | refine blk_drew ?_ | refine blk_alloc ?_ _));exact BK347.out⟩,⟨by (with_reducible repeat (first | refine blk_drewN ?_ _ | refine blk_drew ?_ | refine blk_alloc ?_ _));exact BK351.out⟩,⟨by repeat (first | (with_reducible first | exact HB.out | apply below_alloc | apply pw_below_drewN | apply below_drew1 | refine below_set ?_ GE347.out | refine below_set ?_ GE351.out) | exact HB.out)⟩⟩
      case round =>
       clear H'
       try clear c1
       try clear c2
       try clear p2
       try clear c4
       try clear c7
       try clear c8
       try clear c12
       try clear c15
       try clear c21
       try clear hcz11_0
       try clear hcz11_1
       try clear hcz13_0
       try clear hcz13_1
       try clear hcz19_0
       try clear hcz19_1
       try clear hcz22_0
       try clear hcz22_1
       try clear hcz9_0
       try clear hcz9_1
       try clear hfz11_0
       try clear hfz11_1
       try clear hfz13_0
       try clear hfz13_1
       try clear hfz19_0
       try clear hfz19_1
       try clear hfz22_0
       try clear hfz22_1
       try clear hfz9_0
       try clear hfz9_1
       try clear p2
       obtain ⟨x8_3,x352000_3,x352001_3,u352000,u352001,rfl,HA,HK3,HO_348000,HO_348001,HO_352000,HO_352001,BK347,BK351,HB⟩:=hrel
       cases gk with
       | zero => exact absurd HA.out (by simp [humuslaw08_LeafOthers.l0])
       | succ k3 =>
        have H:=HA.out
        clear HA
        simp only [humuslaw08_LeafOthers.l0] at H
        have HC23:=Aside0.mk H
        clear H
        go_upto_region 5 with (fail)
        go_cut [36] (fun v36 wc => ∃ (kq : Nat) (x36_22 : Bool),v36 = .bool x36_22 ∧ Aside0 (humuslaw08_LeafOthers.j3 kq l1 l2 x8_3 x36_22 x352000_3 x352001_3 = some r) ∧ Aside0 (kq ≤ k3) ∧ Aside0 (Kd.V (Kd.int .i64) 3 wc w.heap.size (fun k_ => ((P0_0_ k_ ∨ P0_1_ k_) ∨ w.heap.size ≤ k_) ∧ k_ ≠ gb347 ∧ k_ ≠ gb351) (.slice A0_0 l0_0.length c0_0) l0_0) ∧ Aside0 (Kd.V (Kd.slice 5 (Kd.int .u8)) 22 wc w.heap.size (fun k_ => ((P0_0_ k_ ∨ P0_1_ k_) ∨ w.heap.size ≤ k_) ∧ k_ ≠ gb347 ∧ k_ ≠ gb351) (.slice A0_1 l0_1.length c0_1) l0_1) ∧ Aside0 (Kd.V (Kd.int .i64) 3 wc w.heap.size (fun k_ => ((P0_0_ k_ ∨ P0_1_ k_) ∨ w.heap.size ≤ k_) ∧ k_ ≠ gb347 ∧ k_ ≠ gb351) u352000 x352000_3) ∧ Aside0 (Kd.V (Kd.slice 5 (Kd.int .u8)) 22 wc w.heap.size (fun k_ => ((P0_0_ k_ ∨ P0_1_ k_) ∨ w.heap.size ≤ k_) ∧ k_ ≠ gb347 ∧ k_ ≠ gb351) u352001 x352001_3) ∧ Aside0 (wc.heap[gb347]? = some (.cells #[(.slice A0_0 l0_0.length c0_0),(.slice A0_1 l0_1.length c0_1)] 27 (0,0))) ∧ Aside0 (wc.heap[gb351]? = some (.cells #[u352000,u352001] 27 (0,0))) ∧ Aside0 (Below w.heap.size w wc))
        case first =>
         have H:=HC23.out
         clear HC23
         by_cases c24 : x8_3 < (l1.length : Int)
         ·rw [if_pos c24] at H
          have c24b0 : decide (x8_3 < (l1.length : Int)) = true:=decide_eq_true c24
          clear c24
          (first | rw [c24b0] | (simp only [i64_w,i32_w];rw [c24b0]) | skip)
          by_cases c25 : x8_3 < (l2.length : Int)
          ·rw [if_pos c25] at H
           have c25b0 : decide (x8_3 < (l2.length : Int)) = true:=decide_eq_true c25
           clear c25
           have H':=Aside0.mk H
           clear H
           go_wp2
           go_meet
           case rel => exact ⟨_,(decide (x8_3 < 40)),(by first | rfl | (simp;done) | (simp [*];done)),H',⟨by have:=HJ3.out;have:=HJ17.out;have:=HK3.out;first | omega | exact Nat.le_refl _⟩,⟨by (with_reducible repeat (first | apply Kd.V_alloc | apply Kd.V_drewN | apply Kd.V_drew));exact HO_348000.out⟩,⟨by (with_reducible repeat (first | apply Kd.V_alloc | apply Kd.V_drewN | apply Kd.V_drew));exact HO_348001.out⟩,⟨by (with_reducible repeat (first | apply Kd.V_alloc | apply Kd.V_drewN | apply Kd.V_drew));exact HO_352000.out⟩,⟨by (with_reducible repeat (first | apply Kd.V_alloc | apply Kd.V_drewN | apply Kd.V_drew));exact HO_352001.out⟩,⟨by (with_reducible repeat (first | refine blk_drewN ?_ _ | refine blk_drew ?_ | refine blk_alloc ?_ _));exact BK347.out⟩,⟨by (with_reducible repeat (first | refine blk_drewN ?_ _ | refine blk_drew ?_ | refine blk_alloc ?_ _));exact BK351.out⟩,⟨by repeat (first | (with_reducible first | exact HB.out | apply below_alloc | apply pw_below_drewN | apply below_drew1 | refine below_set ?_ GE347.out | refine below_set ?_ GE351.out) | exact HB.out)⟩⟩
          ·rw [if_neg c25] at H
           have c25b0 : decide (x8_3 < (l2.length : Int)) = false:=decide_eq_false c25
           clear c25
           have H':=Aside0.mk H
           clear H
           go_wp2
           go_meet
           case rel => exact ⟨_,(false),(by first | rfl | (simp;done) | (simp [*];done)),H',⟨by have:=HJ3.out;have:=HJ17.out;have:=HK3.out;first | omega | exact Nat.le_refl _⟩,⟨by (with_reducible repeat (first | apply Kd.V_alloc | apply Kd.V_drewN | apply Kd.V_drew));exact HO_348000.out⟩,⟨by (with_reducible repeat (first | apply Kd.V_alloc | apply Kd.V_drewN | apply Kd.V_drew));exact HO_348001.out⟩,⟨by (with_reducible repeat (first | apply Kd.V_alloc | apply Kd.V_drewN | apply Kd.V_drew));exact HO_352000.out⟩,⟨by (with_reducible repeat (first | apply Kd.V_alloc | apply Kd.V_drewN | apply Kd.V_drew));exact HO_352001.out⟩,⟨by (with_reducible repeat (first | refine blk_drewN ?_ _ | refine blk_drew ?_ | refine blk_alloc ?_ _));exact BK347.out⟩,⟨by (with_reducible repeat (first | refine blk_drewN ?_ _ | refine blk_drew ?_ | refine blk_alloc ?_ _));exact BK351.out⟩,⟨by repeat (first | (with_reducible first | exact HB.out | apply below_alloc | apply pw_below_drewN | apply below_drew1 | refine below_set ?_ GE347.out | refine below_set ?_ GE351.out) | exact HB.out)⟩⟩
         ·rw [if_neg c24] at H
          have c24b0 : decide (x8_3 < (l1.length : Int)) = false:=decide_eq_false c24
          clear c24
          (first | rw [c24b0] | (simp only [i64_w,i32_w];rw [c24b0]) | skip)
          have H':=Aside0.mk H
          clear H
          go_wp2
          go_meet
          case rel => exact ⟨_,(false),(by first | rfl | (simp;done) | (simp [*];done)),H',⟨by have:=HJ3.out;have:=HJ17.out;have:=HK3.out;first | omega | exact Nat.le_refl _⟩,⟨by (with_reducible repeat (first | apply Kd.V_alloc | apply Kd.V_drewN | apply Kd.V_drew));exact HO_348000.out⟩,⟨by (with_reducible repeat (first | apply Kd.V_alloc | apply Kd.V_drewN | apply Kd.V_drew));exact HO_348001.out⟩,⟨by (with_reducible repeat (first | apply Kd.V_alloc | apply Kd.V_drewN | apply Kd.V_drew));exact HO_352000.out⟩,⟨by (with_reducible repeat (first | apply Kd.V_alloc | apply Kd.V_drewN | apply Kd.V_drew));exact HO_352001.out⟩,⟨by (with_reducible repeat (first | refine blk_drewN ?_ _ | refine blk_drew ?_ | refine blk_alloc ?_ _));exact BK347.out⟩,⟨by (with_reducible repeat (first | refine blk_drewN ?_ _ | refine blk_drew ?_ | refine blk_alloc ?_ _));exact BK351.out⟩,⟨by repeat (first | (with_reducible first | exact HB.out | apply below_alloc | apply pw_below_drewN | apply below_drew1 | refine below_set ?_ GE347.out | refine below_set ?_ GE351.out) | exact HB.out)⟩⟩
        case rest =>
         clear HC23
         try clear c1
         try clear c2
         try clear p2
         try clear c4
         try clear c7
         try clear c8
         try clear c12
         try clear c15
         try clear c21
         try clear c24
         try clear c24b0
         try clear c25
         try clear c25b0
         try clear hcz11_0
         try clear hcz11_1
         try clear hcz13_0
         try clear hcz13_1
         try clear hcz19_0
         try clear hcz19_1
         try clear hcz22_0
         try clear hcz22_1
         try clear hcz9_0
         try clear hcz9_1
         try clear hfz11_0
         try clear hfz11_1
         try clear hfz13_0
         try clear hfz13_1
         try clear hfz19_0
         try clear hfz19_1
         try clear hfz22_0
         try clear hfz22_1
         try clear hfz9_0
         try clear hfz9_1
         try clear p2
         obtain ⟨kq,x36_22,rfl,HA,HJ22,HO_348000,HO_348001,HO_352000,HO_352001,BK347,BK351,HB⟩:=hcut
         cases kq with
         | zero => exact absurd HA.out (by simp [humuslaw08_LeafOthers.j3])
         | succ kj22 =>
          have H:=HA.out
          clear HA
          simp only [humuslaw08_LeafOthers.j3] at H
          by_cases c26 : x36_22 = true
          ·subst c26
           have H1 : (if 0 ≤ x8_3 then (if x8_3 < (l1.length : Int) then (if ((rd_L2 l1 x8_3).length : Int) > 300 then (humuslaw08_LeafOthers.j4 kj22 l1 l2 (wrap64 (x8_3 + 1)) x352000_3 x352001_3) else (if x8_3 < (l2.length : Int) then (if (Int.tmod (rd l2 x8_3) 3) = 0 then ((leaf_Set.f kj22 x352000_3 x352001_3 (((Int.tdiv (rd l2 x8_3) 3) % 256) % 66) (rd_L2 l1 x8_3)).bind fun bt358 => (humuslaw08_LeafOthers.j6 kj22 l1 l2 x8_3 (((Int.tdiv (rd l2 x8_3) 3) % 256) % 66) bt358.2.2 x352000_3 x352001_3 bt358.1 bt358.2.1)) else (humuslaw08_LeafOthers.j5 kj22 l1 l2 x8_3 (((Int.tdiv (rd l2 x8_3) 3) % 256) % 66) ((Int.tmod (rd l2 x8_3) 3) == 1) x352000_3 x352001_3)) else (none))) else (none)) else (none)) = some r:=by rw [if_pos rfl] at H;exact H
           clear H
           have H:=H1
           clear H1
           by_cases c27 : 0 ≤ x8_3
           ·rw [if_pos c27] at H
            have c27b0 : decide (0 ≤ x8_3) = true:=decide_eq_true c27
            clear c27
            by_cases c28 : x8_3 < (l1.length : Int)
            ·rw [if_pos c28] at H
             have c28b0 : decide (x8_3 < (l1.length : Int)) = true:=decide_eq_true c28
             clear c28
             by_cases c29 : ((rd_L2 l1 x8_3).length : Int) > 300
             ·rw [if_pos c29] at H
              have c29b0 : decide (300 < ((rd_L2 l1 x8_3).length : Int)) = true:=decide_eq_true c29
              have c29b1 : decide (300 < (rd_L2 l1 x8_3).length) = true:=decide_eq_true (by omega)
              clear c29
              have HC30:=Aside0.mk H
              clear H
              have p353 : 0 ≤ (x8_3 : Int):=of_decide_eq_true (by first | (with_reducible assumption) | assumption)
              have q353 : x8_3 < (l1.length : Int):=of_decide_eq_true (by first | (with_reducible assumption) | assumption)
              obtain ⟨ad353,A353_0,c353_0,e353,hx353_0,hl353_0,hi353_0⟩:=at_L2 HR1.out x8_3 p353 q353
              cases e353
              replace hx353_0:=(HB.out.cell (World.block_lt_of_cell? w _ hx353_0)).trans hx353_0
              have HR353_0:=Aside0.mk hi353_0
              have HC353_0:=Aside0.mk hl353_0
              clear hi353_0 hl353_0
              replace p353:=eq_true p353
              replace q353:=eq_true q353
              go_upto_region 6 with (fail)
              go_cut [8] (fun v8 wc => ∃ (kq : Nat) (x8_29 : Int),v8 = .int .i64 x8_29 ∧ Aside0 (humuslaw08_LeafOthers.j4 kq l1 l2 x8_29 x352000_3 x352001_3 = some r) ∧ Aside0 (kq ≤ kj22) ∧ Aside0 (Kd.V (Kd.int .i64) 3 wc w.heap.size (fun k_ => ((P0_0_ k_ ∨ P0_1_ k_) ∨ w.heap.size ≤ k_) ∧ k_ ≠ gb347 ∧ k_ ≠ gb351) (.slice A0_0 l0_0.length c0_0) l0_0) ∧ Aside0 (Kd.V (Kd.slice 5 (Kd.int .u8)) 22 wc w.heap.size (fun k_ => ((P0_0_ k_ ∨ P0_1_ k_) ∨ w.heap.size ≤ k_) ∧ k_ ≠ gb347 ∧ k_ ≠ gb351) (.slice A0_1 l0_1.length c0_1) l0_1) ∧ Aside0 (Kd.V (Kd.int .i64) 3 wc w.heap.size (fun k_ => ((P0_0_ k_ ∨ P0_1_ k_) ∨ w.heap.size ≤ k_) ∧ k_ ≠ gb347 ∧ k_ ≠ gb351) u352000 x352000_3) ∧ Aside0 (Kd.V (Kd.slice 5 (Kd.int .u8)) 22 wc w.heap.size (fun k_ => ((P0_0_ k_ ∨ P0_1_ k_) ∨ w.heap.size ≤ k_) ∧ k_ ≠ gb347 ∧ k_ ≠ gb351) u352001 x352001_3) ∧ Aside0 (wc.heap[gb347]? = some (.cells #[(.slice A0_0 l0_0.length c0_0),(.slice A0_1 l0_1.length c0_1)] 27 (0,0))) ∧ Aside0 (wc.heap[gb351]? = some (.cells #[u352000,u352001] 27 (0,0))) ∧ Aside0 (Below w.heap.size w wc))
              case first =>
               have H:=HC30.out
               clear HC30
               have H':=Aside0.mk H
               clear H
               go_wp2
               go_meet
               case rel => exact ⟨_,(wrap64 (x8_3 + 1)),(by first | rfl | (simp;done) | (simp [*];done)),H',⟨by have:=HJ3.out;have:=HJ17.out;have:=HK3.out;have:=HJ22.out;first | omega | exact Nat.le_refl _⟩,⟨by (with_reducible repeat (first | apply Kd.V_alloc | apply Kd.V_drewN | apply Kd.V_drew));exact HO_348000.out⟩,⟨by (with_reducible repeat (first | apply Kd.V_alloc | apply Kd.V_drewN | apply Kd.V_drew));exact HO_348001.out⟩,⟨by (with_reducible repeat (first | apply Kd.V_alloc | apply Kd.V_drewN | apply Kd.V_drew));exact HO_352000.out⟩,⟨by (with_reducible repeat (first | apply Kd.V_alloc | apply Kd.V_drewN | apply Kd.V_drew));exact HO_352001.out⟩,⟨by (with_reducible repeat (first | refine blk_drewN ?_ _ | refine blk_drew ?_ | refine blk_alloc ?_ _));exact BK347.out⟩,⟨by (with_reducible repeat (first | refine blk_drewN ?_ _ | refine blk_drew ?_ | refine blk_alloc ?_ _));exact BK351.out⟩,⟨by repeat (first | (with_reducible first | exact HB.out | apply below_alloc | apply pw_below_drewN | apply below_drew1 | refine below_set ?_ GE347.out | refine below_set ?_ GE351.out) | exact HB.out)⟩⟩
              case rest =>
               clear HC30
               try clear c1
               try clear c2
               try clear p2
               try clear c3
               try clear p3
               try clear q3
               try clear hx3
               try clear c4
               try clear p6
               try clear c7
               try clear c8
               try clear c12
               try clear c15
               try clear c21
               try clear c24
               try clear c24b0
               try clear c25
               try clear c25b0
               try clear c26
               try clear c27
               try clear c27b0
               try clear c28
               try clear c28b0
               try clear c29
               try clear c29b0
               try clear c29b1
               try clear hcz11_0
               try clear hcz11_1
               try clear hcz13_0
               try clear hcz13_1
               try clear hcz19_0
               try clear hcz19_1
               try clear hcz22_0
               try clear hcz22_1
               try clear hcz9_0
               try clear hcz9_1
               try clear hfz11_0
               try clear hfz11_1
               try clear hfz13_0
               try clear hfz13_1
               try clear hfz19_0
               try clear hfz19_1
               try clear hfz22_0
               try clear hfz22_1
               try clear hfz9_0
               try clear hfz9_1
               try clear hx353_0
               try clear p2
               try clear p353
               try clear q353
               obtain ⟨kq,x8_29,rfl,HA,HJ29,HO_348000,HO_348001,HO_352000,HO_352001,BK347,BK351,HB⟩:=hcut
               cases kq with
               | zero => exact absurd HA.out (by simp [humuslaw08_LeafOthers.j4])
               | succ kj29 =>
                have H:=HA.out
                clear HA
                simp only [humuslaw08_LeafOthers.j4] at H
                have H':=Aside0.mk H
                clear H
                go_wp2
                go_roundg kj29
                case measure => have:=HJ3.out;have:=HJ17.out;have:=HK3.out;have:=HJ22.out;have:=HJ29.out;omega
                case rel => exact ⟨(x8_29),(x352000_3),(x352001_3),(u352000),(u352001),(by first | rfl | (simp;done) | (simp [*];done)),H',⟨by have:=HJ3.out;have:=HJ17.out;have:=HK3.out;have:=HJ22.out;have:=HJ29.out;omega⟩,⟨by (with_reducible repeat (first | apply Kd.V_alloc | apply Kd.V_drewN | apply Kd.V_drew));exact HO_348000.out⟩,⟨by (with_reducible repeat (first | apply Kd.V_alloc | apply Kd.V_drewN | apply Kd.V_drew));exact HO_348001.out⟩,⟨by (with_reducible repeat (first | apply Kd.V_alloc | apply Kd.V_drewN | apply Kd.V_drew));exact HO_352000.out⟩,⟨by (with_reducible repeat (first | apply Kd.V_alloc | apply Kd.V_drewN | apply Kd.V_drew));exact HO_352001.out⟩,⟨by (with_reducible repeat (first | refine blk_drewN ?_ _ | refine blk_drew ?_ | refine blk_alloc ?_ _));exact BK347.out⟩,⟨by (with_reducible repeat (first | refine blk_drewN ?_ _ | refine blk_drew ?_ | refine blk_alloc ?_ _));exact BK351.out⟩,⟨by repeat (first | (with_reducible first | exact HB.out | apply below_alloc | apply pw_below_drewN | apply below_drew1 | refine below_set ?_ GE347.out | refine below_set ?_ GE351.out) | exact HB.out)⟩⟩
             ·rw [if_neg c29] at H
              have c29b0 : decide (300 < ((rd_L2 l1 x8_3).length : Int)) = false:=decide_eq_false c29
              have c29b1 : decide (300 < (rd_L2 l1 x8_3).length) = false:=decide_eq_false (by omega)
              clear c29
              by_cases c31 : x8_3 < (l2.length : Int)
              ·rw [if_pos c31] at H
               have c31b0 : decide (x8_3 < (l2.length : Int)) = true:=decide_eq_true c31
               clear c31
               have HC32:=Aside0.mk H
               clear H
               have p353 : 0 ≤ (x8_3 : Int):=of_decide_eq_true (by first | (with_reducible assumption) | assumption)
               have q353 : x8_3 < (l1.length : Int):=of_decide_eq_true (by first | (with_reducible assumption) | assumption)
               obtain ⟨ad353,A353_0,c353_0,e353,hx353_0,hl353_0,hi353_0⟩:=at_L2 HR1.out x8_3 p353 q353
               cases e353
               replace hx353_0:=(HB.out.cell (World.block_lt_of_cell? w _ hx353_0)).trans hx353_0
               have HR353_0:=Aside0.mk hi353_0
               have HC353_0:=Aside0.mk hl353_0
               clear hi353_0 hl353_0
               replace p353:=eq_true p353
               replace q353:=eq_true q353
               have p354 : 0 ≤ (x8_3 : Int):=of_decide_eq_true (by first | (with_reducible assumption) | assumption)
               have q354 : x8_3 < (l2.length : Int):=of_decide_eq_true (by first | (with_reducible assumption) | assumption)
               obtain ⟨ad354,e354,hx354_0⟩:=Kd.at_int HR2.out x8_3 p354 q354
               cases e354
               replace hx354_0:=(HB.out.cell (World.block_lt_of_cell? w _ hx354_0)).trans hx354_0
               replace p354:=eq_true p354
               replace q354:=eq_true q354
               have hnb33:=NB351_347.out
               have hnc33:=NB347_351.out
               have hcz34_0 : wc.cell? ⟨gb351,0,none⟩ = some (u352000):=(blk_cell BK351.out 0).trans rfl
               have hcz34_1 : wc.cell? ⟨gb351,1,none⟩ = some (u352001):=(blk_cell BK351.out 1).trans rfl
               have hfz34_0:=blk_frozen BK351.out 0
               have hfz34_1:=blk_frozen BK351.out 1
               go_upto_block 2 with (first | ((with_reducible refine gate_dst (N:=10) rfl ?_);(try (refine gate_guard (by rfl) ?_;dsimp only));refine box_event ?hg (N:=10) ?hd (cs:=#[.slice none 0 0,.slice none 0 0]) (t:=27) ?hr ?_;(case hd => rfl);(case hg => rfl);(case hr => first | (go_simp;done) | (go_simp;rfl));intro gb355 hg w35 hbox hb;have n0_:=Aside0.mk (Kd.V_below (Kd.V_elderB (by (with_reducible repeat (first | apply Kd.V_alloc | apply Kd.V_drewN | apply Kd.V_drew));exact HO_348000.out) gb355 (Nat.le_of_eq hg.symm)) hb);have n1_:=Aside0.mk (Kd.V_below (Kd.V_elderB (by (with_reducible repeat (first | apply Kd.V_alloc | apply Kd.V_drewN | apply Kd.V_drew));exact HO_348001.out) gb355 (Nat.le_of_eq hg.symm)) hb);have n2_:=Aside0.mk (Kd.V_below (Kd.V_elderB (by (with_reducible repeat (first | apply Kd.V_alloc | apply Kd.V_drewN | apply Kd.V_drew));exact HO_352000.out) gb355 (Nat.le_of_eq hg.symm)) hb);have n3_:=Aside0.mk (Kd.V_below (Kd.V_elderB (by (with_reducible repeat (first | apply Kd.V_alloc | apply Kd.V_drewN | apply Kd.V_drew));exact HO_352001.out) gb355 (Nat.le_of_eq hg.symm)) hb);have n4_:=Aside0.mk (blk_below (g:=gb347) (o:=.cells #[.slice A0_0 l0_0.length c0_0,.slice A0_1 l0_1.length c0_1] 27 (0,0)) (by (with_reducible repeat (first | refine blk_drewN ?_ _ | refine blk_drew ?_ | refine blk_alloc ?_ _));exact BK347.out) hb);have n5_:=Aside0.mk (blk_below (g:=gb351) (o:=.cells #[u352000,u352001] 27 (0,0)) (by (with_reducible repeat (first | refine blk_drewN ?_ _ | refine blk_drew ?_ | refine blk_alloc ?_ _));exact BK351.out) hb);have n6_:=Aside0.mk (below_step (by repeat (first | (with_reducible first | exact HB.out | apply below_alloc | apply pw_below_drewN | apply below_drew1 | refine below_set ?_ GE347.out | refine below_set ?_ GE351.out) | exact HB.out)) hb);have n7_:=Aside0.mk (hbox);have n8_:=Aside0.mk ((by rw [hg];exact (below_size (by repeat (first | (with_reducible first | exact HB.out | apply below_alloc | apply pw_below_drewN | apply below_drew1 | refine below_set ?_ GE347.out | refine below_set ?_ GE351.out) | exact HB.out))) : w.heap.size ≤ gb355));have n9_:=Aside0.mk ((by rw [hg];exact (below_size (by repeat (first | (with_reducible first | exact HB.out | apply below_alloc | apply pw_below_drewN | apply below_drew1 | refine below_set ?_ GE347.out | refine below_set ?_ GE351.out) | exact HB.out))) : w.heap.size ≤ gb355));have n10_:=Aside0.mk ((by rw [hg];exact Nat.ne_of_lt (blk_lt (g:=gb347) (o:=.cells #[.slice A0_0 l0_0.length c0_0,.slice A0_1 l0_1.length c0_1] 27 (0,0)) (by (with_reducible repeat (first | refine blk_drewN ?_ _ | refine blk_drew ?_ | refine blk_alloc ?_ _));exact BK347.out)) : gb347 ≠ gb355));have n11_:=Aside0.mk ((by rw [hg];exact Nat.ne_of_gt (blk_lt (g:=gb347) (o:=.cells #[.slice A0_0 l0_0.length c0_0,.slice A0_1 l0_1.length c0_1] 27 (0,0)) (by (with_reducible repeat (first | refine blk_drewN ?_ _ | refine blk_drew ?_ | refine blk_alloc ?_ _));exact BK347.out)) : gb355 ≠ gb347));have n12_:=Aside0.mk ((by rw [hg];exact Nat.ne_of_lt (blk_lt (g:=gb351) (o:=.cells #[u352000,u352001] 27 (0,0)) (by (with_reducible repeat (first | refine blk_drewN ?_ _ | refine blk_drew ?_ | refine blk_alloc ?_ _));exact BK351.out)) : gb351 ≠ gb355));have n13_:=Aside0.mk ((by rw [hg];exact Nat.ne_of_gt (blk_lt (g:=gb351) (o:=.cells #[u352000,u352001] 27 (0,0)) (by (with_reducible repeat (first | refine blk_drewN ?_ _ | refine blk_drew ?_ | refine blk_alloc ?_ _));exact BK351.out)) : gb355 ≠ gb351));clear HO_348000;clear HO_348001;clear HO_352000;clear HO_352001;clear BK347;clear BK351;clear HB;have HO_348000:=n0_;have HO_348001:=n1_;have HO_352000:=n2_;have HO_352001:=n3_;have BK347:=n4_;have BK351:=n5_;have HB:=n6_;have BK355:=n7_;have GW355:=n8_;have GE355:=n9_;have NB347_355:=n10_;have NB355_347:=n11_;have NB351_355:=n12_;have NB355_351:=n13_;clear n0_ n1_ n2_ n3_ n4_ n5_ n6_ n7_ n8_ n9_ n10_ n11_ n12_ n13_;clear hb hbox hg;obtain ⟨Ao36,co36,eo36⟩:=Kd.V_slice HO_352000.out;subst eo36;have hnb37:=NB355_347.out;have hnc37:=NB347_355.out;have hnb38:=NB355_351.out;have hnc38:=NB351_355.out;have hcz39_0 : w35.cell? ⟨gb355,0,none⟩ = some (.slice none 0 0):=(blk_cell BK355.out 0).trans rfl;have hcz39_1 : w35.cell? ⟨gb355,1,none⟩ = some (.slice none 0 0):=(blk_cell BK355.out 1).trans rfl;have hfz39_0:=blk_frozen BK355.out 0;have hfz39_1:=blk_frozen BK355.out 1;obtain ⟨Ao40,co40,eo40⟩:=Kd.V_slice HO_352001.out;subst eo40;have p356 : 0 ≤ (x8_3 : Int):=of_decide_eq_true (by first | (with_reducible assumption) | assumption);have q356 : x8_3 < (l2.length : Int):=of_decide_eq_true (by first | (with_reducible assumption) | assumption);obtain ⟨ad356,e356,hx356_0⟩:=Kd.at_int HR2.out x8_3 p356 q356;obtain rfl : ad354 = ad356:=(by injection e356);have hn356_0 : ad354.block ≠ gb355:=Nat.ne_of_lt (Nat.lt_of_lt_of_le (by have:=World.block_lt_of_cell? _ _ hx356_0;first | rwa [add_block] at this | exact this) GW355.out);have hn356_1 : ad354.block ≠ gb355:=Nat.ne_of_lt (Nat.lt_of_lt_of_le (by have:=World.block_lt_of_cell? _ _ hx356_0;first | rwa [add_block] at this | exact this) GW355.out);replace hx356_0:=(HB.out.cell (World.block_lt_of_cell? w _ hx356_0)).trans hx356_0;replace hx356_0:=(cell_far (p:=⟨gb355,0,none⟩) (by first | (rw [add_block];exact hn356_0) | (show (Addr.add _ _).block ≠ _;rw [add_block];exact hn356_0) | exact hn356_0) (.slice Ao36 x352000_3.length co36)).trans hx356_0;replace hx356_0:=(cell_far (p:=⟨gb355,1,none⟩) (by first | (rw [add_block];exact hn356_1) | (show (Addr.add _ _).block ≠ _;rw [add_block];exact hn356_1) | exact hn356_1) (.slice Ao40 x352001_3.length co40)).trans hx356_0;clear hn356_0;clear hn356_1;replace p356:=eq_true p356;replace q356:=eq_true q356))
               (try simp only [Act.put,List.setIfInBounds_toArray,List.set_cons_zero,List.set_cons_succ])
               go_cut [9,11] (fun v9 v11 wc => ∃ (kq : Nat) (x9_31 : Int) (x11_31 : Int) (x356000_31 : List Int) (x356001_31 : List (List Int)) (u356000 : Value) (u356001 : Value),v9 = .int .i64 x9_31 ∧ v11 = .int .i64 x11_31 ∧ Aside0 (humuslaw08_LeafOthers.j6 kq l1 l2 x8_3 x9_31 x11_31 x352000_3 x352001_3 x356000_31 x356001_31 = some r) ∧ Aside0 (kq ≤ kj22) ∧ Aside0 (Kd.V (Kd.int .i64) 3 wc w.heap.size (fun k_ => ((P0_0_ k_ ∨ P0_1_ k_) ∨ w.heap.size ≤ k_) ∧ some k_ ≠ (u356000 : Value).ownBlock ∧ k_ ≠ gb347 ∧ k_ ≠ gb351 ∧ k_ ≠ gb355) (.slice A0_0 l0_0.length c0_0) l0_0) ∧ Aside0 (Kd.V (Kd.slice 5 (Kd.int .u8)) 22 wc w.heap.size (fun k_ => ((P0_0_ k_ ∨ P0_1_ k_) ∨ w.heap.size ≤ k_) ∧ some k_ ≠ (u356000 : Value).ownBlock ∧ k_ ≠ gb347 ∧ k_ ≠ gb351 ∧ k_ ≠ gb355) (.slice A0_1 l0_1.length c0_1) l0_1) ∧ Aside0 (Kd.V (Kd.int .i64) 3 wc w.heap.size (fun k_ => ((P0_0_ k_ ∨ P0_1_ k_) ∨ w.heap.size ≤ k_) ∧ k_ ≠ gb347 ∧ k_ ≠ gb351 ∧ k_ ≠ gb355) (.slice Ao36 x352000_3.length co36) x352000_3) ∧ Aside0 (Kd.V (Kd.slice 5 (Kd.int .u8)) 22 wc w.heap.size (fun k_ => ((P0_0_ k_ ∨ P0_1_ k_) ∨ w.heap.size ≤ k_) ∧ some k_ ≠ (u356000 : Value).ownBlock ∧ k_ ≠ gb347 ∧ k_ ≠ gb351 ∧ k_ ≠ gb355) (.slice Ao40 x352001_3.length co40) x352001_3) ∧ Aside0 (Kd.R (Kd.int .i64) 3 wc w.heap.size (fun k_ => (w.heap.size ≤ k_)) u356000 x356000_31) ∧ Aside0 (Kd.V (Kd.slice 5 (Kd.int .u8)) 22 wc w.heap.size (fun k_ => ((P0_0_ k_ ∨ P0_1_ k_) ∨ w.heap.size ≤ k_) ∧ some k_ ≠ (u356000 : Value).ownBlock ∧ k_ ≠ gb347 ∧ k_ ≠ gb351 ∧ k_ ≠ gb355) u356001 x356001_31) ∧ Aside0 (wc.heap[gb347]? = some (.cells #[(.slice A0_0 l0_0.length c0_0),(.slice A0_1 l0_1.length c0_1)] 27 (0,0))) ∧ Aside0 (wc.heap[gb351]? = some (.cells #[(.slice Ao36 x352000_3.length co36),(.slice Ao40 x352001_3.length co40)] 27 (0,0))) ∧ Aside0 (wc.heap[gb355]? = some (.cells #[u356000,u356001] 27 (0,0))) ∧ Aside0 (Below w.heap.size w wc))
               case first =>
                have H:=HC32.out
                clear HC32
                by_cases c41 : (Int.tmod (rd l2 x8_3) 3) = 0
                ·rw [if_pos c41] at H
                 have c41b0 : ((Int.tmod (rd l2 x8_3) 3) == 0) = true:=beq_iff_eq.mpr c41
                 have c41b1 : ((Int.tmod (rd l2 x8_3) 3) != 0) = false:=bne_eq_false_iff_eq.mpr c41
                 clear c41
                 (first | rw [c41b0] | (simp only [i64_w,i32_w];rw [c41b0]) | skip)
                 replace H:=Option.bind_eq_some_iff.mp H
                 obtain ⟨⟨t358,t361,t364⟩,A420,H⟩:=H
                 replace H : (humuslaw08_LeafOthers.j6 kj22 l1 l2 x8_3 (((Int.tdiv (rd l2 x8_3) 3) % 256) % 66) t364 x352000_3 x352001_3 t358 t361) = some r:=H
                 have A42:=Aside0.mk A420
                 clear A420
                 have H':=Aside0.mk H
                 clear H
                 try go_wp2
                 have n0_ : Aside0 (Kd.V (Kd.int .i64) 3 ((w35.setCell ⟨gb355,0,none⟩ (.slice Ao36 x352000_3.length co36)).setCell ⟨gb355,1,none⟩ (.slice Ao40 x352001_3.length co40)) w.heap.size (fun k_ => ((P0_0_ k_ ∨ P0_1_ k_) ∨ w.heap.size ≤ k_) ∧ k_ ≠ gb347 ∧ k_ ≠ gb351 ∧ k_ ≠ gb355) (.slice A0_0 l0_0.length c0_0) l0_0):=⟨by (with_reducible repeat (first | apply Kd.V_alloc | apply Kd.V_drewN | apply Kd.V_drew));exact Kd.V_mono (Kd.V_far (p:=⟨gb355,1,none⟩) (Kd.V_far (p:=⟨gb355,0,none⟩) (Kd.V_mono HO_348000.out (fun k_ hk => (⟨hk,hk.2⟩ : _ ∧ k_ ≠ gb355))) (fun _ hk => hk.2) (.slice Ao36 x352000_3.length co36)) (fun _ hk => hk.2) (.slice Ao40 x352001_3.length co40)) (fun _ hk => ⟨hk.1.1.1,⟨hk.1.1.2.1,⟨hk.1.1.2.2,hk.1.2⟩⟩⟩)⟩
                 have n1_ : Aside0 (Kd.V (Kd.slice 5 (Kd.int .u8)) 22 ((w35.setCell ⟨gb355,0,none⟩ (.slice Ao36 x352000_3.length co36)).setCell ⟨gb355,1,none⟩ (.slice Ao40 x352001_3.length co40)) w.heap.size (fun k_ => ((P0_0_ k_ ∨ P0_1_ k_) ∨ w.heap.size ≤ k_) ∧ k_ ≠ gb347 ∧ k_ ≠ gb351 ∧ k_ ≠ gb355) (.slice A0_1 l0_1.length c0_1) l0_1):=⟨by (with_reducible repeat (first | apply Kd.V_alloc | apply Kd.V_drewN | apply Kd.V_drew));exact Kd.V_mono (Kd.V_far (p:=⟨gb355,1,none⟩) (Kd.V_far (p:=⟨gb355,0,none⟩) (Kd.V_mono HO_348001.out (fun k_ hk => (⟨hk,hk.2⟩ : _ ∧ k_ ≠ gb355))) (fun _ hk => hk.2) (.slice Ao36 x352000_3.length co36)) (fun _ hk => hk.2) (.slice Ao40 x352001_3.length co40)) (fun _ hk => ⟨hk.1.1.1,⟨hk.1.1.2.1,⟨hk.1.1.2.2,hk.1.2⟩⟩⟩)⟩
                 have n2_ : Aside0 (Kd.V (Kd.int .i64) 3 ((w35.setCell ⟨gb355,0,none⟩ (.slice Ao36 x352000_3.length co36)).setCell ⟨gb355,1,none⟩ (.slice Ao40 x352001_3.length co40)) w.heap.size (fun k_ => ((P0_0_ k_ ∨ P0_1_ k_) ∨ w.heap.size ≤ k_) ∧ k_ ≠ gb347 ∧ k_ ≠ gb351 ∧ k_ ≠ gb355) (.slice Ao36 x352000_3.length co36) x352000_3):=⟨by (with_reducible repeat (first | apply Kd.V_alloc | apply Kd.V_drewN | apply Kd.V_drew));exact Kd.V_mono (Kd.V_far (p:=⟨gb355,1,none⟩) (Kd.V_far (p:=⟨gb355,0,none⟩) (Kd.V_mono HO_352000.out (fun k_ hk => (⟨hk,hk.2⟩ : _ ∧ k_ ≠ gb355))) (fun _ hk => hk.2) (.slice Ao36 x352000_3.length co36)) (fun _ hk => hk.2) (.slice Ao40 x352001_3.length co40)) (fun _ hk => ⟨hk.1.1.1,⟨hk.1.1.2.1,⟨hk.1.1.2.2,hk.1.2⟩⟩⟩)⟩
                 have n3_ : Aside0 (Kd.V (Kd.slice 5 (Kd.int .u8)) 22 ((w35.setCell ⟨gb355,0,none⟩ (.slice Ao36 x352000_3.length co36)).setCell ⟨gb355,1,none⟩ (.slice Ao40 x352001_3.length co40)) w.heap.size (fun k_ => ((P0_0_ k_ ∨ P0_1_ k_) ∨ w.heap.size ≤ k_) ∧ k_ ≠ gb347 ∧ k_ ≠ gb351 ∧ k_ ≠ gb355) (.slice Ao40 x352001_3.length co40) x352001_3):=⟨by (with_reducible repeat (first | apply Kd.V_alloc | apply Kd.V_drewN | apply Kd.V_drew));exact Kd.V_mono (Kd.V_far (p:=⟨gb355,1,none⟩) (Kd.V_far (p:=⟨gb355,0,none⟩) (Kd.V_mono HO_352001.out (fun k_ hk => (⟨hk,hk.2⟩ : _ ∧ k_ ≠ gb355))) (fun _ hk => hk.2) (.slice Ao36 x352000_3.length co36)) (fun _ hk => hk.2) (.slice Ao40 x352001_3.length co40)) (fun _ hk => ⟨hk.1.1.1,⟨hk.1.1.2.1,⟨hk.1.1.2.2,hk.1.2⟩⟩⟩)⟩
                 have n4_ : Aside0 (((w35.setCell ⟨gb355,0,none⟩ (.slice Ao36 x352000_3.length co36)).setCell ⟨gb355,1,none⟩ (.slice Ao40 x352001_3.length co40)).heap[gb347]? = some (.cells #[.slice A0_0 l0_0.length c0_0,.slice A0_1 l0_1.length c0_1] 27 (0,0))):=⟨by (with_reducible repeat (first | refine blk_drewN ?_ _ | refine blk_drew ?_ | refine blk_alloc ?_ _));refine blk_far ?_ NB347_355.out _;(with_reducible repeat (first | refine blk_drewN ?_ _ | refine blk_drew ?_ | refine blk_alloc ?_ _));refine blk_far ?_ NB347_355.out _;(with_reducible repeat (first | refine blk_drewN ?_ _ | refine blk_drew ?_ | refine blk_alloc ?_ _));exact BK347.out⟩
                 have n5_ : Aside0 (((w35.setCell ⟨gb355,0,none⟩ (.slice Ao36 x352000_3.length co36)).setCell ⟨gb355,1,none⟩ (.slice Ao40 x352001_3.length co40)).heap[gb351]? = some (.cells #[.slice Ao36 x352000_3.length co36,.slice Ao40 x352001_3.length co40] 27 (0,0))):=⟨by (with_reducible repeat (first | refine blk_drewN ?_ _ | refine blk_drew ?_ | refine blk_alloc ?_ _));refine blk_far ?_ NB351_355.out _;(with_reducible repeat (first | refine blk_drewN ?_ _ | refine blk_drew ?_ | refine blk_alloc ?_ _));refine blk_far ?_ NB351_355.out _;(with_reducible repeat (first | refine blk_drewN ?_ _ | refine blk_drew ?_ | refine blk_alloc ?_ _));exact BK351.out⟩
                 have n6_ : Aside0 (((w35.setCell ⟨gb355,0,none⟩ (.slice Ao36 x352000_3.length co36)).setCell ⟨gb355,1,none⟩ (.slice Ao40 x352001_3.length co40)).heap[gb355]? = some (.cells #[.slice Ao36 x352000_3.length co36,.slice Ao40 x352001_3.length co40] 27 (0,0))):=⟨by (with_reducible repeat (first | refine blk_drewN ?_ _ | refine blk_drew ?_ | refine blk_alloc ?_ _));refine blk_put (cs:=#[.slice Ao36 x352000_3.length co36,.slice none 0 0]) ?_ 1 _ rfl;(with_reducible repeat (first | refine blk_drewN ?_ _ | refine blk_drew ?_ | refine blk_alloc ?_ _));refine blk_put (cs:=#[.slice none 0 0,.slice none 0 0]) ?_ 0 _ rfl;(with_reducible repeat (first | refine blk_drewN ?_ _ | refine blk_drew ?_ | refine blk_alloc ?_ _));exact BK355.out⟩
                 have n7_ : Aside0 (Below w.heap.size w ((w35.setCell ⟨gb355,0,none⟩ (.slice Ao36 x352000_3.length co36)).setCell ⟨gb355,1,none⟩ (.slice Ao40 x352001_3.length co40))):=⟨by repeat (first | (with_reducible first | exact HB.out | apply below_alloc | apply pw_below_drewN | apply below_drew1 | refine below_set ?_ GE347.out | refine below_set ?_ GE351.out | refine below_set ?_ GE355.out) | exact HB.out)⟩
                 (try clear HO_348000)
                 (try clear HO_348001)
                 (try clear HO_352000)
                 (try clear HO_352001)
                 (try clear BK347)
                 (try clear BK351)
                 (try clear BK355)
                 (try clear HB)
                 generalize ((w35.setCell ⟨gb355,0,none⟩ (.slice Ao36 x352000_3.length co36)).setCell ⟨gb355,1,none⟩ (.slice Ao40 x352001_3.length co40)) = w43 at n0_ n1_ n2_ n3_ n4_ n5_ n6_ n7_ ⊢
                 have HO_348000:=n0_
                 have HO_348001:=n1_
                 have HO_352000:=n2_
                 have HO_352001:=n3_
                 have BK347:=n4_
                 have BK351:=n5_
                 have BK355:=n6_
                 have HB:=n7_
                 clear n0_ n1_ n2_ n3_ n4_ n5_ n6_ n7_
                 have n0_:=Aside0.mk (Kd.V_drew HO_348000.out)
                 have n1_:=Aside0.mk (Kd.V_drew HO_348001.out)
                 have n2_:=Aside0.mk (Kd.V_drew HO_352000.out)
                 have n3_:=Aside0.mk (Kd.V_drew HO_352001.out)
                 have n4_:=Aside0.mk (blk_drew BK347.out)
                 have n5_:=Aside0.mk (blk_drew BK351.out)
                 have n6_:=Aside0.mk (blk_drew BK355.out)
                 have n7_:=Aside0.mk (below_drew1 HB.out)
                 clear HO_348000
                 clear HO_348001
                 clear HO_352000
                 clear HO_352001
                 clear BK347
                 clear BK351
                 clear BK355
                 clear HB
                 have HO_348000:=n0_
                 have HO_348001:=n1_
                 have HO_352000:=n2_
                 have HO_352001:=n3_
                 have BK347:=n4_
                 have BK351:=n5_
                 have BK355:=n6_
                 have HB:=n7_
                 clear n0_ n1_ n2_ n3_ n4_ n5_ n6_ n7_
                 have p357 : 0 ≤ (x8_3 : Int):=of_decide_eq_true (by first | (with_reducible assumption) | assumption)
                 have q357 : x8_3 < (l1.length : Int):=of_decide_eq_true (by first | (with_reducible assumption) | assumption)
                 obtain ⟨ad357,A357_0,c357_0,e357,hx357_0,hl357_0,hi357_0⟩:=at_L2 HR1.out x8_3 p357 q357
                 have hw357_0:=hx357_0
                 obtain rfl : ad353 = ad357:=(by injection e357)
                 replace hx357_0:=(HB.out.cell (World.block_lt_of_cell? w _ hx357_0)).trans hx357_0
                 have HR357_0:=Aside0.mk hi357_0
                 have HC357_0:=Aside0.mk hl357_0
                 clear hi357_0 hl357_0
                 replace p357:=eq_true p357
                 replace q357:=eq_true q357
                 refine start_ (n:=12) (S:=fun w' => w'.cell? ⟨gb351,0,none⟩ = some (.slice Ao36 x352000_3.length co36) ∧ w'.cell? ⟨gb351,1,none⟩ = some (.slice Ao40 x352001_3.length co40) ∧ w'.cell? (ad353.add (x8_3).toNat) = some (.slice A357_0 (rd_L2 l1 x8_3).length c357_0)) (ds:=[6,10]) #[ff,ff,ff,ff,ff,ff,ff,ff,ff,ff,ff,ff] (by kernel_rfl) rfl rfl ⟨(blk_cell BK351.out 0).trans rfl,(blk_cell BK351.out 1).trans rfl,((HB.out.cell (World.block_lt_of_cell? w _ hw357_0)).trans hw357_0)⟩ (fun hHeld => ?_);refine with_tabW humuslaw08_LeafOthers.tab13 humuslaw08_LeafOthers.bits13 (fun HT_ HW_ => ?_)
                 generalize w43.drew = w44 at HO_348000 HO_348001 HO_352000 HO_352001 BK347 BK351 BK355 HB HR357_0 hx357_0 hHeld ⊢
                 refine pure_ (i:=1) (N:=some 72) (v:=?_) (a':=?_) #[ff,tt,ff,ff,ff,ff,ff,ff,ff,ff,ff,ff] rfl rfl (any_of HT_.out (by kernel_rfl)) (fun _ _ _ h => h) (Or.inl ⟨by rfl,?_⟩) ?_ ?_
                 rotate_left
                 ·intro w'
                  go_simp
                  with_reducible rfl
                 rotate_left
                 ·simp only [Act.put,q1_,q2_,q3_,i64_w,i32_w]
                  rfl
                 refine pure_ (i:=2) (N:=some 73) (v:=?_) (a':=?_) #[ff,tt,tt,ff,ff,ff,ff,ff,ff,ff,ff,ff] rfl rfl (any_of HT_.out (by kernel_rfl)) (fun _ _ _ h => h) (Or.inl ⟨by rfl,?_⟩) ?_ ?_
                 rotate_left
                 ·intro w'
                  go_simp
                  with_reducible rfl
                 rotate_left
                 ·simp only [Act.put,q1_,q2_,q3_,i64_w,i32_w]
                  rfl
                 refine pure_ (i:=3) (N:=some 74) (v:=?_) (a':=?_) #[ff,tt,tt,tt,ff,ff,ff,ff,ff,ff,ff,ff] rfl rfl (any_of HT_.out (by kernel_rfl)) (fun _ _ _ h => h) (Or.inl ⟨by rfl,?_⟩) ?_ ?_
                 rotate_left
                 ·intro w'
                  go_simp
                  with_reducible rfl
                 rotate_left
                 ·simp only [Act.put,q1_,q2_,q3_,i64_w,i32_w]
                  rfl
                 refine pure_ (i:=4) (N:=some 75) (v:=?_) (a':=?_) #[ff,tt,tt,tt,tt,ff,ff,ff,ff,ff,ff,ff] rfl rfl (any_of HT_.out (by kernel_rfl)) (fun _ _ _ h => h) (Or.inl ⟨by rfl,?_⟩) ?_ ?_
                 rotate_left
                 ·intro w'
                  go_simp
                  with_reducible rfl
                 rotate_left
                 ·simp only [Act.put,q1_,q2_,q3_,i64_w,i32_w]
                  rfl
                 refine take_ (i:=0) (N:=some 71) (v:=?_) (a':=?_) #[tt,tt,tt,tt,tt,ff,ff,ff,ff,ff,ff,ff] rfl rfl (take_ofW HT_.out HW_.out (by kernel_rfl)) (fun _ _ _ h => h) (Or.inl ⟨by rfl,?_⟩) hHeld ?_ ?_
                 rotate_left
                 ·rintro w' ⟨s0,s1,s2⟩
                  go_simp
                  with_reducible rfl
                 rotate_left
                 ·simp only [Act.put,q1_,q2_,q3_,i64_w,i32_w]
                  rfl
                 refine take_ (i:=5) (N:=some 76) (v:=?_) (a':=?_) #[tt,tt,tt,tt,tt,tt,ff,ff,ff,ff,ff,ff] rfl rfl (take_ofW HT_.out HW_.out (by kernel_rfl)) (fun _ _ _ h => h) (Or.inl ⟨by rfl,?_⟩) hHeld ?_ ?_
                 rotate_left
                 ·rintro w' ⟨s0,s1,s2⟩
                  go_simp
                  with_reducible rfl
                 rotate_left
                 ·simp only [Act.put,q1_,q2_,q3_,i64_w,i32_w]
                  rfl
                 refine last_ (i:=6) (N:=some 77) #[tt,tt,tt,tt,tt,tt,tt,ff,ff,ff,ff,ff] rfl rfl (one_of HT_.out (by kernel_rfl)) (by decide) (fun K hK => ?_)
                 refine goes_ Try.func14 (by kernel_rfl) rfl #[.agg #[.slice Ao36 x352000_3.length co36,.slice Ao40 x352001_3.length co40],.int .i64 (((Int.tdiv (rd l2 x8_3) 3) % 256) % 66),.slice A357_0 (rd_L2 l1 x8_3).length c357_0] (by rfl) rfl rfl (by (try simp only [List.map_toArray,List.map_cons,List.map_nil]);first | done | rfl | (simp only [List.length_drop,List.length_take];rfl)) ?_
                 with_reducible refine (leaf_Set.calls kj22 _ _ x352000_3 (fun k_ => (((P0_0_ k_ ∨ P0_1_ k_) ∨ w.heap.size ≤ k_) ∧ (k_ ≠ gb347 ∧ (k_ ≠ gb351 ∧ k_ ≠ gb355)))) _ _ x352001_3 (((Int.tdiv (rd l2 x8_3) 3) % 256) % 66) _ _ (rd_L2 l1 x8_3) t358 t361 t364 _ ?side1 ?side2 ?side3 ?side4 ?side5 A42.out).mono ?_
                 (case side1 => repeat (first | exact (Kd.V_reads' HO_352000.out).2.2 | (with_reducible refine Kd.C_alloc ?_ _) | (with_reducible refine Kd.C_drewN ?_ _) | (with_reducible refine Kd.C_drew ?_)))
                 (case side2 => exact (Kd.V_reads' HO_352000.out).2.1)
                 (case side3 => exact HO_352001.out)
                 (case side4 => repeat (first | exact (Kd.C_below HR357_0.out HB.out) | (with_reducible refine Kd.C_alloc ?_ _) | (with_reducible refine Kd.C_drewN ?_ _) | (with_reducible refine Kd.C_drew ?_)))
                 (case side5 => exact HC357_0.out)
                 rintro e w45 ⟨v359,v362,rfl,ho0,ho1,hb⟩
                 refine ⟨_,rfl,?_⟩
                 have n0_:=Aside0.mk (Kd.V_mono (Kd.V_told (Kd.V_told (Kd.V_old (by (with_reducible repeat (first | apply Kd.V_alloc | apply Kd.V_drewN | apply Kd.V_drew));exact HO_348000.out) hb) (Kd.R_base ho0)) (Kd.N_base ho1)) (fun _ h_ => h_.1))
                 have n1_:=Aside0.mk (Kd.V_mono (Kd.V_told (Kd.V_told (Kd.V_old (by (with_reducible repeat (first | apply Kd.V_alloc | apply Kd.V_drewN | apply Kd.V_drew));exact HO_348001.out) hb) (Kd.R_base ho0)) (Kd.N_base ho1)) (fun _ h_ => h_.1))
                 have n2_:=Aside0.mk (Kd.V_mono (Kd.V_told (Kd.V_told (Kd.V_old (by (with_reducible repeat (first | apply Kd.V_alloc | apply Kd.V_drewN | apply Kd.V_drew));exact HO_352000.out) hb) (Kd.R_base ho0)) (Kd.N_base ho1)) (fun _ h_ => h_.1))
                 have n3_:=Aside0.mk (Kd.V_mono (Kd.V_told (Kd.V_told (Kd.V_old (by (with_reducible repeat (first | apply Kd.V_alloc | apply Kd.V_drewN | apply Kd.V_drew));exact HO_352001.out) hb) (Kd.R_base ho0)) (Kd.N_base ho1)) (fun _ h_ => h_.1))
                 have n4_:=Aside0.mk (Kd.R_lower (Kd.R_newM (M:=fun k_ => (w.heap.size ≤ k_)) (Kd.R_mono (ok':=fun k_ => True) ho0 (fun _ hk_ => trivial)) (below_size (by repeat (first | (with_reducible first | exact HB.out | apply below_alloc | apply pw_below_drewN | apply below_drew1 | refine below_set ?_ GE347.out | refine below_set ?_ GE351.out | refine below_set ?_ GE355.out) | exact HB.out))) (fun k_ h_ => h_)) (below_size (by repeat (first | (with_reducible first | exact HB.out | apply below_alloc | apply pw_below_drewN | apply below_drew1 | refine below_set ?_ GE347.out | refine below_set ?_ GE351.out | refine below_set ?_ GE355.out) | exact HB.out))))
                 have n5_:=Aside0.mk (Kd.N_lower (Kd.N_mono (ok':=fun k_ => ((P0_0_ k_ ∨ P0_1_ k_) ∨ w.heap.size ≤ k_) ∧ some k_ ≠ (v359 : Value).ownBlock ∧ k_ ≠ gb347 ∧ k_ ≠ gb351 ∧ k_ ≠ gb355) ho1 (fun k_ hk_ => ⟨Or.elim hk_.1 (fun hs_ => hs_.1) (fun hn_ => (.inr (Nat.le_trans (below_size (by repeat (first | (with_reducible first | exact HB.out | apply below_alloc | apply pw_below_drewN | apply below_drew1 | refine below_set ?_ GE347.out | refine below_set ?_ GE351.out | refine below_set ?_ GE355.out) | exact HB.out))) hn_))),hk_.2,Or.elim hk_.1 (fun hs_ => hs_.2.1) (fun hn_ => (Kd.freshB (g:=gb347) (o:=.cells #[.slice A0_0 l0_0.length c0_0,.slice A0_1 l0_1.length c0_1] 27 (0,0)) (by (with_reducible repeat (first | refine blk_drewN ?_ _ | refine blk_drew ?_ | refine blk_alloc ?_ _));exact BK347.out) k_ hn_)),Or.elim hk_.1 (fun hs_ => hs_.2.2.1) (fun hn_ => (Kd.freshB (g:=gb351) (o:=.cells #[.slice Ao36 x352000_3.length co36,.slice Ao40 x352001_3.length co40] 27 (0,0)) (by (with_reducible repeat (first | refine blk_drewN ?_ _ | refine blk_drew ?_ | refine blk_alloc ?_ _));exact BK351.out) k_ hn_)),Or.elim hk_.1 (fun hs_ => hs_.2.2.2) (fun hn_ => (Kd.freshB (g:=gb355) (o:=.cells #[.slice Ao36 x352000_3.length co36,.slice Ao40 x352001_3.length co40] 27 (0,0)) (by (with_reducible repeat (first | refine blk_drewN ?_ _ | refine blk_drew ?_ | refine blk_alloc ?_ _));exact BK355.out) k_ hn_))⟩)) (below_size (by repeat (first | (with_reducible first | exact HB.out | apply below_alloc | apply pw_below_drewN | apply below_drew1 | refine below_set ?_ GE347.out | refine below_set ?_ GE351.out | refine below_set ?_ GE355.out) | exact HB.out))))
                 have n6_:=Aside0.mk (blk_below (g:=gb347) (o:=.cells #[.slice A0_0 l0_0.length c0_0,.slice A0_1 l0_1.length c0_1] 27 (0,0)) (by (with_reducible repeat (first | refine blk_drewN ?_ _ | refine blk_drew ?_ | refine blk_alloc ?_ _));exact BK347.out) hb)
                 have n7_:=Aside0.mk (blk_below (g:=gb351) (o:=.cells #[.slice Ao36 x352000_3.length co36,.slice Ao40 x352001_3.length co40] 27 (0,0)) (by (with_reducible repeat (first | refine blk_drewN ?_ _ | refine blk_drew ?_ | refine blk_alloc ?_ _));exact BK351.out) hb)
                 have n8_:=Aside0.mk (blk_below (g:=gb355) (o:=.cells #[.slice Ao36 x352000_3.length co36,.slice Ao40 x352001_3.length co40] 27 (0,0)) (by (with_reducible repeat (first | refine blk_drewN ?_ _ | refine blk_drew ?_ | refine blk_alloc ?_ _));exact BK355.out) hb)
                 have n9_:=Aside0.mk (below_step (by repeat (first | (with_reducible first | exact HB.out | apply below_alloc | apply pw_below_drewN | apply below_drew1 | refine below_set ?_ GE347.out | refine below_set ?_ GE351.out | refine below_set ?_ GE355.out) | exact HB.out)) hb)
                 clear HO_348000
                 clear HO_348001
                 clear HO_352000
                 clear HO_352001
                 clear BK347
                 clear BK351
                 clear BK355
                 clear HB
                 have HO_348000:=n0_
                 have HO_348001:=n1_
                 have HO_352000:=n2_
                 have HO_352001:=n3_
                 have HO360:=n4_
                 have HO363:=n5_
                 have BK347:=n6_
                 have BK351:=n7_
                 have BK355:=n8_
                 have HB:=n9_
                 clear n0_ n1_ n2_ n3_ n4_ n5_ n6_ n7_ n8_ n9_
                 (try clear hb)
                 (try clear hb2)
                 (try clear hk)
                 (try clear hi)
                 (try clear ho0)
                 (try clear ho1)
                 obtain ⟨Ao46,co46,eo46⟩:=Kd.R_slice HO360.out
                 (first | subst eo46 | (injection eo46 with f1_ f2_ f3_;have f4_:=f1_.symm;have f5_:=f3_.symm;clear f1_ f2_ f3_;subst f4_;subst f5_))
                 obtain ⟨Ao48,co48,eo48⟩:=Kd.N_slice HO363.out
                 (first | subst eo48 | (injection eo48 with f1_ f2_ f3_;have f4_:=f1_.symm;have f5_:=f3_.symm;clear f1_ f2_ f3_;subst f4_;subst f5_))
                 refine hK.out _ _ ?_
                 clear hK K
                 refine norm_ (a':=?_) ?_ ?_
                 rotate_left
                 ·show Act.put _ (some 77) _ = _
                  simp only [Act.put,q1_,q2_,q3_,i64_w,i32_w]
                  rfl
                 refine pure_ (i:=7) (N:=some 70) (v:=?_) (a':=?_) #[tt,tt,tt,tt,tt,tt,tt,tt,ff,ff,ff,ff] rfl rfl (any_of HT_.out (by kernel_rfl)) (fun _ _ _ h => h) (Or.inl ⟨by rfl,?_⟩) ?_ ?_
                 rotate_left
                 ·intro w'
                  go_simp
                  with_reducible rfl
                 rotate_left
                 ·simp only [Act.put,q1_,q2_,q3_,i64_w,i32_w]
                  rfl
                 refine pure_ (i:=8) (N:=some 78) (v:=?_) (a':=?_) #[tt,tt,tt,tt,tt,tt,tt,tt,tt,ff,ff,ff] rfl rfl (any_of HT_.out (by kernel_rfl)) (fun _ _ _ h => h) (Or.inl ⟨by rfl,?_⟩) ?_ ?_
                 rotate_left
                 ·intro w'
                  go_simp
                  with_reducible rfl
                 rotate_left
                 ·simp only [Act.put,q1_,q2_,q3_,i64_w,i32_w]
                  rfl
                 refine pure_ (i:=9) (N:=some 79) (v:=?_) (a':=?_) #[tt,tt,tt,tt,tt,tt,tt,tt,tt,tt,ff,ff] rfl rfl (any_of HT_.out (by kernel_rfl)) (fun _ _ _ h => h) (Or.inl ⟨by rfl,?_⟩) ?_ ?_
                 rotate_left
                 ·intro w'
                  go_simp
                  with_reducible rfl
                 rotate_left
                 ·simp only [Act.put,q1_,q2_,q3_,i64_w,i32_w]
                  rfl
                 refine last_ (i:=10) (N:=none) #[tt,tt,tt,tt,tt,tt,tt,tt,tt,tt,tt,ff] rfl rfl (one_of HT_.out (by kernel_rfl)) (by decide) (fun K hK => ?_)
                 have hs47 : w45.cell? ⟨gb355,0,none⟩ = some (.slice Ao36 x352000_3.length co36):=(blk_cell BK355.out 0).trans rfl
                 have hfs47:=blk_frozen BK355.out 0
                 have hns47_0:=NB347_355.out
                 have hns47_1:=NB351_355.out
                 have hms47_0:=NB355_347.out
                 have hms47_1:=NB355_351.out
                 have hs49 : w45.cell? ⟨gb355,1,none⟩ = some (.slice Ao40 x352001_3.length co40):=(blk_cell BK355.out 1).trans rfl
                 have hfs49:=blk_frozen BK355.out 1
                 have hns49_0:=NB347_355.out
                 have hns49_1:=NB351_355.out
                 have hms49_0:=NB355_347.out
                 have hms49_1:=NB355_351.out
                 refine skip_ (w1:=?_) (by rfl) rfl ?_ ?_
                 rotate_left
                 ·go_simp
                  rfl
                 refine hK.out _ _ ?_
                 clear hK K
                 refine pure_ (i:=11) (N:=some 11) (v:=?_) (a':=?_) #[tt,tt,tt,tt,tt,tt,tt,tt,tt,tt,tt,tt] rfl rfl (any_of HT_.out (by kernel_rfl)) (fun _ _ _ h => h) (Or.inl ⟨by rfl,?_⟩) ?_ ?_
                 rotate_left
                 ·intro w'
                  go_simp
                  with_reducible rfl
                 rotate_left
                 ·simp only [Act.put,q1_,q2_,q3_,i64_w,i32_w]
                  rfl
                 refine done_ (done_of HT_.out (by kernel_rfl)) ?_
                 try go_wp2
                 go_meet
                 case rel => exact ⟨_,(((Int.tdiv (rd l2 x8_3) 3) % 256) % 66),(t364),(t358),(t361),(.slice Ao46 t358.length co46),(.slice Ao48 t361.length co48),(by first | rfl | (simp;done) | (simp [*];done)),(by first | rfl | (simp;done) | (simp [*];done)),H',⟨by have:=HJ3.out;have:=HJ17.out;have:=HK3.out;have:=HJ22.out;first | omega | exact Nat.le_refl _⟩,⟨by (with_reducible repeat (first | apply Kd.V_alloc | apply Kd.V_drewN | apply Kd.V_drew));exact Kd.V_mono (Kd.V_far (p:=⟨gb355,1,none⟩) (Kd.V_far (p:=⟨gb355,0,none⟩) (Kd.V_mono HO_348000.out (fun k_ hk => (⟨hk,hk.1.1.2.2.2⟩ : _ ∧ k_ ≠ gb355))) (fun _ hk => hk.2) (.slice Ao46 t358.length co46)) (fun _ hk => hk.2) (.slice Ao48 t361.length co48)) (fun _ hk => ⟨hk.1.1.1.1,⟨hk.1.1.2,⟨hk.1.1.1.2.1,⟨hk.1.1.1.2.2.1,hk.1.1.1.2.2.2⟩⟩⟩⟩)⟩,⟨by (with_reducible repeat (first | apply Kd.V_alloc | apply Kd.V_drewN | apply Kd.V_drew));exact Kd.V_mono (Kd.V_far (p:=⟨gb355,1,none⟩) (Kd.V_far (p:=⟨gb355,0,none⟩) (Kd.V_mono HO_348001.out (fun k_ hk => (⟨hk,hk.1.1.2.2.2⟩ : _ ∧ k_ ≠ gb355))) (fun _ hk => hk.2) (.slice Ao46 t358.length co46)) (fun _ hk => hk.2) (.slice Ao48 t361.length co48)) (fun _ hk => ⟨hk.1.1.1.1,⟨hk.1.1.2,⟨hk.1.1.1.2.1,⟨hk.1.1.1.2.2.1,hk.1.1.1.2.2.2⟩⟩⟩⟩)⟩,⟨by (with_reducible repeat (first | apply Kd.V_alloc | apply Kd.V_drewN | apply Kd.V_drew));exact Kd.V_mono (Kd.V_far (p:=⟨gb355,1,none⟩) (Kd.V_far (p:=⟨gb355,0,none⟩) (Kd.V_mono HO_352000.out (fun k_ hk => (⟨hk,hk.1.1.2.2.2⟩ : _ ∧ k_ ≠ gb355))) (fun _ hk => hk.2) (.slice Ao46 t358.length co46)) (fun _ hk => hk.2) (.slice Ao48 t361.length co48)) (fun _ hk => ⟨hk.1.1.1.1,⟨hk.1.1.1.2.1,⟨hk.1.1.1.2.2.1,hk.1.1.1.2.2.2⟩⟩⟩)⟩,⟨by (with_reducible repeat (first | apply Kd.V_alloc | apply Kd.V_drewN | apply Kd.V_drew));exact Kd.V_mono (Kd.V_far (p:=⟨gb355,1,none⟩) (Kd.V_far (p:=⟨gb355,0,none⟩) (Kd.V_mono HO_352001.out (fun k_ hk => (⟨hk,hk.1.1.2.2.2⟩ : _ ∧ k_ ≠ gb355))) (fun _ hk => hk.2) (.slice Ao46 t358.length co46)) (fun _ hk => hk.2) (.slice Ao48 t361.length co48)) (fun _ hk => ⟨hk.1.1.1.1,⟨hk.1.1.2,⟨hk.1.1.1.2.1,⟨hk.1.1.1.2.2.1,hk.1.1.1.2.2.2⟩⟩⟩⟩)⟩,⟨by (with_reducible repeat (first | apply Kd.R_alloc | apply Kd.R_drewN | apply Kd.R_drew));exact Kd.R_mono (Kd.R_far (p:=⟨gb355,1,none⟩) (Kd.R_far (p:=⟨gb355,0,none⟩) (Kd.R_types HO360.out BK355.out (by decide)) (fun _ hk => hk.2) (.slice Ao46 t358.length co46)) (fun _ hk => hk.2) (.slice Ao48 t361.length co48)) (fun _ hk => hk.1.1)⟩,⟨Kd.N_V (by (with_reducible repeat (first | apply Kd.N_alloc | apply Kd.N_drewN | apply Kd.N_drew));exact Kd.N_mono (Kd.N_far (p:=⟨gb355,1,none⟩) (Kd.N_far (p:=⟨gb355,0,none⟩) (Kd.N_mono HO363.out (fun k_ hk => (⟨hk,hk.2.2.2.2⟩ : _ ∧ k_ ≠ gb355))) (fun _ hk => hk.2) (.slice Ao46 t358.length co46)) (fun _ hk => hk.2) (.slice Ao48 t361.length co48)) (fun _ hk => ⟨hk.1.1,⟨hk.1.2.1,⟨hk.1.2.2.1,⟨hk.1.2.2.2.1,hk.1.2.2.2.2⟩⟩⟩⟩))⟩,⟨by (with_reducible repeat (first | refine blk_drewN ?_ _ | refine blk_drew ?_ | refine blk_alloc ?_ _));refine blk_far ?_ NB347_355.out _;(with_reducible repeat (first | refine blk_drewN ?_ _ | refine blk_drew ?_ | refine blk_alloc ?_ _));refine blk_far ?_ NB347_355.out _;(with_reducible repeat (first | refine blk_drewN ?_ _ | refine blk_drew ?_ | refine blk_alloc ?_ _));exact BK347.out⟩,⟨by (with_reducible repeat (first | refine blk_drewN ?_ _ | refine blk_drew ?_ | refine blk_alloc ?_ _));refine blk_far ?_ NB351_355.out _;(with_reducible repeat (first | refine blk_drewN ?_ _ | refine blk_drew ?_ | refine blk_alloc ?_ _));refine blk_far ?_ NB351_355.out _;(with_reducible repeat (first | refine blk_drewN ?_ _ | refine blk_drew ?_ | refine blk_alloc ?_ _));exact BK351.out⟩,⟨by (with_reducible repeat (first | refine blk_drewN ?_ _ | refine blk_drew ?_ | refine blk_alloc ?_ _));refine blk_put (cs:=#[.slice Ao46 t358.length co46,.slice Ao40 x352001_3.length co40]) ?_ 1 _ rfl;(with_reducible repeat (first | refine blk_drewN ?_ _ | refine blk_drew ?_ | refine blk_alloc ?_ _));refine blk_put (cs:=#[.slice Ao36 x352000_3.length co36,.slice Ao40 x352001_3.length co40]) ?_ 0 _ rfl;(with_reducible repeat (first | refine blk_drewN ?_ _ | refine blk_drew ?_ | refine blk_alloc ?_ _));exact BK355.out⟩,⟨by repeat (first | (with_reducible first | exact HB.out | apply below_alloc | apply pw_below_drewN | apply below_drew1 | refine below_set ?_ GE347.out | refine below_set ?_ GE351.out | refine below_set ?_ GE355.out) | exact HB.out)⟩⟩
                ·rw [if_neg c41] at H
                 have c41b0 : ((Int.tmod (rd l2 x8_3) 3) == 0) = false:=beq_eq_false_iff_ne.mpr c41
                 have c41b1 : ((Int.tmod (rd l2 x8_3) 3) != 0) = true:=bne_iff_ne.mpr c41
                 (first | rw [c41b0] | (simp only [i64_w,i32_w];rw [c41b0]) | skip)
                 have HC50:=Aside0.mk H
                 clear H
                 go_upto_region 14 with (fail)
                 go_cut [80] (fun v80 wc => ∃ (kq : Nat) (x80_49 : Bool),v80 = .bool x80_49 ∧ Aside0 (humuslaw08_LeafOthers.j5 kq l1 l2 x8_3 (((Int.tdiv (rd l2 x8_3) 3) % 256) % 66) x80_49 x352000_3 x352001_3 = some r) ∧ Aside0 (kq ≤ kj22) ∧ Aside0 (Kd.V (Kd.int .i64) 3 wc w.heap.size (fun k_ => ((P0_0_ k_ ∨ P0_1_ k_) ∨ w.heap.size ≤ k_) ∧ k_ ≠ gb347 ∧ k_ ≠ gb351 ∧ k_ ≠ gb355) (.slice A0_0 l0_0.length c0_0) l0_0) ∧ Aside0 (Kd.V (Kd.slice 5 (Kd.int .u8)) 22 wc w.heap.size (fun k_ => ((P0_0_ k_ ∨ P0_1_ k_) ∨ w.heap.size ≤ k_) ∧ k_ ≠ gb347 ∧ k_ ≠ gb351 ∧ k_ ≠ gb355) (.slice A0_1 l0_1.length c0_1) l0_1) ∧ Aside0 (Kd.V (Kd.int .i64) 3 wc w.heap.size (fun k_ => ((P0_0_ k_ ∨ P0_1_ k_) ∨ w.heap.size ≤ k_) ∧ k_ ≠ gb347 ∧ k_ ≠ gb351 ∧ k_ ≠ gb355) (.slice Ao36 x352000_3.length co36) x352000_3) ∧ Aside0 (Kd.V (Kd.slice 5 (Kd.int .u8)) 22 wc w.heap.size (fun k_ => ((P0_0_ k_ ∨ P0_1_ k_) ∨ w.heap.size ≤ k_) ∧ k_ ≠ gb347 ∧ k_ ≠ gb351 ∧ k_ ≠ gb355) (.slice Ao40 x352001_3.length co40) x352001_3) ∧ Aside0 (Kd.V (Kd.int .i64) 3 wc w.heap.size (fun k_ => ((P0_0_ k_ ∨ P0_1_ k_) ∨ w.heap.size ≤ k_) ∧ k_ ≠ gb347 ∧ k_ ≠ gb351 ∧ k_ ≠ gb355) (.slice Ao36 x352000_3.length co36) x352000_3) ∧ Aside0 (Kd.V (Kd.slice 5 (Kd.int .u8)) 22 wc w.heap.size (fun k_ => ((P0_0_ k_ ∨ P0_1_ k_) ∨ w.heap.size ≤ k_) ∧ k_ ≠ gb347 ∧ k_ ≠ gb351 ∧ k_ ≠ gb355) (.slice Ao40 x352001_3.length co40) x352001_3) ∧ Aside0 (wc.heap[gb347]? = some (.cells #[(.slice A0_0 l0_0.length c0_0),(.slice A0_1 l0_1.length c0_1)] 27 (0,0))) ∧ Aside0 (wc.heap[gb351]? = some (.cells #[(.slice Ao36 x352000_3.length co36),(.slice Ao40 x352001_3.length co40)] 27 (0,0))) ∧ Aside0 (wc.heap[gb355]? = some (.cells #[(.slice Ao36 x352000_3.length co36),(.slice Ao40 x352001_3.length co40)] 27 (0,0))) ∧ Aside0 (Below w.heap.size w wc))
                 case first =>
                  have H:=HC50.out
                  clear HC50
                  have H':=Aside0.mk H
                  clear H
                  go_wp2
                  go_meet
                  case rel => exact ⟨_,(((Int.tmod (rd l2 x8_3) 3) == 1)),(by first | rfl | (simp;done) | (simp [*];done)),H',⟨by have:=HJ3.out;have:=HJ17.out;have:=HK3.out;have:=HJ22.out;first | omega | exact Nat.le_refl _⟩,⟨by (with_reducible repeat (first | apply Kd.V_alloc | apply Kd.V_drewN | apply Kd.V_drew));exact Kd.V_mono (Kd.V_far (p:=⟨gb355,1,none⟩) (Kd.V_far (p:=⟨gb355,0,none⟩) (Kd.V_mono HO_348000.out (fun k_ hk => (⟨hk,hk.2⟩ : _ ∧ k_ ≠ gb355))) (fun _ hk => hk.2) (.slice Ao36 x352000_3.length co36)) (fun _ hk => hk.2) (.slice Ao40 x352001_3.length co40)) (fun _ hk => ⟨hk.1.1.1,⟨hk.1.1.2.1,⟨hk.1.1.2.2,hk.1.2⟩⟩⟩)⟩,⟨by (with_reducible repeat (first | apply Kd.V_alloc | apply Kd.V_drewN | apply Kd.V_drew));exact Kd.V_mono (Kd.V_far (p:=⟨gb355,1,none⟩) (Kd.V_far (p:=⟨gb355,0,none⟩) (Kd.V_mono HO_348001.out (fun k_ hk => (⟨hk,hk.2⟩ : _ ∧ k_ ≠ gb355))) (fun _ hk => hk.2) (.slice Ao36 x352000_3.length co36)) (fun _ hk => hk.2) (.slice Ao40 x352001_3.length co40)) (fun _ hk => ⟨hk.1.1.1,⟨hk.1.1.2.1,⟨hk.1.1.2.2,hk.1.2⟩⟩⟩)⟩,⟨by (with_reducible repeat (first | apply Kd.V_alloc | apply Kd.V_drewN | apply Kd.V_drew));exact Kd.V_mono (Kd.V_far (p:=⟨gb355,1,none⟩) (Kd.V_far (p:=⟨gb355,0,none⟩) (Kd.V_mono HO_352000.out (fun k_ hk => (⟨hk,hk.2⟩ : _ ∧ k_ ≠ gb355))) (fun _ hk => hk.2) (.slice Ao36 x352000_3.length co36)) (fun _ hk => hk.2) (.slice Ao40 x352001_3.length co40)) (fun _ hk => ⟨hk.1.1.1,⟨hk.1.1.2.1,⟨hk.1.1.2.2,hk.1.2⟩⟩⟩)⟩,⟨by (with_reducible repeat (first | apply Kd.V_alloc | apply Kd.V_drewN | apply Kd.V_drew));exact Kd.V_mono (Kd.V_far (p:=⟨gb355,1,none⟩) (Kd.V_far (p:=⟨gb355,0,none⟩) (Kd.V_mono HO_352001.out (fun k_ hk => (⟨hk,hk.2⟩ : _ ∧ k_ ≠ gb355))) (fun _ hk => hk.2) (.slice Ao36 x352000_3.length co36)) (fun _ hk => hk.2) (.slice Ao40 x352001_3.length co40)) (fun _ hk => ⟨hk.1.1.1,⟨hk.1.1.2.1,⟨hk.1.1.2.2,hk.1.2⟩⟩⟩)⟩,⟨by (with_reducible repeat (first | apply Kd.V_alloc | apply Kd.V_drewN | apply Kd.V_drew));exact Kd.V_mono (Kd.V_far (p:=⟨gb355,1,none⟩) (Kd.V_far (p:=⟨gb355,0,none⟩) (Kd.V_mono HO_352000.out (fun k_ hk => (⟨hk,hk.2⟩ : _ ∧ k_ ≠ gb355))) (fun _ hk => hk.2) (.slice Ao36 x352000_3.length co36)) (fun _ hk => hk.2) (.slice Ao40 x352001_3.length co40)) (fun _ hk => ⟨hk.1.1.1,⟨hk.1.1.2.1,⟨hk.1.1.2.2,hk.1.2⟩⟩⟩)⟩,⟨by (with_reducible repeat (first | apply Kd.V_alloc | apply Kd.V_drewN | apply Kd.V_drew));exact Kd.V_mono (Kd.V_far (p:=⟨gb355,1,none⟩) (Kd.V_far (p:=⟨gb355,0,none⟩) (Kd.V_mono HO_352001.out (fun k_ hk => (⟨hk,hk.2⟩ : _ ∧ k_ ≠ gb355))) (fun _ hk => hk.2) (.slice Ao36 x352000_3.length co36)) (fun _ hk => hk.2) (.slice Ao40 x352001_3.length co40)) (fun _ hk => ⟨hk.1.1.1,⟨hk.1.1.2.1,⟨hk.1.1.2.2,hk.1.2⟩⟩⟩)⟩,⟨by (with_reducible repeat (first | refine blk_drewN ?_ _ | refine blk_drew ?_ | refine blk_alloc ?_ _));refine blk_far ?_ NB347_355.out _;(with_reducible repeat (first | refine blk_drewN ?_ _ | refine blk_drew ?_ | refine blk_alloc ?_ _));refine blk_far ?_ NB347_355.out _;(with_reducible repeat (first | refine blk_drewN ?_ _ | refine blk_drew ?_ | refine blk_alloc ?_ _));exact BK347.out⟩,⟨by (with_reducible repeat (first | refine blk_drewN ?_ _ | refine blk_drew ?_ | refine blk_alloc ?_ _));refine blk_far ?_ NB351_355.out _;(with_reducible repeat (first | refine blk_drewN ?_ _ | refine blk_drew ?_ | refine blk_alloc ?_ _));refine blk_far ?_ NB351_355.out _;(with_reducible repeat (first | refine blk_drewN ?_ _ | refine blk_drew ?_ | refine blk_alloc ?_ _));exact BK351.out⟩,⟨by (with_reducible repeat (first | refine blk_drewN ?_ _ | refine blk_drew ?_ | refine blk_alloc ?_ _));refine blk_put (cs:=#[.slice Ao36 x352000_3.length co36,.slice none 0 0]) ?_ 1 _ rfl;(with_reducible repeat (first | refine blk_drewN ?_ _ | refine blk_drew ?_ | refine blk_alloc ?_ _));refine blk_put (cs:=#[.slice none 0 0,.slice none 0 0]) ?_ 0 _ rfl;(with_reducible repeat (first | refine blk_drewN ?_ _ | refine blk_drew ?_ | refine blk_alloc ?_ _));exact BK355.out⟩,⟨by repeat (first | (with_reducible first | exact HB.out | apply below_alloc | apply pw_below_drewN | apply below_drew1 | refine below_set ?_ GE347.out | refine below_set ?_ GE351.out | refine below_set ?_ GE355.out) | exact HB.out)⟩⟩
                 case rest =>
                  clear HC50
                  try clear c1
                  try clear c2
                  try clear p2
                  try clear c3
                  try clear p3
                  try clear q3
                  try clear hx3
                  try clear c4
                  try clear p6
                  try clear c7
                  try clear c8
                  try clear c12
                  try clear c14
                  try clear c15
                  try clear c21
                  try clear c24
                  try clear c24b0
                  try clear c25
                  try clear c25b0
                  try clear c26
                  try clear c27
                  try clear c27b0
                  try clear c28
                  try clear c28b0
                  try clear c29
                  try clear c29b0
                  try clear c29b1
                  try clear c31
                  try clear c31b0
                  try clear c33
                  try clear c35
                  try clear p35
                  try clear q35
                  try clear hx35
                  try clear c37
                  try clear c38
                  try clear c41
                  try clear c41b0
                  try clear c41b1
                  try clear hcz11_0
                  try clear hcz11_1
                  try clear hcz13_0
                  try clear hcz13_1
                  try clear hcz19_0
                  try clear hcz19_1
                  try clear hcz22_0
                  try clear hcz22_1
                  try clear hcz34_0
                  try clear hcz34_1
                  try clear hcz39_0
                  try clear hcz39_1
                  try clear hcz9_0
                  try clear hcz9_1
                  try clear hfz11_0
                  try clear hfz11_1
                  try clear hfz13_0
                  try clear hfz13_1
                  try clear hfz19_0
                  try clear hfz19_1
                  try clear hfz22_0
                  try clear hfz22_1
                  try clear hfz34_0
                  try clear hfz34_1
                  try clear hfz39_0
                  try clear hfz39_1
                  try clear hfz9_0
                  try clear hfz9_1
                  try clear hx353_0
                  try clear hx354_0
                  try clear hx356_0
                  try clear hx357_0
                  try clear p2
                  try clear p3
                  try clear p353
                  try clear p354
                  try clear p356
                  try clear p357
                  try clear p6
                  try clear q3
                  try clear q353
                  try clear q354
                  try clear q356
                  try clear q357
                  obtain ⟨kq,x80_49,rfl,HA,HJ49,HO_348000,HO_348001,HO_352000,HO_352001,HO_356000,HO_356001,BK347,BK351,BK355,HB⟩:=hcut
                  cases kq with
                  | zero => exact absurd HA.out (by simp [humuslaw08_LeafOthers.j5])
                  | succ kj49 =>
                   have H:=HA.out
                   clear HA
                   simp only [humuslaw08_LeafOthers.j5] at H
                   by_cases c51 : x80_49 = true
                   ·subst c51
                    have H1 : ((leaf_Drop.f kj49 x352000_3 x352001_3 (((Int.tdiv (rd l2 x8_3) 3) % 256) % 66)).bind fun bt365 => (humuslaw08_LeafOthers.j6 kj49 l1 l2 x8_3 (((Int.tdiv (rd l2 x8_3) 3) % 256) % 66) bt365.2.2 x352000_3 x352001_3 bt365.1 bt365.2.1)) = some r:=by rw [if_pos rfl] at H;exact H
                    clear H
                    have H:=H1
                    clear H1
                    replace H:=Option.bind_eq_some_iff.mp H
                    obtain ⟨⟨t365,t368,t371⟩,A520,H⟩:=H
                    replace H : (humuslaw08_LeafOthers.j6 kj49 l1 l2 x8_3 (((Int.tdiv (rd l2 x8_3) 3) % 256) % 66) t371 x352000_3 x352001_3 t365 t368) = some r:=H
                    have A52:=Aside0.mk A520
                    clear A520
                    have H':=Aside0.mk H
                    clear H
                    have hnb53:=NB351_347.out
                    have hnc53:=NB347_351.out
                    have hnb54:=NB351_355.out
                    have hnc54:=NB355_351.out
                    have hcz55_0 : wc.cell? ⟨gb351,0,none⟩ = some (.slice Ao36 x352000_3.length co36):=(blk_cell BK351.out 0).trans rfl
                    have hcz55_1 : wc.cell? ⟨gb351,1,none⟩ = some (.slice Ao40 x352001_3.length co40):=(blk_cell BK351.out 1).trans rfl
                    have hfz55_0:=blk_frozen BK351.out 0
                    have hfz55_1:=blk_frozen BK351.out 1
                    go_wp2_with (first | ((with_reducible refine gate_callee (f:=15) rfl ?_);refine goesL_ (some 85) rfl rfl Try.func15 (by kernel_rfl) rfl #[.agg #[.slice Ao36 x352000_3.length co36,.slice Ao40 x352001_3.length co40],.int .i64 (((Int.tdiv (rd l2 x8_3) 3) % 256) % 66)] rfl (by (try simp only [List.map_toArray,List.map_cons,List.map_nil]);first | done | rfl | (simp only [List.length_drop,List.length_take];rfl)) ?_;(with_reducible refine (leaf_Drop.calls kj49 _ _ x352000_3 (fun k_ => (((P0_0_ k_ ∨ P0_1_ k_) ∨ w.heap.size ≤ k_) ∧ (k_ ≠ gb347 ∧ (k_ ≠ gb351 ∧ k_ ≠ gb355)))) _ _ x352001_3 (((Int.tdiv (rd l2 x8_3) 3) % 256) % 66) t365 t368 t371 _ ?side1 ?side2 ?side3 A52.out).mono ?_);(case side1 => repeat (first | exact (Kd.V_reads' HO_352000.out).2.2 | (with_reducible refine Kd.C_alloc ?_ _) | (with_reducible refine Kd.C_drewN ?_ _) | (with_reducible refine Kd.C_drew ?_)));(case side2 => exact (Kd.V_reads' HO_352000.out).2.1);(case side3 => exact HO_352001.out);rintro e w56 ⟨v366,v369,rfl,ho0,ho1,hb⟩;refine ⟨_,rfl,?_⟩;have n0_:=Aside0.mk (Kd.V_elder' (by (with_reducible repeat (first | apply Kd.V_alloc | apply Kd.V_drewN | apply Kd.V_drew));exact HO_348000.out) (Kd.R_base ho0) hb);have n1_:=Aside0.mk (Kd.V_elder' (by (with_reducible repeat (first | apply Kd.V_alloc | apply Kd.V_drewN | apply Kd.V_drew));exact HO_348001.out) (Kd.R_base ho0) hb);have n2_:=Aside0.mk (Kd.V_elder' (by (with_reducible repeat (first | apply Kd.V_alloc | apply Kd.V_drewN | apply Kd.V_drew));exact HO_352000.out) (Kd.R_base ho0) hb);have n3_:=Aside0.mk (Kd.V_elder' (by (with_reducible repeat (first | apply Kd.V_alloc | apply Kd.V_drewN | apply Kd.V_drew));exact HO_352001.out) (Kd.R_base ho0) hb);have n4_:=Aside0.mk (Kd.V_elder' (by (with_reducible repeat (first | apply Kd.V_alloc | apply Kd.V_drewN | apply Kd.V_drew));exact HO_356000.out) (Kd.R_base ho0) hb);have n5_:=Aside0.mk (Kd.V_elder' (by (with_reducible repeat (first | apply Kd.V_alloc | apply Kd.V_drewN | apply Kd.V_drew));exact HO_356001.out) (Kd.R_base ho0) hb);have n6_:=Aside0.mk (Kd.R_lower (Kd.R_newM (M:=fun k_ => (w.heap.size ≤ k_)) (Kd.R_mono (ok':=fun k_ => True) ho0 (fun _ hk_ => trivial)) (below_size (by repeat (first | (with_reducible first | exact HB.out | apply below_alloc | apply pw_below_drewN | apply below_drew1 | refine below_set ?_ GE347.out | refine below_set ?_ GE351.out | refine below_set ?_ GE355.out) | exact HB.out))) (fun k_ h_ => h_)) (below_size (by repeat (first | (with_reducible first | exact HB.out | apply below_alloc | apply pw_below_drewN | apply below_drew1 | refine below_set ?_ GE347.out | refine below_set ?_ GE351.out | refine below_set ?_ GE355.out) | exact HB.out))));have n7_:=Aside0.mk (Kd.V_lower (Kd.V_mono (ok':=fun k_ => ((P0_0_ k_ ∨ P0_1_ k_) ∨ w.heap.size ≤ k_) ∧ some k_ ≠ (v366 : Value).ownBlock ∧ k_ ≠ gb347 ∧ k_ ≠ gb351 ∧ k_ ≠ gb355) ho1 (fun k_ hk_ => ⟨Or.elim hk_.1 (fun hs_ => hs_.1) (fun hn_ => (.inr (Nat.le_trans (below_size (by repeat (first | (with_reducible first | exact HB.out | apply below_alloc | apply pw_below_drewN | apply below_drew1 | refine below_set ?_ GE347.out | refine below_set ?_ GE351.out | refine below_set ?_ GE355.out) | exact HB.out))) hn_))),hk_.2,Or.elim hk_.1 (fun hs_ => hs_.2.1) (fun hn_ => (Kd.freshB (g:=gb347) (o:=.cells #[.slice A0_0 l0_0.length c0_0,.slice A0_1 l0_1.length c0_1] 27 (0,0)) (by (with_reducible repeat (first | refine blk_drewN ?_ _ | refine blk_drew ?_ | refine blk_alloc ?_ _));exact BK347.out) k_ hn_)),Or.elim hk_.1 (fun hs_ => hs_.2.2.1) (fun hn_ => (Kd.freshB (g:=gb351) (o:=.cells #[.slice Ao36 x352000_3.length co36,.slice Ao40 x352001_3.length co40] 27 (0,0)) (by (with_reducible repeat (first | refine blk_drewN ?_ _ | refine blk_drew ?_ | refine blk_alloc ?_ _));exact BK351.out) k_ hn_)),Or.elim hk_.1 (fun hs_ => hs_.2.2.2) (fun hn_ => (Kd.freshB (g:=gb355) (o:=.cells #[.slice Ao36 x352000_3.length co36,.slice Ao40 x352001_3.length co40] 27 (0,0)) (by (with_reducible repeat (first | refine blk_drewN ?_ _ | refine blk_drew ?_ | refine blk_alloc ?_ _));exact BK355.out) k_ hn_))⟩)) (below_size (by repeat (first | (with_reducible first | exact HB.out | apply below_alloc | apply pw_below_drewN | apply below_drew1 | refine below_set ?_ GE347.out | refine below_set ?_ GE351.out | refine below_set ?_ GE355.out) | exact HB.out))));have n8_:=Aside0.mk (blk_below (g:=gb347) (o:=.cells #[.slice A0_0 l0_0.length c0_0,.slice A0_1 l0_1.length c0_1] 27 (0,0)) (by (with_reducible repeat (first | refine blk_drewN ?_ _ | refine blk_drew ?_ | refine blk_alloc ?_ _));exact BK347.out) hb);have n9_:=Aside0.mk (blk_below (g:=gb351) (o:=.cells #[.slice Ao36 x352000_3.length co36,.slice Ao40 x352001_3.length co40] 27 (0,0)) (by (with_reducible repeat (first | refine blk_drewN ?_ _ | refine blk_drew ?_ | refine blk_alloc ?_ _));exact BK351.out) hb);have n10_:=Aside0.mk (blk_below (g:=gb355) (o:=.cells #[.slice Ao36 x352000_3.length co36,.slice Ao40 x352001_3.length co40] 27 (0,0)) (by (with_reducible repeat (first | refine blk_drewN ?_ _ | refine blk_drew ?_ | refine blk_alloc ?_ _));exact BK355.out) hb);have n11_:=Aside0.mk (below_step (by repeat (first | (with_reducible first | exact HB.out | apply below_alloc | apply pw_below_drewN | apply below_drew1 | refine below_set ?_ GE347.out | refine below_set ?_ GE351.out | refine below_set ?_ GE355.out) | exact HB.out)) hb);clear HO_348000;clear HO_348001;clear HO_352000;clear HO_352001;clear HO_356000;clear HO_356001;clear BK347;clear BK351;clear BK355;clear HB;have HO_348000:=n0_;have HO_348001:=n1_;have HO_352000:=n2_;have HO_352001:=n3_;have HO_356000:=n4_;have HO_356001:=n5_;have HO367:=n6_;have HO370:=n7_;have BK347:=n8_;have BK351:=n9_;have BK355:=n10_;have HB:=n11_;clear n0_ n1_ n2_ n3_ n4_ n5_ n6_ n7_ n8_ n9_ n10_ n11_;(try clear hb);(try clear hb2);(try clear hk);(try clear hi);(try clear ho0);(try clear ho1);obtain ⟨Ao57,co57,eo57⟩:=Kd.R_slice HO367.out;subst eo57;have hnb58:=NB355_347.out;have hnc58:=NB347_355.out;have hcz59_0 : w56.cell? ⟨gb355,0,none⟩ = some (.slice Ao36 x352000_3.length co36):=(blk_cell BK355.out 0).trans rfl;have hcz59_1 : w56.cell? ⟨gb355,1,none⟩ = some (.slice Ao40 x352001_3.length co40):=(blk_cell BK355.out 1).trans rfl;have hfz59_0:=blk_frozen BK355.out 0;have hfz59_1:=blk_frozen BK355.out 1;obtain ⟨Ao60,co60,eo60⟩:=Kd.V_slice HO370.out;subst eo60))
                    go_meet
                    case rel => exact ⟨_,((((Int.tdiv (rd l2 x8_3) 3) % 256) % 66)),(t371),(t365),(t368),(.slice Ao57 t365.length co57),(.slice Ao60 t368.length co60),(by first | rfl | (simp;done) | (simp [*];done)),(by first | rfl | (simp;done) | (simp [*];done)),H',⟨by have:=HJ3.out;have:=HJ17.out;have:=HK3.out;have:=HJ22.out;have:=HJ49.out;first | omega | exact Nat.le_refl _⟩,⟨by (with_reducible repeat (first | apply Kd.V_alloc | apply Kd.V_drewN | apply Kd.V_drew));exact Kd.V_mono (Kd.V_far (p:=⟨gb355,1,none⟩) (Kd.V_far (p:=⟨gb355,0,none⟩) (Kd.V_mono HO_348000.out (fun k_ hk => (⟨hk,hk.1.2.2.2⟩ : _ ∧ k_ ≠ gb355))) (fun _ hk => hk.2) (.slice Ao57 t365.length co57)) (fun _ hk => hk.2) (.slice Ao60 t368.length co60)) (fun _ hk => ⟨hk.1.1.1,⟨hk.1.2,⟨hk.1.1.2.1,⟨hk.1.1.2.2.1,hk.1.1.2.2.2⟩⟩⟩⟩)⟩,⟨by (with_reducible repeat (first | apply Kd.V_alloc | apply Kd.V_drewN | apply Kd.V_drew));exact Kd.V_mono (Kd.V_far (p:=⟨gb355,1,none⟩) (Kd.V_far (p:=⟨gb355,0,none⟩) (Kd.V_mono HO_348001.out (fun k_ hk => (⟨hk,hk.1.2.2.2⟩ : _ ∧ k_ ≠ gb355))) (fun _ hk => hk.2) (.slice Ao57 t365.length co57)) (fun _ hk => hk.2) (.slice Ao60 t368.length co60)) (fun _ hk => ⟨hk.1.1.1,⟨hk.1.2,⟨hk.1.1.2.1,⟨hk.1.1.2.2.1,hk.1.1.2.2.2⟩⟩⟩⟩)⟩,⟨by (with_reducible repeat (first | apply Kd.V_alloc | apply Kd.V_drewN | apply Kd.V_drew));exact Kd.V_mono (Kd.V_far (p:=⟨gb355,1,none⟩) (Kd.V_far (p:=⟨gb355,0,none⟩) (Kd.V_mono HO_352000.out (fun k_ hk => (⟨hk,hk.1.2.2.2⟩ : _ ∧ k_ ≠ gb355))) (fun _ hk => hk.2) (.slice Ao57 t365.length co57)) (fun _ hk => hk.2) (.slice Ao60 t368.length co60)) (fun _ hk => ⟨hk.1.1.1,⟨hk.1.1.2.1,⟨hk.1.1.2.2.1,hk.1.1.2.2.2⟩⟩⟩)⟩,⟨by (with_reducible repeat (first | apply Kd.V_alloc | apply Kd.V_drewN | apply Kd.V_drew));exact Kd.V_mono (Kd.V_far (p:=⟨gb355,1,none⟩) (Kd.V_far (p:=⟨gb355,0,none⟩) (Kd.V_mono HO_352001.out (fun k_ hk => (⟨hk,hk.1.2.2.2⟩ : _ ∧ k_ ≠ gb355))) (fun _ hk => hk.2) (.slice Ao57 t365.length co57)) (fun _ hk => hk.2) (.slice Ao60 t368.length co60)) (fun _ hk => ⟨hk.1.1.1,⟨hk.1.2,⟨hk.1.1.2.1,⟨hk.1.1.2.2.1,hk.1.1.2.2.2⟩⟩⟩⟩)⟩,⟨by (with_reducible repeat (first | apply Kd.R_alloc | apply Kd.R_drewN | apply Kd.R_drew));exact Kd.R_mono (Kd.R_far (p:=⟨gb355,1,none⟩) (Kd.R_far (p:=⟨gb355,0,none⟩) (Kd.R_types HO367.out BK355.out (by decide)) (fun _ hk => hk.2) (.slice Ao57 t365.length co57)) (fun _ hk => hk.2) (.slice Ao60 t368.length co60)) (fun _ hk => hk.1.1)⟩,⟨by (with_reducible repeat (first | apply Kd.V_alloc | apply Kd.V_drewN | apply Kd.V_drew));exact Kd.V_mono (Kd.V_far (p:=⟨gb355,1,none⟩) (Kd.V_far (p:=⟨gb355,0,none⟩) (Kd.V_mono HO370.out (fun k_ hk => (⟨hk,hk.2.2.2.2⟩ : _ ∧ k_ ≠ gb355))) (fun _ hk => hk.2) (.slice Ao57 t365.length co57)) (fun _ hk => hk.2) (.slice Ao60 t368.length co60)) (fun _ hk => ⟨hk.1.1,⟨hk.1.2.1,⟨hk.1.2.2.1,⟨hk.1.2.2.2.1,hk.1.2.2.2.2⟩⟩⟩⟩)⟩,⟨by (with_reducible repeat (first | refine blk_drewN ?_ _ | refine blk_drew ?_ | refine blk_alloc ?_ _));refine blk_far ?_ NB347_355.out _;(with_reducible repeat (first | refine blk_drewN ?_ _ | refine blk_drew ?_ | refine blk_alloc ?_ _));refine blk_far ?_ NB347_355.out _;(with_reducible repeat (first | refine blk_drewN ?_ _ | refine blk_drew ?_ | refine blk_alloc ?_ _));exact BK347.out⟩,⟨by (with_reducible repeat (first | refine blk_drewN ?_ _ | refine blk_drew ?_ | refine blk_alloc ?_ _));refine blk_far ?_ NB351_355.out _;(with_reducible repeat (first | refine blk_drewN ?_ _ | refine blk_drew ?_ | refine blk_alloc ?_ _));refine blk_far ?_ NB351_355.out _;(with_reducible repeat (first | refine blk_drewN ?_ _ | refine blk_drew ?_ | refine blk_alloc ?_ _));exact BK351.out⟩,⟨by (with_reducible repeat (first | refine blk_drewN ?_ _ | refine blk_drew ?_ | refine blk_alloc ?_ _));refine blk_put (cs:=#[.slice Ao57 t365.length co57,.slice Ao40 x352001_3.length co40]) ?_ 1 _ rfl;(with_reducible repeat (first | refine blk_drewN ?_ _ | refine blk_drew ?_ | refine blk_alloc ?_ _));refine blk_put (cs:=#[.slice Ao36 x352000_3.length co36,.slice Ao40 x352001_3.length co40]) ?_ 0 _ rfl;(with_reducible repeat (first | refine blk_drewN ?_ _ | refine blk_drew ?_ | refine blk_alloc ?_ _));exact BK355.out⟩,⟨by repeat (first | (with_reducible first | exact HB.out | apply below_alloc | apply pw_below_drewN | apply below_drew1 | refine below_set ?_ GE347.out | refine below_set ?_ GE351.out | refine below_set ?_ GE355.out) | exact HB.out)⟩⟩
                   ·replace c51:=Bool.eq_false_iff.mpr c51
                    subst c51
                    have H1 : (if 0 ≤ x8_3 then (if x8_3 < (l1.length : Int) then ((leaf_Insert.f kj49 x352000_3 x352001_3 (rd_L2 l1 x8_3)).bind fun bt373 => (humuslaw08_LeafOthers.j6 kj49 l1 l2 x8_3 bt373.2.2.1 bt373.2.2.2 x352000_3 x352001_3 bt373.1 bt373.2.1)) else (none)) else (none)) = some r:=by rw [if_neg (show ¬ (false = true) by decide)] at H;exact H
                    clear H
                    have H:=H1
                    clear H1
                    by_cases c61 : 0 ≤ x8_3
                    ·rw [if_pos c61] at H
                     have c61b0 : decide (0 ≤ x8_3) = true:=decide_eq_true c61
                     clear c61
                     by_cases c62 : x8_3 < (l1.length : Int)
                     ·rw [if_pos c62] at H
                      have c62b0 : decide (x8_3 < (l1.length : Int)) = true:=decide_eq_true c62
                      clear c62
                      replace H:=Option.bind_eq_some_iff.mp H
                      obtain ⟨⟨t373,t376,t379,t380⟩,A630,H⟩:=H
                      replace H : (humuslaw08_LeafOthers.j6 kj49 l1 l2 x8_3 t379 t380 x352000_3 x352001_3 t373 t376) = some r:=H
                      have A63:=Aside0.mk A630
                      clear A630
                      have H':=Aside0.mk H
                      clear H
                      try go_wp2
                      have n0_:=Aside0.mk (Kd.V_drew HO_348000.out)
                      have n1_:=Aside0.mk (Kd.V_drew HO_348001.out)
                      have n2_:=Aside0.mk (Kd.V_drew HO_352000.out)
                      have n3_:=Aside0.mk (Kd.V_drew HO_352001.out)
                      have n4_:=Aside0.mk (Kd.V_drew HO_356000.out)
                      have n5_:=Aside0.mk (Kd.V_drew HO_356001.out)
                      have n6_:=Aside0.mk (blk_drew BK347.out)
                      have n7_:=Aside0.mk (blk_drew BK351.out)
                      have n8_:=Aside0.mk (blk_drew BK355.out)
                      have n9_:=Aside0.mk (below_drew1 HB.out)
                      clear HO_348000
                      clear HO_348001
                      clear HO_352000
                      clear HO_352001
                      clear HO_356000
                      clear HO_356001
                      clear BK347
                      clear BK351
                      clear BK355
                      clear HB
                      have HO_348000:=n0_
                      have HO_348001:=n1_
                      have HO_352000:=n2_
                      have HO_352001:=n3_
                      have HO_356000:=n4_
                      have HO_356001:=n5_
                      have BK347:=n6_
                      have BK351:=n7_
                      have BK355:=n8_
                      have HB:=n9_
                      clear n0_ n1_ n2_ n3_ n4_ n5_ n6_ n7_ n8_ n9_
                      have p372 : 0 ≤ (x8_3 : Int):=of_decide_eq_true (by first | (with_reducible assumption) | assumption)
                      have q372 : x8_3 < (l1.length : Int):=of_decide_eq_true (by first | (with_reducible assumption) | assumption)
                      obtain ⟨ad372,A372_0,c372_0,e372,hx372_0,hl372_0,hi372_0⟩:=at_L2 HR1.out x8_3 p372 q372
                      have hw372_0:=hx372_0
                      obtain rfl : ad353 = ad372:=(by injection e372)
                      replace hx372_0:=(HB.out.cell (World.block_lt_of_cell? w _ hx372_0)).trans hx372_0
                      have HR372_0:=Aside0.mk hi372_0
                      have HC372_0:=Aside0.mk hl372_0
                      clear hi372_0 hl372_0
                      replace p372:=eq_true p372
                      replace q372:=eq_true q372
                      refine start_ (n:=13) (S:=fun w' => w'.cell? ⟨gb351,0,none⟩ = some (.slice Ao36 x352000_3.length co36) ∧ w'.cell? ⟨gb351,1,none⟩ = some (.slice Ao40 x352001_3.length co40) ∧ w'.cell? (ad353.add (x8_3).toNat) = some (.slice A372_0 (rd_L2 l1 x8_3).length c372_0)) (ds:=[5,10]) #[ff,ff,ff,ff,ff,ff,ff,ff,ff,ff,ff,ff,ff] (by kernel_rfl) rfl rfl ⟨(blk_cell BK351.out 0).trans rfl,(blk_cell BK351.out 1).trans rfl,((HB.out.cell (World.block_lt_of_cell? w _ hw372_0)).trans hw372_0)⟩ (fun hHeld => ?_);refine with_tabW humuslaw08_LeafOthers.tab11 humuslaw08_LeafOthers.bits11 (fun HT_ HW_ => ?_)
                      generalize wc.drew = w64 at HO_348000 HO_348001 HO_352000 HO_352001 HO_356000 HO_356001 BK347 BK351 BK355 HB HR372_0 hx372_0 hHeld ⊢
                      refine pure_ (i:=1) (N:=some 60) (v:=?_) (a':=?_) #[ff,tt,ff,ff,ff,ff,ff,ff,ff,ff,ff,ff,ff] rfl rfl (any_of HT_.out (by kernel_rfl)) (fun _ _ _ h => h) (Or.inl ⟨by rfl,?_⟩) ?_ ?_
                      rotate_left
                      ·intro w'
                       go_simp
                       with_reducible rfl
                      rotate_left
                      ·simp only [Act.put,q1_,q2_,q3_,i64_w,i32_w]
                       rfl
                      refine pure_ (i:=2) (N:=some 61) (v:=?_) (a':=?_) #[ff,tt,tt,ff,ff,ff,ff,ff,ff,ff,ff,ff,ff] rfl rfl (any_of HT_.out (by kernel_rfl)) (fun _ _ _ h => h) (Or.inl ⟨by rfl,?_⟩) ?_ ?_
                      rotate_left
                      ·intro w'
                       go_simp
                       with_reducible rfl
                      rotate_left
                      ·simp only [Act.put,q1_,q2_,q3_,i64_w,i32_w]
                       rfl
                      refine pure_ (i:=3) (N:=some 62) (v:=?_) (a':=?_) #[ff,tt,tt,tt,ff,ff,ff,ff,ff,ff,ff,ff,ff] rfl rfl (any_of HT_.out (by kernel_rfl)) (fun _ _ _ h => h) (Or.inl ⟨by rfl,?_⟩) ?_ ?_
                      rotate_left
                      ·intro w'
                       go_simp
                       with_reducible rfl
                      rotate_left
                      ·simp only [Act.put,q1_,q2_,q3_,i64_w,i32_w]
                       rfl
                      refine take_ (i:=0) (N:=some 59) (v:=?_) (a':=?_) #[tt,tt,tt,tt,ff,ff,ff,ff,ff,ff,ff,ff,ff] rfl rfl (take_ofW HT_.out HW_.out (by kernel_rfl)) (fun _ _ _ h => h) (Or.inl ⟨by rfl,?_⟩) hHeld ?_ ?_
                      rotate_left
                      ·rintro w' ⟨s0,s1,s2⟩
                       go_simp
                       with_reducible rfl
                      rotate_left
                      ·simp only [Act.put,q1_,q2_,q3_,i64_w,i32_w]
                       rfl
                      refine take_ (i:=4) (N:=some 63) (v:=?_) (a':=?_) #[tt,tt,tt,tt,tt,ff,ff,ff,ff,ff,ff,ff,ff] rfl rfl (take_ofW HT_.out HW_.out (by kernel_rfl)) (fun _ _ _ h => h) (Or.inl ⟨by rfl,?_⟩) hHeld ?_ ?_
                      rotate_left
                      ·rintro w' ⟨s0,s1,s2⟩
                       go_simp
                       with_reducible rfl
                      rotate_left
                      ·simp only [Act.put,q1_,q2_,q3_,i64_w,i32_w]
                       rfl
                      refine last_ (i:=5) (N:=some 64) #[tt,tt,tt,tt,tt,tt,ff,ff,ff,ff,ff,ff,ff] rfl rfl (one_of HT_.out (by kernel_rfl)) (by decide) (fun K hK => ?_)
                      refine goes_ Try.func16 (by kernel_rfl) rfl #[.agg #[.slice Ao36 x352000_3.length co36,.slice Ao40 x352001_3.length co40],.slice A372_0 (rd_L2 l1 x8_3).length c372_0] (by rfl) rfl rfl (by (try simp only [List.map_toArray,List.map_cons,List.map_nil]);first | done | rfl | (simp only [List.length_drop,List.length_take];rfl)) ?_
                      with_reducible refine (leaf_Insert.calls kj49 _ _ x352000_3 (fun k_ => (((P0_0_ k_ ∨ P0_1_ k_) ∨ w.heap.size ≤ k_) ∧ (k_ ≠ gb347 ∧ (k_ ≠ gb351 ∧ k_ ≠ gb355)))) _ _ x352001_3 _ _ (rd_L2 l1 x8_3) t373 t376 t379 t380 _ ?side1 ?side2 ?side3 ?side4 ?side5 A63.out).mono ?_
                      (case side1 => repeat (first | exact (Kd.V_reads' HO_352000.out).2.2 | (with_reducible refine Kd.C_alloc ?_ _) | (with_reducible refine Kd.C_drewN ?_ _) | (with_reducible refine Kd.C_drew ?_)))
                      (case side2 => exact (Kd.V_reads' HO_352000.out).2.1)
                      (case side3 => exact HO_352001.out)
                      (case side4 => repeat (first | exact (Kd.C_below HR372_0.out HB.out) | (with_reducible refine Kd.C_alloc ?_ _) | (with_reducible refine Kd.C_drewN ?_ _) | (with_reducible refine Kd.C_drew ?_)))
                      (case side5 => exact HC372_0.out)
                      rintro e w65 ⟨v374,v377,rfl,ho0,ho1,hb⟩
                      refine ⟨_,rfl,?_⟩
                      have n0_:=Aside0.mk (Kd.V_mono (Kd.V_told (Kd.V_told (Kd.V_old (by (with_reducible repeat (first | apply Kd.V_alloc | apply Kd.V_drewN | apply Kd.V_drew));exact HO_348000.out) hb) (Kd.R_base ho0)) (Kd.N_base ho1)) (fun _ h_ => h_.1))
                      have n1_:=Aside0.mk (Kd.V_mono (Kd.V_told (Kd.V_told (Kd.V_old (by (with_reducible repeat (first | apply Kd.V_alloc | apply Kd.V_drewN | apply Kd.V_drew));exact HO_348001.out) hb) (Kd.R_base ho0)) (Kd.N_base ho1)) (fun _ h_ => h_.1))
                      have n2_:=Aside0.mk (Kd.V_mono (Kd.V_told (Kd.V_told (Kd.V_old (by (with_reducible repeat (first | apply Kd.V_alloc | apply Kd.V_drewN | apply Kd.V_drew));exact HO_352000.out) hb) (Kd.R_base ho0)) (Kd.N_base ho1)) (fun _ h_ => h_.1))
                      have n3_:=Aside0.mk (Kd.V_mono (Kd.V_told (Kd.V_told (Kd.V_old (by (with_reducible repeat (first | apply Kd.V_alloc | apply Kd.V_drewN | apply Kd.V_drew));exact HO_352001.out) hb) (Kd.R_base ho0)) (Kd.N_base ho1)) (fun _ h_ => h_.1))
                      have n4_:=Aside0.mk (Kd.V_mono (Kd.V_told (Kd.V_told (Kd.V_old (by (with_reducible repeat (first | apply Kd.V_alloc | apply Kd.V_drewN | apply Kd.V_drew));exact HO_356000.out) hb) (Kd.R_base ho0)) (Kd.N_base ho1)) (fun _ h_ => h_.1))
                      have n5_:=Aside0.mk (Kd.V_mono (Kd.V_told (Kd.V_told (Kd.V_old (by (with_reducible repeat (first | apply Kd.V_alloc | apply Kd.V_drewN | apply Kd.V_drew));exact HO_356001.out) hb) (Kd.R_base ho0)) (Kd.N_base ho1)) (fun _ h_ => h_.1))
                      have n6_:=Aside0.mk (Kd.R_lower (Kd.R_newM (M:=fun k_ => (w.heap.size ≤ k_)) (Kd.R_mono (ok':=fun k_ => True) ho0 (fun _ hk_ => trivial)) (below_size (by repeat (first | (with_reducible first | exact HB.out | apply below_alloc | apply pw_below_drewN | apply below_drew1 | refine below_set ?_ GE347.out | refine below_set ?_ GE351.out | refine below_set ?_ GE355.out) | exact HB.out))) (fun k_ h_ => h_)) (below_size (by repeat (first | (with_reducible first | exact HB.out | apply below_alloc | apply pw_below_drewN | apply below_drew1 | refine below_set ?_ GE347.out | refine below_set ?_ GE351.out | refine below_set ?_ GE355.out) | exact HB.out))))
                      have n7_:=Aside0.mk (Kd.N_lower (Kd.N_mono (ok':=fun k_ => ((P0_0_ k_ ∨ P0_1_ k_) ∨ w.heap.size ≤ k_) ∧ some k_ ≠ (v374 : Value).ownBlock ∧ k_ ≠ gb347 ∧ k_ ≠ gb351 ∧ k_ ≠ gb355) ho1 (fun k_ hk_ => ⟨Or.elim hk_.1 (fun hs_ => hs_.1) (fun hn_ => (.inr (Nat.le_trans (below_size (by repeat (first | (with_reducible first | exact HB.out | apply below_alloc | apply pw_below_drewN | apply below_drew1 | refine below_set ?_ GE347.out | refine below_set ?_ GE351.out | refine below_set ?_ GE355.out) | exact HB.out))) hn_))),hk_.2,Or.elim hk_.1 (fun hs_ => hs_.2.1) (fun hn_ => (Kd.freshB (g:=gb347) (o:=.cells #[.slice A0_0 l0_0.length c0_0,.slice A0_1 l0_1.length c0_1] 27 (0,0)) (by (with_reducible repeat (first | refine blk_drewN ?_ _ | refine blk_drew ?_ | refine blk_alloc ?_ _));exact BK347.out) k_ hn_)),Or.elim hk_.1 (fun hs_ => hs_.2.2.1) (fun hn_ => (Kd.freshB (g:=gb351) (o:=.cells #[.slice Ao36 x352000_3.length co36,.slice Ao40 x352001_3.length co40] 27 (0,0)) (by (with_reducible repeat (first | refine blk_drewN ?_ _ | refine blk_drew ?_ | refine blk_alloc ?_ _));exact BK351.out) k_ hn_)),Or.elim hk_.1 (fun hs_ => hs_.2.2.2) (fun hn_ => (Kd.freshB (g:=gb355) (o:=.cells #[.slice Ao36 x352000_3.length co36,.slice Ao40 x352001_3.length co40] 27 (0,0)) (by (with_reducible repeat (first | refine blk_drewN ?_ _ | refine blk_drew ?_ | refine blk_alloc ?_ _));exact BK355.out) k_ hn_))⟩)) (below_size (by repeat (first | (with_reducible first | exact HB.out | apply below_alloc | apply pw_below_drewN | apply below_drew1 | refine below_set ?_ GE347.out | refine below_set ?_ GE351.out | refine below_set ?_ GE355.out) | exact HB.out))))
                      have n8_:=Aside0.mk (blk_below (g:=gb347) (o:=.cells #[.slice A0_0 l0_0.length c0_0,.slice A0_1 l0_1.length c0_1] 27 (0,0)) (by (with_reducible repeat (first | refine blk_drewN ?_ _ | refine blk_drew ?_ | refine blk_alloc ?_ _));exact BK347.out) hb)
                      have n9_:=Aside0.mk (blk_below (g:=gb351) (o:=.cells #[.slice Ao36 x352000_3.length co36,.slice Ao40 x352001_3.length co40] 27 (0,0)) (by (with_reducible repeat (first | refine blk_drewN ?_ _ | refine blk_drew ?_ | refine blk_alloc ?_ _));exact BK351.out) hb)
                      have n10_:=Aside0.mk (blk_below (g:=gb355) (o:=.cells #[.slice Ao36 x352000_3.length co36,.slice Ao40 x352001_3.length co40] 27 (0,0)) (by (with_reducible repeat (first | refine blk_drewN ?_ _ | refine blk_drew ?_ | refine blk_alloc ?_ _));exact BK355.out) hb)
                      have n11_:=Aside0.mk (below_step (by repeat (first | (with_reducible first | exact HB.out | apply below_alloc | apply pw_below_drewN | apply below_drew1 | refine below_set ?_ GE347.out | refine below_set ?_ GE351.out | refine below_set ?_ GE355.out) | exact HB.out)) hb)
                      clear HO_348000
                      clear HO_348001
                      clear HO_352000
                      clear HO_352001
                      clear HO_356000
                      clear HO_356001
                      clear BK347
                      clear BK351
                      clear BK355
                      clear HB
                      have HO_348000:=n0_
                      have HO_348001:=n1_
                      have HO_352000:=n2_
                      have HO_352001:=n3_
                      have HO_356000:=n4_
                      have HO_356001:=n5_
                      have HO375:=n6_
                      have HO378:=n7_
                      have BK347:=n8_
                      have BK351:=n9_
                      have BK355:=n10_
                      have HB:=n11_
                      clear n0_ n1_ n2_ n3_ n4_ n5_ n6_ n7_ n8_ n9_ n10_ n11_
                      (try clear hb)
                      (try clear hb2)
                      (try clear hk)
                      (try clear hi)
                      (try clear ho0)
                      (try clear ho1)
                      obtain ⟨Ao66,co66,eo66⟩:=Kd.R_slice HO375.out
                      (first | subst eo66 | (injection eo66 with f1_ f2_ f3_;have f4_:=f1_.symm;have f5_:=f3_.symm;clear f1_ f2_ f3_;subst f4_;subst f5_))
                      obtain ⟨Ao68,co68,eo68⟩:=Kd.N_slice HO378.out
                      (first | subst eo68 | (injection eo68 with f1_ f2_ f3_;have f4_:=f1_.symm;have f5_:=f3_.symm;clear f1_ f2_ f3_;subst f4_;subst f5_))
                      refine hK.out _ _ ?_
                      clear hK K
                      refine norm_ (a':=?_) ?_ ?_
                      rotate_left
                      ·show Act.put _ (some 64) _ = _
                       simp only [Act.put,q1_,q2_,q3_,i64_w,i32_w]
                       rfl
                      refine pure_ (i:=6) (N:=some 58) (v:=?_) (a':=?_) #[tt,tt,tt,tt,tt,tt,tt,ff,ff,ff,ff,ff,ff] rfl rfl (any_of HT_.out (by kernel_rfl)) (fun _ _ _ h => h) (Or.inl ⟨by rfl,?_⟩) ?_ ?_
                      rotate_left
                      ·intro w'
                       go_simp
                       with_reducible rfl
                      rotate_left
                      ·simp only [Act.put,q1_,q2_,q3_,i64_w,i32_w]
                       rfl
                      refine pure_ (i:=7) (N:=some 65) (v:=?_) (a':=?_) #[tt,tt,tt,tt,tt,tt,tt,tt,ff,ff,ff,ff,ff] rfl rfl (any_of HT_.out (by kernel_rfl)) (fun _ _ _ h => h) (Or.inl ⟨by rfl,?_⟩) ?_ ?_
                      rotate_left
                      ·intro w'
                       go_simp
                       with_reducible rfl
                      rotate_left
                      ·simp only [Act.put,q1_,q2_,q3_,i64_w,i32_w]
                       rfl
                      refine pure_ (i:=8) (N:=some 66) (v:=?_) (a':=?_) #[tt,tt,tt,tt,tt,tt,tt,tt,tt,ff,ff,ff,ff] rfl rfl (any_of HT_.out (by kernel_rfl)) (fun _ _ _ h => h) (Or.inl ⟨by rfl,?_⟩) ?_ ?_
                      rotate_left
                      ·intro w'
                       go_simp
                       with_reducible rfl
                      rotate_left
                      ·simp only [Act.put,q1_,q2_,q3_,i64_w,i32_w]
                       rfl
                      refine pure_ (i:=9) (N:=some 67) (v:=?_) (a':=?_) #[tt,tt,tt,tt,tt,tt,tt,tt,tt,tt,ff,ff,ff] rfl rfl (any_of HT_.out (by kernel_rfl)) (fun _ _ _ h => h) (Or.inl ⟨by rfl,?_⟩) ?_ ?_
                      rotate_left
                      ·intro w'
                       go_simp
                       with_reducible rfl
                      rotate_left
                      ·simp only [Act.put,q1_,q2_,q3_,i64_w,i32_w]
                       rfl
                      refine last_ (i:=10) (N:=none) #[tt,tt,tt,tt,tt,tt,tt,tt,tt,tt,tt,ff,ff] rfl rfl (one_of HT_.out (by kernel_rfl)) (by decide) (fun K hK => ?_)
                      have hs67 : w65.cell? ⟨gb355,0,none⟩ = some (.slice Ao36 x352000_3.length co36):=(blk_cell BK355.out 0).trans rfl
                      have hfs67:=blk_frozen BK355.out 0
                      have hns67_0:=NB347_355.out
                      have hns67_1:=NB351_355.out
                      have hms67_0:=NB355_347.out
                      have hms67_1:=NB355_351.out
                      have hs69 : w65.cell? ⟨gb355,1,none⟩ = some (.slice Ao40 x352001_3.length co40):=(blk_cell BK355.out 1).trans rfl
                      have hfs69:=blk_frozen BK355.out 1
                      have hns69_0:=NB347_355.out
                      have hns69_1:=NB351_355.out
                      have hms69_0:=NB355_347.out
                      have hms69_1:=NB355_351.out
                      refine skip_ (w1:=?_) (by rfl) rfl ?_ ?_
                      rotate_left
                      ·go_simp
                       rfl
                      refine hK.out _ _ ?_
                      clear hK K
                      refine pure_ (i:=11) (N:=some 9) (v:=?_) (a':=?_) #[tt,tt,tt,tt,tt,tt,tt,tt,tt,tt,tt,tt,ff] rfl rfl (any_of HT_.out (by kernel_rfl)) (fun _ _ _ h => h) (Or.inl ⟨by rfl,?_⟩) ?_ ?_
                      rotate_left
                      ·intro w'
                       go_simp
                       with_reducible rfl
                      rotate_left
                      ·simp only [Act.put,q1_,q2_,q3_,i64_w,i32_w]
                       rfl
                      refine pure_ (i:=12) (N:=some 11) (v:=?_) (a':=?_) #[tt,tt,tt,tt,tt,tt,tt,tt,tt,tt,tt,tt,tt] rfl rfl (any_of HT_.out (by kernel_rfl)) (fun _ _ _ h => h) (Or.inl ⟨by rfl,?_⟩) ?_ ?_
                      rotate_left
                      ·intro w'
                       go_simp
                       with_reducible rfl
                      rotate_left
                      ·simp only [Act.put,q1_,q2_,q3_,i64_w,i32_w]
                       rfl
                      refine done_ (done_of HT_.out (by kernel_rfl)) ?_
                      try go_wp2
                      go_meet
                      case rel => exact ⟨_,(t379),(t380),(t373),(t376),(.slice Ao66 t373.length co66),(.slice Ao68 t376.length co68),(by first | rfl | (simp;done) | (simp [*];done)),(by first | rfl | (simp;done) | (simp [*];done)),H',⟨by have:=HJ3.out;have:=HJ17.out;have:=HK3.out;have:=HJ22.out;have:=HJ49.out;first | omega | exact Nat.le_refl _⟩,⟨by (with_reducible repeat (first | apply Kd.V_alloc | apply Kd.V_drewN | apply Kd.V_drew));exact Kd.V_mono (Kd.V_far (p:=⟨gb355,1,none⟩) (Kd.V_far (p:=⟨gb355,0,none⟩) (Kd.V_mono HO_348000.out (fun k_ hk => (⟨hk,hk.1.1.2.2.2⟩ : _ ∧ k_ ≠ gb355))) (fun _ hk => hk.2) (.slice Ao66 t373.length co66)) (fun _ hk => hk.2) (.slice Ao68 t376.length co68)) (fun _ hk => ⟨hk.1.1.1.1,⟨hk.1.1.2,⟨hk.1.1.1.2.1,⟨hk.1.1.1.2.2.1,hk.1.1.1.2.2.2⟩⟩⟩⟩)⟩,⟨by (with_reducible repeat (first | apply Kd.V_alloc | apply Kd.V_drewN | apply Kd.V_drew));exact Kd.V_mono (Kd.V_far (p:=⟨gb355,1,none⟩) (Kd.V_far (p:=⟨gb355,0,none⟩) (Kd.V_mono HO_348001.out (fun k_ hk => (⟨hk,hk.1.1.2.2.2⟩ : _ ∧ k_ ≠ gb355))) (fun _ hk => hk.2) (.slice Ao66 t373.length co66)) (fun _ hk => hk.2) (.slice Ao68 t376.length co68)) (fun _ hk => ⟨hk.1.1.1.1,⟨hk.1.1.2,⟨hk.1.1.1.2.1,⟨hk.1.1.1.2.2.1,hk.1.1.1.2.2.2⟩⟩⟩⟩)⟩,⟨by (with_reducible repeat (first | apply Kd.V_alloc | apply Kd.V_drewN | apply Kd.V_drew));exact Kd.V_mono (Kd.V_far (p:=⟨gb355,1,none⟩) (Kd.V_far (p:=⟨gb355,0,none⟩) (Kd.V_mono HO_352000.out (fun k_ hk => (⟨hk,hk.1.1.2.2.2⟩ : _ ∧ k_ ≠ gb355))) (fun _ hk => hk.2) (.slice Ao66 t373.length co66)) (fun _ hk => hk.2) (.slice Ao68 t376.length co68)) (fun _ hk => ⟨hk.1.1.1.1,⟨hk.1.1.1.2.1,⟨hk.1.1.1.2.2.1,hk.1.1.1.2.2.2⟩⟩⟩)⟩,⟨by (with_reducible repeat (first | apply Kd.V_alloc | apply Kd.V_drewN | apply Kd.V_drew));exact Kd.V_mono (Kd.V_far (p:=⟨gb355,1,none⟩) (Kd.V_far (p:=⟨gb355,0,none⟩) (Kd.V_mono HO_352001.out (fun k_ hk => (⟨hk,hk.1.1.2.2.2⟩ : _ ∧ k_ ≠ gb355))) (fun _ hk => hk.2) (.slice Ao66 t373.length co66)) (fun _ hk => hk.2) (.slice Ao68 t376.length co68)) (fun _ hk => ⟨hk.1.1.1.1,⟨hk.1.1.2,⟨hk.1.1.1.2.1,⟨hk.1.1.1.2.2.1,hk.1.1.1.2.2.2⟩⟩⟩⟩)⟩,⟨by (with_reducible repeat (first | apply Kd.R_alloc | apply Kd.R_drewN | apply Kd.R_drew));exact Kd.R_mono (Kd.R_far (p:=⟨gb355,1,none⟩) (Kd.R_far (p:=⟨gb355,0,none⟩) (Kd.R_types HO375.out BK355.out (by decide)) (fun _ hk => hk.2) (.slice Ao66 t373.length co66)) (fun _ hk => hk.2) (.slice Ao68 t376.length co68)) (fun _ hk => hk.1.1)⟩,⟨Kd.N_V (by (with_reducible repeat (first | apply Kd.N_alloc | apply Kd.N_drewN | apply Kd.N_drew));exact Kd.N_mono (Kd.N_far (p:=⟨gb355,1,none⟩) (Kd.N_far (p:=⟨gb355,0,none⟩) (Kd.N_mono HO378.out (fun k_ hk => (⟨hk,hk.2.2.2.2⟩ : _ ∧ k_ ≠ gb355))) (fun _ hk => hk.2) (.slice Ao66 t373.length co66)) (fun _ hk => hk.2) (.slice Ao68 t376.length co68)) (fun _ hk => ⟨hk.1.1,⟨hk.1.2.1,⟨hk.1.2.2.1,⟨hk.1.2.2.2.1,hk.1.2.2.2.2⟩⟩⟩⟩))⟩,⟨by (with_reducible repeat (first | refine blk_drewN ?_ _ | refine blk_drew ?_ | refine blk_alloc ?_ _));refine blk_far ?_ NB347_355.out _;(with_reducible repeat (first | refine blk_drewN ?_ _ | refine blk_drew ?_ | refine blk_alloc ?_ _));refine blk_far ?_ NB347_355.out _;(with_reducible repeat (first | refine blk_drewN ?_ _ | refine blk_drew ?_ | refine blk_alloc ?_ _));exact BK347.out⟩,⟨by (with_reducible repeat (first | refine blk_drewN ?_ _ | refine blk_drew ?_ | refine blk_alloc ?_ _));refine blk_far ?_ NB351_355.out _;(with_reducible repeat (first | refine blk_drewN ?_ _ | refine blk_drew ?_ | refine blk_alloc ?_ _));refine blk_far ?_ NB351_355.out _;(with_reducible repeat (first | refine blk_drewN ?_ _ | refine blk_drew ?_ | refine blk_alloc ?_ _));exact BK351.out⟩,⟨by (with_reducible repeat (first | refine blk_drewN ?_ _ | refine blk_drew ?_ | refine blk_alloc ?_ _));refine blk_put (cs:=#[.slice Ao66 t373.length co66,.slice Ao40 x352001_3.length co40]) ?_ 1 _ rfl;(with_reducible repeat (first | refine blk_drewN ?_ _ | refine blk_drew ?_ | refine blk_alloc ?_ _));refine blk_put (cs:=#[.slice Ao36 x352000_3.length co36,.slice Ao40 x352001_3.length co40]) ?_ 0 _ rfl;(with_reducible repeat (first | refine blk_drewN ?_ _ | refine blk_drew ?_ | refine blk_alloc ?_ _));exact BK355.out⟩,⟨by repeat (first | (with_reducible first | exact HB.out | apply below_alloc | apply pw_below_drewN | apply below_drew1 | refine below_set ?_ GE347.out | refine below_set ?_ GE351.out | refine below_set ?_ GE355.out) | exact HB.out)⟩⟩
                     ·rw [if_neg c62] at H
                      exact absurd H (by simp)
                    ·rw [if_neg c61] at H
                     exact absurd H (by simp)
               case rest =>
                clear HC32
                try clear c1
                try clear c2
                try clear p2
                try clear c3
                try clear p3
                try clear q3
                try clear hx3
                try clear c4
                try clear c5
                try clear c6
                try clear p6
                try clear c7
                try clear c8
                try clear c12
                try clear c14
                try clear c15
                try clear c16
                try clear c21
                try clear c24
                try clear c24b0
                try clear c25
                try clear c25b0
                try clear c26
                try clear c27
                try clear c27b0
                try clear c28
                try clear c28b0
                try clear c29
                try clear c29b0
                try clear c29b1
                try clear c31
                try clear c31b0
                try clear c33
                try clear c35
                try clear p35
                try clear q35
                try clear hx35
                try clear c37
                try clear p37
                try clear q37
                try clear hx37
                try clear c38
                try clear c41
                try clear c41b0
                try clear c41b1
                try clear c51
                try clear c53
                try clear c54
                try clear c58
                try clear c61
                try clear c61b0
                try clear c62
                try clear c62b0
                try clear hcz11_0
                try clear hcz11_1
                try clear hcz13_0
                try clear hcz13_1
                try clear hcz19_0
                try clear hcz19_1
                try clear hcz22_0
                try clear hcz22_1
                try clear hcz34_0
                try clear hcz34_1
                try clear hcz39_0
                try clear hcz39_1
                try clear hcz55_0
                try clear hcz55_1
                try clear hcz59_0
                try clear hcz59_1
                try clear hcz9_0
                try clear hcz9_1
                try clear hfz11_0
                try clear hfz11_1
                try clear hfz13_0
                try clear hfz13_1
                try clear hfz19_0
                try clear hfz19_1
                try clear hfz22_0
                try clear hfz22_1
                try clear hfz34_0
                try clear hfz34_1
                try clear hfz39_0
                try clear hfz39_1
                try clear hfz55_0
                try clear hfz55_1
                try clear hfz59_0
                try clear hfz59_1
                try clear hfz9_0
                try clear hfz9_1
                try clear hx353_0
                try clear hx354_0
                try clear hx356_0
                try clear hx357_0
                try clear hx372_0
                try clear p2
                try clear p3
                try clear p35
                try clear p353
                try clear p354
                try clear p356
                try clear p357
                try clear p372
                try clear p6
                try clear q3
                try clear q35
                try clear q353
                try clear q354
                try clear q356
                try clear q357
                try clear q372
                obtain ⟨kq,x9_31,x11_31,x356000_31,x356001_31,u356000,u356001,rfl,rfl,HA,HJ31,HO_348000,HO_348001,HO_352000,HO_352001,HO_356000,HO_356001,BK347,BK351,BK355,HB⟩:=hcut
                cases kq with
                | zero => exact absurd HA.out (by simp [humuslaw08_LeafOthers.j6])
                | succ kj31 =>
                 have H:=HA.out
                 clear HA
                 simp only [humuslaw08_LeafOthers.j6] at H
                 have HC70:=Aside0.mk H
                 clear H
                 go_upto_region 16 with (fail)
                 go_cut [95] (fun v95 wc => ∃ (kq : Nat) (x95_69 : Bool),v95 = .bool x95_69 ∧ Aside0 (humuslaw08_LeafOthers.j7 kq l1 l2 x8_3 x9_31 x95_69 x352000_3 x352001_3 x356000_31 x356001_31 = some r) ∧ Aside0 (kq ≤ kj31) ∧ Aside0 (Kd.V (Kd.int .i64) 3 wc w.heap.size (fun k_ => ((P0_0_ k_ ∨ P0_1_ k_) ∨ w.heap.size ≤ k_) ∧ some k_ ≠ (u356000 : Value).ownBlock ∧ k_ ≠ gb347 ∧ k_ ≠ gb351 ∧ k_ ≠ gb355) (.slice A0_0 l0_0.length c0_0) l0_0) ∧ Aside0 (Kd.V (Kd.slice 5 (Kd.int .u8)) 22 wc w.heap.size (fun k_ => ((P0_0_ k_ ∨ P0_1_ k_) ∨ w.heap.size ≤ k_) ∧ some k_ ≠ (u356000 : Value).ownBlock ∧ k_ ≠ gb347 ∧ k_ ≠ gb351 ∧ k_ ≠ gb355) (.slice A0_1 l0_1.length c0_1) l0_1) ∧ Aside0 (Kd.V (Kd.int .i64) 3 wc w.heap.size (fun k_ => ((P0_0_ k_ ∨ P0_1_ k_) ∨ w.heap.size ≤ k_) ∧ k_ ≠ gb347 ∧ k_ ≠ gb351 ∧ k_ ≠ gb355) (.slice Ao36 x352000_3.length co36) x352000_3) ∧ Aside0 (Kd.V (Kd.slice 5 (Kd.int .u8)) 22 wc w.heap.size (fun k_ => ((P0_0_ k_ ∨ P0_1_ k_) ∨ w.heap.size ≤ k_) ∧ some k_ ≠ (u356000 : Value).ownBlock ∧ k_ ≠ gb347 ∧ k_ ≠ gb351 ∧ k_ ≠ gb355) (.slice Ao40 x352001_3.length co40) x352001_3) ∧ Aside0 (Kd.R (Kd.int .i64) 3 wc w.heap.size (fun k_ => (w.heap.size ≤ k_)) u356000 x356000_31) ∧ Aside0 (Kd.V (Kd.slice 5 (Kd.int .u8)) 22 wc w.heap.size (fun k_ => ((P0_0_ k_ ∨ P0_1_ k_) ∨ w.heap.size ≤ k_) ∧ some k_ ≠ (u356000 : Value).ownBlock ∧ k_ ≠ gb347 ∧ k_ ≠ gb351 ∧ k_ ≠ gb355) u356001 x356001_31) ∧ Aside0 (wc.heap[gb347]? = some (.cells #[(.slice A0_0 l0_0.length c0_0),(.slice A0_1 l0_1.length c0_1)] 27 (0,0))) ∧ Aside0 (wc.heap[gb351]? = some (.cells #[(.slice Ao36 x352000_3.length co36),(.slice Ao40 x352001_3.length co40)] 27 (0,0))) ∧ Aside0 (wc.heap[gb355]? = some (.cells #[u356000,u356001] 27 (0,0))) ∧ Aside0 (Below w.heap.size w wc))
                 case first =>
                  have H:=HC70.out
                  clear HC70
                  by_cases c71 : x11_31 = 0
                  ·rw [if_pos c71] at H
                   have c71b0 : (x11_31 == 0) = true:=beq_iff_eq.mpr c71
                   have c71b1 : (x11_31 != 0) = false:=bne_eq_false_iff_eq.mpr c71
                   clear c71
                   (first | rw [c71b0] | (simp only [i64_w,i32_w];rw [c71b0]) | skip)
                   have H':=Aside0.mk H
                   clear H
                   go_wp2
                   go_meet
                   case rel => exact ⟨_,(false),(by first | rfl | (simp;done) | (simp [*];done)),H',⟨by have:=HJ3.out;have:=HJ17.out;have:=HK3.out;have:=HJ22.out;have:=HJ31.out;first | omega | exact Nat.le_refl _⟩,⟨by (with_reducible repeat (first | apply Kd.V_alloc | apply Kd.V_drewN | apply Kd.V_drew));exact HO_348000.out⟩,⟨by (with_reducible repeat (first | apply Kd.V_alloc | apply Kd.V_drewN | apply Kd.V_drew));exact HO_348001.out⟩,⟨by (with_reducible repeat (first | apply Kd.V_alloc | apply Kd.V_drewN | apply Kd.V_drew));exact HO_352000.out⟩,⟨by (with_reducible repeat (first | apply Kd.V_alloc | apply Kd.V_drewN | apply Kd.V_drew));exact HO_352001.out⟩,⟨by (with_reducible repeat (first | apply Kd.R_alloc | apply Kd.R_drewN | apply Kd.R_drew));exact HO_356000.out⟩,⟨by (with_reducible repeat (first | apply Kd.V_alloc | apply Kd.V_drewN | apply Kd.V_drew));exact HO_356001.out⟩,⟨by (with_reducible repeat (first | refine blk_drewN ?_ _ | refine blk_drew ?_ | refine blk_alloc ?_ _));exact BK347.out⟩,⟨by (with_reducible repeat (first | refine blk_drewN ?_ _ | refine blk_drew ?_ | refine blk_alloc ?_ _));exact BK351.out⟩,⟨by (with_reducible repeat (first | refine blk_drewN ?_ _ | refine blk_drew ?_ | refine blk_alloc ?_ _));exact BK355.out⟩,⟨by repeat (first | (with_reducible first | exact HB.out | apply below_alloc | apply pw_below_drewN | apply below_drew1 | refine below_set ?_ GE347.out | refine below_set ?_ GE351.out | refine below_set ?_ GE355.out) | exact HB.out)⟩⟩
                  ·rw [if_neg c71] at H
                   have c71b0 : (x11_31 == 0) = false:=beq_eq_false_iff_ne.mpr c71
                   have c71b1 : (x11_31 != 0) = true:=bne_iff_ne.mpr c71
                   (first | rw [c71b0] | (simp only [i64_w,i32_w];rw [c71b0]) | skip)
                   replace H:=Option.bind_eq_some_iff.mp H
                   obtain ⟨t381,A720,H⟩:=H
                   replace H : (humuslaw08_LeafOthers.j7 kj31 l1 l2 x8_3 x9_31 (!t381) x352000_3 x352001_3 x356000_31 x356001_31) = some r:=H
                   have A72:=Aside0.mk A720
                   clear A720
                   have H':=Aside0.mk H
                   clear H
                   have hnb73:=NB355_347.out
                   have hnc73:=NB347_355.out
                   have hnb74:=NB355_351.out
                   have hnc74:=NB351_355.out
                   have hcz75_0 : wc.cell? ⟨gb355,0,none⟩ = some (u356000):=(blk_cell BK355.out 0).trans rfl
                   have hcz75_1 : wc.cell? ⟨gb355,1,none⟩ = some (u356001):=(blk_cell BK355.out 1).trans rfl
                   have hfz75_0:=blk_frozen BK355.out 0
                   have hfz75_1:=blk_frozen BK355.out 1
                   have hnb76:=NB351_347.out
                   have hnc76:=NB347_351.out
                   have hcz77_0 : wc.cell? ⟨gb351,0,none⟩ = some (.slice Ao36 x352000_3.length co36):=(blk_cell BK351.out 0).trans rfl
                   have hcz77_1 : wc.cell? ⟨gb351,1,none⟩ = some (.slice Ao40 x352001_3.length co40):=(blk_cell BK351.out 1).trans rfl
                   have hfz77_0:=blk_frozen BK351.out 0
                   have hfz77_1:=blk_frozen BK351.out 1
                   obtain ⟨Ao78,co78,eo78⟩:=Kd.R_slice HO_356000.out
                   subst eo78
                   obtain ⟨Ao79,co79,eo79⟩:=Kd.V_slice HO_356001.out
                   subst eo79
                   go_wp2_with (first | (go_at_call 11;(with_reducible refine (humusref08_Same.calls kj31 _ _ x356000_31 _ _ x356001_31 _ _ x352000_3 _ _ x352001_3 t381 _ ?side1 ?side2 ?side3 ?side4 ?side5 ?side6 ?side7 ?side8 A72.out).mono ?_);(case side1 => repeat (first | exact (Kd.R_reads' HO_356000.out).2.2 | (with_reducible refine Kd.C_alloc ?_ _) | (with_reducible refine Kd.C_drewN ?_ _) | (with_reducible refine Kd.C_drew ?_)));(case side2 => exact (Kd.R_reads' HO_356000.out).2.1);(case side3 => repeat (first | exact (Kd.V_reads' HO_356001.out).2.2 | (with_reducible refine Kd.C_alloc ?_ _) | (with_reducible refine Kd.C_drewN ?_ _) | (with_reducible refine Kd.C_drew ?_)));(case side4 => exact (Kd.V_reads' HO_356001.out).2.1);(case side5 => repeat (first | exact (Kd.V_reads' HO_352000.out).2.2 | (with_reducible refine Kd.C_alloc ?_ _) | (with_reducible refine Kd.C_drewN ?_ _) | (with_reducible refine Kd.C_drew ?_)));(case side6 => exact (Kd.V_reads' HO_352000.out).2.1);(case side7 => repeat (first | exact (Kd.V_reads' HO_352001.out).2.2 | (with_reducible refine Kd.C_alloc ?_ _) | (with_reducible refine Kd.C_drewN ?_ _) | (with_reducible refine Kd.C_drew ?_)));(case side8 => exact (Kd.V_reads' HO_352001.out).2.1);rintro e w80 ⟨rfl,hb⟩;have n0_:=Aside0.mk (Kd.V_below (by (with_reducible repeat (first | apply Kd.V_alloc | apply Kd.V_drewN | apply Kd.V_drew));exact HO_348000.out) hb);have n1_:=Aside0.mk (Kd.V_below (by (with_reducible repeat (first | apply Kd.V_alloc | apply Kd.V_drewN | apply Kd.V_drew));exact HO_348001.out) hb);have n2_:=Aside0.mk (Kd.V_below (by (with_reducible repeat (first | apply Kd.V_alloc | apply Kd.V_drewN | apply Kd.V_drew));exact HO_352000.out) hb);have n3_:=Aside0.mk (Kd.V_below (by (with_reducible repeat (first | apply Kd.V_alloc | apply Kd.V_drewN | apply Kd.V_drew));exact HO_352001.out) hb);have n4_:=Aside0.mk (Kd.R_below (by (with_reducible repeat (first | apply Kd.R_alloc | apply Kd.R_drewN | apply Kd.R_drew));exact HO_356000.out) hb);have n5_:=Aside0.mk (Kd.V_below (by (with_reducible repeat (first | apply Kd.V_alloc | apply Kd.V_drewN | apply Kd.V_drew));exact HO_356001.out) hb);have n6_:=Aside0.mk (blk_below (g:=gb347) (o:=.cells #[.slice A0_0 l0_0.length c0_0,.slice A0_1 l0_1.length c0_1] 27 (0,0)) (by (with_reducible repeat (first | refine blk_drewN ?_ _ | refine blk_drew ?_ | refine blk_alloc ?_ _));exact BK347.out) hb);have n7_:=Aside0.mk (blk_below (g:=gb351) (o:=.cells #[.slice Ao36 x352000_3.length co36,.slice Ao40 x352001_3.length co40] 27 (0,0)) (by (with_reducible repeat (first | refine blk_drewN ?_ _ | refine blk_drew ?_ | refine blk_alloc ?_ _));exact BK351.out) hb);have n8_:=Aside0.mk (blk_below (g:=gb355) (o:=.cells #[.slice Ao78 x356000_31.length co78,.slice Ao79 x356001_31.length co79] 27 (0,0)) (by (with_reducible repeat (first | refine blk_drewN ?_ _ | refine blk_drew ?_ | refine blk_alloc ?_ _));exact BK355.out) hb);have n9_:=Aside0.mk (below_step (by repeat (first | (with_reducible first | exact HB.out | apply below_alloc | apply pw_below_drewN | apply below_drew1 | refine below_set ?_ GE347.out | refine below_set ?_ GE351.out | refine below_set ?_ GE355.out) | exact HB.out)) hb);clear HO_348000;clear HO_348001;clear HO_352000;clear HO_352001;clear HO_356000;clear HO_356001;clear BK347;clear BK351;clear BK355;clear HB;have HO_348000:=n0_;have HO_348001:=n1_;have HO_352000:=n2_;have HO_352001:=n3_;have HO_356000:=n4_;have HO_356001:=n5_;have BK347:=n6_;have BK351:=n7_;have BK355:=n8_;have HB:=n9_;clear n0_ n1_ n2_ n3_ n4_ n5_ n6_ n7_ n8_ n9_;(try clear hb);(try clear hb2);(try clear hk);(try clear hi)))
                   go_meet
                   case rel => exact ⟨_,(!t381),(by first | rfl | (simp;done) | (simp [*];done)),H',⟨by have:=HJ3.out;have:=HJ17.out;have:=HK3.out;have:=HJ22.out;have:=HJ31.out;first | omega | exact Nat.le_refl _⟩,⟨by (with_reducible repeat (first | apply Kd.V_alloc | apply Kd.V_drewN | apply Kd.V_drew));exact HO_348000.out⟩,⟨by (with_reducible repeat (first | apply Kd.V_alloc | apply Kd.V_drewN | apply Kd.V_drew));exact HO_348001.out⟩,⟨by (with_reducible repeat (first | apply Kd.V_alloc | apply Kd.V_drewN | apply Kd.V_drew));exact HO_352000.out⟩,⟨by (with_reducible repeat (first | apply Kd.V_alloc | apply Kd.V_drewN | apply Kd.V_drew));exact HO_352001.out⟩,⟨by (with_reducible repeat (first | apply Kd.R_alloc | apply Kd.R_drewN | apply Kd.R_drew));exact HO_356000.out⟩,⟨by (with_reducible repeat (first | apply Kd.V_alloc | apply Kd.V_drewN | apply Kd.V_drew));exact HO_356001.out⟩,⟨by (with_reducible repeat (first | refine blk_drewN ?_ _ | refine blk_drew ?_ | refine blk_alloc ?_ _));exact BK347.out⟩,⟨by (with_reducible repeat (first | refine blk_drewN ?_ _ | refine blk_drew ?_ | refine blk_alloc ?_ _));exact BK351.out⟩,⟨by (with_reducible repeat (first | refine blk_drewN ?_ _ | refine blk_drew ?_ | refine blk_alloc ?_ _));exact BK355.out⟩,⟨by repeat (first | (with_reducible first | exact HB.out | apply below_alloc | apply pw_below_drewN | apply below_drew1 | refine below_set ?_ GE347.out | refine below_set ?_ GE351.out | refine below_set ?_ GE355.out) | exact HB.out)⟩⟩
                 case rest =>
                  clear HC70
                  try clear c1
                  try clear c2
                  try clear p2
                  try clear c3
                  try clear p3
                  try clear q3
                  try clear hx3
                  try clear c4
                  try clear c5
                  try clear c6
                  try clear p6
                  try clear c7
                  try clear c8
                  try clear c12
                  try clear c14
                  try clear c15
                  try clear c16
                  try clear c21
                  try clear c24
                  try clear c24b0
                  try clear c25
                  try clear c25b0
                  try clear c26
                  try clear c27
                  try clear c27b0
                  try clear c28
                  try clear c28b0
                  try clear c29
                  try clear c29b0
                  try clear c29b1
                  try clear c31
                  try clear c31b0
                  try clear c33
                  try clear c35
                  try clear p35
                  try clear q35
                  try clear hx35
                  try clear c37
                  try clear p37
                  try clear q37
                  try clear hx37
                  try clear c38
                  try clear c41
                  try clear c41b0
                  try clear c41b1
                  try clear c51
                  try clear c53
                  try clear c54
                  try clear c58
                  try clear c61
                  try clear c61b0
                  try clear c62
                  try clear c62b0
                  try clear c71
                  try clear c71b0
                  try clear c71b1
                  try clear c73
                  try clear c74
                  try clear c76
                  try clear hcz11_0
                  try clear hcz11_1
                  try clear hcz13_0
                  try clear hcz13_1
                  try clear hcz19_0
                  try clear hcz19_1
                  try clear hcz22_0
                  try clear hcz22_1
                  try clear hcz34_0
                  try clear hcz34_1
                  try clear hcz39_0
                  try clear hcz39_1
                  try clear hcz55_0
                  try clear hcz55_1
                  try clear hcz59_0
                  try clear hcz59_1
                  try clear hcz75_0
                  try clear hcz75_1
                  try clear hcz77_0
                  try clear hcz77_1
                  try clear hcz9_0
                  try clear hcz9_1
                  try clear hfz11_0
                  try clear hfz11_1
                  try clear hfz13_0
                  try clear hfz13_1
                  try clear hfz19_0
                  try clear hfz19_1
                  try clear hfz22_0
                  try clear hfz22_1
                  try clear hfz34_0
                  try clear hfz34_1
                  try clear hfz39_0
                  try clear hfz39_1
                  try clear hfz55_0
                  try clear hfz55_1
                  try clear hfz59_0
                  try clear hfz59_1
                  try clear hfz75_0
                  try clear hfz75_1
                  try clear hfz77_0
                  try clear hfz77_1
                  try clear hfz9_0
                  try clear hfz9_1
                  try clear hx353_0
                  try clear hx354_0
                  try clear hx356_0
                  try clear hx357_0
                  try clear hx372_0
                  try clear p2
                  try clear p3
                  try clear p35
                  try clear p353
                  try clear p354
                  try clear p356
                  try clear p357
                  try clear p37
                  try clear p372
                  try clear p6
                  try clear q3
                  try clear q35
                  try clear q353
                  try clear q354
                  try clear q356
                  try clear q357
                  try clear q37
                  try clear q372
                  obtain ⟨kq,x95_69,rfl,HA,HJ69,HO_348000,HO_348001,HO_352000,HO_352001,HO_356000,HO_356001,BK347,BK351,BK355,HB⟩:=hcut
                  cases kq with
                  | zero => exact absurd HA.out (by simp [humuslaw08_LeafOthers.j7])
                  | succ kj69 =>
                   have H:=HA.out
                   clear HA
                   simp only [humuslaw08_LeafOthers.j7] at H
                   by_cases c81 : x95_69 = true
                   ·subst c81
                    have H1 : (none) = some r:=by rw [if_pos rfl] at H;exact H
                    clear H
                    have H:=H1
                    clear H1
                    exact absurd H (by simp)
                   ·replace c81:=Bool.eq_false_iff.mpr c81
                    subst c81
                    have H1 : (humuslaw08_LeafOthers.l1 kj69 l1 l2 x8_3 x9_31 0 x352000_3 x352001_3 x356000_31 x356001_31) = some r:=by rw [if_neg (show ¬ (false = true) by decide)] at H;exact H
                    clear H
                    have H:=H1
                    clear H1
                    have H':=Aside0.mk H
                    clear H
                    go_wp2
                    go_loopg [12] kj69 (fun kq v12 w' => ∃ (x12_7 : Int),v12 = .int .i64 x12_7 ∧ Aside0 (humuslaw08_LeafOthers.l1 kq l1 l2 x8_3 x9_31 x12_7 x352000_3 x352001_3 x356000_31 x356001_31 = some r) ∧ Aside0 (kq ≤ kj69) ∧ Aside0 (Kd.V (Kd.int .i64) 3 w' w.heap.size (fun k_ => ((P0_0_ k_ ∨ P0_1_ k_) ∨ w.heap.size ≤ k_) ∧ some k_ ≠ (u356000 : Value).ownBlock ∧ k_ ≠ gb347 ∧ k_ ≠ gb351 ∧ k_ ≠ gb355) (.slice A0_0 l0_0.length c0_0) l0_0) ∧ Aside0 (Kd.V (Kd.slice 5 (Kd.int .u8)) 22 w' w.heap.size (fun k_ => ((P0_0_ k_ ∨ P0_1_ k_) ∨ w.heap.size ≤ k_) ∧ some k_ ≠ (u356000 : Value).ownBlock ∧ k_ ≠ gb347 ∧ k_ ≠ gb351 ∧ k_ ≠ gb355) (.slice A0_1 l0_1.length c0_1) l0_1) ∧ Aside0 (Kd.V (Kd.int .i64) 3 w' w.heap.size (fun k_ => ((P0_0_ k_ ∨ P0_1_ k_) ∨ w.heap.size ≤ k_) ∧ k_ ≠ gb347 ∧ k_ ≠ gb351 ∧ k_ ≠ gb355) (.slice Ao36 x352000_3.length co36) x352000_3) ∧ Aside0 (Kd.V (Kd.slice 5 (Kd.int .u8)) 22 w' w.heap.size (fun k_ => ((P0_0_ k_ ∨ P0_1_ k_) ∨ w.heap.size ≤ k_) ∧ some k_ ≠ (u356000 : Value).ownBlock ∧ k_ ≠ gb347 ∧ k_ ≠ gb351 ∧ k_ ≠ gb355) (.slice Ao40 x352001_3.length co40) x352001_3) ∧ Aside0 (Kd.R (Kd.int .i64) 3 w' w.heap.size (fun k_ => (w.heap.size ≤ k_)) u356000 x356000_31) ∧ Aside0 (Kd.V (Kd.slice 5 (Kd.int .u8)) 22 w' w.heap.size (fun k_ => ((P0_0_ k_ ∨ P0_1_ k_) ∨ w.heap.size ≤ k_) ∧ some k_ ≠ (u356000 : Value).ownBlock ∧ k_ ≠ gb347 ∧ k_ ≠ gb351 ∧ k_ ≠ gb355) u356001 x356001_31) ∧ Aside0 (w'.heap[gb347]? = some (.cells #[(.slice A0_0 l0_0.length c0_0),(.slice A0_1 l0_1.length c0_1)] 27 (0,0))) ∧ Aside0 (w'.heap[gb351]? = some (.cells #[(.slice Ao36 x352000_3.length co36),(.slice Ao40 x352001_3.length co40)] 27 (0,0))) ∧ Aside0 (w'.heap[gb355]? = some (.cells #[u356000,u356001] 27 (0,0))) ∧ Aside0 (Below w.heap.size w w'))
                    case atStart => exact ⟨(0),(by first | rfl | (simp;done) | (simp [*];done)),H',⟨Nat.le_refl _⟩,⟨by (with_reducible repeat (first | apply Kd.V_alloc | apply Kd.V_drewN | apply Kd.V_drew));exact HO_348000.out⟩,⟨by (with_reducible repeat (first | apply Kd.V_alloc | apply Kd.V_drewN | apply Kd.V_drew));exact HO_348001.out⟩,⟨by (with_reducible repeat (first | apply Kd.V_alloc | apply Kd.V_drewN | apply Kd.V_drew));exact HO_352000.out⟩,⟨by (with_reducible repeat (first | apply Kd.V_alloc | apply Kd.V_drewN | apply Kd.V_drew));exact HO_352001.out⟩,⟨by (with_reducible repeat (first | apply Kd.R_alloc | apply Kd.R_drewN | apply Kd.R_drew));exact HO_356000.out⟩,⟨by (with_reducible repeat (first | apply Kd.V_alloc | apply Kd.V_drewN | apply Kd.V_drew));exact HO_356001.out⟩,⟨by (with_reducible repeat (first | refine blk_drewN ?_ _ | refine blk_drew ?_ | refine blk_alloc ?_ _));exact BK347.out⟩,⟨by (with_reducible repeat (first | refine blk_drewN ?_ _ | refine blk_drew ?_ | refine blk_alloc ?_ _));exact BK351.out⟩,⟨by (with_reducible repeat (first | refine blk_drewN ?_ _ | refine blk_drew ?_ | refine blk_alloc ?_ _));exact BK355.out⟩,⟨by repeat (first | (with_reducible first | exact HB.out | apply below_alloc | apply pw_below_drewN | apply below_drew1 | refine below_set ?_ GE347.out | refine below_set ?_ GE351.out | refine below_set ?_ GE355.out) | exact HB.out)⟩⟩
                    case round =>
                     clear H'
                     try clear c1
                     try clear c2
                     try clear p2
                     try clear c3
                     try clear p3
                     try clear q3
                     try clear hx3
                     try clear c4
                     try clear c5
                     try clear c6
                     try clear p6
                     try clear c7
                     try clear c8
                     try clear c12
                     try clear c14
                     try clear c15
                     try clear c16
                     try clear c21
                     try clear c24
                     try clear c24b0
                     try clear c25
                     try clear c25b0
                     try clear c26
                     try clear c27
                     try clear c27b0
                     try clear c28
                     try clear c28b0
                     try clear c29
                     try clear c29b0
                     try clear c29b1
                     try clear c31
                     try clear c31b0
                     try clear c33
                     try clear c35
                     try clear p35
                     try clear q35
                     try clear hx35
                     try clear c37
                     try clear p37
                     try clear q37
                     try clear hx37
                     try clear c38
                     try clear c41
                     try clear c41b0
                     try clear c41b1
                     try clear c51
                     try clear c53
                     try clear c54
                     try clear c58
                     try clear c61
                     try clear c61b0
                     try clear c62
                     try clear c62b0
                     try clear c71
                     try clear c71b0
                     try clear c71b1
                     try clear c73
                     try clear c74
                     try clear c76
                     try clear c81
                     try clear hcz11_0
                     try clear hcz11_1
                     try clear hcz13_0
                     try clear hcz13_1
                     try clear hcz19_0
                     try clear hcz19_1
                     try clear hcz22_0
                     try clear hcz22_1
                     try clear hcz34_0
                     try clear hcz34_1
                     try clear hcz39_0
                     try clear hcz39_1
                     try clear hcz55_0
                     try clear hcz55_1
                     try clear hcz59_0
                     try clear hcz59_1
                     try clear hcz75_0
                     try clear hcz75_1
                     try clear hcz77_0
                     try clear hcz77_1
                     try clear hcz9_0
                     try clear hcz9_1
                     try clear hfz11_0
                     try clear hfz11_1
                     try clear hfz13_0
                     try clear hfz13_1
                     try clear hfz19_0
                     try clear hfz19_1
                     try clear hfz22_0
                     try clear hfz22_1
                     try clear hfz34_0
                     try clear hfz34_1
                     try clear hfz39_0
                     try clear hfz39_1
                     try clear hfz55_0
                     try clear hfz55_1
                     try clear hfz59_0
                     try clear hfz59_1
                     try clear hfz75_0
                     try clear hfz75_1
                     try clear hfz77_0
                     try clear hfz77_1
                     try clear hfz9_0
                     try clear hfz9_1
                     try clear hx353_0
                     try clear hx354_0
                     try clear hx356_0
                     try clear hx357_0
                     try clear hx372_0
                     try clear p2
                     try clear p3
                     try clear p35
                     try clear p353
                     try clear p354
                     try clear p356
                     try clear p357
                     try clear p37
                     try clear p372
                     try clear p6
                     try clear q3
                     try clear q35
                     try clear q353
                     try clear q354
                     try clear q356
                     try clear q357
                     try clear q37
                     try clear q372
                     obtain ⟨x12_7,rfl,HA,HK7,HO_348000,HO_348001,HO_352000,HO_352001,HO_356000,HO_356001,BK347,BK351,BK355,HB⟩:=hrel
                     cases gk with
                     | zero => exact absurd HA.out (by simp [humuslaw08_LeafOthers.l1])
                     | succ k7 =>
                      have H:=HA.out
                      clear HA
                      simp only [humuslaw08_LeafOthers.l1] at H
                      by_cases c82 : x12_7 < (x352001_3.length : Int)
                      ·rw [if_pos c82] at H
                       have c82b0 : decide (x12_7 < (x352001_3.length : Int)) = true:=decide_eq_true c82
                       clear c82
                       by_cases c83 : x12_7 = x9_31
                       ·rw [if_pos c83] at H
                        have c83b0 : (x12_7 == x9_31) = true:=beq_iff_eq.mpr c83
                        have c83b1 : (x12_7 != x9_31) = false:=bne_eq_false_iff_eq.mpr c83
                        clear c83
                        have H':=Aside0.mk H
                        clear H
                        have hnb84:=NB351_347.out
                        have hnc84:=NB347_351.out
                        have hnb85:=NB351_355.out
                        have hnc85:=NB355_351.out
                        have hcz86_0 : wr.cell? ⟨gb351,0,none⟩ = some (.slice Ao36 x352000_3.length co36):=(blk_cell BK351.out 0).trans rfl
                        have hcz86_1 : wr.cell? ⟨gb351,1,none⟩ = some (.slice Ao40 x352001_3.length co40):=(blk_cell BK351.out 1).trans rfl
                        have hfz86_0:=blk_frozen BK351.out 0
                        have hfz86_1:=blk_frozen BK351.out 1
                        try go_wp2
                        have n0_:=Aside0.mk (Kd.V_drew HO_348000.out)
                        have n1_:=Aside0.mk (Kd.V_drew HO_348001.out)
                        have n2_:=Aside0.mk (Kd.V_drew HO_352000.out)
                        have n3_:=Aside0.mk (Kd.V_drew HO_352001.out)
                        have n4_:=Aside0.mk (Kd.R_drew HO_356000.out)
                        have n5_:=Aside0.mk (Kd.V_drew HO_356001.out)
                        have n6_:=Aside0.mk (blk_drew BK347.out)
                        have n7_:=Aside0.mk (blk_drew BK351.out)
                        have n8_:=Aside0.mk (blk_drew BK355.out)
                        have n9_:=Aside0.mk (below_drew1 HB.out)
                        clear HO_348000
                        clear HO_348001
                        clear HO_352000
                        clear HO_352001
                        clear HO_356000
                        clear HO_356001
                        clear BK347
                        clear BK351
                        clear BK355
                        clear HB
                        have HO_348000:=n0_
                        have HO_348001:=n1_
                        have HO_352000:=n2_
                        have HO_352001:=n3_
                        have HO_356000:=n4_
                        have HO_356001:=n5_
                        have BK347:=n6_
                        have BK351:=n7_
                        have BK355:=n8_
                        have HB:=n9_
                        clear n0_ n1_ n2_ n3_ n4_ n5_ n6_ n7_ n8_ n9_
                        refine start_ (n:=34) (S:=fun w' => True) (ds:=[]) #[ff,ff,ff,ff,ff,ff,ff,ff,ff,ff,ff,ff,ff,ff,ff,ff,ff,ff,ff,ff,ff,ff,ff,ff,ff,ff,ff,ff,ff,ff,ff,ff,ff,ff] (by kernel_rfl) rfl rfl trivial (fun hHeld => ?_);refine with_tabW humuslaw08_LeafOthers.tab21 humuslaw08_LeafOthers.bits21 (fun HT_ HW_ => ?_)
                        generalize wr.drew = w87 at HO_348000 HO_348001 HO_352000 HO_352001 HO_356000 HO_356001 BK347 BK351 BK355 HB hHeld ⊢
                        refine pure_ (i:=0) (N:=some 103) (v:=?_) (a':=?_) #[tt,ff,ff,ff,ff,ff,ff,ff,ff,ff,ff,ff,ff,ff,ff,ff,ff,ff,ff,ff,ff,ff,ff,ff,ff,ff,ff,ff,ff,ff,ff,ff,ff,ff] rfl rfl (any_of HT_.out (by kernel_rfl)) (fun _ _ _ h => h) (Or.inl ⟨by rfl,?_⟩) ?_ ?_
                        rotate_left
                        ·intro w'
                         go_simp
                         with_reducible rfl
                        rotate_left
                        ·simp only [Act.put,q1_,q2_,q3_,i64_w,i32_w]
                         rfl
                        refine pure_ (i:=1) (N:=some 104) (v:=?_) (a':=?_) #[tt,tt,ff,ff,ff,ff,ff,ff,ff,ff,ff,ff,ff,ff,ff,ff,ff,ff,ff,ff,ff,ff,ff,ff,ff,ff,ff,ff,ff,ff,ff,ff,ff,ff] rfl rfl (any_of HT_.out (by kernel_rfl)) (fun _ _ _ h => h) (Or.inl ⟨by rfl,?_⟩) ?_ ?_
                        rotate_left
                        ·intro w'
                         go_simp
                         with_reducible rfl
                        rotate_left
                        ·simp only [Act.put,q1_,q2_,q3_,i64_w,i32_w]
                         rfl
                        refine pure_ (i:=2) (N:=some 105) (v:=?_) (a':=?_) #[tt,tt,tt,ff,ff,ff,ff,ff,ff,ff,ff,ff,ff,ff,ff,ff,ff,ff,ff,ff,ff,ff,ff,ff,ff,ff,ff,ff,ff,ff,ff,ff,ff,ff] rfl rfl (any_of HT_.out (by kernel_rfl)) (fun _ _ _ h => h) (Or.inl ⟨by rfl,?_⟩) ?_ ?_
                        rotate_left
                        ·intro w'
                         go_simp
                         with_reducible rfl
                        rotate_left
                        ·simp only [Act.put,q1_,q2_,q3_,i64_w,i32_w]
                         rfl
                        refine pure_ (i:=3) (N:=some 106) (v:=?_) (a':=?_) #[tt,tt,tt,tt,ff,ff,ff,ff,ff,ff,ff,ff,ff,ff,ff,ff,ff,ff,ff,ff,ff,ff,ff,ff,ff,ff,ff,ff,ff,ff,ff,ff,ff,ff] rfl rfl (any_of HT_.out (by kernel_rfl)) (fun _ _ _ h => h) (Or.inl ⟨by rfl,?_⟩) ?_ ?_
                        rotate_left
                        ·intro w'
                         go_simp
                         with_reducible rfl
                        rotate_left
                        ·simp only [Act.put,q1_,q2_,q3_,i64_w,i32_w]
                         rfl
                        refine pure_ (i:=4) (N:=some 107) (v:=undef) (a':=?_) #[tt,tt,tt,tt,tt,ff,ff,ff,ff,ff,ff,ff,ff,ff,ff,ff,ff,ff,ff,ff,ff,ff,ff,ff,ff,ff,ff,ff,ff,ff,ff,ff,ff,ff] rfl rfl (any_of HT_.out (by kernel_rfl)) (fun _ _ _ h => h) (Or.inr ⟨by rfl,rfl⟩) ?_ ?_
                        rotate_left
                        ·simp only [Act.put,q1_,q2_,q3_,i64_w,i32_w]
                         rfl
                        refine pure_ (i:=5) (N:=some 108) (v:=undef) (a':=?_) #[tt,tt,tt,tt,tt,tt,ff,ff,ff,ff,ff,ff,ff,ff,ff,ff,ff,ff,ff,ff,ff,ff,ff,ff,ff,ff,ff,ff,ff,ff,ff,ff,ff,ff] rfl rfl (any_of HT_.out (by kernel_rfl)) (fun _ _ _ h => h) (Or.inr ⟨by rfl,rfl⟩) ?_ ?_
                        rotate_left
                        ·simp only [Act.put,q1_,q2_,q3_,i64_w,i32_w]
                         rfl
                        refine pure_ (i:=6) (N:=some 109) (v:=undef) (a':=?_) #[tt,tt,tt,tt,tt,tt,tt,ff,ff,ff,ff,ff,ff,ff,ff,ff,ff,ff,ff,ff,ff,ff,ff,ff,ff,ff,ff,ff,ff,ff,ff,ff,ff,ff] rfl rfl (any_of HT_.out (by kernel_rfl)) (fun _ _ _ h => h) (Or.inr ⟨by rfl,rfl⟩) ?_ ?_
                        rotate_left
                        ·simp only [Act.put,q1_,q2_,q3_,i64_w,i32_w]
                         rfl
                        refine pure_ (i:=7) (N:=some 110) (v:=undef) (a':=?_) #[tt,tt,tt,tt,tt,tt,tt,tt,ff,ff,ff,ff,ff,ff,ff,ff,ff,ff,ff,ff,ff,ff,ff,ff,ff,ff,ff,ff,ff,ff,ff,ff,ff,ff] rfl rfl (any_of HT_.out (by kernel_rfl)) (fun _ _ _ h => h) (Or.inr ⟨by rfl,rfl⟩) ?_ ?_
                        rotate_left
                        ·simp only [Act.put,q1_,q2_,q3_,i64_w,i32_w]
                         rfl
                        refine pure_ (i:=8) (N:=some 111) (v:=undef) (a':=?_) #[tt,tt,tt,tt,tt,tt,tt,tt,tt,ff,ff,ff,ff,ff,ff,ff,ff,ff,ff,ff,ff,ff,ff,ff,ff,ff,ff,ff,ff,ff,ff,ff,ff,ff] rfl rfl (any_of HT_.out (by kernel_rfl)) (fun _ _ _ h => h) (Or.inr ⟨by rfl,rfl⟩) ?_ ?_
                        rotate_left
                        ·simp only [Act.put,q1_,q2_,q3_,i64_w,i32_w]
                         rfl
                        refine pure_ (i:=9) (N:=some 112) (v:=undef) (a':=?_) #[tt,tt,tt,tt,tt,tt,tt,tt,tt,tt,ff,ff,ff,ff,ff,ff,ff,ff,ff,ff,ff,ff,ff,ff,ff,ff,ff,ff,ff,ff,ff,ff,ff,ff] rfl rfl (any_of HT_.out (by kernel_rfl)) (fun _ _ _ h => h) (Or.inr ⟨by rfl,rfl⟩) ?_ ?_
                        rotate_left
                        ·simp only [Act.put,q1_,q2_,q3_,i64_w,i32_w]
                         rfl
                        refine pure_ (i:=10) (N:=some 113) (v:=undef) (a':=?_) #[tt,tt,tt,tt,tt,tt,tt,tt,tt,tt,tt,ff,ff,ff,ff,ff,ff,ff,ff,ff,ff,ff,ff,ff,ff,ff,ff,ff,ff,ff,ff,ff,ff,ff] rfl rfl (any_of HT_.out (by kernel_rfl)) (fun _ _ _ h => h) (Or.inr ⟨by rfl,rfl⟩) ?_ ?_
                        rotate_left
                        ·simp only [Act.put,q1_,q2_,q3_,i64_w,i32_w]
                         rfl
                        refine pure_ (i:=11) (N:=some 114) (v:=?_) (a':=?_) #[tt,tt,tt,tt,tt,tt,tt,tt,tt,tt,tt,tt,ff,ff,ff,ff,ff,ff,ff,ff,ff,ff,ff,ff,ff,ff,ff,ff,ff,ff,ff,ff,ff,ff] rfl rfl (any_of HT_.out (by kernel_rfl)) (fun _ _ _ h => h) (Or.inl ⟨by rfl,?_⟩) ?_ ?_
                        rotate_left
                        ·intro w'
                         go_simp
                         with_reducible rfl
                        rotate_left
                        ·simp only [Act.put,q1_,q2_,q3_,i64_w,i32_w]
                         rfl
                        refine pure_ (i:=12) (N:=some 115) (v:=?_) (a':=?_) #[tt,tt,tt,tt,tt,tt,tt,tt,tt,tt,tt,tt,tt,ff,ff,ff,ff,ff,ff,ff,ff,ff,ff,ff,ff,ff,ff,ff,ff,ff,ff,ff,ff,ff] rfl rfl (any_of HT_.out (by kernel_rfl)) (fun _ _ _ h => h) (Or.inl ⟨by rfl,?_⟩) ?_ ?_
                        rotate_left
                        ·intro w'
                         go_simp
                         with_reducible rfl
                        rotate_left
                        ·simp only [Act.put,q1_,q2_,q3_,i64_w,i32_w]
                         rfl
                        refine pure_ (i:=13) (N:=some 116) (v:=undef) (a':=?_) #[tt,tt,tt,tt,tt,tt,tt,tt,tt,tt,tt,tt,tt,tt,ff,ff,ff,ff,ff,ff,ff,ff,ff,ff,ff,ff,ff,ff,ff,ff,ff,ff,ff,ff] rfl rfl (any_of HT_.out (by kernel_rfl)) (fun _ _ _ h => h) (Or.inr ⟨by rfl,rfl⟩) ?_ ?_
                        rotate_left
                        ·simp only [Act.put,q1_,q2_,q3_,i64_w,i32_w]
                         rfl
                        refine pure_ (i:=14) (N:=some 117) (v:=undef) (a':=?_) #[tt,tt,tt,tt,tt,tt,tt,tt,tt,tt,tt,tt,tt,tt,tt,ff,ff,ff,ff,ff,ff,ff,ff,ff,ff,ff,ff,ff,ff,ff,ff,ff,ff,ff] rfl rfl (any_of HT_.out (by kernel_rfl)) (fun _ _ _ h => h) (Or.inr ⟨by rfl,rfl⟩) ?_ ?_
                        rotate_left
                        ·simp only [Act.put,q1_,q2_,q3_,i64_w,i32_w]
                         rfl
                        refine pure_ (i:=15) (N:=some 118) (v:=undef) (a':=?_) #[tt,tt,tt,tt,tt,tt,tt,tt,tt,tt,tt,tt,tt,tt,tt,tt,ff,ff,ff,ff,ff,ff,ff,ff,ff,ff,ff,ff,ff,ff,ff,ff,ff,ff] rfl rfl (any_of HT_.out (by kernel_rfl)) (fun _ _ _ h => h) (Or.inr ⟨by rfl,rfl⟩) ?_ ?_
                        rotate_left
                        ·simp only [Act.put,q1_,q2_,q3_,i64_w,i32_w]
                         rfl
                        refine pure_ (i:=16) (N:=some 119) (v:=undef) (a':=?_) #[tt,tt,tt,tt,tt,tt,tt,tt,tt,tt,tt,tt,tt,tt,tt,tt,tt,ff,ff,ff,ff,ff,ff,ff,ff,ff,ff,ff,ff,ff,ff,ff,ff,ff] rfl rfl (any_of HT_.out (by kernel_rfl)) (fun _ _ _ h => h) (Or.inr ⟨by rfl,rfl⟩) ?_ ?_
                        rotate_left
                        ·simp only [Act.put,q1_,q2_,q3_,i64_w,i32_w]
                         rfl
                        refine pure_ (i:=17) (N:=some 120) (v:=undef) (a':=?_) #[tt,tt,tt,tt,tt,tt,tt,tt,tt,tt,tt,tt,tt,tt,tt,tt,tt,tt,ff,ff,ff,ff,ff,ff,ff,ff,ff,ff,ff,ff,ff,ff,ff,ff] rfl rfl (any_of HT_.out (by kernel_rfl)) (fun _ _ _ h => h) (Or.inr ⟨by rfl,rfl⟩) ?_ ?_
                        rotate_left
                        ·simp only [Act.put,q1_,q2_,q3_,i64_w,i32_w]
                         rfl
                        refine pure_ (i:=18) (N:=some 121) (v:=undef) (a':=?_) #[tt,tt,tt,tt,tt,tt,tt,tt,tt,tt,tt,tt,tt,tt,tt,tt,tt,tt,tt,ff,ff,ff,ff,ff,ff,ff,ff,ff,ff,ff,ff,ff,ff,ff] rfl rfl (any_of HT_.out (by kernel_rfl)) (fun _ _ _ h => h) (Or.inr ⟨by rfl,rfl⟩) ?_ ?_
                        rotate_left
                        ·simp only [Act.put,q1_,q2_,q3_,i64_w,i32_w]
                         rfl
                        refine pure_ (i:=19) (N:=some 122) (v:=undef) (a':=?_) #[tt,tt,tt,tt,tt,tt,tt,tt,tt,tt,tt,tt,tt,tt,tt,tt,tt,tt,tt,tt,ff,ff,ff,ff,ff,ff,ff,ff,ff,ff,ff,ff,ff,ff] rfl rfl (any_of HT_.out (by kernel_rfl)) (fun _ _ _ h => h) (Or.inr ⟨by rfl,rfl⟩) ?_ ?_
                        rotate_left
                        ·simp only [Act.put,q1_,q2_,q3_,i64_w,i32_w]
                         rfl
                        refine pure_ (i:=20) (N:=some 123) (v:=undef) (a':=?_) #[tt,tt,tt,tt,tt,tt,tt,tt,tt,tt,tt,tt,tt,tt,tt,tt,tt,tt,tt,tt,tt,ff,ff,ff,ff,ff,ff,ff,ff,ff,ff,ff,ff,ff] rfl rfl (any_of HT_.out (by kernel_rfl)) (fun _ _ _ h => h) (Or.inr ⟨by rfl,rfl⟩) ?_ ?_
                        rotate_left
                        ·simp only [Act.put,q1_,q2_,q3_,i64_w,i32_w]
                         rfl
                        refine pure_ (i:=21) (N:=some 124) (v:=undef) (a':=?_) #[tt,tt,tt,tt,tt,tt,tt,tt,tt,tt,tt,tt,tt,tt,tt,tt,tt,tt,tt,tt,tt,tt,ff,ff,ff,ff,ff,ff,ff,ff,ff,ff,ff,ff] rfl rfl (any_of HT_.out (by kernel_rfl)) (fun _ _ _ h => h) (Or.inr ⟨by rfl,rfl⟩) ?_ ?_
                        rotate_left
                        ·simp only [Act.put,q1_,q2_,q3_,i64_w,i32_w]
                         rfl
                        refine pure_ (i:=22) (N:=some 125) (v:=undef) (a':=?_) #[tt,tt,tt,tt,tt,tt,tt,tt,tt,tt,tt,tt,tt,tt,tt,tt,tt,tt,tt,tt,tt,tt,tt,ff,ff,ff,ff,ff,ff,ff,ff,ff,ff,ff] rfl rfl (any_of HT_.out (by kernel_rfl)) (fun _ _ _ h => h) (Or.inr ⟨by rfl,rfl⟩) ?_ ?_
                        rotate_left
                        ·simp only [Act.put,q1_,q2_,q3_,i64_w,i32_w]
                         rfl
                        refine pure_ (i:=23) (N:=some 126) (v:=undef) (a':=?_) #[tt,tt,tt,tt,tt,tt,tt,tt,tt,tt,tt,tt,tt,tt,tt,tt,tt,tt,tt,tt,tt,tt,tt,tt,ff,ff,ff,ff,ff,ff,ff,ff,ff,ff] rfl rfl (any_of HT_.out (by kernel_rfl)) (fun _ _ _ h => h) (Or.inr ⟨by rfl,rfl⟩) ?_ ?_
                        rotate_left
                        ·simp only [Act.put,q1_,q2_,q3_,i64_w,i32_w]
                         rfl
                        refine pure_ (i:=24) (N:=some 127) (v:=undef) (a':=?_) #[tt,tt,tt,tt,tt,tt,tt,tt,tt,tt,tt,tt,tt,tt,tt,tt,tt,tt,tt,tt,tt,tt,tt,tt,tt,ff,ff,ff,ff,ff,ff,ff,ff,ff] rfl rfl (any_of HT_.out (by kernel_rfl)) (fun _ _ _ h => h) (Or.inr ⟨by rfl,rfl⟩) ?_ ?_
                        rotate_left
                        ·simp only [Act.put,q1_,q2_,q3_,i64_w,i32_w]
                         rfl
                        refine pure_ (i:=25) (N:=some 128) (v:=undef) (a':=?_) #[tt,tt,tt,tt,tt,tt,tt,tt,tt,tt,tt,tt,tt,tt,tt,tt,tt,tt,tt,tt,tt,tt,tt,tt,tt,tt,ff,ff,ff,ff,ff,ff,ff,ff] rfl rfl (any_of HT_.out (by kernel_rfl)) (fun _ _ _ h => h) (Or.inr ⟨by rfl,rfl⟩) ?_ ?_
                        rotate_left
                        ·simp only [Act.put,q1_,q2_,q3_,i64_w,i32_w]
                         rfl
                        refine pure_ (i:=26) (N:=some 129) (v:=undef) (a':=?_) #[tt,tt,tt,tt,tt,tt,tt,tt,tt,tt,tt,tt,tt,tt,tt,tt,tt,tt,tt,tt,tt,tt,tt,tt,tt,tt,tt,ff,ff,ff,ff,ff,ff,ff] rfl rfl (any_of HT_.out (by kernel_rfl)) (fun _ _ _ h => h) (Or.inr ⟨by rfl,rfl⟩) ?_ ?_
                        rotate_left
                        ·simp only [Act.put,q1_,q2_,q3_,i64_w,i32_w]
                         rfl
                        refine pure_ (i:=27) (N:=some 130) (v:=undef) (a':=?_) #[tt,tt,tt,tt,tt,tt,tt,tt,tt,tt,tt,tt,tt,tt,tt,tt,tt,tt,tt,tt,tt,tt,tt,tt,tt,tt,tt,tt,ff,ff,ff,ff,ff,ff] rfl rfl (any_of HT_.out (by kernel_rfl)) (fun _ _ _ h => h) (Or.inr ⟨by rfl,rfl⟩) ?_ ?_
                        rotate_left
                        ·simp only [Act.put,q1_,q2_,q3_,i64_w,i32_w]
                         rfl
                        refine pure_ (i:=28) (N:=some 131) (v:=undef) (a':=?_) #[tt,tt,tt,tt,tt,tt,tt,tt,tt,tt,tt,tt,tt,tt,tt,tt,tt,tt,tt,tt,tt,tt,tt,tt,tt,tt,tt,tt,tt,ff,ff,ff,ff,ff] rfl rfl (any_of HT_.out (by kernel_rfl)) (fun _ _ _ h => h) (Or.inr ⟨by rfl,rfl⟩) ?_ ?_
                        rotate_left
                        ·simp only [Act.put,q1_,q2_,q3_,i64_w,i32_w]
                         rfl
                        refine pure_ (i:=29) (N:=some 132) (v:=undef) (a':=?_) #[tt,tt,tt,tt,tt,tt,tt,tt,tt,tt,tt,tt,tt,tt,tt,tt,tt,tt,tt,tt,tt,tt,tt,tt,tt,tt,tt,tt,tt,tt,ff,ff,ff,ff] rfl rfl (any_of HT_.out (by kernel_rfl)) (fun _ _ _ h => h) (Or.inr ⟨by rfl,rfl⟩) ?_ ?_
                        rotate_left
                        ·simp only [Act.put,q1_,q2_,q3_,i64_w,i32_w]
                         rfl
                        refine pure_ (i:=30) (N:=some 133) (v:=undef) (a':=?_) #[tt,tt,tt,tt,tt,tt,tt,tt,tt,tt,tt,tt,tt,tt,tt,tt,tt,tt,tt,tt,tt,tt,tt,tt,tt,tt,tt,tt,tt,tt,tt,ff,ff,ff] rfl rfl (any_of HT_.out (by kernel_rfl)) (fun _ _ _ h => h) (Or.inr ⟨by rfl,rfl⟩) ?_ ?_
                        rotate_left
                        ·simp only [Act.put,q1_,q2_,q3_,i64_w,i32_w]
                         rfl
                        refine pure_ (i:=31) (N:=some 134) (v:=undef) (a':=?_) #[tt,tt,tt,tt,tt,tt,tt,tt,tt,tt,tt,tt,tt,tt,tt,tt,tt,tt,tt,tt,tt,tt,tt,tt,tt,tt,tt,tt,tt,tt,tt,tt,ff,ff] rfl rfl (any_of HT_.out (by kernel_rfl)) (fun _ _ _ h => h) (Or.inr ⟨by rfl,rfl⟩) ?_ ?_
                        rotate_left
                        ·simp only [Act.put,q1_,q2_,q3_,i64_w,i32_w]
                         rfl
                        refine pure_ (i:=32) (N:=some 135) (v:=undef) (a':=?_) #[tt,tt,tt,tt,tt,tt,tt,tt,tt,tt,tt,tt,tt,tt,tt,tt,tt,tt,tt,tt,tt,tt,tt,tt,tt,tt,tt,tt,tt,tt,tt,tt,tt,ff] rfl rfl (any_of HT_.out (by kernel_rfl)) (fun _ _ _ h => h) (Or.inr ⟨by rfl,rfl⟩) ?_ ?_
                        rotate_left
                        ·simp only [Act.put,q1_,q2_,q3_,i64_w,i32_w]
                         rfl
                        refine pure_ (i:=33) (N:=some 136) (v:=?_) (a':=?_) #[tt,tt,tt,tt,tt,tt,tt,tt,tt,tt,tt,tt,tt,tt,tt,tt,tt,tt,tt,tt,tt,tt,tt,tt,tt,tt,tt,tt,tt,tt,tt,tt,tt,tt] rfl rfl (any_of HT_.out (by kernel_rfl)) (fun _ _ _ h => h) (Or.inl ⟨by rfl,?_⟩) ?_ ?_
                        rotate_left
                        ·intro w'
                         go_simp
                         with_reducible rfl
                        rotate_left
                        ·simp only [Act.put,q1_,q2_,q3_,i64_w,i32_w]
                         rfl
                        refine done_ (done_of HT_.out (by kernel_rfl)) ?_
                        try go_wp2
                        go_roundg k7
                        case measure => have:=HJ3.out;have:=HJ17.out;have:=HK3.out;have:=HJ22.out;have:=HJ31.out;have:=HJ69.out;have:=HK7.out;omega
                        case rel => exact ⟨(wrap64 (x12_7 + 1)),(by first | rfl | (simp;done) | (simp [*];done)),H',⟨by have:=HJ3.out;have:=HJ17.out;have:=HK3.out;have:=HJ22.out;have:=HJ31.out;have:=HJ69.out;have:=HK7.out;omega⟩,⟨by (with_reducible repeat (first | apply Kd.V_alloc | apply Kd.V_drewN | apply Kd.V_drew));exact HO_348000.out⟩,⟨by (with_reducible repeat (first | apply Kd.V_alloc | apply Kd.V_drewN | apply Kd.V_drew));exact HO_348001.out⟩,⟨by (with_reducible repeat (first | apply Kd.V_alloc | apply Kd.V_drewN | apply Kd.V_drew));exact HO_352000.out⟩,⟨by (with_reducible repeat (first | apply Kd.V_alloc | apply Kd.V_drewN | apply Kd.V_drew));exact HO_352001.out⟩,⟨by (with_reducible repeat (first | apply Kd.R_alloc | apply Kd.R_drewN | apply Kd.R_drew));exact HO_356000.out⟩,⟨by (with_reducible repeat (first | apply Kd.V_alloc | apply Kd.V_drewN | apply Kd.V_drew));exact HO_356001.out⟩,⟨by (with_reducible repeat (first | refine blk_drewN ?_ _ | refine blk_drew ?_ | refine blk_alloc ?_ _));exact BK347.out⟩,⟨by (with_reducible repeat (first | refine blk_drewN ?_ _ | refine blk_drew ?_ | refine blk_alloc ?_ _));exact BK351.out⟩,⟨by (with_reducible repeat (first | refine blk_drewN ?_ _ | refine blk_drew ?_ | refine blk_alloc ?_ _));exact BK355.out⟩,⟨by repeat (first | (with_reducible first | exact HB.out | apply below_alloc | apply pw_below_drewN | apply below_drew1 | refine below_set ?_ GE347.out | refine below_set ?_ GE351.out | refine below_set ?_ GE355.out) | exact HB.out)⟩⟩
                       ·rw [if_neg c83] at H
                        have c83b0 : (x12_7 == x9_31) = false:=beq_eq_false_iff_ne.mpr c83
                        have c83b1 : (x12_7 != x9_31) = true:=bne_iff_ne.mpr c83
                        by_cases c88 : 0 ≤ x12_7
                        ·rw [if_pos c88] at H
                         have c88b0 : decide (0 ≤ x12_7) = true:=decide_eq_true c88
                         clear c88
                         by_cases c89 : ((rd_L2 x352001_3 x12_7).length : Int) > 0
                         ·rw [if_pos c89] at H
                          have c89b0 : decide (0 < ((rd_L2 x352001_3 x12_7).length : Int)) = true:=decide_eq_true c89
                          have c89b1 : decide (0 < (rd_L2 x352001_3 x12_7).length) = true:=decide_eq_true (by omega)
                          clear c89
                          by_cases c90 : x12_7 ≥ (x356001_31.length : Int)
                          ·rw [if_pos c90] at H
                           exact absurd H (by simp)
                          ·rw [if_neg c90] at H
                           have c90b0 : decide ((x356001_31.length : Int) ≤ x12_7) = false:=decide_eq_false c90
                           clear c90
                           by_cases c91 : x12_7 < (x356001_31.length : Int)
                           ·rw [if_pos c91] at H
                            have c91b0 : decide (x12_7 < (x356001_31.length : Int)) = true:=decide_eq_true c91
                            clear c91
                            by_cases c92 : (strOfNums (rd_L2 x356001_31 x12_7)).toList = (strOfNums (rd_L2 x352001_3 x12_7)).toList
                            ·rw [if_pos c92] at H
                             have c92b0 : ((strOfNums (rd_L2 x356001_31 x12_7)).toList == (strOfNums (rd_L2 x352001_3 x12_7)).toList) = true:=beq_iff_eq.mpr c92
                             have c92b1 : ((strOfNums (rd_L2 x356001_31 x12_7)).toList != (strOfNums (rd_L2 x352001_3 x12_7)).toList) = false:=bne_eq_false_iff_eq.mpr c92
                             clear c92
                             have H':=Aside0.mk H
                             clear H
                             have hnb93:=NB351_347.out
                             have hnc93:=NB347_351.out
                             have hnb94:=NB351_355.out
                             have hnc94:=NB355_351.out
                             have hcz95_0 : wr.cell? ⟨gb351,0,none⟩ = some (.slice Ao36 x352000_3.length co36):=(blk_cell BK351.out 0).trans rfl
                             have hcz95_1 : wr.cell? ⟨gb351,1,none⟩ = some (.slice Ao40 x352001_3.length co40):=(blk_cell BK351.out 1).trans rfl
                             have hfz95_0:=blk_frozen BK351.out 0
                             have hfz95_1:=blk_frozen BK351.out 1
                             try go_wp2
                             have n0_:=Aside0.mk (Kd.V_drew HO_348000.out)
                             have n1_:=Aside0.mk (Kd.V_drew HO_348001.out)
                             have n2_:=Aside0.mk (Kd.V_drew HO_352000.out)
                             have n3_:=Aside0.mk (Kd.V_drew HO_352001.out)
                             have n4_:=Aside0.mk (Kd.R_drew HO_356000.out)
                             have n5_:=Aside0.mk (Kd.V_drew HO_356001.out)
                             have n6_:=Aside0.mk (blk_drew BK347.out)
                             have n7_:=Aside0.mk (blk_drew BK351.out)
                             have n8_:=Aside0.mk (blk_drew BK355.out)
                             have n9_:=Aside0.mk (below_drew1 HB.out)
                             clear HO_348000
                             clear HO_348001
                             clear HO_352000
                             clear HO_352001
                             clear HO_356000
                             clear HO_356001
                             clear BK347
                             clear BK351
                             clear BK355
                             clear HB
                             have HO_348000:=n0_
                             have HO_348001:=n1_
                             have HO_352000:=n2_
                             have HO_352001:=n3_
                             have HO_356000:=n4_
                             have HO_356001:=n5_
                             have BK347:=n6_
                             have BK351:=n7_
                             have BK355:=n8_
                             have HB:=n9_
                             clear n0_ n1_ n2_ n3_ n4_ n5_ n6_ n7_ n8_ n9_
                             have p382 : 0 ≤ (x12_7 : Int):=of_decide_eq_true (by first | (with_reducible assumption) | assumption)
                             have q382 : x12_7 < (x352001_3.length : Int):=of_decide_eq_true (by first | (with_reducible assumption) | assumption)
                             obtain ⟨ad382,A382_0,c382_0,e382,hx382_0,hl382_0,hi382_0⟩:=at_L2 (Kd.V_reads' HO_352001.out).2.2 x12_7 p382 q382
                             cases e382
                             obtain ⟨ce382,hce382,hMe382,hcc382⟩:=Kd.V_get HO_352001.out [] x12_7 p382 (by first | exact q382 | exact of_decide_eq_true (by first | (with_reducible assumption) | assumption) | (have e_:=(Kd.V_reads' HO_352001.out).1;omega))
                             obtain ⟨ua382_0,uc382_0,rfl,ul382_0,ge382_0⟩:=Kd.FK_slice_open hMe382
                             have hv382_0:=hcc382 0 _ rfl
                             rw [Nat.add_zero,show ((Kd.slice 5 (Kd.int .u8))).sz = 1 from rfl,Nat.mul_one] at hv382_0
                             replace hv382_0:=Option.some.inj (hv382_0.symm.trans hx382_0)
                             injection hv382_0 with hva_ hvn_ hvc_
                             rw [hva_] at ge382_0
                             rw [hvc_] at ul382_0
                             have HL382_0:=Aside0.mk (show Kd.V (Kd.int .u8) 5 _ w.heap.size _ _ (rd_L2 x352001_3 x12_7) from Kd.V_mk ul382_0 ge382_0)
                             clear hva_ hvn_ hvc_ ge382_0 ul382_0
                             clear hcc382 hce382
                             have HR382_0:=Aside0.mk hi382_0
                             have HC382_0:=Aside0.mk hl382_0
                             clear hi382_0 hl382_0
                             replace p382:=eq_true p382
                             replace q382:=eq_true q382
                             obtain ⟨Ao97,co97,eo97⟩:=Kd.V_slice HO_356001.out
                             (first | subst eo97 | (injection eo97 with f1_ f2_ f3_;have f4_:=f1_.symm;have f5_:=f3_.symm;clear f1_ f2_ f3_;subst f4_;subst f5_))
                             have p383 : 0 ≤ (x12_7 : Int):=of_decide_eq_true (by first | (with_reducible assumption) | assumption)
                             have q383 : x12_7 < (x356001_31.length : Int):=of_decide_eq_true (by first | (with_reducible assumption) | assumption)
                             obtain ⟨ad383,A383_0,c383_0,e383,hx383_0,hl383_0,hi383_0⟩:=at_L2 (Kd.V_reads' HO_356001.out).2.2 x12_7 p383 q383
                             cases e383
                             obtain ⟨ce383,hce383,hMe383,hcc383⟩:=Kd.V_get HO_356001.out [] x12_7 p383 (by first | exact q383 | exact of_decide_eq_true (by first | (with_reducible assumption) | assumption) | (have e_:=(Kd.V_reads' HO_356001.out).1;omega))
                             obtain ⟨ua383_0,uc383_0,rfl,ul383_0,ge383_0⟩:=Kd.FK_slice_open hMe383
                             have hv383_0:=hcc383 0 _ rfl
                             rw [Nat.add_zero,show ((Kd.slice 5 (Kd.int .u8))).sz = 1 from rfl,Nat.mul_one] at hv383_0
                             replace hv383_0:=Option.some.inj (hv383_0.symm.trans hx383_0)
                             injection hv383_0 with hva_ hvn_ hvc_
                             rw [hva_] at ge383_0
                             rw [hvc_] at ul383_0
                             have HL383_0:=Aside0.mk (show Kd.V (Kd.int .u8) 5 _ w.heap.size _ _ (rd_L2 x356001_31 x12_7) from Kd.V_mk ul383_0 ge383_0)
                             clear hva_ hvn_ hvc_ ge383_0 ul383_0
                             clear hcc383 hce383
                             have HR383_0:=Aside0.mk hi383_0
                             have HC383_0:=Aside0.mk hl383_0
                             clear hi383_0 hl383_0
                             replace p383:=eq_true p383
                             replace q383:=eq_true q383
                             have p384 : 0 ≤ (x12_7 : Int):=of_decide_eq_true (by first | (with_reducible assumption) | assumption)
                             have q384 : x12_7 < (x352001_3.length : Int):=of_decide_eq_true (by first | (with_reducible assumption) | assumption)
                             obtain ⟨ad384,A384_0,c384_0,e384,hx384_0,hl384_0,hi384_0⟩:=at_L2 (Kd.V_reads' HO_352001.out).2.2 x12_7 p384 q384
                             obtain rfl : ad382 = ad384:=(by injection e384)
                             obtain ⟨ce384,hce384,hMe384,hcc384⟩:=Kd.V_get HO_352001.out [] x12_7 p384 (by first | exact q384 | exact of_decide_eq_true (by first | (with_reducible assumption) | assumption) | (have e_:=(Kd.V_reads' HO_352001.out).1;omega))
                             obtain ⟨ua384_0,uc384_0,rfl,ul384_0,ge384_0⟩:=Kd.FK_slice_open hMe384
                             have hv384_0:=hcc384 0 _ rfl
                             rw [Nat.add_zero,show ((Kd.slice 5 (Kd.int .u8))).sz = 1 from rfl,Nat.mul_one] at hv384_0
                             replace hv384_0:=Option.some.inj (hv384_0.symm.trans hx384_0)
                             injection hv384_0 with hva_ hvn_ hvc_
                             rw [hva_] at ge384_0
                             rw [hvc_] at ul384_0
                             have HL384_0:=Aside0.mk (show Kd.V (Kd.int .u8) 5 _ w.heap.size _ _ (rd_L2 x352001_3 x12_7) from Kd.V_mk ul384_0 ge384_0)
                             clear hva_ hvn_ hvc_ ge384_0 ul384_0
                             clear hcc384 hce384
                             have HR384_0:=Aside0.mk hi384_0
                             have HC384_0:=Aside0.mk hl384_0
                             clear hi384_0 hl384_0
                             replace p384:=eq_true p384
                             replace q384:=eq_true q384
                             have ea_:=Option.some.inj (hx382_0.symm.trans hx384_0)
                             injection ea_ with ea_ en_ ec_
                             subst ea_
                             subst ec_
                             clear en_
                             refine start_ (n:=34) (S:=fun w' => w'.cell? ⟨gb351,0,none⟩ = some (.slice Ao36 x352000_3.length co36) ∧ w'.cell? ⟨gb351,1,none⟩ = some (.slice (some ad382) x352001_3.length co40) ∧ w'.cell? ⟨gb355,0,none⟩ = some (u356000) ∧ w'.cell? ⟨gb355,1,none⟩ = some (.slice (some ad383) x356001_31.length co97) ∧ w'.cell? (ad382.add (x12_7).toNat) = some (.slice A382_0 (rd_L2 x352001_3 x12_7).length c382_0) ∧ w'.cell? (ad383.add (x12_7).toNat) = some (.slice A383_0 (rd_L2 x356001_31 x12_7).length c383_0) ∧ (convert 22 9 (.slice A383_0 (rd_L2 x356001_31 x12_7).length c383_0)).run Try.prog w' = .ok (.string (strOfNums (rd_L2 x356001_31 x12_7))) w' ∧ w'.cell? (ad382.add (x12_7).toNat) = some (.slice A382_0 (rd_L2 x352001_3 x12_7).length c382_0) ∧ (convert 22 9 (.slice A382_0 (rd_L2 x352001_3 x12_7).length c382_0)).run Try.prog w' = .ok (.string (strOfNums (rd_L2 x352001_3 x12_7))) w') (ds:=[]) #[ff,ff,ff,ff,ff,ff,ff,ff,ff,ff,ff,ff,ff,ff,ff,ff,ff,ff,ff,ff,ff,ff,ff,ff,ff,ff,ff,ff,ff,ff,ff,ff,ff,ff] (by kernel_rfl) rfl rfl ⟨(blk_cell BK351.out 0).trans rfl,(blk_cell BK351.out 1).trans rfl,(blk_cell BK355.out 0).trans rfl,(blk_cell BK355.out 1).trans rfl,hx382_0,hx383_0,Kd.C_string (P:=Try.prog) (A:=A383_0) (c:=c383_0) Try.underlying22 Try.underlying5 Try.underlying9 (by repeat (first | (with_reducible exact HR383_0.out) | (with_reducible refine Kd.C_alloc ?_ _) | (with_reducible refine Kd.C_drewN ?_ _) | (with_reducible refine Kd.C_drew ?_) | exact HR383_0.out)),hx384_0,Kd.C_string (P:=Try.prog) (A:=A382_0) (c:=c382_0) Try.underlying22 Try.underlying5 Try.underlying9 (by repeat (first | (with_reducible exact HR384_0.out) | (with_reducible refine Kd.C_alloc ?_ _) | (with_reducible refine Kd.C_drewN ?_ _) | (with_reducible refine Kd.C_drew ?_) | exact HR384_0.out))⟩ (fun hHeld => ?_);refine with_tabW humuslaw08_LeafOthers.tab21 humuslaw08_LeafOthers.bits21 (fun HT_ HW_ => ?_)
                             generalize wr.drew = w96 at HO_348000 HO_348001 HO_352000 HO_352001 HO_356000 HO_356001 BK347 BK351 BK355 HB HL382_0 HL383_0 HL384_0 HR382_0 HR383_0 HR384_0 hx382_0 hx383_0 hx384_0 hHeld ⊢
                             refine pure_ (i:=0) (N:=some 103) (v:=?_) (a':=?_) #[tt,ff,ff,ff,ff,ff,ff,ff,ff,ff,ff,ff,ff,ff,ff,ff,ff,ff,ff,ff,ff,ff,ff,ff,ff,ff,ff,ff,ff,ff,ff,ff,ff,ff] rfl rfl (any_of HT_.out (by kernel_rfl)) (fun _ _ _ h => h) (Or.inl ⟨by rfl,?_⟩) ?_ ?_
                             rotate_left
                             ·intro w'
                              go_simp
                              with_reducible rfl
                             rotate_left
                             ·simp only [Act.put,q1_,q2_,q3_,i64_w,i32_w]
                              rfl
                             refine pure_ (i:=1) (N:=some 104) (v:=?_) (a':=?_) #[tt,tt,ff,ff,ff,ff,ff,ff,ff,ff,ff,ff,ff,ff,ff,ff,ff,ff,ff,ff,ff,ff,ff,ff,ff,ff,ff,ff,ff,ff,ff,ff,ff,ff] rfl rfl (any_of HT_.out (by kernel_rfl)) (fun _ _ _ h => h) (Or.inl ⟨by rfl,?_⟩) ?_ ?_
                             rotate_left
                             ·intro w'
                              go_simp
                              with_reducible rfl
                             rotate_left
                             ·simp only [Act.put,q1_,q2_,q3_,i64_w,i32_w]
                              rfl
                             refine pure_ (i:=2) (N:=some 105) (v:=?_) (a':=?_) #[tt,tt,tt,ff,ff,ff,ff,ff,ff,ff,ff,ff,ff,ff,ff,ff,ff,ff,ff,ff,ff,ff,ff,ff,ff,ff,ff,ff,ff,ff,ff,ff,ff,ff] rfl rfl (any_of HT_.out (by kernel_rfl)) (fun _ _ _ h => h) (Or.inl ⟨by rfl,?_⟩) ?_ ?_
                             rotate_left
                             ·intro w'
                              go_simp
                              with_reducible rfl
                             rotate_left
                             ·simp only [Act.put,q1_,q2_,q3_,i64_w,i32_w]
                              rfl
                             refine pure_ (i:=3) (N:=some 106) (v:=?_) (a':=?_) #[tt,tt,tt,tt,ff,ff,ff,ff,ff,ff,ff,ff,ff,ff,ff,ff,ff,ff,ff,ff,ff,ff,ff,ff,ff,ff,ff,ff,ff,ff,ff,ff,ff,ff] rfl rfl (any_of HT_.out (by kernel_rfl)) (fun _ _ _ h => h) (Or.inl ⟨by rfl,?_⟩) ?_ ?_
                             rotate_left
                             ·intro w'
                              go_simp
                              with_reducible rfl
                             rotate_left
                             ·simp only [Act.put,q1_,q2_,q3_,i64_w,i32_w]
                              rfl
                             refine pure_ (i:=4) (N:=some 107) (v:=?_) (a':=?_) #[tt,tt,tt,tt,tt,ff,ff,ff,ff,ff,ff,ff,ff,ff,ff,ff,ff,ff,ff,ff,ff,ff,ff,ff,ff,ff,ff,ff,ff,ff,ff,ff,ff,ff] rfl rfl (any_of HT_.out (by kernel_rfl)) (fun _ _ _ h => h) (Or.inl ⟨by rfl,?_⟩) ?_ ?_
                             rotate_left
                             ·intro w'
                              go_simp
                              with_reducible rfl
                             rotate_left
                             ·simp only [Act.put,q1_,q2_,q3_,i64_w,i32_w]
                              rfl
                             refine pure_ (i:=6) (N:=some 109) (v:=?_) (a':=?_) #[tt,tt,tt,tt,tt,ff,tt,ff,ff,ff,ff,ff,ff,ff,ff,ff,ff,ff,ff,ff,ff,ff,ff,ff,ff,ff,ff,ff,ff,ff,ff,ff,ff,ff] rfl rfl (any_of HT_.out (by kernel_rfl)) (fun _ _ _ h => h) (Or.inl ⟨by rfl,?_⟩) ?_ ?_
                             rotate_left
                             ·intro w'
                              go_simp
                              with_reducible rfl
                             rotate_left
                             ·simp only [Act.put,q1_,q2_,q3_,i64_w,i32_w]
                              rfl
                             refine take_ (i:=5) (N:=some 108) (v:=?_) (a':=?_) #[tt,tt,tt,tt,tt,tt,tt,ff,ff,ff,ff,ff,ff,ff,ff,ff,ff,ff,ff,ff,ff,ff,ff,ff,ff,ff,ff,ff,ff,ff,ff,ff,ff,ff] rfl rfl (take_ofW HT_.out HW_.out (by kernel_rfl)) (fun _ _ _ h => h) (Or.inl ⟨by rfl,?_⟩) hHeld ?_ ?_
                             rotate_left
                             ·rintro w' ⟨s0,s1,s2,s3,s4,s5,s6,s7,s8⟩
                              go_simp
                              with_reducible rfl
                             rotate_left
                             ·simp only [Act.put,q1_,q2_,q3_,i64_w,i32_w]
                              rfl
                             refine pure_ (i:=7) (N:=some 110) (v:=?_) (a':=?_) #[tt,tt,tt,tt,tt,tt,tt,tt,ff,ff,ff,ff,ff,ff,ff,ff,ff,ff,ff,ff,ff,ff,ff,ff,ff,ff,ff,ff,ff,ff,ff,ff,ff,ff] rfl rfl (any_of HT_.out (by kernel_rfl)) (fun _ _ _ h => h) (Or.inl ⟨by rfl,?_⟩) ?_ ?_
                             rotate_left
                             ·intro w'
                              go_simp
                              with_reducible rfl
                             rotate_left
                             ·simp only [Act.put,q1_,q2_,q3_,i64_w,i32_w]
                              rfl
                             refine take_ (i:=8) (N:=some 111) (v:=?_) (a':=?_) #[tt,tt,tt,tt,tt,tt,tt,tt,tt,ff,ff,ff,ff,ff,ff,ff,ff,ff,ff,ff,ff,ff,ff,ff,ff,ff,ff,ff,ff,ff,ff,ff,ff,ff] rfl rfl (take_ofW HT_.out HW_.out (by kernel_rfl)) (fun _ _ _ h => h) (Or.inl ⟨by rfl,?_⟩) hHeld ?_ ?_
                             rotate_left
                             ·rintro w' ⟨s0,s1,s2,s3,s4,s5,s6,s7,s8⟩
                              go_simp
                              with_reducible rfl
                             rotate_left
                             ·simp only [Act.put,q1_,q2_,q3_,i64_w,i32_w]
                              rfl
                             refine pure_ (i:=9) (N:=some 112) (v:=?_) (a':=?_) #[tt,tt,tt,tt,tt,tt,tt,tt,tt,tt,ff,ff,ff,ff,ff,ff,ff,ff,ff,ff,ff,ff,ff,ff,ff,ff,ff,ff,ff,ff,ff,ff,ff,ff] rfl rfl (any_of HT_.out (by kernel_rfl)) (fun _ _ _ h => h) (Or.inl ⟨by rfl,?_⟩) ?_ ?_
                             rotate_left
                             ·intro w'
                              go_simp
                              with_reducible rfl
                             rotate_left
                             ·simp only [Act.put,q1_,q2_,q3_,i64_w,i32_w]
                              rfl
                             refine pure_ (i:=10) (N:=some 113) (v:=?_) (a':=?_) #[tt,tt,tt,tt,tt,tt,tt,tt,tt,tt,tt,ff,ff,ff,ff,ff,ff,ff,ff,ff,ff,ff,ff,ff,ff,ff,ff,ff,ff,ff,ff,ff,ff,ff] rfl rfl (any_of HT_.out (by kernel_rfl)) (fun _ _ _ h => h) (Or.inl ⟨by rfl,?_⟩) ?_ ?_
                             rotate_left
                             ·intro w'
                              go_simp
                              with_reducible rfl
                             rotate_left
                             ·simp only [Act.put,q1_,q2_,q3_,i64_w,i32_w]
                              rfl
                             refine pure_ (i:=11) (N:=some 114) (v:=?_) (a':=?_) #[tt,tt,tt,tt,tt,tt,tt,tt,tt,tt,tt,tt,ff,ff,ff,ff,ff,ff,ff,ff,ff,ff,ff,ff,ff,ff,ff,ff,ff,ff,ff,ff,ff,ff] rfl rfl (any_of HT_.out (by kernel_rfl)) (fun _ _ _ h => h) (Or.inl ⟨by rfl,?_⟩) ?_ ?_
                             rotate_left
                             ·intro w'
                              go_simp
                              with_reducible rfl
                             rotate_left
                             ·simp only [Act.put,q1_,q2_,q3_,i64_w,i32_w]
                              rfl
                             refine pure_ (i:=12) (N:=some 115) (v:=?_) (a':=?_) #[tt,tt,tt,tt,tt,tt,tt,tt,tt,tt,tt,tt,tt,ff,ff,ff,ff,ff,ff,ff,ff,ff,ff,ff,ff,ff,ff,ff,ff,ff,ff,ff,ff,ff] rfl rfl (any_of HT_.out (by kernel_rfl)) (fun _ _ _ h => h) (Or.inl ⟨by rfl,?_⟩) ?_ ?_
                             rotate_left
                             ·intro w'
                              go_simp
                              with_reducible rfl
                             rotate_left
                             ·simp only [Act.put,q1_,q2_,q3_,i64_w,i32_w]
                              rfl
                             refine pure_ (i:=13) (N:=some 116) (v:=?_) (a':=?_) #[tt,tt,tt,tt,tt,tt,tt,tt,tt,tt,tt,tt,tt,tt,ff,ff,ff,ff,ff,ff,ff,ff,ff,ff,ff,ff,ff,ff,ff,ff,ff,ff,ff,ff] rfl rfl (any_of HT_.out (by kernel_rfl)) (fun _ _ _ h => h) (Or.inl ⟨by rfl,?_⟩) ?_ ?_
                             rotate_left
                             ·intro w'
                              go_simp
                              with_reducible rfl
                             rotate_left
                             ·simp only [Act.put,q1_,q2_,q3_,i64_w,i32_w]
                              rfl
                             refine pure_ (i:=14) (N:=some 117) (v:=?_) (a':=?_) #[tt,tt,tt,tt,tt,tt,tt,tt,tt,tt,tt,tt,tt,tt,tt,ff,ff,ff,ff,ff,ff,ff,ff,ff,ff,ff,ff,ff,ff,ff,ff,ff,ff,ff] rfl rfl (any_of HT_.out (by kernel_rfl)) (fun _ _ _ h => h) (Or.inl ⟨by rfl,?_⟩) ?_ ?_
                             rotate_left
                             ·intro w'
                              go_simp
                              with_reducible rfl
                             rotate_left
                             ·simp only [Act.put,q1_,q2_,q3_,i64_w,i32_w]
                              rfl
                             refine take_ (i:=15) (N:=some 118) (v:=?_) (a':=?_) #[tt,tt,tt,tt,tt,tt,tt,tt,tt,tt,tt,tt,tt,tt,tt,tt,ff,ff,ff,ff,ff,ff,ff,ff,ff,ff,ff,ff,ff,ff,ff,ff,ff,ff] rfl rfl (take_ofW HT_.out HW_.out (by kernel_rfl)) (fun _ _ _ h => h) (Or.inl ⟨by rfl,?_⟩) hHeld ?_ ?_
                             rotate_left
                             ·rintro w' ⟨s0,s1,s2,s3,s4,s5,s6,s7,s8⟩
                              go_simp
                              with_reducible rfl
                             rotate_left
                             ·simp only [Act.put,q1_,q2_,q3_,i64_w,i32_w]
                              rfl
                             refine pure_ (i:=16) (N:=some 119) (v:=?_) (a':=?_) #[tt,tt,tt,tt,tt,tt,tt,tt,tt,tt,tt,tt,tt,tt,tt,tt,tt,ff,ff,ff,ff,ff,ff,ff,ff,ff,ff,ff,ff,ff,ff,ff,ff,ff] rfl rfl (any_of HT_.out (by kernel_rfl)) (fun _ _ _ h => h) (Or.inl ⟨by rfl,?_⟩) ?_ ?_
                             rotate_left
                             ·intro w'
                              go_simp
                              with_reducible rfl
                             rotate_left
                             ·simp only [Act.put,q1_,q2_,q3_,i64_w,i32_w]
                              rfl
                             refine pure_ (i:=17) (N:=some 120) (v:=?_) (a':=?_) #[tt,tt,tt,tt,tt,tt,tt,tt,tt,tt,tt,tt,tt,tt,tt,tt,tt,tt,ff,ff,ff,ff,ff,ff,ff,ff,ff,ff,ff,ff,ff,ff,ff,ff] rfl rfl (any_of HT_.out (by kernel_rfl)) (fun _ _ _ h => h) (Or.inl ⟨by rfl,?_⟩) ?_ ?_
                             rotate_left
                             ·intro w'
                              go_simp
                              with_reducible rfl
                             rotate_left
                             ·simp only [Act.put,q1_,q2_,q3_,i64_w,i32_w]
                              rfl
                             refine pure_ (i:=18) (N:=some 121) (v:=?_) (a':=?_) #[tt,tt,tt,tt,tt,tt,tt,tt,tt,tt,tt,tt,tt,tt,tt,tt,tt,tt,tt,ff,ff,ff,ff,ff,ff,ff,ff,ff,ff,ff,ff,ff,ff,ff] rfl rfl (any_of HT_.out (by kernel_rfl)) (fun _ _ _ h => h) (Or.inl ⟨by rfl,?_⟩) ?_ ?_
                             rotate_left
                             ·intro w'
                              go_simp
                              with_reducible rfl
                             rotate_left
                             ·simp only [Act.put,q1_,q2_,q3_,i64_w,i32_w]
                              rfl
                             refine pure_ (i:=19) (N:=some 122) (v:=?_) (a':=?_) #[tt,tt,tt,tt,tt,tt,tt,tt,tt,tt,tt,tt,tt,tt,tt,tt,tt,tt,tt,tt,ff,ff,ff,ff,ff,ff,ff,ff,ff,ff,ff,ff,ff,ff] rfl rfl (any_of HT_.out (by kernel_rfl)) (fun _ _ _ h => h) (Or.inl ⟨by rfl,?_⟩) ?_ ?_
                             rotate_left
                             ·intro w'
                              go_simp
                              with_reducible rfl
                             rotate_left
                             ·simp only [Act.put,q1_,q2_,q3_,i64_w,i32_w]
                              rfl
                             refine pure_ (i:=21) (N:=some 124) (v:=?_) (a':=?_) #[tt,tt,tt,tt,tt,tt,tt,tt,tt,tt,tt,tt,tt,tt,tt,tt,tt,tt,tt,tt,ff,tt,ff,ff,ff,ff,ff,ff,ff,ff,ff,ff,ff,ff] rfl rfl (any_of HT_.out (by kernel_rfl)) (fun _ _ _ h => h) (Or.inl ⟨by rfl,?_⟩) ?_ ?_
                             rotate_left
                             ·intro w'
                              go_simp
                              with_reducible rfl
                             rotate_left
                             ·simp only [Act.put,q1_,q2_,q3_,i64_w,i32_w]
                              rfl
                             refine pure_ (i:=25) (N:=some 128) (v:=?_) (a':=?_) #[tt,tt,tt,tt,tt,tt,tt,tt,tt,tt,tt,tt,tt,tt,tt,tt,tt,tt,tt,tt,ff,tt,ff,ff,ff,tt,ff,ff,ff,ff,ff,ff,ff,ff] rfl rfl (any_of HT_.out (by kernel_rfl)) (fun _ _ _ h => h) (Or.inl ⟨by rfl,?_⟩) ?_ ?_
                             rotate_left
                             ·intro w'
                              go_simp
                              with_reducible rfl
                             rotate_left
                             ·simp only [Act.put,q1_,q2_,q3_,i64_w,i32_w]
                              rfl
                             refine pure_ (i:=27) (N:=some 130) (v:=?_) (a':=?_) #[tt,tt,tt,tt,tt,tt,tt,tt,tt,tt,tt,tt,tt,tt,tt,tt,tt,tt,tt,tt,ff,tt,ff,ff,ff,tt,ff,tt,ff,ff,ff,ff,ff,ff] rfl rfl (any_of HT_.out (by kernel_rfl)) (fun _ _ _ h => h) (Or.inl ⟨by rfl,?_⟩) ?_ ?_
                             rotate_left
                             ·intro w'
                              go_simp
                              with_reducible rfl
                             rotate_left
                             ·simp only [Act.put,q1_,q2_,q3_,i64_w,i32_w]
                              rfl
                             refine take_ (i:=20) (N:=some 123) (v:=?_) (a':=?_) #[tt,tt,tt,tt,tt,tt,tt,tt,tt,tt,tt,tt,tt,tt,tt,tt,tt,tt,tt,tt,tt,tt,ff,ff,ff,tt,ff,tt,ff,ff,ff,ff,ff,ff] rfl rfl (take_ofW HT_.out HW_.out (by kernel_rfl)) (fun _ _ _ h => h) (Or.inl ⟨by rfl,?_⟩) hHeld ?_ ?_
                             rotate_left
                             ·rintro w' ⟨s0,s1,s2,s3,s4,s5,s6,s7,s8⟩
                              go_simp
                              with_reducible rfl
                             rotate_left
                             ·simp only [Act.put,q1_,q2_,q3_,i64_w,i32_w]
                              rfl
                             refine pure_ (i:=22) (N:=some 125) (v:=?_) (a':=?_) #[tt,tt,tt,tt,tt,tt,tt,tt,tt,tt,tt,tt,tt,tt,tt,tt,tt,tt,tt,tt,tt,tt,tt,ff,ff,tt,ff,tt,ff,ff,ff,ff,ff,ff] rfl rfl (any_of HT_.out (by kernel_rfl)) (fun _ _ _ h => h) (Or.inl ⟨by rfl,?_⟩) ?_ ?_
                             rotate_left
                             ·intro w'
                              go_simp
                              with_reducible rfl
                             rotate_left
                             ·simp only [Act.put,q1_,q2_,q3_,i64_w,i32_w]
                              rfl
                             refine take_ (i:=23) (N:=some 126) (v:=?_) (a':=?_) #[tt,tt,tt,tt,tt,tt,tt,tt,tt,tt,tt,tt,tt,tt,tt,tt,tt,tt,tt,tt,tt,tt,tt,tt,ff,tt,ff,tt,ff,ff,ff,ff,ff,ff] rfl rfl (take_ofW HT_.out HW_.out (by kernel_rfl)) (fun _ _ _ h => h) (Or.inl ⟨by rfl,?_⟩) hHeld ?_ ?_
                             rotate_left
                             ·rintro w' ⟨s0,s1,s2,s3,s4,s5,s6,s7,s8⟩
                              go_simp
                              with_reducible rfl
                             rotate_left
                             ·simp only [Act.put,q1_,q2_,q3_,i64_w,i32_w]
                              rfl
                             refine take_ (i:=24) (N:=some 127) (v:=?_) (a':=?_) #[tt,tt,tt,tt,tt,tt,tt,tt,tt,tt,tt,tt,tt,tt,tt,tt,tt,tt,tt,tt,tt,tt,tt,tt,tt,tt,ff,tt,ff,ff,ff,ff,ff,ff] rfl rfl (take_ofW HT_.out HW_.out (by kernel_rfl)) (fun _ _ _ h => h) (Or.inl ⟨by rfl,?_⟩) hHeld ?_ ?_
                             rotate_left
                             ·rintro w' ⟨s0,s1,s2,s3,s4,s5,s6,s7,s8⟩
                              go_simp
                              with_reducible rfl
                             rotate_left
                             ·simp only [Act.put,q1_,q2_,q3_,i64_w,i32_w]
                              rfl
                             refine take_ (i:=26) (N:=some 129) (v:=?_) (a':=?_) #[tt,tt,tt,tt,tt,tt,tt,tt,tt,tt,tt,tt,tt,tt,tt,tt,tt,tt,tt,tt,tt,tt,tt,tt,tt,tt,tt,tt,ff,ff,ff,ff,ff,ff] rfl rfl (take_ofW HT_.out HW_.out (by kernel_rfl)) (fun _ _ _ h => h) (Or.inl ⟨by rfl,?_⟩) hHeld ?_ ?_
                             rotate_left
                             ·rintro w' ⟨s0,s1,s2,s3,s4,s5,s6,s7,s8⟩
                              go_simp
                              with_reducible rfl
                             rotate_left
                             ·simp only [Act.put,q1_,q2_,q3_,i64_w,i32_w]
                              rfl
                             refine pure_ (i:=28) (N:=some 131) (v:=?_) (a':=?_) #[tt,tt,tt,tt,tt,tt,tt,tt,tt,tt,tt,tt,tt,tt,tt,tt,tt,tt,tt,tt,tt,tt,tt,tt,tt,tt,tt,tt,tt,ff,ff,ff,ff,ff] rfl rfl (any_of HT_.out (by kernel_rfl)) (fun _ _ _ h => h) (Or.inl ⟨by rfl,?_⟩) ?_ ?_
                             rotate_left
                             ·intro w'
                              go_simp
                              with_reducible rfl
                             rotate_left
                             ·simp only [Act.put,q1_,q2_,q3_,i64_w,i32_w]
                              rfl
                             refine take_ (i:=29) (N:=some 132) (v:=?_) (a':=?_) #[tt,tt,tt,tt,tt,tt,tt,tt,tt,tt,tt,tt,tt,tt,tt,tt,tt,tt,tt,tt,tt,tt,tt,tt,tt,tt,tt,tt,tt,tt,ff,ff,ff,ff] rfl rfl (take_ofW HT_.out HW_.out (by kernel_rfl)) (fun _ _ _ h => h) (Or.inl ⟨by rfl,?_⟩) hHeld ?_ ?_
                             rotate_left
                             ·rintro w' ⟨s0,s1,s2,s3,s4,s5,s6,s7,s8⟩
                              go_simp
                              with_reducible rfl
                             rotate_left
                             ·simp only [Act.put,q1_,q2_,q3_,i64_w,i32_w]
                              rfl
                             refine take_ (i:=30) (N:=some 133) (v:=?_) (a':=?_) #[tt,tt,tt,tt,tt,tt,tt,tt,tt,tt,tt,tt,tt,tt,tt,tt,tt,tt,tt,tt,tt,tt,tt,tt,tt,tt,tt,tt,tt,tt,tt,ff,ff,ff] rfl rfl (take_ofW HT_.out HW_.out (by kernel_rfl)) (fun _ _ _ h => h) (Or.inl ⟨by rfl,?_⟩) hHeld ?_ ?_
                             rotate_left
                             ·rintro w' ⟨s0,s1,s2,s3,s4,s5,s6,s7,s8⟩
                              go_simp
                              with_reducible rfl
                             rotate_left
                             ·simp only [Act.put,q1_,q2_,q3_,i64_w,i32_w]
                              rfl
                             refine pure_ (i:=31) (N:=some 134) (v:=?_) (a':=?_) #[tt,tt,tt,tt,tt,tt,tt,tt,tt,tt,tt,tt,tt,tt,tt,tt,tt,tt,tt,tt,tt,tt,tt,tt,tt,tt,tt,tt,tt,tt,tt,tt,ff,ff] rfl rfl (any_of HT_.out (by kernel_rfl)) (fun _ _ _ h => h) (Or.inl ⟨by rfl,?_⟩) ?_ ?_
                             rotate_left
                             ·intro w'
                              go_simp
                              with_reducible rfl
                             rotate_left
                             ·simp only [Act.put,q1_,q2_,q3_,i64_w,i32_w]
                              rfl
                             refine pure_ (i:=32) (N:=some 135) (v:=?_) (a':=?_) #[tt,tt,tt,tt,tt,tt,tt,tt,tt,tt,tt,tt,tt,tt,tt,tt,tt,tt,tt,tt,tt,tt,tt,tt,tt,tt,tt,tt,tt,tt,tt,tt,tt,ff] rfl rfl (any_of HT_.out (by kernel_rfl)) (fun _ _ _ h => h) (Or.inl ⟨by rfl,?_⟩) ?_ ?_
                             rotate_left
                             ·intro w'
                              go_simp
                              with_reducible rfl
                             rotate_left
                             ·simp only [Act.put,q1_,q2_,q3_,i64_w,i32_w]
                              rfl
                             refine pure_ (i:=33) (N:=some 136) (v:=?_) (a':=?_) #[tt,tt,tt,tt,tt,tt,tt,tt,tt,tt,tt,tt,tt,tt,tt,tt,tt,tt,tt,tt,tt,tt,tt,tt,tt,tt,tt,tt,tt,tt,tt,tt,tt,tt] rfl rfl (any_of HT_.out (by kernel_rfl)) (fun _ _ _ h => h) (Or.inl ⟨by rfl,?_⟩) ?_ ?_
                             rotate_left
                             ·intro w'
                              go_simp
                              with_reducible rfl
                             rotate_left
                             ·simp only [Act.put,q1_,q2_,q3_,i64_w,i32_w]
                              rfl
                             refine done_ (done_of HT_.out (by kernel_rfl)) ?_
                             try go_wp2
                             go_roundg k7
                             case measure => have:=HJ3.out;have:=HJ17.out;have:=HK3.out;have:=HJ22.out;have:=HJ31.out;have:=HJ69.out;have:=HK7.out;omega
                             case rel => exact ⟨(wrap64 (x12_7 + 1)),(by first | rfl | (simp;done) | (simp [*];done)),H',⟨by have:=HJ3.out;have:=HJ17.out;have:=HK3.out;have:=HJ22.out;have:=HJ31.out;have:=HJ69.out;have:=HK7.out;omega⟩,⟨by (with_reducible repeat (first | apply Kd.V_alloc | apply Kd.V_drewN | apply Kd.V_drew));exact HO_348000.out⟩,⟨by (with_reducible repeat (first | apply Kd.V_alloc | apply Kd.V_drewN | apply Kd.V_drew));exact HO_348001.out⟩,⟨by (with_reducible repeat (first | apply Kd.V_alloc | apply Kd.V_drewN | apply Kd.V_drew));exact HO_352000.out⟩,⟨by (with_reducible repeat (first | apply Kd.V_alloc | apply Kd.V_drewN | apply Kd.V_drew));exact HO_352001.out⟩,⟨by (with_reducible repeat (first | apply Kd.R_alloc | apply Kd.R_drewN | apply Kd.R_drew));exact HO_356000.out⟩,⟨by (with_reducible repeat (first | apply Kd.V_alloc | apply Kd.V_drewN | apply Kd.V_drew));exact HO_356001.out⟩,⟨by (with_reducible repeat (first | refine blk_drewN ?_ _ | refine blk_drew ?_ | refine blk_alloc ?_ _));exact BK347.out⟩,⟨by (with_reducible repeat (first | refine blk_drewN ?_ _ | refine blk_drew ?_ | refine blk_alloc ?_ _));exact BK351.out⟩,⟨by (with_reducible repeat (first | refine blk_drewN ?_ _ | refine blk_drew ?_ | refine blk_alloc ?_ _));exact BK355.out⟩,⟨by repeat (first | (with_reducible first | exact HB.out | apply below_alloc | apply pw_below_drewN | apply below_drew1 | refine below_set ?_ GE347.out | refine below_set ?_ GE351.out | refine below_set ?_ GE355.out) | exact HB.out)⟩⟩
                            ·rw [if_neg c92] at H
                             exact absurd H (by simp)
                           ·rw [if_neg c91] at H
                            exact absurd H (by simp)
                         ·rw [if_neg c89] at H
                          have c89b0 : decide (0 < ((rd_L2 x352001_3 x12_7).length : Int)) = false:=decide_eq_false c89
                          have c89b1 : decide (0 < (rd_L2 x352001_3 x12_7).length) = false:=decide_eq_false (by omega)
                          clear c89
                          have H':=Aside0.mk H
                          clear H
                          have hnb98:=NB351_347.out
                          have hnc98:=NB347_351.out
                          have hnb99:=NB351_355.out
                          have hnc99:=NB355_351.out
                          have hcz100_0 : wr.cell? ⟨gb351,0,none⟩ = some (.slice Ao36 x352000_3.length co36):=(blk_cell BK351.out 0).trans rfl
                          have hcz100_1 : wr.cell? ⟨gb351,1,none⟩ = some (.slice Ao40 x352001_3.length co40):=(blk_cell BK351.out 1).trans rfl
                          have hfz100_0:=blk_frozen BK351.out 0
                          have hfz100_1:=blk_frozen BK351.out 1
                          try go_wp2
                          have n0_:=Aside0.mk (Kd.V_drew HO_348000.out)
                          have n1_:=Aside0.mk (Kd.V_drew HO_348001.out)
                          have n2_:=Aside0.mk (Kd.V_drew HO_352000.out)
                          have n3_:=Aside0.mk (Kd.V_drew HO_352001.out)
                          have n4_:=Aside0.mk (Kd.R_drew HO_356000.out)
                          have n5_:=Aside0.mk (Kd.V_drew HO_356001.out)
                          have n6_:=Aside0.mk (blk_drew BK347.out)
                          have n7_:=Aside0.mk (blk_drew BK351.out)
                          have n8_:=Aside0.mk (blk_drew BK355.out)
                          have n9_:=Aside0.mk (below_drew1 HB.out)
                          clear HO_348000
                          clear HO_348001
                          clear HO_352000
                          clear HO_352001
                          clear HO_356000
                          clear HO_356001
                          clear BK347
                          clear BK351
                          clear BK355
                          clear HB
                          have HO_348000:=n0_
                          have HO_348001:=n1_
                          have HO_352000:=n2_
                          have HO_352001:=n3_
                          have HO_356000:=n4_
                          have HO_356001:=n5_
                          have BK347:=n6_
                          have BK351:=n7_
                          have BK355:=n8_
                          have HB:=n9_
                          clear n0_ n1_ n2_ n3_ n4_ n5_ n6_ n7_ n8_ n9_
                          have p382 : 0 ≤ (x12_7 : Int):=of_decide_eq_true (by first | (with_reducible assumption) | assumption)
                          have q382 : x12_7 < (x352001_3.length : Int):=of_decide_eq_true (by first | (with_reducible assumption) | assumption)
                          obtain ⟨ad382,A382_0,c382_0,e382,hx382_0,hl382_0,hi382_0⟩:=at_L2 (Kd.V_reads' HO_352001.out).2.2 x12_7 p382 q382
                          cases e382
                          obtain ⟨ce382,hce382,hMe382,hcc382⟩:=Kd.V_get HO_352001.out [] x12_7 p382 (by first | exact q382 | exact of_decide_eq_true (by first | (with_reducible assumption) | assumption) | (have e_:=(Kd.V_reads' HO_352001.out).1;omega))
                          obtain ⟨ua382_0,uc382_0,rfl,ul382_0,ge382_0⟩:=Kd.FK_slice_open hMe382
                          have hv382_0:=hcc382 0 _ rfl
                          rw [Nat.add_zero,show ((Kd.slice 5 (Kd.int .u8))).sz = 1 from rfl,Nat.mul_one] at hv382_0
                          replace hv382_0:=Option.some.inj (hv382_0.symm.trans hx382_0)
                          injection hv382_0 with hva_ hvn_ hvc_
                          rw [hva_] at ge382_0
                          rw [hvc_] at ul382_0
                          have HL382_0:=Aside0.mk (show Kd.V (Kd.int .u8) 5 _ w.heap.size _ _ (rd_L2 x352001_3 x12_7) from Kd.V_mk ul382_0 ge382_0)
                          clear hva_ hvn_ hvc_ ge382_0 ul382_0
                          clear hcc382 hce382
                          have HR382_0:=Aside0.mk hi382_0
                          have HC382_0:=Aside0.mk hl382_0
                          clear hi382_0 hl382_0
                          replace p382:=eq_true p382
                          replace q382:=eq_true q382
                          refine start_ (n:=34) (S:=fun w' => w'.cell? ⟨gb351,0,none⟩ = some (.slice Ao36 x352000_3.length co36) ∧ w'.cell? ⟨gb351,1,none⟩ = some (.slice (some ad382) x352001_3.length co40) ∧ w'.cell? (ad382.add (x12_7).toNat) = some (.slice A382_0 (rd_L2 x352001_3 x12_7).length c382_0)) (ds:=[]) #[ff,ff,ff,ff,ff,ff,ff,ff,ff,ff,ff,ff,ff,ff,ff,ff,ff,ff,ff,ff,ff,ff,ff,ff,ff,ff,ff,ff,ff,ff,ff,ff,ff,ff] (by kernel_rfl) rfl rfl ⟨(blk_cell BK351.out 0).trans rfl,(blk_cell BK351.out 1).trans rfl,hx382_0⟩ (fun hHeld => ?_);refine with_tabW humuslaw08_LeafOthers.tab21 humuslaw08_LeafOthers.bits21 (fun HT_ HW_ => ?_)
                          generalize wr.drew = w101 at HO_348000 HO_348001 HO_352000 HO_352001 HO_356000 HO_356001 BK347 BK351 BK355 HB HL382_0 HR382_0 hx382_0 hHeld ⊢
                          refine pure_ (i:=0) (N:=some 103) (v:=?_) (a':=?_) #[tt,ff,ff,ff,ff,ff,ff,ff,ff,ff,ff,ff,ff,ff,ff,ff,ff,ff,ff,ff,ff,ff,ff,ff,ff,ff,ff,ff,ff,ff,ff,ff,ff,ff] rfl rfl (any_of HT_.out (by kernel_rfl)) (fun _ _ _ h => h) (Or.inl ⟨by rfl,?_⟩) ?_ ?_
                          rotate_left
                          ·intro w'
                           go_simp
                           with_reducible rfl
                          rotate_left
                          ·simp only [Act.put,q1_,q2_,q3_,i64_w,i32_w]
                           rfl
                          refine pure_ (i:=1) (N:=some 104) (v:=?_) (a':=?_) #[tt,tt,ff,ff,ff,ff,ff,ff,ff,ff,ff,ff,ff,ff,ff,ff,ff,ff,ff,ff,ff,ff,ff,ff,ff,ff,ff,ff,ff,ff,ff,ff,ff,ff] rfl rfl (any_of HT_.out (by kernel_rfl)) (fun _ _ _ h => h) (Or.inl ⟨by rfl,?_⟩) ?_ ?_
                          rotate_left
                          ·intro w'
                           go_simp
                           with_reducible rfl
                          rotate_left
                          ·simp only [Act.put,q1_,q2_,q3_,i64_w,i32_w]
                           rfl
                          refine pure_ (i:=2) (N:=some 105) (v:=?_) (a':=?_) #[tt,tt,tt,ff,ff,ff,ff,ff,ff,ff,ff,ff,ff,ff,ff,ff,ff,ff,ff,ff,ff,ff,ff,ff,ff,ff,ff,ff,ff,ff,ff,ff,ff,ff] rfl rfl (any_of HT_.out (by kernel_rfl)) (fun _ _ _ h => h) (Or.inl ⟨by rfl,?_⟩) ?_ ?_
                          rotate_left
                          ·intro w'
                           go_simp
                           with_reducible rfl
                          rotate_left
                          ·simp only [Act.put,q1_,q2_,q3_,i64_w,i32_w]
                           rfl
                          refine pure_ (i:=3) (N:=some 106) (v:=?_) (a':=?_) #[tt,tt,tt,tt,ff,ff,ff,ff,ff,ff,ff,ff,ff,ff,ff,ff,ff,ff,ff,ff,ff,ff,ff,ff,ff,ff,ff,ff,ff,ff,ff,ff,ff,ff] rfl rfl (any_of HT_.out (by kernel_rfl)) (fun _ _ _ h => h) (Or.inl ⟨by rfl,?_⟩) ?_ ?_
                          rotate_left
                          ·intro w'
                           go_simp
                           with_reducible rfl
                          rotate_left
                          ·simp only [Act.put,q1_,q2_,q3_,i64_w,i32_w]
                           rfl
                          refine pure_ (i:=4) (N:=some 107) (v:=?_) (a':=?_) #[tt,tt,tt,tt,tt,ff,ff,ff,ff,ff,ff,ff,ff,ff,ff,ff,ff,ff,ff,ff,ff,ff,ff,ff,ff,ff,ff,ff,ff,ff,ff,ff,ff,ff] rfl rfl (any_of HT_.out (by kernel_rfl)) (fun _ _ _ h => h) (Or.inl ⟨by rfl,?_⟩) ?_ ?_
                          rotate_left
                          ·intro w'
                           go_simp
                           with_reducible rfl
                          rotate_left
                          ·simp only [Act.put,q1_,q2_,q3_,i64_w,i32_w]
                           rfl
                          refine pure_ (i:=6) (N:=some 109) (v:=?_) (a':=?_) #[tt,tt,tt,tt,tt,ff,tt,ff,ff,ff,ff,ff,ff,ff,ff,ff,ff,ff,ff,ff,ff,ff,ff,ff,ff,ff,ff,ff,ff,ff,ff,ff,ff,ff] rfl rfl (any_of HT_.out (by kernel_rfl)) (fun _ _ _ h => h) (Or.inl ⟨by rfl,?_⟩) ?_ ?_
                          rotate_left
                          ·intro w'
                           go_simp
                           with_reducible rfl
                          rotate_left
                          ·simp only [Act.put,q1_,q2_,q3_,i64_w,i32_w]
                           rfl
                          refine take_ (i:=5) (N:=some 108) (v:=?_) (a':=?_) #[tt,tt,tt,tt,tt,tt,tt,ff,ff,ff,ff,ff,ff,ff,ff,ff,ff,ff,ff,ff,ff,ff,ff,ff,ff,ff,ff,ff,ff,ff,ff,ff,ff,ff] rfl rfl (take_ofW HT_.out HW_.out (by kernel_rfl)) (fun _ _ _ h => h) (Or.inl ⟨by rfl,?_⟩) hHeld ?_ ?_
                          rotate_left
                          ·rintro w' ⟨s0,s1,s2⟩
                           go_simp
                           with_reducible rfl
                          rotate_left
                          ·simp only [Act.put,q1_,q2_,q3_,i64_w,i32_w]
                           rfl
                          refine pure_ (i:=7) (N:=some 110) (v:=?_) (a':=?_) #[tt,tt,tt,tt,tt,tt,tt,tt,ff,ff,ff,ff,ff,ff,ff,ff,ff,ff,ff,ff,ff,ff,ff,ff,ff,ff,ff,ff,ff,ff,ff,ff,ff,ff] rfl rfl (any_of HT_.out (by kernel_rfl)) (fun _ _ _ h => h) (Or.inl ⟨by rfl,?_⟩) ?_ ?_
                          rotate_left
                          ·intro w'
                           go_simp
                           with_reducible rfl
                          rotate_left
                          ·simp only [Act.put,q1_,q2_,q3_,i64_w,i32_w]
                           rfl
                          refine take_ (i:=8) (N:=some 111) (v:=?_) (a':=?_) #[tt,tt,tt,tt,tt,tt,tt,tt,tt,ff,ff,ff,ff,ff,ff,ff,ff,ff,ff,ff,ff,ff,ff,ff,ff,ff,ff,ff,ff,ff,ff,ff,ff,ff] rfl rfl (take_ofW HT_.out HW_.out (by kernel_rfl)) (fun _ _ _ h => h) (Or.inl ⟨by rfl,?_⟩) hHeld ?_ ?_
                          rotate_left
                          ·rintro w' ⟨s0,s1,s2⟩
                           go_simp
                           with_reducible rfl
                          rotate_left
                          ·simp only [Act.put,q1_,q2_,q3_,i64_w,i32_w]
                           rfl
                          refine pure_ (i:=9) (N:=some 112) (v:=?_) (a':=?_) #[tt,tt,tt,tt,tt,tt,tt,tt,tt,tt,ff,ff,ff,ff,ff,ff,ff,ff,ff,ff,ff,ff,ff,ff,ff,ff,ff,ff,ff,ff,ff,ff,ff,ff] rfl rfl (any_of HT_.out (by kernel_rfl)) (fun _ _ _ h => h) (Or.inl ⟨by rfl,?_⟩) ?_ ?_
                          rotate_left
                          ·intro w'
                           go_simp
                           with_reducible rfl
                          rotate_left
                          ·simp only [Act.put,q1_,q2_,q3_,i64_w,i32_w]
                           rfl
                          refine pure_ (i:=10) (N:=some 113) (v:=?_) (a':=?_) #[tt,tt,tt,tt,tt,tt,tt,tt,tt,tt,tt,ff,ff,ff,ff,ff,ff,ff,ff,ff,ff,ff,ff,ff,ff,ff,ff,ff,ff,ff,ff,ff,ff,ff] rfl rfl (any_of HT_.out (by kernel_rfl)) (fun _ _ _ h => h) (Or.inl ⟨by rfl,?_⟩) ?_ ?_
                          rotate_left
                          ·intro w'
                           go_simp
                           with_reducible rfl
                          rotate_left
                          ·simp only [Act.put,q1_,q2_,q3_,i64_w,i32_w]
                           rfl
                          refine pure_ (i:=11) (N:=some 114) (v:=?_) (a':=?_) #[tt,tt,tt,tt,tt,tt,tt,tt,tt,tt,tt,tt,ff,ff,ff,ff,ff,ff,ff,ff,ff,ff,ff,ff,ff,ff,ff,ff,ff,ff,ff,ff,ff,ff] rfl rfl (any_of HT_.out (by kernel_rfl)) (fun _ _ _ h => h) (Or.inl ⟨by rfl,?_⟩) ?_ ?_
                          rotate_left
                          ·intro w'
                           go_simp
                           with_reducible rfl
                          rotate_left
                          ·simp only [Act.put,q1_,q2_,q3_,i64_w,i32_w]
                           rfl
                          refine pure_ (i:=12) (N:=some 115) (v:=?_) (a':=?_) #[tt,tt,tt,tt,tt,tt,tt,tt,tt,tt,tt,tt,tt,ff,ff,ff,ff,ff,ff,ff,ff,ff,ff,ff,ff,ff,ff,ff,ff,ff,ff,ff,ff,ff] rfl rfl (any_of HT_.out (by kernel_rfl)) (fun _ _ _ h => h) (Or.inl ⟨by rfl,?_⟩) ?_ ?_
                          rotate_left
                          ·intro w'
                           go_simp
                           with_reducible rfl
                          rotate_left
                          ·simp only [Act.put,q1_,q2_,q3_,i64_w,i32_w]
                           rfl
                          refine pure_ (i:=13) (N:=some 116) (v:=undef) (a':=?_) #[tt,tt,tt,tt,tt,tt,tt,tt,tt,tt,tt,tt,tt,tt,ff,ff,ff,ff,ff,ff,ff,ff,ff,ff,ff,ff,ff,ff,ff,ff,ff,ff,ff,ff] rfl rfl (any_of HT_.out (by kernel_rfl)) (fun _ _ _ h => h) (Or.inr ⟨by rfl,rfl⟩) ?_ ?_
                          rotate_left
                          ·simp only [Act.put,q1_,q2_,q3_,i64_w,i32_w]
                           rfl
                          refine pure_ (i:=14) (N:=some 117) (v:=undef) (a':=?_) #[tt,tt,tt,tt,tt,tt,tt,tt,tt,tt,tt,tt,tt,tt,tt,ff,ff,ff,ff,ff,ff,ff,ff,ff,ff,ff,ff,ff,ff,ff,ff,ff,ff,ff] rfl rfl (any_of HT_.out (by kernel_rfl)) (fun _ _ _ h => h) (Or.inr ⟨by rfl,rfl⟩) ?_ ?_
                          rotate_left
                          ·simp only [Act.put,q1_,q2_,q3_,i64_w,i32_w]
                           rfl
                          refine pure_ (i:=15) (N:=some 118) (v:=undef) (a':=?_) #[tt,tt,tt,tt,tt,tt,tt,tt,tt,tt,tt,tt,tt,tt,tt,tt,ff,ff,ff,ff,ff,ff,ff,ff,ff,ff,ff,ff,ff,ff,ff,ff,ff,ff] rfl rfl (any_of HT_.out (by kernel_rfl)) (fun _ _ _ h => h) (Or.inr ⟨by rfl,rfl⟩) ?_ ?_
                          rotate_left
                          ·simp only [Act.put,q1_,q2_,q3_,i64_w,i32_w]
                           rfl
                          refine pure_ (i:=16) (N:=some 119) (v:=undef) (a':=?_) #[tt,tt,tt,tt,tt,tt,tt,tt,tt,tt,tt,tt,tt,tt,tt,tt,tt,ff,ff,ff,ff,ff,ff,ff,ff,ff,ff,ff,ff,ff,ff,ff,ff,ff] rfl rfl (any_of HT_.out (by kernel_rfl)) (fun _ _ _ h => h) (Or.inr ⟨by rfl,rfl⟩) ?_ ?_
                          rotate_left
                          ·simp only [Act.put,q1_,q2_,q3_,i64_w,i32_w]
                           rfl
                          refine pure_ (i:=17) (N:=some 120) (v:=undef) (a':=?_) #[tt,tt,tt,tt,tt,tt,tt,tt,tt,tt,tt,tt,tt,tt,tt,tt,tt,tt,ff,ff,ff,ff,ff,ff,ff,ff,ff,ff,ff,ff,ff,ff,ff,ff] rfl rfl (any_of HT_.out (by kernel_rfl)) (fun _ _ _ h => h) (Or.inr ⟨by rfl,rfl⟩) ?_ ?_
                          rotate_left
                          ·simp only [Act.put,q1_,q2_,q3_,i64_w,i32_w]
                           rfl
                          refine pure_ (i:=18) (N:=some 121) (v:=undef) (a':=?_) #[tt,tt,tt,tt,tt,tt,tt,tt,tt,tt,tt,tt,tt,tt,tt,tt,tt,tt,tt,ff,ff,ff,ff,ff,ff,ff,ff,ff,ff,ff,ff,ff,ff,ff] rfl rfl (any_of HT_.out (by kernel_rfl)) (fun _ _ _ h => h) (Or.inr ⟨by rfl,rfl⟩) ?_ ?_
                          rotate_left
                          ·simp only [Act.put,q1_,q2_,q3_,i64_w,i32_w]
                           rfl
                          refine pure_ (i:=19) (N:=some 122) (v:=undef) (a':=?_) #[tt,tt,tt,tt,tt,tt,tt,tt,tt,tt,tt,tt,tt,tt,tt,tt,tt,tt,tt,tt,ff,ff,ff,ff,ff,ff,ff,ff,ff,ff,ff,ff,ff,ff] rfl rfl (any_of HT_.out (by kernel_rfl)) (fun _ _ _ h => h) (Or.inr ⟨by rfl,rfl⟩) ?_ ?_
                          rotate_left
                          ·simp only [Act.put,q1_,q2_,q3_,i64_w,i32_w]
                           rfl
                          refine pure_ (i:=20) (N:=some 123) (v:=undef) (a':=?_) #[tt,tt,tt,tt,tt,tt,tt,tt,tt,tt,tt,tt,tt,tt,tt,tt,tt,tt,tt,tt,tt,ff,ff,ff,ff,ff,ff,ff,ff,ff,ff,ff,ff,ff] rfl rfl (any_of HT_.out (by kernel_rfl)) (fun _ _ _ h => h) (Or.inr ⟨by rfl,rfl⟩) ?_ ?_
                          rotate_left
                          ·simp only [Act.put,q1_,q2_,q3_,i64_w,i32_w]
                           rfl
                          refine pure_ (i:=21) (N:=some 124) (v:=undef) (a':=?_) #[tt,tt,tt,tt,tt,tt,tt,tt,tt,tt,tt,tt,tt,tt,tt,tt,tt,tt,tt,tt,tt,tt,ff,ff,ff,ff,ff,ff,ff,ff,ff,ff,ff,ff] rfl rfl (any_of HT_.out (by kernel_rfl)) (fun _ _ _ h => h) (Or.inr ⟨by rfl,rfl⟩) ?_ ?_
                          rotate_left
                          ·simp only [Act.put,q1_,q2_,q3_,i64_w,i32_w]
                           rfl
                          refine pure_ (i:=22) (N:=some 125) (v:=undef) (a':=?_) #[tt,tt,tt,tt,tt,tt,tt,tt,tt,tt,tt,tt,tt,tt,tt,tt,tt,tt,tt,tt,tt,tt,tt,ff,ff,ff,ff,ff,ff,ff,ff,ff,ff,ff] rfl rfl (any_of HT_.out (by kernel_rfl)) (fun _ _ _ h => h) (Or.inr ⟨by rfl,rfl⟩) ?_ ?_
                          rotate_left
                          ·simp only [Act.put,q1_,q2_,q3_,i64_w,i32_w]
                           rfl
                          refine pure_ (i:=23) (N:=some 126) (v:=undef) (a':=?_) #[tt,tt,tt,tt,tt,tt,tt,tt,tt,tt,tt,tt,tt,tt,tt,tt,tt,tt,tt,tt,tt,tt,tt,tt,ff,ff,ff,ff,ff,ff,ff,ff,ff,ff] rfl rfl (any_of HT_.out (by kernel_rfl)) (fun _ _ _ h => h) (Or.inr ⟨by rfl,rfl⟩) ?_ ?_
                          rotate_left
                          ·simp only [Act.put,q1_,q2_,q3_,i64_w,i32_w]
                           rfl
                          refine pure_ (i:=24) (N:=some 127) (v:=undef) (a':=?_) #[tt,tt,tt,tt,tt,tt,tt,tt,tt,tt,tt,tt,tt,tt,tt,tt,tt,tt,tt,tt,tt,tt,tt,tt,tt,ff,ff,ff,ff,ff,ff,ff,ff,ff] rfl rfl (any_of HT_.out (by kernel_rfl)) (fun _ _ _ h => h) (Or.inr ⟨by rfl,rfl⟩) ?_ ?_
                          rotate_left
                          ·simp only [Act.put,q1_,q2_,q3_,i64_w,i32_w]
                           rfl
                          refine pure_ (i:=25) (N:=some 128) (v:=undef) (a':=?_) #[tt,tt,tt,tt,tt,tt,tt,tt,tt,tt,tt,tt,tt,tt,tt,tt,tt,tt,tt,tt,tt,tt,tt,tt,tt,tt,ff,ff,ff,ff,ff,ff,ff,ff] rfl rfl (any_of HT_.out (by kernel_rfl)) (fun _ _ _ h => h) (Or.inr ⟨by rfl,rfl⟩) ?_ ?_
                          rotate_left
                          ·simp only [Act.put,q1_,q2_,q3_,i64_w,i32_w]
                           rfl
                          refine pure_ (i:=26) (N:=some 129) (v:=undef) (a':=?_) #[tt,tt,tt,tt,tt,tt,tt,tt,tt,tt,tt,tt,tt,tt,tt,tt,tt,tt,tt,tt,tt,tt,tt,tt,tt,tt,tt,ff,ff,ff,ff,ff,ff,ff] rfl rfl (any_of HT_.out (by kernel_rfl)) (fun _ _ _ h => h) (Or.inr ⟨by rfl,rfl⟩) ?_ ?_
                          rotate_left
                          ·simp only [Act.put,q1_,q2_,q3_,i64_w,i32_w]
                           rfl
                          refine pure_ (i:=27) (N:=some 130) (v:=undef) (a':=?_) #[tt,tt,tt,tt,tt,tt,tt,tt,tt,tt,tt,tt,tt,tt,tt,tt,tt,tt,tt,tt,tt,tt,tt,tt,tt,tt,tt,tt,ff,ff,ff,ff,ff,ff] rfl rfl (any_of HT_.out (by kernel_rfl)) (fun _ _ _ h => h) (Or.inr ⟨by rfl,rfl⟩) ?_ ?_
                          rotate_left
                          ·simp only [Act.put,q1_,q2_,q3_,i64_w,i32_w]
                           rfl
                          refine pure_ (i:=28) (N:=some 131) (v:=undef) (a':=?_) #[tt,tt,tt,tt,tt,tt,tt,tt,tt,tt,tt,tt,tt,tt,tt,tt,tt,tt,tt,tt,tt,tt,tt,tt,tt,tt,tt,tt,tt,ff,ff,ff,ff,ff] rfl rfl (any_of HT_.out (by kernel_rfl)) (fun _ _ _ h => h) (Or.inr ⟨by rfl,rfl⟩) ?_ ?_
                          rotate_left
                          ·simp only [Act.put,q1_,q2_,q3_,i64_w,i32_w]
                           rfl
                          refine pure_ (i:=29) (N:=some 132) (v:=undef) (a':=?_) #[tt,tt,tt,tt,tt,tt,tt,tt,tt,tt,tt,tt,tt,tt,tt,tt,tt,tt,tt,tt,tt,tt,tt,tt,tt,tt,tt,tt,tt,tt,ff,ff,ff,ff] rfl rfl (any_of HT_.out (by kernel_rfl)) (fun _ _ _ h => h) (Or.inr ⟨by rfl,rfl⟩) ?_ ?_
                          rotate_left
                          ·simp only [Act.put,q1_,q2_,q3_,i64_w,i32_w]
                           rfl
                          refine pure_ (i:=30) (N:=some 133) (v:=undef) (a':=?_) #[tt,tt,tt,tt,tt,tt,tt,tt,tt,tt,tt,tt,tt,tt,tt,tt,tt,tt,tt,tt,tt,tt,tt,tt,tt,tt,tt,tt,tt,tt,tt,ff,ff,ff] rfl rfl (any_of HT_.out (by kernel_rfl)) (fun _ _ _ h => h) (Or.inr ⟨by rfl,rfl⟩) ?_ ?_
                          rotate_left
                          ·simp only [Act.put,q1_,q2_,q3_,i64_w,i32_w]
                           rfl
                          refine pure_ (i:=31) (N:=some 134) (v:=undef) (a':=?_) #[tt,tt,tt,tt,tt,tt,tt,tt,tt,tt,tt,tt,tt,tt,tt,tt,tt,tt,tt,tt,tt,tt,tt,tt,tt,tt,tt,tt,tt,tt,tt,tt,ff,ff] rfl rfl (any_of HT_.out (by kernel_rfl)) (fun _ _ _ h => h) (Or.inr ⟨by rfl,rfl⟩) ?_ ?_
                          rotate_left
                          ·simp only [Act.put,q1_,q2_,q3_,i64_w,i32_w]
                           rfl
                          refine pure_ (i:=32) (N:=some 135) (v:=undef) (a':=?_) #[tt,tt,tt,tt,tt,tt,tt,tt,tt,tt,tt,tt,tt,tt,tt,tt,tt,tt,tt,tt,tt,tt,tt,tt,tt,tt,tt,tt,tt,tt,tt,tt,tt,ff] rfl rfl (any_of HT_.out (by kernel_rfl)) (fun _ _ _ h => h) (Or.inr ⟨by rfl,rfl⟩) ?_ ?_
                          rotate_left
                          ·simp only [Act.put,q1_,q2_,q3_,i64_w,i32_w]
                           rfl
                          refine pure_ (i:=33) (N:=some 136) (v:=?_) (a':=?_) #[tt,tt,tt,tt,tt,tt,tt,tt,tt,tt,tt,tt,tt,tt,tt,tt,tt,tt,tt,tt,tt,tt,tt,tt,tt,tt,tt,tt,tt,tt,tt,tt,tt,tt] rfl rfl (any_of HT_.out (by kernel_rfl)) (fun _ _ _ h => h) (Or.inl ⟨by rfl,?_⟩) ?_ ?_
                          rotate_left
                          ·intro w'
                           go_simp
                           with_reducible rfl
                          rotate_left
                          ·simp only [Act.put,q1_,q2_,q3_,i64_w,i32_w]
                           rfl
                          refine done_ (done_of HT_.out (by kernel_rfl)) ?_
                          try go_wp2
                          go_roundg k7
                          case measure => have:=HJ3.out;have:=HJ17.out;have:=HK3.out;have:=HJ22.out;have:=HJ31.out;have:=HJ69.out;have:=HK7.out;omega
                          case rel => exact ⟨(wrap64 (x12_7 + 1)),(by first | rfl | (simp;done) | (simp [*];done)),H',⟨by have:=HJ3.out;have:=HJ17.out;have:=HK3.out;have:=HJ22.out;have:=HJ31.out;have:=HJ69.out;have:=HK7.out;omega⟩,⟨by (with_reducible repeat (first | apply Kd.V_alloc | apply Kd.V_drewN | apply Kd.V_drew));exact HO_348000.out⟩,⟨by (with_reducible repeat (first | apply Kd.V_alloc | apply Kd.V_drewN | apply Kd.V_drew));exact HO_348001.out⟩,⟨by (with_reducible repeat (first | apply Kd.V_alloc | apply Kd.V_drewN | apply Kd.V_drew));exact HO_352000.out⟩,⟨by (with_reducible repeat (first | apply Kd.V_alloc | apply Kd.V_drewN | apply Kd.V_drew));exact HO_352001.out⟩,⟨by (with_reducible repeat (first | apply Kd.R_alloc | apply Kd.R_drewN | apply Kd.R_drew));exact HO_356000.out⟩,⟨by (with_reducible repeat (first | apply Kd.V_alloc | apply Kd.V_drewN | apply Kd.V_drew));exact HO_356001.out⟩,⟨by (with_reducible repeat (first | refine blk_drewN ?_ _ | refine blk_drew ?_ | refine blk_alloc ?_ _));exact BK347.out⟩,⟨by (with_reducible repeat (first | refine blk_drewN ?_ _ | refine blk_drew ?_ | refine blk_alloc ?_ _));exact BK351.out⟩,⟨by (with_reducible repeat (first | refine blk_drewN ?_ _ | refine blk_drew ?_ | refine blk_alloc ?_ _));exact BK355.out⟩,⟨by repeat (first | (with_reducible first | exact HB.out | apply below_alloc | apply pw_below_drewN | apply below_drew1 | refine below_set ?_ GE347.out | refine below_set ?_ GE351.out | refine below_set ?_ GE355.out) | exact HB.out)⟩⟩
                        ·rw [if_neg c88] at H
                         exact absurd H (by simp)
                      ·rw [if_neg c82] at H
                       have c82b0 : decide (x12_7 < (x352001_3.length : Int)) = false:=decide_eq_false c82
                       clear c82
                       have H':=Aside0.mk H
                       clear H
                       have hnb102:=NB351_347.out
                       have hnc102:=NB347_351.out
                       have hnb103:=NB351_355.out
                       have hnc103:=NB355_351.out
                       have hcz104_0 : wr.cell? ⟨gb351,0,none⟩ = some (.slice Ao36 x352000_3.length co36):=(blk_cell BK351.out 0).trans rfl
                       have hcz104_1 : wr.cell? ⟨gb351,1,none⟩ = some (.slice Ao40 x352001_3.length co40):=(blk_cell BK351.out 1).trans rfl
                       have hfz104_0:=blk_frozen BK351.out 0
                       have hfz104_1:=blk_frozen BK351.out 1
                       have hnb105:=NB355_347.out
                       have hnc105:=NB347_355.out
                       have hcz106_0 : wr.cell? ⟨gb355,0,none⟩ = some (u356000):=(blk_cell BK355.out 0).trans rfl
                       have hcz106_1 : wr.cell? ⟨gb355,1,none⟩ = some (u356001):=(blk_cell BK355.out 1).trans rfl
                       have hfz106_0:=blk_frozen BK355.out 0
                       have hfz106_1:=blk_frozen BK355.out 1
                       obtain ⟨Ao107,co107,eo107⟩:=Kd.R_slice HO_356000.out
                       subst eo107
                       obtain ⟨Ao108,co108,eo108⟩:=Kd.V_slice HO_356001.out
                       subst eo108
                       go_wp2
                       go_roundg k7
                       case measure => have:=HJ3.out;have:=HJ17.out;have:=HK3.out;have:=HJ22.out;have:=HJ31.out;have:=HJ69.out;have:=HK7.out;omega
                       case rel => exact ⟨(wrap64 (x8_3 + 1)),(x356000_31),(x356001_31),(.slice Ao107 x356000_31.length co107),(.slice Ao108 x356001_31.length co108),(by first | rfl | (simp;done) | (simp [*];done)),H',⟨by have:=HJ3.out;have:=HJ17.out;have:=HK3.out;have:=HJ22.out;have:=HJ31.out;have:=HJ69.out;have:=HK7.out;omega⟩,⟨by (with_reducible repeat (first | apply Kd.V_alloc | apply Kd.V_drewN | apply Kd.V_drew));exact Kd.V_mono (Kd.V_far (p:=⟨gb351,1,none⟩) (Kd.V_far (p:=⟨gb351,0,none⟩) (Kd.V_mono HO_348000.out (fun k_ hk => (⟨hk,hk.2.2.2.1⟩ : _ ∧ k_ ≠ gb351))) (fun _ hk => hk.2) (.slice Ao107 x356000_31.length co107)) (fun _ hk => hk.2) (.slice Ao108 x356001_31.length co108)) (fun _ hk => ⟨hk.1.1,⟨hk.1.2.2.1,hk.1.2.2.2.1⟩⟩)⟩,⟨by (with_reducible repeat (first | apply Kd.V_alloc | apply Kd.V_drewN | apply Kd.V_drew));exact Kd.V_mono (Kd.V_far (p:=⟨gb351,1,none⟩) (Kd.V_far (p:=⟨gb351,0,none⟩) (Kd.V_mono HO_348001.out (fun k_ hk => (⟨hk,hk.2.2.2.1⟩ : _ ∧ k_ ≠ gb351))) (fun _ hk => hk.2) (.slice Ao107 x356000_31.length co107)) (fun _ hk => hk.2) (.slice Ao108 x356001_31.length co108)) (fun _ hk => ⟨hk.1.1,⟨hk.1.2.2.1,hk.1.2.2.2.1⟩⟩)⟩,⟨by first | exact Kd.R_V_up (by (with_reducible repeat (first | apply Kd.R_alloc | apply Kd.R_drewN | apply Kd.R_drew));exact Kd.R_mono (Kd.R_far (p:=⟨gb351,1,none⟩) (Kd.R_far (p:=⟨gb351,0,none⟩) (Kd.R_types (Kd.R_types (Kd.R_types HO_356000.out BK347.out (by decide)) BK351.out (by decide)) BK351.out (by decide)) (fun _ hk => hk.2) (.slice Ao107 x356000_31.length co107)) (fun _ hk => hk.2) (.slice Ao108 x356001_31.length co108)) (fun _ hk => ⟨hk.1.1.1,⟨hk.1.1.2,hk.1.2⟩⟩)) | exact Kd.R_V_up0 (by (with_reducible repeat (first | apply Kd.R_alloc | apply Kd.R_drewN | apply Kd.R_drew));exact Kd.R_mono (Kd.R_far (p:=⟨gb351,1,none⟩) (Kd.R_far (p:=⟨gb351,0,none⟩) (Kd.R_types (Kd.R_types (Kd.R_types HO_356000.out BK347.out (by decide)) BK351.out (by decide)) BK351.out (by decide)) (fun _ hk => hk.2) (.slice Ao107 x356000_31.length co107)) (fun _ hk => hk.2) (.slice Ao108 x356001_31.length co108)) (fun _ hk => ⟨hk.1.1.1,⟨hk.1.1.2,hk.1.2⟩⟩))⟩,⟨by (with_reducible repeat (first | apply Kd.V_alloc | apply Kd.V_drewN | apply Kd.V_drew));exact Kd.V_mono (Kd.V_far (p:=⟨gb351,1,none⟩) (Kd.V_far (p:=⟨gb351,0,none⟩) (Kd.V_mono HO_356001.out (fun k_ hk => (⟨hk,hk.2.2.2.1⟩ : _ ∧ k_ ≠ gb351))) (fun _ hk => hk.2) (.slice Ao107 x356000_31.length co107)) (fun _ hk => hk.2) (.slice Ao108 x356001_31.length co108)) (fun _ hk => ⟨hk.1.1,⟨hk.1.2.2.1,hk.1.2.2.2.1⟩⟩)⟩,⟨by (with_reducible repeat (first | refine blk_drewN ?_ _ | refine blk_drew ?_ | refine blk_alloc ?_ _));refine blk_far ?_ NB347_351.out _;(with_reducible repeat (first | refine blk_drewN ?_ _ | refine blk_drew ?_ | refine blk_alloc ?_ _));refine blk_far ?_ NB347_351.out _;(with_reducible repeat (first | refine blk_drewN ?_ _ | refine blk_drew ?_ | refine blk_alloc ?_ _));exact BK347.out⟩,⟨by (with_reducible repeat (first | refine blk_drewN ?_ _ | refine blk_drew ?_ | refine blk_alloc ?_ _));refine blk_put (cs:=#[.slice Ao107 x356000_31.length co107,.slice Ao40 x352001_3.length co40]) ?_ 1 _ rfl;(with_reducible repeat (first | refine blk_drewN ?_ _ | refine blk_drew ?_ | refine blk_alloc ?_ _));refine blk_put (cs:=#[.slice Ao36 x352000_3.length co36,.slice Ao40 x352001_3.length co40]) ?_ 0 _ rfl;(with_reducible repeat (first | refine blk_drewN ?_ _ | refine blk_drew ?_ | refine blk_alloc ?_ _));exact BK351.out⟩,⟨by repeat (first | (with_reducible first | exact HB.out | apply below_alloc | apply pw_below_drewN | apply below_drew1 | refine below_set ?_ GE347.out | refine below_set ?_ GE351.out | refine below_set ?_ GE355.out) | exact HB.out)⟩⟩
              ·rw [if_neg c31] at H
               exact absurd H (by simp)
            ·rw [if_neg c28] at H
             exact absurd H (by simp)
           ·rw [if_neg c27] at H
            exact absurd H (by simp)
          ·replace c26:=Bool.eq_false_iff.mpr c26
           subst c26
           have H1 : ((humuslaw08_awake.f kj22).bind fun t352 => (some t352)) = some r:=by rw [if_neg (show ¬ (false = true) by decide)] at H;exact H
           clear H
           have H:=H1
           clear H1
           replace H:=Option.bind_eq_some_iff.mp H
           obtain ⟨t352,A1090,H⟩:=H
           replace H : (some t352) = some r:=H
           have A109:=Aside0.mk A1090
           clear A1090
           obtain rfl:=Option.some.inj H
           go_wp2_with (first | ((with_reducible refine gate_callee (f:=8) rfl ?_);refine goesL_ (some 138) rfl rfl Try.func8 (by kernel_rfl) rfl #[] rfl (by (try simp only [List.map_toArray,List.map_cons,List.map_nil]);first | done | rfl | (simp only [List.length_drop,List.length_take];rfl)) ?_;(with_reducible refine (humuslaw08_awake.calls kj22  t352 _ A109.out).mono ?_);rintro e w110 ⟨rfl,hb⟩;refine ⟨_,rfl,?_⟩;have n0_:=Aside0.mk (Kd.V_below (by (with_reducible repeat (first | apply Kd.V_alloc | apply Kd.V_drewN | apply Kd.V_drew));exact HO_348000.out) hb);have n1_:=Aside0.mk (Kd.V_below (by (with_reducible repeat (first | apply Kd.V_alloc | apply Kd.V_drewN | apply Kd.V_drew));exact HO_348001.out) hb);have n2_:=Aside0.mk (Kd.V_below (by (with_reducible repeat (first | apply Kd.V_alloc | apply Kd.V_drewN | apply Kd.V_drew));exact HO_352000.out) hb);have n3_:=Aside0.mk (Kd.V_below (by (with_reducible repeat (first | apply Kd.V_alloc | apply Kd.V_drewN | apply Kd.V_drew));exact HO_352001.out) hb);have n4_:=Aside0.mk (blk_below (g:=gb347) (o:=.cells #[.slice A0_0 l0_0.length c0_0,.slice A0_1 l0_1.length c0_1] 27 (0,0)) (by (with_reducible repeat (first | refine blk_drewN ?_ _ | refine blk_drew ?_ | refine blk_alloc ?_ _));exact BK347.out) hb);have n5_:=Aside0.mk (blk_below (g:=gb351) (o:=.cells #[u352000,u352001] 27 (0,0)) (by (with_reducible repeat (first | refine blk_drewN ?_ _ | refine blk_drew ?_ | refine blk_alloc ?_ _));exact BK351.out) hb);have n6_:=Aside0.mk (below_step (by repeat (first | (with_reducible first | exact HB.out | apply below_alloc | apply pw_below_drewN | apply below_drew1 | refine below_set ?_ GE347.out | refine below_set ?_ GE351.out) | exact HB.out)) hb);clear HO_348000;clear HO_348001;clear HO_352000;clear HO_352001;clear BK347;clear BK351;clear HB;have HO_348000:=n0_;have HO_348001:=n1_;have HO_352000:=n2_;have HO_352001:=n3_;have BK347:=n4_;have BK351:=n5_;have HB:=n6_;clear n0_ n1_ n2_ n3_ n4_ n5_ n6_;(try clear hb);(try clear hb2);(try clear hk);(try clear hi)))
           go_ret
           exact ⟨by first | rfl | (simp [errW_none,errW_some] <;> rfl) | (simp [*,errW_none,errW_some] <;> rfl),by repeat (first | (with_reducible first | exact HB.out | apply below_alloc | apply pw_below_drewN | apply below_drew1 | refine below_set ?_ GE347.out | refine below_set ?_ GE351.out) | exact HB.out)⟩
end Go.Proofs.Ytjigckhopkclgaa.P
set_option linter.unusedVariables false
set_option linter.unusedSimpArgs false
namespace Go.Proofs.Ytjigckhopkclgaa.P
open Go.RowKit Go.Proofs.Ytjigckhopkclgaa Go.Proofs.Ytjigckhopkclgaa.Mem Go.Proofs.YtjigckhopkclgaaW.PrintWords Go.Proofs.YtjigckhopkclgaaW.PrintLast Go.Proofs.YtjigckhopkclgaaW.PrintMore
theorem others_l1 {R : List (List Int)} {at_ I : List Int} {S S' : List (List Int)} {i slot e : Int} (h : Out I S S' slot e) (hl : S.length ≤ 1000) : ∀ (n j k : Nat), n = S.length - j → j ≤ S.length →
    humuslaw08_LeafOthers.l1 (k + n + 1) R at_ i slot (j : Int) I S I S' = humuslaw08_LeafOthers.l0 k R at_ (wrap64 (i + 1)) I S' := by
  intro n
  induction n with
  | zero =>
    intro j k hn hj
    rw [humuslaw08_LeafOthers.l1, if_neg (by omega)]
  | succ n ih =>
    intro j k hn hj
    have hlt : j < S.length := by omega
    have hw : wrap64 ((j : Int) + 1) = ((j + 1 : Nat) : Int) := by unfold wrap64; omega
    rw [show k + (n + 1) + 1 = (k + n + 1) + 1 by omega, humuslaw08_LeafOthers.l1, if_pos (by omega), hw]
    have step := ih (j + 1) k (by omega) (by omega)
    by_cases hs : (j : Int) = slot
    · rw [if_pos hs]; exact step
    · rw [if_neg hs, if_pos (by omega)]
      by_cases hp : ((rd_L2 S (j : Int)).length : Int) > 0
      · obtain ⟨h1, h2⟩ := h.keep j hlt hs (by omega)
        rw [if_pos hp, if_neg (by omega), if_pos (by omega), h2, if_pos rfl]; exact step
      · rw [if_neg hp]; exact step
theorem others_j6 {R : List (List Int)} {at_ I : List Int} {S S' : List (List Int)} {i slot e : Int} (h : Out I S S' slot e) (hM : MayL I S) {k : Nat} (hk : 2100 ≤ k) : ∃ k', k ≤ k' + 80 ∧ humuslaw08_LeafOthers.j6 k R at_ i slot e I S I S' = humuslaw08_LeafOthers.l0 k' R at_ (wrap64 (i + 1)) I S' := by
  have hl := hM.2.1
  have h4 := hM.len4
  obtain ⟨k, rfl⟩ : ∃ m, k = (m + S.length + 1) + 2 := ⟨k - S.length - 3, by omega⟩
  refine ⟨k, by omega, ?_⟩
  have hL := others_l1 (R := R) (at_ := at_) (i := i) h (by omega) S.length 0 k (by omega) (by omega)
  rw [humuslaw08_LeafOthers.j6]
  by_cases he : e = 0
  · rw [if_pos he, humuslaw08_LeafOthers.j7, if_neg (by decide)]; exact hL
  · have hS := h.same he
    subst hS
    rw [if_neg he, Same_refl (by omega) (by omega) (by omega), Option.bind_some, humuslaw08_LeafOthers.j7, if_neg (by decide)]; exact hL
theorem others_l0 {R : List (List Int)} {at_ : List Int} {I : List Int} (hR : R.length ≤ maxLen) : ∀ (n i k : Nat) (S : List (List Int)), n = 40 - i → i ≤ 40 → 100 * n + 4000 ≤ k → MayL I S → humuslaw08_LeafOthers.l0 k R at_ (i : Int) I S = some true := by
  have fin : ∀ (i : Int) (k : Nat) (S : List (List Int)), 1000 ≤ k → humuslaw08_LeafOthers.j3 k R at_ i false I S = some true := by
    intro i k S hk
    obtain ⟨k, rfl⟩ : ∃ m, k = m + 1 := ⟨k - 1, by omega⟩
    rw [humuslaw08_LeafOthers.j3, if_neg (by decide), awake08_ev (by omega), Option.bind_some]
  intro n
  induction n with
  | zero =>
    intro i k S hn hi hk hM
    obtain ⟨k, rfl⟩ : ∃ m, k = m + 1 := ⟨k - 1, by omega⟩
    rw [humuslaw08_LeafOthers.l0]
    split
    · split
      · rw [decide_eq_false (by omega)]; exact fin _ _ _ (by omega)
      · exact fin _ _ _ (by omega)
    · exact fin _ _ _ (by omega)
  | succ n ih =>
    intro i k S hn hi hk hM
    obtain ⟨k, rfl⟩ : ∃ m, k = m + 3 := ⟨k - 3, by omega⟩
    have hw : wrap64 ((i : Int) + 1) = ((i + 1 : Nat) : Int) := by unfold wrap64; omega
    have go : ∀ {S' : List (List Int)} {slot e : Int} {k : Nat}, 100 * n + 4080 ≤ k → Out I S S' slot e → humuslaw08_LeafOthers.j6 k R at_ (i : Int) slot e I S I S' = some true := by
      intro S' slot e k hk h
      obtain ⟨k', h1, h2⟩ := others_j6 (R := R) (at_ := at_) (i := (i : Int)) h hM (k := k) (by omega)
      rw [h2, hw]
      exact ih (i + 1) k' S' (by omega) (by omega) (by omega) h.may
    rw [humuslaw08_LeafOthers.l0]
    by_cases h1 : (i : Int) < (R.length : Int)
    · rw [if_pos h1]
      by_cases h2 : (i : Int) < (at_.length : Int)
      · rw [if_pos h2, decide_eq_true (by omega), humuslaw08_LeafOthers.j3, if_pos rfl, if_pos (by omega), if_pos h1]
        by_cases h3 : ((rd_L2 R (i : Int)).length : Int) > 300
        · rw [if_pos h3, humuslaw08_LeafOthers.j4, hw]
          exact ih (i + 1) k S (by omega) (by omega) (by omega) hM
        · rw [if_neg h3, if_pos h2]
          generalize Int.tdiv (rd at_ (i : Int)) 3 % 256 % 66 = slot
          by_cases h4 : Int.tmod (rd at_ (i : Int)) 3 = 0
          · obtain ⟨S', e, hS, hO⟩ := Set_ev hM slot (row := rd_L2 R (i : Int)) (by omega) (k := k + 1) (by omega)
            rw [if_pos h4, hS, Option.bind_some]
            exact go (by omega) hO
          · rw [if_neg h4, humuslaw08_LeafOthers.j5]
            by_cases h5 : (Int.tmod (rd at_ (i : Int)) 3 == 1) = true
            · obtain ⟨S', e, hS, hO⟩ := Drop_ev hM slot (k := k) (by omega)
              rw [if_pos h5, hS, Option.bind_some]
              exact go (by omega) hO
            · obtain ⟨S', s, e, hS, hO⟩ := Insert_ev hM (row := rd_L2 R (i : Int)) (by omega) (k := k) (by omega)
              rw [if_neg h5, if_pos (by omega), if_pos h1, hS, Option.bind_some]
              exact go (by omega) hO
      · rw [if_neg h2]; exact fin _ _ _ (by omega)
    · rw [if_neg h1]; exact fin _ _ _ (by omega)
theorem LeafOthers_f {I : List Int} {S R : List (List Int)} {at_ : List Int} (hlS : S.length ≤ maxLen) (hR : R.length ≤ maxLen) : humuslaw08_LeafOthers.f 20002 I S R at_ = some true := by
  obtain ⟨b, hb, hh⟩ := @Light_ev 20002 I S hlS (by decide)
  unfold humuslaw08_LeafOthers.f
  rw [hb, Option.bind_some]
  have aw : humuslaw08_LeafOthers.j0 20002 R at_ true I S = some true := by
    rw [humuslaw08_LeafOthers.j0, if_pos rfl, awake08_ev (by omega), Option.bind_some]
  cases b with
  | false => rw [if_neg (by decide)]; exact aw
  | true =>
    obtain ⟨h6, h8, h2⟩ := hh rfl
    have hs : Small S := ⟨by omega, fun s hm => by have := h6 s hm; omega⟩
    rw [if_pos rfl]
    by_cases hM : MayL I S
    · rw [(May_ev hs (by omega)).1 hM, Option.bind_some, humuslaw08_LeafOthers.j0, if_neg (by decide), humuslaw08_LeafOthers.j1]
      exact others_l0 hR 40 0 20000 S rfl (by omega) (by omega) hM
    · rw [(May_ev hs (by omega)).2 hM, Option.bind_some]; exact aw
theorem V_of_C {α : Type} {d : Kd α} (hd : Kd.Heap d) {e base : Nat} {w : World} {A : Option Addr} {c : Nat} {xs : List α} (hc : xs.length ≤ c) (h : Kd.C d w A xs.length xs) : Kd.V d e w base (fun _ => True) (.slice A xs.length c) xs :=
  Kd.V_mk hc (fun W' hW => hd.C (fun k hk => hW k trivial hk) h)
theorem LeafOthers_walk {w : World} (I : List Int) (S : List (List Int)) (A : Option Addr) (c : Nat) (B : Option Addr) (d : Nat) (h1 : I.length ≤ c) (h2 : Kd.C (Kd.int .i64) w A I.length I) (h3 : S.length ≤ d) (h4 : Kd.C (Kd.slice 5 (Kd.int .u8)) w B S.length S) (g1 : goodW I) (g2 : goodR S) (R : List (List Int)) (E : Option Addr) (f : Nat) (h5 : R.length ≤ f) (h6 : Kd.C (Kd.slice 5 (Kd.int .u8)) w E R.length R) (h7 : ∀ x ∈ R, goodB x) (h8 : R.length ≤ maxLen) (l : List Int) (G : Option Addr) (q : Nat) (h9 : l.length ≤ q) (h10 : Kd.C (Kd.int .u8) w G l.length l) (h11 : ∀ x ∈ l, (Lit.int .u8 x).wf = true) (h12 : l.length ≤ maxLen) :
    Calls Try.prog 4 #[.agg #[.slice A I.length c, .slice B S.length d], .slice E R.length f, .slice G l.length q] w fun e w' => e = .returned (.bool true) ∧ Below w.heap.size w w' :=
  humuslaw08_LeafOthers.calls 20002 (fun _ => True) A c I (fun _ => True) B d S E f R G q l true w (V_of_C (Kd.heap_int .i64) h1 h2) (V_of_C (Kd.heap_slice 5 (Kd.heap_int .u8)) h3 h4) h6 h5 h10 h9 (LeafOthers_f g2.2 h8)
end Go.Proofs.Ytjigckhopkclgaa.P
