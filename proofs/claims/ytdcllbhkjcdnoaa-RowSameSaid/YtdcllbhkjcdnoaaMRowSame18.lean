/- Put together by wip/prune.py out of this claim's texts. -/
import Derived.Test.YtdcllbhkjcdnoaaMRowSame5
import Derived.Test.YtdcllbhkjcdnoaaMRowSame10
import Derived.Test.YtdcllbhkjcdnoaaMRowSame15
import Derived.Test.YtdcllbhkjcdnoaaMRowSame16
import Derived.Test.YtdcllbhkjcdnoaaMRowSame17
namespace Go.Proofs.Ytdcllbhkjcdnoaa.P
open Go.RowKit Go.Proofs.YtdcllbhkjcdnoaaW.PrintWords Go.Proofs.YtdcllbhkjcdnoaaW.PrintLast Go.Proofs.YtdcllbhkjcdnoaaW.PrintMore
attribute [local go_sem] max2_int min2_int max_two min_two max_three min_three max_four min_four   -- for this text's walks alone
attribute [local go_sem] run_store_float
set_option linter.unusedVariables false
set_option linter.unusedSimpArgs false
mutual
def humuslaw04_RowSame.j0 : Nat → Nat → Bool → Nat → Bool → List Nat → Int → Int → Int → Nat → Bool → List Nat → Int → Int → Int → Option (Bool)
  | 0,_,_,_,_,_,_,_,_,_,_,_,_,_,_ => none
  | k + 1,x2,x19,x583000,x583001,x583002,x583003,x583004,x583005,x584000,x584001,x584002,x584003,x584004,x584005 => if x19 = true then ((humuslaw04_awake.f k).bind fun t584 => (some t584)) else ((row_Plus.f k x583000 x583001 x583002 x583003 x583004 x583005 x2).bind fun bt585 => ((humusref04_May.f k x583000 x583001 x583002 x583003 x583004 x583005).bind fun t595 => (if t595 = true then (humuslaw04_RowSame.j1 k bt585.2.2.2.2.2.2 (decide ((x583002.length : Int) > 0)) x583000 x583001 x583002 x583003 x583004 x583005 x584000 x584001 x584002 x584003 x584004 x584005 bt585.1 bt585.2.1 bt585.2.2.1 bt585.2.2.2.1 bt585.2.2.2.2.1 bt585.2.2.2.2.2.1) else (humuslaw04_RowSame.j1 k bt585.2.2.2.2.2.2 false x583000 x583001 x583002 x583003 x583004 x583005 x584000 x584001 x584002 x584003 x584004 x584005 bt585.1 bt585.2.1 bt585.2.2.1 bt585.2.2.2.1 bt585.2.2.2.2.1 bt585.2.2.2.2.2.1))))
def humuslaw04_RowSame.j1 : Nat → Int → Bool → Nat → Bool → List Nat → Int → Int → Int → Nat → Bool → List Nat → Int → Int → Int → Nat → Bool → List Nat → Int → Int → Int → Option (Bool)
  | 0,_,_,_,_,_,_,_,_,_,_,_,_,_,_,_,_,_,_,_,_ => none
  | k + 1,x8,x9,x583000,x583001,x583002,x583003,x583004,x583005,x584000,x584001,x584002,x584003,x584004,x584005,x595000,x595001,x595002,x595003,x595004,x595005 => if (x9 != (x8 == 0)) = true then (humuslaw04_RowSame.j2 k true x583000 x583001 x583002 x583003 x583004 x583005 x584000 x584001 x584002 x584003 x584004 x584005) else (if x9 = true then (humuslaw04_RowSame.j2 k false x583000 x583001 x583002 x583003 x583004 x583005 x584000 x584001 x584002 x584003 x584004 x584005) else (if x8 = 1 then ((humusref04_Same.f k x595000 x595001 x595002 x595003 x595004 x595005 0 false ([] : List Nat) 0 0 0).bind fun t596 => (humuslaw04_RowSame.j2 k (!t596) x583000 x583001 x583002 x583003 x583004 x583005 x584000 x584001 x584002 x584003 x584004 x584005)) else (humuslaw04_RowSame.j2 k true x583000 x583001 x583002 x583003 x583004 x583005 x584000 x584001 x584002 x584003 x584004 x584005)))
def humuslaw04_RowSame.j2 : Nat → Bool → Nat → Bool → List Nat → Int → Int → Int → Nat → Bool → List Nat → Int → Int → Int → Option (Bool)
  | 0,_,_,_,_,_,_,_,_,_,_,_,_,_ => none
  | k + 1,x52,x583000,x583001,x583002,x583003,x583004,x583005,x584000,x584001,x584002,x584003,x584004,x584005 => if x52 = true then (some false) else ((row_Same.f x583000 x583001 x583002 x583003 x583004 x583005 x584000 x584001 x584002 x584003 x584004 x584005).bind fun t597 => ((humusref04_Same.f k x583000 x583001 x583002 x583003 x583004 x583005 x584000 x584001 x584002 x584003 x584004 x584005).bind fun t598 => (if (t597 == t598) = true then ((row_Same.f x583000 x583001 x583002 x583003 x583004 x583005 x583000 x583001 x583002 x583003 x583004 x583005).bind fun t599 => (if t599 = true then ((humuslaw04_awake.f k).bind fun t600 => (some t600)) else (some false))) else (some false))))
end
def humuslaw04_RowSame.f (k : Nat) (a0_0 : Nat) (a0_1 : Bool) (l0_2 : List Nat) (a0_3 : Int) (a0_4 : Int) (a0_5 : Int) (a1_0 : Nat) (a1_1 : Bool) (l1_2 : List Nat) (a1_3 : Int) (a1_4 : Int) (a1_5 : Int) (a2 : Nat) : Option (Bool):=if (l0_2.length : Int) > 100 then (humuslaw04_RowSame.j0 k a2 true a0_0 a0_1 l0_2 a0_3 a0_4 a0_5 a1_0 a1_1 l1_2 a1_3 a1_4 a1_5) else (humuslaw04_RowSame.j0 k a2 (decide ((l1_2.length : Int) > 100)) a0_0 a0_1 l0_2 a0_3 a0_4 a0_5 a1_0 a1_1 l1_2 a1_3 a1_4 a1_5)
def humuslaw04_RowSame.T7 : Bool × List (List Nat × List Nat):=(true,[([],[]),([],[]),([0,1],[0,1]),([],[]),([],[]),([3,4,2],[3,4]),([2,5],[2,5]),([6,5],[6]),([7],[7]),([7],[7]),([8,9,7,7],[7,8,9]),([7,10],[7,10]),([11,10],[11]),([12,12],[12]),([12,13],[12,13]),([14,13,0,1,2,3,4,5,6,7,8,9,10,11,12,13,14],[14])])
def humuslaw04_RowSame.B7 : List Nat:=[0,0,3,0,0,31,63,127,255,255,1023,2047,4095,8191,16383,32767]
theorem humuslaw04_RowSame.tab7 : rtab .any (opsOf Try.f9 7) = humuslaw04_RowSame.T7:=by kernel_rfl
theorem humuslaw04_RowSame.bits7 : waitsOk humuslaw04_RowSame.T7.2 humuslaw04_RowSame.B7 = true:=by kernel_rfl
set_option maxHeartbeats 8000000 in
set_option maxRecDepth 100000 in
theorem humuslaw04_RowSame.calls (k : Nat) (a0_0 : Nat) (a0_1 : Bool) (A0_2 : Option Addr) (c0_2 : Nat) (l0_2 : List Nat) (a0_3 : Int) (a0_4 : Int) (a0_5 : Int) (a1_0 : Nat) (a1_1 : Bool) (A1_2 : Option Addr) (c1_2 : Nat) (l1_2 : List Nat) (a1_3 : Int) (a1_4 : Int) (a1_5 : Int) (a2 : Nat) (r : Bool) (w : World) (hr0_2 : Kd.C Kd.f64 w A0_2 l0_2.length l0_2) (hc0_2 : l0_2.length ≤ c0_2) (hr1_2 : Kd.C Kd.f64 w A1_2 l1_2.length l1_2) (hc1_2 : l1_2.length ≤ c1_2) (h : humuslaw04_RowSame.f k a0_0 a0_1 l0_2 a0_3 a0_4 a0_5 a1_0 a1_1 l1_2 a1_3 a1_4 a1_5 a2 = some r) :
    Calls Try.prog 9 #[.agg #[.float .f64 a0_0,.bool a0_1,.slice A0_2 l0_2.length c0_2,.int .i64 a0_3,.int .i64 a0_4,.int .i64 a0_5],.agg #[.float .f64 a1_0,.bool a1_1,.slice A1_2 l1_2.length c1_2,.int .i64 a1_3,.int .i64 a1_4,.int .i64 a1_5],.float .f64 a2] w fun e w' => e = .returned (.bool r) ∧ Below w.heap.size w w':=by
  have hu30:=Try.underlying30
  have HR0_2:=Aside0.mk hr0_2
  have HC0_2:=Aside0.mk hc0_2
  clear hr0_2 hc0_2
  have HR1_2:=Aside0.mk hr1_2
  have HC1_2:=Aside0.mk hc1_2
  clear hr1_2 hc1_2
  have HB:=Aside0.mk (Below.refl w.heap.size w)
  have H : (if (l0_2.length : Int) > 100 then (humuslaw04_RowSame.j0 k a2 true a0_0 a0_1 l0_2 a0_3 a0_4 a0_5 a1_0 a1_1 l1_2 a1_3 a1_4 a1_5) else (humuslaw04_RowSame.j0 k a2 (decide ((l1_2.length : Int) > 100)) a0_0 a0_1 l0_2 a0_3 a0_4 a0_5 a1_0 a1_1 l1_2 a1_3 a1_4 a1_5)) = some r:=h
  clear h
  have HC4:=Aside0.mk H
  clear H
  go_enter Try.func9,Try.ntmps9
  go_upto_region 1 with (first | ((with_reducible refine gate_dst (N:=3) rfl ?_);(try (refine gate_guard (by rfl) ?_;dsimp only));refine box_event ?hg (N:=3) ?hd (cs:=#[.float .f64 a0_0,.bool a0_1,.slice A0_2 l0_2.length c0_2,.int .i64 a0_3,.int .i64 a0_4,.int .i64 a0_5]) (t:=30) ?hr ?_;(case hd => rfl);(case hg => rfl);(case hr => first | (go_simp;done) | (go_simp;rfl));intro gb582 hg w5 hbox hb;have n0_:=Aside0.mk (below_step (by repeat (first | (with_reducible first | exact HB.out | apply below_alloc | apply pw_below_drewN | apply below_drew1) | exact HB.out)) hb);have n1_:=Aside0.mk (hbox);have n2_:=Aside0.mk ((by rw [hg];exact (below_size (by repeat (first | (with_reducible first | exact HB.out | apply below_alloc | apply pw_below_drewN | apply below_drew1) | exact HB.out))) : w.heap.size ≤ gb582));have n3_:=Aside0.mk ((by rw [hg];exact (below_size (by repeat (first | (with_reducible first | exact HB.out | apply below_alloc | apply pw_below_drewN | apply below_drew1) | exact HB.out))) : w.heap.size ≤ gb582));clear HB;have HB:=n0_;have BK582:=n1_;have GW582:=n2_;have GE582:=n3_;clear n0_ n1_ n2_ n3_;clear hb hbox hg) | ((with_reducible refine gate_dst (N:=4) rfl ?_);(try (refine gate_guard (by rfl) ?_;dsimp only));refine box_event ?hg (N:=4) ?hd (cs:=#[.float .f64 a1_0,.bool a1_1,.slice A1_2 l1_2.length c1_2,.int .i64 a1_3,.int .i64 a1_4,.int .i64 a1_5]) (t:=30) ?hr ?_;(case hd => rfl);(case hg => rfl);(case hr => first | (go_simp;done) | (go_simp;rfl));intro gb583 hg w6 hbox hb;have n0_:=Aside0.mk (blk_below (g:=gb582) (o:=.cells #[.float .f64 a0_0,.bool a0_1,.slice A0_2 l0_2.length c0_2,.int .i64 a0_3,.int .i64 a0_4,.int .i64 a0_5] 30 (0,0)) (by (with_reducible repeat (first | refine blk_drewN ?_ _ | refine blk_drew ?_ | refine blk_alloc ?_ _));exact BK582.out) hb);have n1_:=Aside0.mk (below_step (by repeat (first | (with_reducible first | exact HB.out | apply below_alloc | apply pw_below_drewN | apply below_drew1 | refine below_set ?_ GE582.out) | exact HB.out)) hb);have n2_:=Aside0.mk (hbox);have n3_:=Aside0.mk ((by rw [hg];exact (below_size (by repeat (first | (with_reducible first | exact HB.out | apply below_alloc | apply pw_below_drewN | apply below_drew1 | refine below_set ?_ GE582.out) | exact HB.out))) : w.heap.size ≤ gb583));have n4_:=Aside0.mk ((by rw [hg];exact (below_size (by repeat (first | (with_reducible first | exact HB.out | apply below_alloc | apply pw_below_drewN | apply below_drew1 | refine below_set ?_ GE582.out) | exact HB.out))) : w.heap.size ≤ gb583));have n5_:=Aside0.mk ((by rw [hg];exact Nat.ne_of_lt (blk_lt (g:=gb582) (o:=.cells #[.float .f64 a0_0,.bool a0_1,.slice A0_2 l0_2.length c0_2,.int .i64 a0_3,.int .i64 a0_4,.int .i64 a0_5] 30 (0,0)) (by (with_reducible repeat (first | refine blk_drewN ?_ _ | refine blk_drew ?_ | refine blk_alloc ?_ _));exact BK582.out)) : gb582 ≠ gb583));have n6_:=Aside0.mk ((by rw [hg];exact Nat.ne_of_gt (blk_lt (g:=gb582) (o:=.cells #[.float .f64 a0_0,.bool a0_1,.slice A0_2 l0_2.length c0_2,.int .i64 a0_3,.int .i64 a0_4,.int .i64 a0_5] 30 (0,0)) (by (with_reducible repeat (first | refine blk_drewN ?_ _ | refine blk_drew ?_ | refine blk_alloc ?_ _));exact BK582.out)) : gb583 ≠ gb582));clear BK582;clear HB;have BK582:=n0_;have HB:=n1_;have BK583:=n2_;have GW583:=n3_;have GE583:=n4_;have NB582_583:=n5_;have NB583_582:=n6_;clear n0_ n1_ n2_ n3_ n4_ n5_ n6_;clear hb hbox hg))
  (try simp only [Act.put,List.setIfInBounds_toArray,List.set_cons_zero,List.set_cons_succ])
  go_cut [19] (fun v19 wc => ∃ (kq : Nat) (x19_3 : Bool),v19 = .bool x19_3 ∧ Aside0 (humuslaw04_RowSame.j0 kq a2 x19_3 a0_0 a0_1 l0_2 a0_3 a0_4 a0_5 a1_0 a1_1 l1_2 a1_3 a1_4 a1_5 = some r) ∧ Aside0 (kq ≤ k) ∧ Aside0 (wc.heap[gb582]? = some (.cells #[.float .f64 a0_0,.bool a0_1,(.slice A0_2 l0_2.length c0_2),.int .i64 a0_3,.int .i64 a0_4,.int .i64 a0_5] 30 (0,0))) ∧ Aside0 (wc.heap[gb583]? = some (.cells #[.float .f64 a1_0,.bool a1_1,(.slice A1_2 l1_2.length c1_2),.int .i64 a1_3,.int .i64 a1_4,.int .i64 a1_5] 30 (0,0))) ∧ Aside0 (Below w.heap.size w wc))
  case first =>
    have H:=HC4.out
    clear HC4
    by_cases c7 : (l0_2.length : Int) > 100
    · rw [if_pos c7] at H
      have c7b0 : decide (100 < (l0_2.length : Int)) = true:=decide_eq_true c7
      have c7b1 : decide (100 < l0_2.length) = true:=decide_eq_true (by omega)
      clear c7
      (first | rw [c7b0] | (simp only [i64_w,i32_w];rw [c7b0]) | skip)
      have H':=Aside0.mk H
      clear H
      have hnb8:=NB582_583.out
      have hnc8:=NB583_582.out
      have hcz9_0 : w6.cell? ⟨gb582,0,none⟩ = some (.float .f64 a0_0):=(blk_cell BK582.out 0).trans rfl
      have hcz9_1 : w6.cell? ⟨gb582,1,none⟩ = some (.bool a0_1):=(blk_cell BK582.out 1).trans rfl
      have hcz9_2 : w6.cell? ⟨gb582,2,none⟩ = some (.slice A0_2 l0_2.length c0_2):=(blk_cell BK582.out 2).trans rfl
      have hcz9_3 : w6.cell? ⟨gb582,3,none⟩ = some (.int .i64 a0_3):=(blk_cell BK582.out 3).trans rfl
      have hcz9_4 : w6.cell? ⟨gb582,4,none⟩ = some (.int .i64 a0_4):=(blk_cell BK582.out 4).trans rfl
      have hcz9_5 : w6.cell? ⟨gb582,5,none⟩ = some (.int .i64 a0_5):=(blk_cell BK582.out 5).trans rfl
      have hfz9_0:=blk_frozen BK582.out 0
      have hfz9_1:=blk_frozen BK582.out 1
      have hfz9_2:=blk_frozen BK582.out 2
      have hfz9_3:=blk_frozen BK582.out 3
      have hfz9_4:=blk_frozen BK582.out 4
      have hfz9_5:=blk_frozen BK582.out 5
      go_wp2
      go_meet
      case rel => exact ⟨_,(true),(by first | rfl | (simp;done) | (simp [*];done)),H',⟨by first | omega | exact Nat.le_refl _⟩,⟨by (with_reducible repeat (first | refine blk_drewN ?_ _ | refine blk_drew ?_ | refine blk_alloc ?_ _));exact BK582.out⟩,⟨by (with_reducible repeat (first | refine blk_drewN ?_ _ | refine blk_drew ?_ | refine blk_alloc ?_ _));exact BK583.out⟩,⟨by repeat (first | (with_reducible first | exact HB.out | apply below_alloc | apply pw_below_drewN | apply below_drew1 | refine below_set ?_ GE582.out | refine below_set ?_ GE583.out) | exact HB.out)⟩⟩
    · rw [if_neg c7] at H
      have c7b0 : decide (100 < (l0_2.length : Int)) = false:=decide_eq_false c7
      have c7b1 : decide (100 < l0_2.length) = false:=decide_eq_false (by omega)
      clear c7
      (first | rw [c7b0] | (simp only [i64_w,i32_w];rw [c7b0]) | skip)
      have H':=Aside0.mk H
      clear H
      have hnb10:=NB582_583.out
      have hnc10:=NB583_582.out
      have hcz11_0 : w6.cell? ⟨gb582,0,none⟩ = some (.float .f64 a0_0):=(blk_cell BK582.out 0).trans rfl
      have hcz11_1 : w6.cell? ⟨gb582,1,none⟩ = some (.bool a0_1):=(blk_cell BK582.out 1).trans rfl
      have hcz11_2 : w6.cell? ⟨gb582,2,none⟩ = some (.slice A0_2 l0_2.length c0_2):=(blk_cell BK582.out 2).trans rfl
      have hcz11_3 : w6.cell? ⟨gb582,3,none⟩ = some (.int .i64 a0_3):=(blk_cell BK582.out 3).trans rfl
      have hcz11_4 : w6.cell? ⟨gb582,4,none⟩ = some (.int .i64 a0_4):=(blk_cell BK582.out 4).trans rfl
      have hcz11_5 : w6.cell? ⟨gb582,5,none⟩ = some (.int .i64 a0_5):=(blk_cell BK582.out 5).trans rfl
      have hfz11_0:=blk_frozen BK582.out 0
      have hfz11_1:=blk_frozen BK582.out 1
      have hfz11_2:=blk_frozen BK582.out 2
      have hfz11_3:=blk_frozen BK582.out 3
      have hfz11_4:=blk_frozen BK582.out 4
      have hfz11_5:=blk_frozen BK582.out 5
      have hcz12_0 : w6.cell? ⟨gb583,0,none⟩ = some (.float .f64 a1_0):=(blk_cell BK583.out 0).trans rfl
      have hcz12_1 : w6.cell? ⟨gb583,1,none⟩ = some (.bool a1_1):=(blk_cell BK583.out 1).trans rfl
      have hcz12_2 : w6.cell? ⟨gb583,2,none⟩ = some (.slice A1_2 l1_2.length c1_2):=(blk_cell BK583.out 2).trans rfl
      have hcz12_3 : w6.cell? ⟨gb583,3,none⟩ = some (.int .i64 a1_3):=(blk_cell BK583.out 3).trans rfl
      have hcz12_4 : w6.cell? ⟨gb583,4,none⟩ = some (.int .i64 a1_4):=(blk_cell BK583.out 4).trans rfl
      have hcz12_5 : w6.cell? ⟨gb583,5,none⟩ = some (.int .i64 a1_5):=(blk_cell BK583.out 5).trans rfl
      have hfz12_0:=blk_frozen BK583.out 0
      have hfz12_1:=blk_frozen BK583.out 1
      have hfz12_2:=blk_frozen BK583.out 2
      have hfz12_3:=blk_frozen BK583.out 3
      have hfz12_4:=blk_frozen BK583.out 4
      have hfz12_5:=blk_frozen BK583.out 5
      go_wp2
      go_meet
      case rel => exact ⟨_,(decide ((l1_2.length : Int) > 100)),(by first | rfl | (simp;done) | (simp [*];done)),H',⟨by first | omega | exact Nat.le_refl _⟩,⟨by (with_reducible repeat (first | refine blk_drewN ?_ _ | refine blk_drew ?_ | refine blk_alloc ?_ _));exact BK582.out⟩,⟨by (with_reducible repeat (first | refine blk_drewN ?_ _ | refine blk_drew ?_ | refine blk_alloc ?_ _));exact BK583.out⟩,⟨by repeat (first | (with_reducible first | exact HB.out | apply below_alloc | apply pw_below_drewN | apply below_drew1 | refine below_set ?_ GE582.out | refine below_set ?_ GE583.out) | exact HB.out)⟩⟩
  case rest =>
    clear HC4
    try clear c1
    try clear p2
    try clear c7
    try clear c7b0
    try clear c7b1
    try clear c8
    try clear c9
    try clear c10
    try clear hcz11_0
    try clear hcz11_1
    try clear hcz11_2
    try clear hcz11_3
    try clear hcz11_4
    try clear hcz11_5
    try clear hcz12_0
    try clear hcz12_1
    try clear hcz12_2
    try clear hcz12_3
    try clear hcz12_4
    try clear hcz12_5
    try clear hcz9_0
    try clear hcz9_1
    try clear hcz9_2
    try clear hcz9_3
    try clear hcz9_4
    try clear hcz9_5
    try clear hfz11_0
    try clear hfz11_1
    try clear hfz11_2
    try clear hfz11_3
    try clear hfz11_4
    try clear hfz11_5
    try clear hfz12_0
    try clear hfz12_1
    try clear hfz12_2
    try clear hfz12_3
    try clear hfz12_4
    try clear hfz12_5
    try clear hfz9_0
    try clear hfz9_1
    try clear hfz9_2
    try clear hfz9_3
    try clear hfz9_4
    try clear hfz9_5
    obtain ⟨kq,x19_3,rfl,HA,HJ3,BK582,BK583,HB⟩:=hcut
    cases kq with
    | zero => exact absurd HA.out (by simp [humuslaw04_RowSame.j0])
    | succ kj3 =>
      have H:=HA.out
      clear HA
      simp only [humuslaw04_RowSame.j0] at H
      by_cases c13 : x19_3 = true
      · subst c13
        have H1 : ((humuslaw04_awake.f kj3).bind fun t584 => (some t584)) = some r:=by rw [if_pos rfl] at H;exact H
        clear H
        have H:=H1
        clear H1
        replace H:=Option.bind_eq_some_iff.mp H
        obtain ⟨t584,A140,H⟩:=H
        replace H : (some t584) = some r:=H
        have A14:=Aside0.mk A140
        clear A140
        obtain rfl:=Option.some.inj H
        go_wp2_with (first | ((with_reducible refine gate_callee (f:=31) rfl ?_);refine goesL_ (some 20) rfl rfl Try.func31 (by kernel_rfl) rfl #[] rfl (by (try simp only [List.map_toArray,List.map_cons,List.map_nil]);first | done | rfl | (simp only [List.length_drop,List.length_take];rfl)) ?_;(with_reducible refine (humuslaw04_awake.calls kj3  t584 _ A14.out).mono ?_);rintro e w15 ⟨rfl,hb⟩;refine ⟨_,rfl,?_⟩;have n0_:=Aside0.mk (blk_below (g:=gb582) (o:=.cells #[.float .f64 a0_0,.bool a0_1,.slice A0_2 l0_2.length c0_2,.int .i64 a0_3,.int .i64 a0_4,.int .i64 a0_5] 30 (0,0)) (by (with_reducible repeat (first | refine blk_drewN ?_ _ | refine blk_drew ?_ | refine blk_alloc ?_ _));exact BK582.out) hb);have n1_:=Aside0.mk (blk_below (g:=gb583) (o:=.cells #[.float .f64 a1_0,.bool a1_1,.slice A1_2 l1_2.length c1_2,.int .i64 a1_3,.int .i64 a1_4,.int .i64 a1_5] 30 (0,0)) (by (with_reducible repeat (first | refine blk_drewN ?_ _ | refine blk_drew ?_ | refine blk_alloc ?_ _));exact BK583.out) hb);have n2_:=Aside0.mk (below_step (by repeat (first | (with_reducible first | exact HB.out | apply below_alloc | apply pw_below_drewN | apply below_drew1 | refine below_set ?_ GE582.out | refine below_set ?_ GE583.out) | exact HB.out)) hb);clear BK582;clear BK583;clear HB;have BK582:=n0_;have BK583:=n1_;have HB:=n2_;clear n0_ n1_ n2_;(try clear hb);(try clear hb2);(try clear hk);(try clear hi)))
        go_ret
        exact ⟨by first | rfl | (simp [errW_none,errW_some] <;> rfl) | (simp [*,errW_none,errW_some] <;> rfl),by repeat (first | (with_reducible first | exact HB.out | apply below_alloc | apply pw_below_drewN | apply below_drew1 | refine below_set ?_ GE582.out | refine below_set ?_ GE583.out) | exact HB.out)⟩
      · replace c13:=Bool.eq_false_iff.mpr c13
        subst c13
        have H1 : ((row_Plus.f kj3 a0_0 a0_1 l0_2 a0_3 a0_4 a0_5 a2).bind fun bt585 => ((humusref04_May.f kj3 a0_0 a0_1 l0_2 a0_3 a0_4 a0_5).bind fun t595 => (if t595 = true then (humuslaw04_RowSame.j1 kj3 bt585.2.2.2.2.2.2 (decide ((l0_2.length : Int) > 0)) a0_0 a0_1 l0_2 a0_3 a0_4 a0_5 a1_0 a1_1 l1_2 a1_3 a1_4 a1_5 bt585.1 bt585.2.1 bt585.2.2.1 bt585.2.2.2.1 bt585.2.2.2.2.1 bt585.2.2.2.2.2.1) else (humuslaw04_RowSame.j1 kj3 bt585.2.2.2.2.2.2 false a0_0 a0_1 l0_2 a0_3 a0_4 a0_5 a1_0 a1_1 l1_2 a1_3 a1_4 a1_5 bt585.1 bt585.2.1 bt585.2.2.1 bt585.2.2.2.1 bt585.2.2.2.2.1 bt585.2.2.2.2.2.1)))) = some r:=by rw [if_neg (show ¬ (false = true) by decide)] at H;exact H
        clear H
        have H:=H1
        clear H1
        replace H:=Option.bind_eq_some_iff.mp H
        obtain ⟨⟨t585,t586,t587,t590,t591,t592,t593⟩,A160,H⟩:=H
        replace H : ((humusref04_May.f kj3 a0_0 a0_1 l0_2 a0_3 a0_4 a0_5).bind fun t595 => (if t595 = true then (humuslaw04_RowSame.j1 kj3 t593 (decide ((l0_2.length : Int) > 0)) a0_0 a0_1 l0_2 a0_3 a0_4 a0_5 a1_0 a1_1 l1_2 a1_3 a1_4 a1_5 t585 t586 t587 t590 t591 t592) else (humuslaw04_RowSame.j1 kj3 t593 false a0_0 a0_1 l0_2 a0_3 a0_4 a0_5 a1_0 a1_1 l1_2 a1_3 a1_4 a1_5 t585 t586 t587 t590 t591 t592))) = some r:=H
        have A16:=Aside0.mk A160
        clear A160
        have HC17:=Aside0.mk H
        clear H
        have hnb18:=NB582_583.out
        have hnc18:=NB583_582.out
        have hcz19_0 : wc.cell? ⟨gb582,0,none⟩ = some (.float .f64 a0_0):=(blk_cell BK582.out 0).trans rfl
        have hcz19_1 : wc.cell? ⟨gb582,1,none⟩ = some (.bool a0_1):=(blk_cell BK582.out 1).trans rfl
        have hcz19_2 : wc.cell? ⟨gb582,2,none⟩ = some (.slice A0_2 l0_2.length c0_2):=(blk_cell BK582.out 2).trans rfl
        have hcz19_3 : wc.cell? ⟨gb582,3,none⟩ = some (.int .i64 a0_3):=(blk_cell BK582.out 3).trans rfl
        have hcz19_4 : wc.cell? ⟨gb582,4,none⟩ = some (.int .i64 a0_4):=(blk_cell BK582.out 4).trans rfl
        have hcz19_5 : wc.cell? ⟨gb582,5,none⟩ = some (.int .i64 a0_5):=(blk_cell BK582.out 5).trans rfl
        have hfz19_0:=blk_frozen BK582.out 0
        have hfz19_1:=blk_frozen BK582.out 1
        have hfz19_2:=blk_frozen BK582.out 2
        have hfz19_3:=blk_frozen BK582.out 3
        have hfz19_4:=blk_frozen BK582.out 4
        have hfz19_5:=blk_frozen BK582.out 5
        go_upto_region 4 with (first | ((with_reducible refine gate_callee (f:=41) rfl ?_);refine goesL_ (some 24) rfl rfl Try.func41 (by kernel_rfl) rfl #[.agg #[.float .f64 a0_0,.bool a0_1,.slice A0_2 l0_2.length c0_2,.int .i64 a0_3,.int .i64 a0_4,.int .i64 a0_5],.float .f64 a2] rfl (by (try simp only [List.map_toArray,List.map_cons,List.map_nil]);first | done | rfl | (simp only [List.length_drop,List.length_take];rfl)) ?_;(with_reducible refine (row_Plus.calls kj3 a0_0 a0_1 _ _ l0_2 a0_3 a0_4 a0_5 a2 t585 t586 t587 t590 t591 t592 t593 _ ?side1 ?side2 A16.out).mono ?_);(case side1 => repeat (first | exact (Kd.C_below HR0_2.out HB.out) | (with_reducible refine Kd.C_alloc ?_ _) | (with_reducible refine Kd.C_drewN ?_ _) | (with_reducible refine Kd.C_drew ?_)));(case side2 => exact HC0_2.out);rintro e w20 ⟨v588,rfl,ho0,hb⟩;refine ⟨_,rfl,?_⟩;have n0_:=Aside0.mk (Kd.R_lower ho0 (below_size (by repeat (first | (with_reducible first | exact HB.out | apply below_alloc | apply pw_below_drewN | apply below_drew1 | refine below_set ?_ GE582.out | refine below_set ?_ GE583.out) | exact HB.out))));have n1_:=Aside0.mk (blk_below (g:=gb582) (o:=.cells #[.float .f64 a0_0,.bool a0_1,.slice A0_2 l0_2.length c0_2,.int .i64 a0_3,.int .i64 a0_4,.int .i64 a0_5] 30 (0,0)) (by (with_reducible repeat (first | refine blk_drewN ?_ _ | refine blk_drew ?_ | refine blk_alloc ?_ _));exact BK582.out) hb);have n2_:=Aside0.mk (blk_below (g:=gb583) (o:=.cells #[.float .f64 a1_0,.bool a1_1,.slice A1_2 l1_2.length c1_2,.int .i64 a1_3,.int .i64 a1_4,.int .i64 a1_5] 30 (0,0)) (by (with_reducible repeat (first | refine blk_drewN ?_ _ | refine blk_drew ?_ | refine blk_alloc ?_ _));exact BK583.out) hb);have n3_:=Aside0.mk (below_step (by repeat (first | (with_reducible first | exact HB.out | apply below_alloc | apply pw_below_drewN | apply below_drew1 | refine below_set ?_ GE582.out | refine below_set ?_ GE583.out) | exact HB.out)) hb);clear BK582;clear BK583;clear HB;have HO589:=n0_;have BK582:=n1_;have BK583:=n2_;have HB:=n3_;clear n0_ n1_ n2_ n3_;(try clear hb);(try clear hb2);(try clear hk);(try clear hi);(try clear ho0)) | ((with_reducible refine gate_dst (N:=7) rfl ?_);(try (refine gate_guard (by rfl) ?_;dsimp only));refine box_event ?hg (N:=7) ?hd (cs:=#[.float .f64 0,.bool false,.slice none 0 0,.int .i64 0,.int .i64 0,.int .i64 0]) (t:=30) ?hr ?_;(case hd => rfl);(case hg => rfl);(case hr => first | (go_simp;done) | (go_simp;rfl));intro gb594 hg w21 hbox hb;have n0_:=Aside0.mk (Kd.R_below (by (with_reducible repeat (first | apply Kd.R_alloc | apply Kd.R_drewN | apply Kd.R_drew));exact HO589.out) hb);have n1_:=Aside0.mk (blk_below (g:=gb582) (o:=.cells #[.float .f64 a0_0,.bool a0_1,.slice A0_2 l0_2.length c0_2,.int .i64 a0_3,.int .i64 a0_4,.int .i64 a0_5] 30 (0,0)) (by (with_reducible repeat (first | refine blk_drewN ?_ _ | refine blk_drew ?_ | refine blk_alloc ?_ _));exact BK582.out) hb);have n2_:=Aside0.mk (blk_below (g:=gb583) (o:=.cells #[.float .f64 a1_0,.bool a1_1,.slice A1_2 l1_2.length c1_2,.int .i64 a1_3,.int .i64 a1_4,.int .i64 a1_5] 30 (0,0)) (by (with_reducible repeat (first | refine blk_drewN ?_ _ | refine blk_drew ?_ | refine blk_alloc ?_ _));exact BK583.out) hb);have n3_:=Aside0.mk (below_step (by repeat (first | (with_reducible first | exact HB.out | apply below_alloc | apply pw_below_drewN | apply below_drew1 | refine below_set ?_ GE582.out | refine below_set ?_ GE583.out) | exact HB.out)) hb);have n4_:=Aside0.mk (hbox);have n5_:=Aside0.mk ((by rw [hg];exact (below_size (by repeat (first | (with_reducible first | exact HB.out | apply below_alloc | apply pw_below_drewN | apply below_drew1 | refine below_set ?_ GE582.out | refine below_set ?_ GE583.out) | exact HB.out))) : w.heap.size ≤ gb594));have n6_:=Aside0.mk ((by rw [hg];exact (below_size (by repeat (first | (with_reducible first | exact HB.out | apply below_alloc | apply pw_below_drewN | apply below_drew1 | refine below_set ?_ GE582.out | refine below_set ?_ GE583.out) | exact HB.out))) : w.heap.size ≤ gb594));have n7_:=Aside0.mk ((by rw [hg];exact Nat.ne_of_lt (blk_lt (g:=gb582) (o:=.cells #[.float .f64 a0_0,.bool a0_1,.slice A0_2 l0_2.length c0_2,.int .i64 a0_3,.int .i64 a0_4,.int .i64 a0_5] 30 (0,0)) (by (with_reducible repeat (first | refine blk_drewN ?_ _ | refine blk_drew ?_ | refine blk_alloc ?_ _));exact BK582.out)) : gb582 ≠ gb594));have n8_:=Aside0.mk ((by rw [hg];exact Nat.ne_of_gt (blk_lt (g:=gb582) (o:=.cells #[.float .f64 a0_0,.bool a0_1,.slice A0_2 l0_2.length c0_2,.int .i64 a0_3,.int .i64 a0_4,.int .i64 a0_5] 30 (0,0)) (by (with_reducible repeat (first | refine blk_drewN ?_ _ | refine blk_drew ?_ | refine blk_alloc ?_ _));exact BK582.out)) : gb594 ≠ gb582));have n9_:=Aside0.mk ((by rw [hg];exact Nat.ne_of_lt (blk_lt (g:=gb583) (o:=.cells #[.float .f64 a1_0,.bool a1_1,.slice A1_2 l1_2.length c1_2,.int .i64 a1_3,.int .i64 a1_4,.int .i64 a1_5] 30 (0,0)) (by (with_reducible repeat (first | refine blk_drewN ?_ _ | refine blk_drew ?_ | refine blk_alloc ?_ _));exact BK583.out)) : gb583 ≠ gb594));have n10_:=Aside0.mk ((by rw [hg];exact Nat.ne_of_gt (blk_lt (g:=gb583) (o:=.cells #[.float .f64 a1_0,.bool a1_1,.slice A1_2 l1_2.length c1_2,.int .i64 a1_3,.int .i64 a1_4,.int .i64 a1_5] 30 (0,0)) (by (with_reducible repeat (first | refine blk_drewN ?_ _ | refine blk_drew ?_ | refine blk_alloc ?_ _));exact BK583.out)) : gb594 ≠ gb583));clear HO589;clear BK582;clear BK583;clear HB;have HO589:=n0_;have BK582:=n1_;have BK583:=n2_;have HB:=n3_;have BK594:=n4_;have GW594:=n5_;have GE594:=n6_;have NB582_594:=n7_;have NB594_582:=n8_;have NB583_594:=n9_;have NB594_583:=n10_;clear n0_ n1_ n2_ n3_ n4_ n5_ n6_ n7_ n8_ n9_ n10_;clear hb hbox hg;have hnb22:=NB594_582.out;have hnc22:=NB582_594.out;have hnb23:=NB594_583.out;have hnc23:=NB583_594.out;have hcz24_0 : w21.cell? ⟨gb594,0,none⟩ = some (.float .f64 0):=(blk_cell BK594.out 0).trans rfl;have hcz24_1 : w21.cell? ⟨gb594,1,none⟩ = some (.bool false):=(blk_cell BK594.out 1).trans rfl;have hcz24_2 : w21.cell? ⟨gb594,2,none⟩ = some (.slice none 0 0):=(blk_cell BK594.out 2).trans rfl;have hcz24_3 : w21.cell? ⟨gb594,3,none⟩ = some (.int .i64 0):=(blk_cell BK594.out 3).trans rfl;have hcz24_4 : w21.cell? ⟨gb594,4,none⟩ = some (.int .i64 0):=(blk_cell BK594.out 4).trans rfl;have hcz24_5 : w21.cell? ⟨gb594,5,none⟩ = some (.int .i64 0):=(blk_cell BK594.out 5).trans rfl;have hfz24_0:=blk_frozen BK594.out 0;have hfz24_1:=blk_frozen BK594.out 1;have hfz24_2:=blk_frozen BK594.out 2;have hfz24_3:=blk_frozen BK594.out 3;have hfz24_4:=blk_frozen BK594.out 4;have hfz24_5:=blk_frozen BK594.out 5;obtain ⟨Ao25,co25,eo25⟩:=Kd.R_slice HO589.out;subst eo25))
        (try simp only [Act.put,List.setIfInBounds_toArray,List.set_cons_zero,List.set_cons_succ])
        go_cut [9] (fun v9 wc => ∃ (kq : Nat) (x9_16 : Bool),v9 = .bool x9_16 ∧ Aside0 (humuslaw04_RowSame.j1 kq t593 x9_16 a0_0 a0_1 l0_2 a0_3 a0_4 a0_5 a1_0 a1_1 l1_2 a1_3 a1_4 a1_5 t585 t586 t587 t590 t591 t592 = some r) ∧ Aside0 (kq ≤ kj3) ∧ Aside0 (Kd.R Kd.f64 25 wc w.heap.size (fun _ => True) (.slice Ao25 t587.length co25) t587) ∧ Aside0 (wc.heap[gb582]? = some (.cells #[.float .f64 a0_0,.bool a0_1,(.slice A0_2 l0_2.length c0_2),.int .i64 a0_3,.int .i64 a0_4,.int .i64 a0_5] 30 (0,0))) ∧ Aside0 (wc.heap[gb583]? = some (.cells #[.float .f64 a1_0,.bool a1_1,(.slice A1_2 l1_2.length c1_2),.int .i64 a1_3,.int .i64 a1_4,.int .i64 a1_5] 30 (0,0))) ∧ Aside0 (wc.heap[gb594]? = some (.cells #[.float .f64 t585,.bool t586,(.slice Ao25 t587.length co25),.int .i64 t590,.int .i64 t591,.int .i64 t592] 30 (0,0))) ∧ Aside0 (Below w.heap.size w wc))
        case first =>
          have H:=HC17.out
          clear HC17
          replace H:=Option.bind_eq_some_iff.mp H
          obtain ⟨t595,A260,H⟩:=H
          replace H : (if t595 = true then (humuslaw04_RowSame.j1 kj3 t593 (decide ((l0_2.length : Int) > 0)) a0_0 a0_1 l0_2 a0_3 a0_4 a0_5 a1_0 a1_1 l1_2 a1_3 a1_4 a1_5 t585 t586 t587 t590 t591 t592) else (humuslaw04_RowSame.j1 kj3 t593 false a0_0 a0_1 l0_2 a0_3 a0_4 a0_5 a1_0 a1_1 l1_2 a1_3 a1_4 a1_5 t585 t586 t587 t590 t591 t592)) = some r:=H
          have A26:=Aside0.mk A260
          clear A260
          by_cases c27 : t595 = true
          · subst c27
            have H1 : (humuslaw04_RowSame.j1 kj3 t593 (decide ((l0_2.length : Int) > 0)) a0_0 a0_1 l0_2 a0_3 a0_4 a0_5 a1_0 a1_1 l1_2 a1_3 a1_4 a1_5 t585 t586 t587 t590 t591 t592) = some r:=by rw [if_pos rfl] at H;exact H
            clear H
            have H:=H1
            clear H1
            have H':=Aside0.mk H
            clear H
            have hnb28:=NB582_583.out
            have hnc28:=NB583_582.out
            have hnb29:=NB582_594.out
            have hnc29:=NB594_582.out
            have hcz30_0 : w21.cell? ⟨gb582,0,none⟩ = some (.float .f64 a0_0):=(blk_cell BK582.out 0).trans rfl
            have hcz30_1 : w21.cell? ⟨gb582,1,none⟩ = some (.bool a0_1):=(blk_cell BK582.out 1).trans rfl
            have hcz30_2 : w21.cell? ⟨gb582,2,none⟩ = some (.slice A0_2 l0_2.length c0_2):=(blk_cell BK582.out 2).trans rfl
            have hcz30_3 : w21.cell? ⟨gb582,3,none⟩ = some (.int .i64 a0_3):=(blk_cell BK582.out 3).trans rfl
            have hcz30_4 : w21.cell? ⟨gb582,4,none⟩ = some (.int .i64 a0_4):=(blk_cell BK582.out 4).trans rfl
            have hcz30_5 : w21.cell? ⟨gb582,5,none⟩ = some (.int .i64 a0_5):=(blk_cell BK582.out 5).trans rfl
            have hfz30_0:=blk_frozen BK582.out 0
            have hfz30_1:=blk_frozen BK582.out 1
            have hfz30_2:=blk_frozen BK582.out 2
            have hfz30_3:=blk_frozen BK582.out 3
            have hfz30_4:=blk_frozen BK582.out 4
            have hfz30_5:=blk_frozen BK582.out 5
            go_wp2_with (first | ((with_reducible refine gate_callee (f:=34) rfl ?_);refine goesL_ (some 28) rfl rfl Try.func34 (by kernel_rfl) rfl #[.agg #[.float .f64 a0_0,.bool a0_1,.slice A0_2 l0_2.length c0_2,.int .i64 a0_3,.int .i64 a0_4,.int .i64 a0_5]] rfl (by (try simp only [List.map_toArray,List.map_cons,List.map_nil]);first | done | rfl | (simp only [List.length_drop,List.length_take];rfl)) ?_;(with_reducible refine (humusref04_May.calls kj3 a0_0 a0_1 _ _ l0_2 a0_3 a0_4 a0_5 true _ ?side1 ?side2 A26.out).mono ?_);(case side1 => exact Kd.C_below HR0_2.out (by repeat (first | (with_reducible first | exact HB.out | apply below_alloc | apply pw_below_drewN | apply below_drew1 | refine below_set ?_ GE582.out | refine below_set ?_ GE583.out | refine below_set ?_ GE594.out) | exact HB.out)));(case side2 => exact HC0_2.out);rintro e w31 ⟨rfl,hb⟩;refine ⟨_,rfl,?_⟩;have n0_:=Aside0.mk (Kd.R_below (by (with_reducible repeat (first | apply Kd.R_alloc | apply Kd.R_drewN | apply Kd.R_drew));exact (Kd.R_mono (Kd.R_far (p:=⟨gb594,5,none⟩) (Kd.R_far (p:=⟨gb594,4,none⟩) (Kd.R_far (p:=⟨gb594,3,none⟩) (Kd.R_far (p:=⟨gb594,2,none⟩) (Kd.R_far (p:=⟨gb594,1,none⟩) (Kd.R_far (p:=⟨gb594,0,none⟩) (Kd.R_types HO589.out BK594.out (by decide)) (fun _ hk => hk.2) (.float .f64 t585)) (fun _ hk => hk.2) (.bool t586)) (fun _ hk => hk.2) (.slice Ao25 t587.length co25)) (fun _ hk => hk.2) (.int .i64 t590)) (fun _ hk => hk.2) (.int .i64 t591)) (fun _ hk => hk.2) (.int .i64 t592)) (fun _ h_ => h_.1))) hb);have n1_:=Aside0.mk (blk_below (g:=gb582) (o:=.cells #[.float .f64 a0_0,.bool a0_1,.slice A0_2 l0_2.length c0_2,.int .i64 a0_3,.int .i64 a0_4,.int .i64 a0_5] 30 (0,0)) (by (with_reducible repeat (first | refine blk_drewN ?_ _ | refine blk_drew ?_ | refine blk_alloc ?_ _));refine blk_far ?_ NB582_594.out _;(with_reducible repeat (first | refine blk_drewN ?_ _ | refine blk_drew ?_ | refine blk_alloc ?_ _));refine blk_far ?_ NB582_594.out _;(with_reducible repeat (first | refine blk_drewN ?_ _ | refine blk_drew ?_ | refine blk_alloc ?_ _));refine blk_far ?_ NB582_594.out _;(with_reducible repeat (first | refine blk_drewN ?_ _ | refine blk_drew ?_ | refine blk_alloc ?_ _));refine blk_far ?_ NB582_594.out _;(with_reducible repeat (first | refine blk_drewN ?_ _ | refine blk_drew ?_ | refine blk_alloc ?_ _));refine blk_far ?_ NB582_594.out _;(with_reducible repeat (first | refine blk_drewN ?_ _ | refine blk_drew ?_ | refine blk_alloc ?_ _));refine blk_far ?_ NB582_594.out _;(with_reducible repeat (first | refine blk_drewN ?_ _ | refine blk_drew ?_ | refine blk_alloc ?_ _));exact BK582.out) hb);have n2_:=Aside0.mk (blk_below (g:=gb583) (o:=.cells #[.float .f64 a1_0,.bool a1_1,.slice A1_2 l1_2.length c1_2,.int .i64 a1_3,.int .i64 a1_4,.int .i64 a1_5] 30 (0,0)) (by (with_reducible repeat (first | refine blk_drewN ?_ _ | refine blk_drew ?_ | refine blk_alloc ?_ _));refine blk_far ?_ NB583_594.out _;(with_reducible repeat (first | refine blk_drewN ?_ _ | refine blk_drew ?_ | refine blk_alloc ?_ _));refine blk_far ?_ NB583_594.out _;(with_reducible repeat (first | refine blk_drewN ?_ _ | refine blk_drew ?_ | refine blk_alloc ?_ _));refine blk_far ?_ NB583_594.out _;(with_reducible repeat (first | refine blk_drewN ?_ _ | refine blk_drew ?_ | refine blk_alloc ?_ _));refine blk_far ?_ NB583_594.out _;(with_reducible repeat (first | refine blk_drewN ?_ _ | refine blk_drew ?_ | refine blk_alloc ?_ _));refine blk_far ?_ NB583_594.out _;(with_reducible repeat (first | refine blk_drewN ?_ _ | refine blk_drew ?_ | refine blk_alloc ?_ _));refine blk_far ?_ NB583_594.out _;(with_reducible repeat (first | refine blk_drewN ?_ _ | refine blk_drew ?_ | refine blk_alloc ?_ _));exact BK583.out) hb);have n3_:=Aside0.mk (blk_below (g:=gb594) (o:=.cells #[.float .f64 t585,.bool t586,.slice Ao25 t587.length co25,.int .i64 t590,.int .i64 t591,.int .i64 t592] 30 (0,0)) (by (with_reducible repeat (first | refine blk_drewN ?_ _ | refine blk_drew ?_ | refine blk_alloc ?_ _));refine blk_put (cs:=#[.float .f64 t585,.bool t586,.slice Ao25 t587.length co25,.int .i64 t590,.int .i64 t591,.int .i64 0]) ?_ 5 _ rfl;(with_reducible repeat (first | refine blk_drewN ?_ _ | refine blk_drew ?_ | refine blk_alloc ?_ _));refine blk_put (cs:=#[.float .f64 t585,.bool t586,.slice Ao25 t587.length co25,.int .i64 t590,.int .i64 0,.int .i64 0]) ?_ 4 _ rfl;(with_reducible repeat (first | refine blk_drewN ?_ _ | refine blk_drew ?_ | refine blk_alloc ?_ _));refine blk_put (cs:=#[.float .f64 t585,.bool t586,.slice Ao25 t587.length co25,.int .i64 0,.int .i64 0,.int .i64 0]) ?_ 3 _ rfl;(with_reducible repeat (first | refine blk_drewN ?_ _ | refine blk_drew ?_ | refine blk_alloc ?_ _));refine blk_put (cs:=#[.float .f64 t585,.bool t586,.slice none 0 0,.int .i64 0,.int .i64 0,.int .i64 0]) ?_ 2 _ rfl;(with_reducible repeat (first | refine blk_drewN ?_ _ | refine blk_drew ?_ | refine blk_alloc ?_ _));refine blk_put (cs:=#[.float .f64 t585,.bool false,.slice none 0 0,.int .i64 0,.int .i64 0,.int .i64 0]) ?_ 1 _ rfl;(with_reducible repeat (first | refine blk_drewN ?_ _ | refine blk_drew ?_ | refine blk_alloc ?_ _));refine blk_put (cs:=#[.float .f64 0,.bool false,.slice none 0 0,.int .i64 0,.int .i64 0,.int .i64 0]) ?_ 0 _ rfl;(with_reducible repeat (first | refine blk_drewN ?_ _ | refine blk_drew ?_ | refine blk_alloc ?_ _));exact BK594.out) hb);have n4_:=Aside0.mk (below_step (by repeat (first | (with_reducible first | exact HB.out | apply below_alloc | apply pw_below_drewN | apply below_drew1 | refine below_set ?_ GE582.out | refine below_set ?_ GE583.out | refine below_set ?_ GE594.out) | exact HB.out)) hb);clear HO589;clear BK582;clear BK583;clear BK594;clear HB;have HO589:=n0_;have BK582:=n1_;have BK583:=n2_;have BK594:=n3_;have HB:=n4_;clear n0_ n1_ n2_ n3_ n4_;(try clear hb);(try clear hb2);(try clear hk);(try clear hi);have hcz32_0 : w31.cell? ⟨gb582,0,none⟩ = some (.float .f64 a0_0):=(blk_cell BK582.out 0).trans rfl;have hcz32_1 : w31.cell? ⟨gb582,1,none⟩ = some (.bool a0_1):=(blk_cell BK582.out 1).trans rfl;have hcz32_2 : w31.cell? ⟨gb582,2,none⟩ = some (.slice A0_2 l0_2.length c0_2):=(blk_cell BK582.out 2).trans rfl;have hcz32_3 : w31.cell? ⟨gb582,3,none⟩ = some (.int .i64 a0_3):=(blk_cell BK582.out 3).trans rfl;have hcz32_4 : w31.cell? ⟨gb582,4,none⟩ = some (.int .i64 a0_4):=(blk_cell BK582.out 4).trans rfl;have hcz32_5 : w31.cell? ⟨gb582,5,none⟩ = some (.int .i64 a0_5):=(blk_cell BK582.out 5).trans rfl;have hfz32_0:=blk_frozen BK582.out 0;have hfz32_1:=blk_frozen BK582.out 1;have hfz32_2:=blk_frozen BK582.out 2;have hfz32_3:=blk_frozen BK582.out 3;have hfz32_4:=blk_frozen BK582.out 4;have hfz32_5:=blk_frozen BK582.out 5))
            go_meet
            case rel => exact ⟨_,(decide ((l0_2.length : Int) > 0)),(by first | rfl | (simp;done) | (simp [*];done)),H',⟨by have:=HJ3.out;first | omega | exact Nat.le_refl _⟩,⟨by (with_reducible repeat (first | apply Kd.R_alloc | apply Kd.R_drewN | apply Kd.R_drew));exact HO589.out⟩,⟨by (with_reducible repeat (first | refine blk_drewN ?_ _ | refine blk_drew ?_ | refine blk_alloc ?_ _));exact BK582.out⟩,⟨by (with_reducible repeat (first | refine blk_drewN ?_ _ | refine blk_drew ?_ | refine blk_alloc ?_ _));exact BK583.out⟩,⟨by (with_reducible repeat (first | refine blk_drewN ?_ _ | refine blk_drew ?_ | refine blk_alloc ?_ _));exact BK594.out⟩,⟨by repeat (first | (with_reducible first | exact HB.out | apply below_alloc | apply pw_below_drewN | apply below_drew1 | refine below_set ?_ GE582.out | refine below_set ?_ GE583.out | refine below_set ?_ GE594.out) | exact HB.out)⟩⟩
          · replace c27:=Bool.eq_false_iff.mpr c27
            subst c27
            have H1 : (humuslaw04_RowSame.j1 kj3 t593 false a0_0 a0_1 l0_2 a0_3 a0_4 a0_5 a1_0 a1_1 l1_2 a1_3 a1_4 a1_5 t585 t586 t587 t590 t591 t592) = some r:=by rw [if_neg (show ¬ (false = true) by decide)] at H;exact H
            clear H
            have H:=H1
            clear H1
            have H':=Aside0.mk H
            clear H
            have hnb33:=NB582_583.out
            have hnc33:=NB583_582.out
            have hnb34:=NB582_594.out
            have hnc34:=NB594_582.out
            have hcz35_0 : w21.cell? ⟨gb582,0,none⟩ = some (.float .f64 a0_0):=(blk_cell BK582.out 0).trans rfl
            have hcz35_1 : w21.cell? ⟨gb582,1,none⟩ = some (.bool a0_1):=(blk_cell BK582.out 1).trans rfl
            have hcz35_2 : w21.cell? ⟨gb582,2,none⟩ = some (.slice A0_2 l0_2.length c0_2):=(blk_cell BK582.out 2).trans rfl
            have hcz35_3 : w21.cell? ⟨gb582,3,none⟩ = some (.int .i64 a0_3):=(blk_cell BK582.out 3).trans rfl
            have hcz35_4 : w21.cell? ⟨gb582,4,none⟩ = some (.int .i64 a0_4):=(blk_cell BK582.out 4).trans rfl
            have hcz35_5 : w21.cell? ⟨gb582,5,none⟩ = some (.int .i64 a0_5):=(blk_cell BK582.out 5).trans rfl
            have hfz35_0:=blk_frozen BK582.out 0
            have hfz35_1:=blk_frozen BK582.out 1
            have hfz35_2:=blk_frozen BK582.out 2
            have hfz35_3:=blk_frozen BK582.out 3
            have hfz35_4:=blk_frozen BK582.out 4
            have hfz35_5:=blk_frozen BK582.out 5
            go_wp2_with (first | ((with_reducible refine gate_callee (f:=34) rfl ?_);refine goesL_ (some 28) rfl rfl Try.func34 (by kernel_rfl) rfl #[.agg #[.float .f64 a0_0,.bool a0_1,.slice A0_2 l0_2.length c0_2,.int .i64 a0_3,.int .i64 a0_4,.int .i64 a0_5]] rfl (by (try simp only [List.map_toArray,List.map_cons,List.map_nil]);first | done | rfl | (simp only [List.length_drop,List.length_take];rfl)) ?_;(with_reducible refine (humusref04_May.calls kj3 a0_0 a0_1 _ _ l0_2 a0_3 a0_4 a0_5 false _ ?side1 ?side2 A26.out).mono ?_);(case side1 => exact Kd.C_below HR0_2.out (by repeat (first | (with_reducible first | exact HB.out | apply below_alloc | apply pw_below_drewN | apply below_drew1 | refine below_set ?_ GE582.out | refine below_set ?_ GE583.out | refine below_set ?_ GE594.out) | exact HB.out)));(case side2 => exact HC0_2.out);rintro e w36 ⟨rfl,hb⟩;refine ⟨_,rfl,?_⟩;have n0_:=Aside0.mk (Kd.R_below (by (with_reducible repeat (first | apply Kd.R_alloc | apply Kd.R_drewN | apply Kd.R_drew));exact (Kd.R_mono (Kd.R_far (p:=⟨gb594,5,none⟩) (Kd.R_far (p:=⟨gb594,4,none⟩) (Kd.R_far (p:=⟨gb594,3,none⟩) (Kd.R_far (p:=⟨gb594,2,none⟩) (Kd.R_far (p:=⟨gb594,1,none⟩) (Kd.R_far (p:=⟨gb594,0,none⟩) (Kd.R_types HO589.out BK594.out (by decide)) (fun _ hk => hk.2) (.float .f64 t585)) (fun _ hk => hk.2) (.bool t586)) (fun _ hk => hk.2) (.slice Ao25 t587.length co25)) (fun _ hk => hk.2) (.int .i64 t590)) (fun _ hk => hk.2) (.int .i64 t591)) (fun _ hk => hk.2) (.int .i64 t592)) (fun _ h_ => h_.1))) hb);have n1_:=Aside0.mk (blk_below (g:=gb582) (o:=.cells #[.float .f64 a0_0,.bool a0_1,.slice A0_2 l0_2.length c0_2,.int .i64 a0_3,.int .i64 a0_4,.int .i64 a0_5] 30 (0,0)) (by (with_reducible repeat (first | refine blk_drewN ?_ _ | refine blk_drew ?_ | refine blk_alloc ?_ _));refine blk_far ?_ NB582_594.out _;(with_reducible repeat (first | refine blk_drewN ?_ _ | refine blk_drew ?_ | refine blk_alloc ?_ _));refine blk_far ?_ NB582_594.out _;(with_reducible repeat (first | refine blk_drewN ?_ _ | refine blk_drew ?_ | refine blk_alloc ?_ _));refine blk_far ?_ NB582_594.out _;(with_reducible repeat (first | refine blk_drewN ?_ _ | refine blk_drew ?_ | refine blk_alloc ?_ _));refine blk_far ?_ NB582_594.out _;(with_reducible repeat (first | refine blk_drewN ?_ _ | refine blk_drew ?_ | refine blk_alloc ?_ _));refine blk_far ?_ NB582_594.out _;(with_reducible repeat (first | refine blk_drewN ?_ _ | refine blk_drew ?_ | refine blk_alloc ?_ _));refine blk_far ?_ NB582_594.out _;(with_reducible repeat (first | refine blk_drewN ?_ _ | refine blk_drew ?_ | refine blk_alloc ?_ _));exact BK582.out) hb);have n2_:=Aside0.mk (blk_below (g:=gb583) (o:=.cells #[.float .f64 a1_0,.bool a1_1,.slice A1_2 l1_2.length c1_2,.int .i64 a1_3,.int .i64 a1_4,.int .i64 a1_5] 30 (0,0)) (by (with_reducible repeat (first | refine blk_drewN ?_ _ | refine blk_drew ?_ | refine blk_alloc ?_ _));refine blk_far ?_ NB583_594.out _;(with_reducible repeat (first | refine blk_drewN ?_ _ | refine blk_drew ?_ | refine blk_alloc ?_ _));refine blk_far ?_ NB583_594.out _;(with_reducible repeat (first | refine blk_drewN ?_ _ | refine blk_drew ?_ | refine blk_alloc ?_ _));refine blk_far ?_ NB583_594.out _;(with_reducible repeat (first | refine blk_drewN ?_ _ | refine blk_drew ?_ | refine blk_alloc ?_ _));refine blk_far ?_ NB583_594.out _;(with_reducible repeat (first | refine blk_drewN ?_ _ | refine blk_drew ?_ | refine blk_alloc ?_ _));refine blk_far ?_ NB583_594.out _;(with_reducible repeat (first | refine blk_drewN ?_ _ | refine blk_drew ?_ | refine blk_alloc ?_ _));refine blk_far ?_ NB583_594.out _;(with_reducible repeat (first | refine blk_drewN ?_ _ | refine blk_drew ?_ | refine blk_alloc ?_ _));exact BK583.out) hb);have n3_:=Aside0.mk (blk_below (g:=gb594) (o:=.cells #[.float .f64 t585,.bool t586,.slice Ao25 t587.length co25,.int .i64 t590,.int .i64 t591,.int .i64 t592] 30 (0,0)) (by (with_reducible repeat (first | refine blk_drewN ?_ _ | refine blk_drew ?_ | refine blk_alloc ?_ _));refine blk_put (cs:=#[.float .f64 t585,.bool t586,.slice Ao25 t587.length co25,.int .i64 t590,.int .i64 t591,.int .i64 0]) ?_ 5 _ rfl;(with_reducible repeat (first | refine blk_drewN ?_ _ | refine blk_drew ?_ | refine blk_alloc ?_ _));refine blk_put (cs:=#[.float .f64 t585,.bool t586,.slice Ao25 t587.length co25,.int .i64 t590,.int .i64 0,.int .i64 0]) ?_ 4 _ rfl;(with_reducible repeat (first | refine blk_drewN ?_ _ | refine blk_drew ?_ | refine blk_alloc ?_ _));refine blk_put (cs:=#[.float .f64 t585,.bool t586,.slice Ao25 t587.length co25,.int .i64 0,.int .i64 0,.int .i64 0]) ?_ 3 _ rfl;(with_reducible repeat (first | refine blk_drewN ?_ _ | refine blk_drew ?_ | refine blk_alloc ?_ _));refine blk_put (cs:=#[.float .f64 t585,.bool t586,.slice none 0 0,.int .i64 0,.int .i64 0,.int .i64 0]) ?_ 2 _ rfl;(with_reducible repeat (first | refine blk_drewN ?_ _ | refine blk_drew ?_ | refine blk_alloc ?_ _));refine blk_put (cs:=#[.float .f64 t585,.bool false,.slice none 0 0,.int .i64 0,.int .i64 0,.int .i64 0]) ?_ 1 _ rfl;(with_reducible repeat (first | refine blk_drewN ?_ _ | refine blk_drew ?_ | refine blk_alloc ?_ _));refine blk_put (cs:=#[.float .f64 0,.bool false,.slice none 0 0,.int .i64 0,.int .i64 0,.int .i64 0]) ?_ 0 _ rfl;(with_reducible repeat (first | refine blk_drewN ?_ _ | refine blk_drew ?_ | refine blk_alloc ?_ _));exact BK594.out) hb);have n4_:=Aside0.mk (below_step (by repeat (first | (with_reducible first | exact HB.out | apply below_alloc | apply pw_below_drewN | apply below_drew1 | refine below_set ?_ GE582.out | refine below_set ?_ GE583.out | refine below_set ?_ GE594.out) | exact HB.out)) hb);clear HO589;clear BK582;clear BK583;clear BK594;clear HB;have HO589:=n0_;have BK582:=n1_;have BK583:=n2_;have BK594:=n3_;have HB:=n4_;clear n0_ n1_ n2_ n3_ n4_;(try clear hb);(try clear hb2);(try clear hk);(try clear hi)))
            go_meet
            case rel => exact ⟨_,(false),(by first | rfl | (simp;done) | (simp [*];done)),H',⟨by have:=HJ3.out;first | omega | exact Nat.le_refl _⟩,⟨by (with_reducible repeat (first | apply Kd.R_alloc | apply Kd.R_drewN | apply Kd.R_drew));exact HO589.out⟩,⟨by (with_reducible repeat (first | refine blk_drewN ?_ _ | refine blk_drew ?_ | refine blk_alloc ?_ _));exact BK582.out⟩,⟨by (with_reducible repeat (first | refine blk_drewN ?_ _ | refine blk_drew ?_ | refine blk_alloc ?_ _));exact BK583.out⟩,⟨by (with_reducible repeat (first | refine blk_drewN ?_ _ | refine blk_drew ?_ | refine blk_alloc ?_ _));exact BK594.out⟩,⟨by repeat (first | (with_reducible first | exact HB.out | apply below_alloc | apply pw_below_drewN | apply below_drew1 | refine below_set ?_ GE582.out | refine below_set ?_ GE583.out | refine below_set ?_ GE594.out) | exact HB.out)⟩⟩
        case rest =>
          clear HC17
          try clear c1
          try clear c2
          try clear p2
          try clear c3
          try clear c4
          try clear c7
          try clear c7b0
          try clear c7b1
          try clear c8
          try clear c9
          try clear c10
          try clear c13
          try clear c18
          try clear c22
          try clear c23
          try clear c27
          try clear c28
          try clear c29
          try clear c31
          try clear c33
          try clear c34
          try clear hcz11_0
          try clear hcz11_1
          try clear hcz11_2
          try clear hcz11_3
          try clear hcz11_4
          try clear hcz11_5
          try clear hcz12_0
          try clear hcz12_1
          try clear hcz12_2
          try clear hcz12_3
          try clear hcz12_4
          try clear hcz12_5
          try clear hcz19_0
          try clear hcz19_1
          try clear hcz19_2
          try clear hcz19_3
          try clear hcz19_4
          try clear hcz19_5
          try clear hcz24_0
          try clear hcz24_1
          try clear hcz24_2
          try clear hcz24_3
          try clear hcz24_4
          try clear hcz24_5
          try clear hcz30_0
          try clear hcz30_1
          try clear hcz30_2
          try clear hcz30_3
          try clear hcz30_4
          try clear hcz30_5
          try clear hcz32_0
          try clear hcz32_1
          try clear hcz32_2
          try clear hcz32_3
          try clear hcz32_4
          try clear hcz32_5
          try clear hcz35_0
          try clear hcz35_1
          try clear hcz35_2
          try clear hcz35_3
          try clear hcz35_4
          try clear hcz35_5
          try clear hcz9_0
          try clear hcz9_1
          try clear hcz9_2
          try clear hcz9_3
          try clear hcz9_4
          try clear hcz9_5
          try clear hfz11_0
          try clear hfz11_1
          try clear hfz11_2
          try clear hfz11_3
          try clear hfz11_4
          try clear hfz11_5
          try clear hfz12_0
          try clear hfz12_1
          try clear hfz12_2
          try clear hfz12_3
          try clear hfz12_4
          try clear hfz12_5
          try clear hfz19_0
          try clear hfz19_1
          try clear hfz19_2
          try clear hfz19_3
          try clear hfz19_4
          try clear hfz19_5
          try clear hfz24_0
          try clear hfz24_1
          try clear hfz24_2
          try clear hfz24_3
          try clear hfz24_4
          try clear hfz24_5
          try clear hfz30_0
          try clear hfz30_1
          try clear hfz30_2
          try clear hfz30_3
          try clear hfz30_4
          try clear hfz30_5
          try clear hfz32_0
          try clear hfz32_1
          try clear hfz32_2
          try clear hfz32_3
          try clear hfz32_4
          try clear hfz32_5
          try clear hfz35_0
          try clear hfz35_1
          try clear hfz35_2
          try clear hfz35_3
          try clear hfz35_4
          try clear hfz35_5
          try clear hfz9_0
          try clear hfz9_1
          try clear hfz9_2
          try clear hfz9_3
          try clear hfz9_4
          try clear hfz9_5
          try clear p2
          obtain ⟨kq,x9_16,rfl,HA,HJ16,HO_595002,BK582,BK583,BK594,HB⟩:=hcut
          cases kq with
          | zero => exact absurd HA.out (by simp [humuslaw04_RowSame.j1])
          | succ kj16 =>
            have H:=HA.out
            clear HA
            simp only [humuslaw04_RowSame.j1] at H
            have HC37:=Aside0.mk H
            clear H
            go_upto_region 5 with (fail)
            go_cut [52] (fun v52 wc => ∃ (kq : Nat) (x52_36 : Bool),v52 = .bool x52_36 ∧ Aside0 (humuslaw04_RowSame.j2 kq x52_36 a0_0 a0_1 l0_2 a0_3 a0_4 a0_5 a1_0 a1_1 l1_2 a1_3 a1_4 a1_5 = some r) ∧ Aside0 (kq ≤ kj16) ∧ Aside0 (Kd.R Kd.f64 25 wc w.heap.size (fun _ => True) (.slice Ao25 t587.length co25) t587) ∧ Aside0 (wc.heap[gb582]? = some (.cells #[.float .f64 a0_0,.bool a0_1,(.slice A0_2 l0_2.length c0_2),.int .i64 a0_3,.int .i64 a0_4,.int .i64 a0_5] 30 (0,0))) ∧ Aside0 (wc.heap[gb583]? = some (.cells #[.float .f64 a1_0,.bool a1_1,(.slice A1_2 l1_2.length c1_2),.int .i64 a1_3,.int .i64 a1_4,.int .i64 a1_5] 30 (0,0))) ∧ Aside0 (wc.heap[gb594]? = some (.cells #[.float .f64 t585,.bool t586,(.slice Ao25 t587.length co25),.int .i64 t590,.int .i64 t591,.int .i64 t592] 30 (0,0))) ∧ Aside0 (Below w.heap.size w wc))
            case first =>
              have H:=HC37.out
              clear HC37
              by_cases c38 : (x9_16 != (t593 == 0)) = true
              · rw [if_pos c38] at H
                have c38b0 : (x9_16 != (t593 == 0)) = true:=c38
                (try (have c38b1 : decide (x9_16 = (t593 == 0)) = false:=by simpa using c38))
                (try (have c38b2 : (x9_16 == (t593 == 0)) = false:=by simpa using c38))
                (try (have c38b3 : ¬ (x9_16 = (t593 == 0)):=by simpa using c38))
                clear c38
                (first | rw [c38b0] | (simp only [i64_w,i32_w];rw [c38b0]) | skip)
                have H':=Aside0.mk H
                clear H
                go_wp2
                go_meet
                case rel => exact ⟨_,(true),(by first | rfl | (simp;done) | (simp [*];done)),H',⟨by have:=HJ3.out;have:=HJ16.out;first | omega | exact Nat.le_refl _⟩,⟨by (with_reducible repeat (first | apply Kd.R_alloc | apply Kd.R_drewN | apply Kd.R_drew));exact HO_595002.out⟩,⟨by (with_reducible repeat (first | refine blk_drewN ?_ _ | refine blk_drew ?_ | refine blk_alloc ?_ _));exact BK582.out⟩,⟨by (with_reducible repeat (first | refine blk_drewN ?_ _ | refine blk_drew ?_ | refine blk_alloc ?_ _));exact BK583.out⟩,⟨by (with_reducible repeat (first | refine blk_drewN ?_ _ | refine blk_drew ?_ | refine blk_alloc ?_ _));exact BK594.out⟩,⟨by repeat (first | (with_reducible first | exact HB.out | apply below_alloc | apply pw_below_drewN | apply below_drew1 | refine below_set ?_ GE582.out | refine below_set ?_ GE583.out | refine below_set ?_ GE594.out) | exact HB.out)⟩⟩
              · rw [if_neg c38] at H
                have c38b0 : (x9_16 != (t593 == 0)) = false:=by simpa using c38
                (try (have c38b1 : decide (x9_16 = (t593 == 0)) = true:=by simpa using c38))
                (try (have c38b2 : (x9_16 == (t593 == 0)) = true:=by simpa using c38))
                clear c38
                (first | rw [c38b0] | (simp only [i64_w,i32_w];rw [c38b0]) | skip)
                by_cases c39 : x9_16 = true
                · subst c39
                  have H1 : (humuslaw04_RowSame.j2 kj16 false a0_0 a0_1 l0_2 a0_3 a0_4 a0_5 a1_0 a1_1 l1_2 a1_3 a1_4 a1_5) = some r:=by rw [if_pos rfl] at H;exact H
                  clear H
                  have H:=H1
                  clear H1
                  have H':=Aside0.mk H
                  clear H
                  go_wp2
                  go_meet
                  case rel => exact ⟨_,(false),(by first | rfl | (simp;done) | (simp [*];done)),H',⟨by have:=HJ3.out;have:=HJ16.out;first | omega | exact Nat.le_refl _⟩,⟨by (with_reducible repeat (first | apply Kd.R_alloc | apply Kd.R_drewN | apply Kd.R_drew));exact HO_595002.out⟩,⟨by (with_reducible repeat (first | refine blk_drewN ?_ _ | refine blk_drew ?_ | refine blk_alloc ?_ _));exact BK582.out⟩,⟨by (with_reducible repeat (first | refine blk_drewN ?_ _ | refine blk_drew ?_ | refine blk_alloc ?_ _));exact BK583.out⟩,⟨by (with_reducible repeat (first | refine blk_drewN ?_ _ | refine blk_drew ?_ | refine blk_alloc ?_ _));exact BK594.out⟩,⟨by repeat (first | (with_reducible first | exact HB.out | apply below_alloc | apply pw_below_drewN | apply below_drew1 | refine below_set ?_ GE582.out | refine below_set ?_ GE583.out | refine below_set ?_ GE594.out) | exact HB.out)⟩⟩
                · replace c39:=Bool.eq_false_iff.mpr c39
                  subst c39
                  have H1 : (if t593 = 1 then ((humusref04_Same.f kj16 t585 t586 t587 t590 t591 t592 0 false ([] : List Nat) 0 0 0).bind fun t596 => (humuslaw04_RowSame.j2 kj16 (!t596) a0_0 a0_1 l0_2 a0_3 a0_4 a0_5 a1_0 a1_1 l1_2 a1_3 a1_4 a1_5)) else (humuslaw04_RowSame.j2 kj16 true a0_0 a0_1 l0_2 a0_3 a0_4 a0_5 a1_0 a1_1 l1_2 a1_3 a1_4 a1_5)) = some r:=by rw [if_neg (show ¬ (false = true) by decide)] at H;exact H
                  clear H
                  have H:=H1
                  clear H1
                  by_cases c40 : t593 = 1
                  · rw [if_pos c40] at H
                    have c40b0 : (t593 == 1) = true:=beq_iff_eq.mpr c40
                    have c40b1 : (t593 != 1) = false:=bne_eq_false_iff_eq.mpr c40
                    clear c40
                    replace H:=Option.bind_eq_some_iff.mp H
                    obtain ⟨t596,A410,H⟩:=H
                    replace H : (humuslaw04_RowSame.j2 kj16 (!t596) a0_0 a0_1 l0_2 a0_3 a0_4 a0_5 a1_0 a1_1 l1_2 a1_3 a1_4 a1_5) = some r:=H
                    have A41:=Aside0.mk A410
                    clear A410
                    have H':=Aside0.mk H
                    clear H
                    have hnb42:=NB594_582.out
                    have hnc42:=NB582_594.out
                    have hnb43:=NB594_583.out
                    have hnc43:=NB583_594.out
                    have hcz44_0 : wc.cell? ⟨gb594,0,none⟩ = some (.float .f64 t585):=(blk_cell BK594.out 0).trans rfl
                    have hcz44_1 : wc.cell? ⟨gb594,1,none⟩ = some (.bool t586):=(blk_cell BK594.out 1).trans rfl
                    have hcz44_2 : wc.cell? ⟨gb594,2,none⟩ = some (.slice Ao25 t587.length co25):=(blk_cell BK594.out 2).trans rfl
                    have hcz44_3 : wc.cell? ⟨gb594,3,none⟩ = some (.int .i64 t590):=(blk_cell BK594.out 3).trans rfl
                    have hcz44_4 : wc.cell? ⟨gb594,4,none⟩ = some (.int .i64 t591):=(blk_cell BK594.out 4).trans rfl
                    have hcz44_5 : wc.cell? ⟨gb594,5,none⟩ = some (.int .i64 t592):=(blk_cell BK594.out 5).trans rfl
                    have hfz44_0:=blk_frozen BK594.out 0
                    have hfz44_1:=blk_frozen BK594.out 1
                    have hfz44_2:=blk_frozen BK594.out 2
                    have hfz44_3:=blk_frozen BK594.out 3
                    have hfz44_4:=blk_frozen BK594.out 4
                    have hfz44_5:=blk_frozen BK594.out 5
                    go_wp2_with (first | (go_at_call 37;(refine (humusref04_Same.calls kj16 t585 t586 _ _ t587 t590 t591 t592 0 false _ _ ([] : List Nat) 0 0 0 t596 _ ?side1 ?side2 ?side3 ?side4 A41.out).mono ?_);(case side1 => repeat (first | exact (Kd.R_reads' HO_595002.out).2.2 | (with_reducible refine Kd.C_alloc ?_ _) | (with_reducible refine Kd.C_drewN ?_ _) | (with_reducible refine Kd.C_drew ?_)));(case side2 => exact (Kd.R_reads' HO_595002.out).2.1);(case side3 => exact Kd.C_nil _ _);(case side4 => exact Nat.le_refl _);rintro e w45 ⟨rfl,hb⟩;have n0_:=Aside0.mk (Kd.R_below (by (with_reducible repeat (first | apply Kd.R_alloc | apply Kd.R_drewN | apply Kd.R_drew));exact HO_595002.out) hb);have n1_:=Aside0.mk (blk_below (g:=gb582) (o:=.cells #[.float .f64 a0_0,.bool a0_1,.slice A0_2 l0_2.length c0_2,.int .i64 a0_3,.int .i64 a0_4,.int .i64 a0_5] 30 (0,0)) (by (with_reducible repeat (first | refine blk_drewN ?_ _ | refine blk_drew ?_ | refine blk_alloc ?_ _));exact BK582.out) hb);have n2_:=Aside0.mk (blk_below (g:=gb583) (o:=.cells #[.float .f64 a1_0,.bool a1_1,.slice A1_2 l1_2.length c1_2,.int .i64 a1_3,.int .i64 a1_4,.int .i64 a1_5] 30 (0,0)) (by (with_reducible repeat (first | refine blk_drewN ?_ _ | refine blk_drew ?_ | refine blk_alloc ?_ _));exact BK583.out) hb);have n3_:=Aside0.mk (blk_below (g:=gb594) (o:=.cells #[.float .f64 t585,.bool t586,.slice Ao25 t587.length co25,.int .i64 t590,.int .i64 t591,.int .i64 t592] 30 (0,0)) (by (with_reducible repeat (first | refine blk_drewN ?_ _ | refine blk_drew ?_ | refine blk_alloc ?_ _));exact BK594.out) hb);have n4_:=Aside0.mk (below_step (by repeat (first | (with_reducible first | exact HB.out | apply below_alloc | apply pw_below_drewN | apply below_drew1 | refine below_set ?_ GE582.out | refine below_set ?_ GE583.out | refine below_set ?_ GE594.out) | exact HB.out)) hb);clear HO_595002;clear BK582;clear BK583;clear BK594;clear HB;have HO_595002:=n0_;have BK582:=n1_;have BK583:=n2_;have BK594:=n3_;have HB:=n4_;clear n0_ n1_ n2_ n3_ n4_;(try clear hb);(try clear hb2);(try clear hk);(try clear hi)))
                    go_meet
                    case rel => exact ⟨_,(!t596),(by first | rfl | (simp;done) | (simp [*];done)),H',⟨by have:=HJ3.out;have:=HJ16.out;first | omega | exact Nat.le_refl _⟩,⟨by (with_reducible repeat (first | apply Kd.R_alloc | apply Kd.R_drewN | apply Kd.R_drew));exact HO_595002.out⟩,⟨by (with_reducible repeat (first | refine blk_drewN ?_ _ | refine blk_drew ?_ | refine blk_alloc ?_ _));exact BK582.out⟩,⟨by (with_reducible repeat (first | refine blk_drewN ?_ _ | refine blk_drew ?_ | refine blk_alloc ?_ _));exact BK583.out⟩,⟨by (with_reducible repeat (first | refine blk_drewN ?_ _ | refine blk_drew ?_ | refine blk_alloc ?_ _));exact BK594.out⟩,⟨by repeat (first | (with_reducible first | exact HB.out | apply below_alloc | apply pw_below_drewN | apply below_drew1 | refine below_set ?_ GE582.out | refine below_set ?_ GE583.out | refine below_set ?_ GE594.out) | exact HB.out)⟩⟩
                  · rw [if_neg c40] at H
                    have c40b0 : (t593 == 1) = false:=beq_eq_false_iff_ne.mpr c40
                    have c40b1 : (t593 != 1) = true:=bne_iff_ne.mpr c40
                    have H':=Aside0.mk H
                    clear H
                    go_wp2
                    go_meet
                    case rel => exact ⟨_,(true),(by first | rfl | (simp;done) | (simp [*];done)),H',⟨by have:=HJ3.out;have:=HJ16.out;first | omega | exact Nat.le_refl _⟩,⟨by (with_reducible repeat (first | apply Kd.R_alloc | apply Kd.R_drewN | apply Kd.R_drew));exact HO_595002.out⟩,⟨by (with_reducible repeat (first | refine blk_drewN ?_ _ | refine blk_drew ?_ | refine blk_alloc ?_ _));exact BK582.out⟩,⟨by (with_reducible repeat (first | refine blk_drewN ?_ _ | refine blk_drew ?_ | refine blk_alloc ?_ _));exact BK583.out⟩,⟨by (with_reducible repeat (first | refine blk_drewN ?_ _ | refine blk_drew ?_ | refine blk_alloc ?_ _));exact BK594.out⟩,⟨by repeat (first | (with_reducible first | exact HB.out | apply below_alloc | apply pw_below_drewN | apply below_drew1 | refine below_set ?_ GE582.out | refine below_set ?_ GE583.out | refine below_set ?_ GE594.out) | exact HB.out)⟩⟩
            case rest =>
              clear HC37
              try clear c1
              try clear c2
              try clear p2
              try clear c3
              try clear c4
              try clear c7
              try clear c7b0
              try clear c7b1
              try clear c8
              try clear c9
              try clear c10
              try clear c13
              try clear c18
              try clear c22
              try clear c23
              try clear c27
              try clear c28
              try clear c29
              try clear c31
              try clear c33
              try clear c34
              try clear c38
              try clear c38b0
              try clear c38b1
              try clear c38b2
              try clear c39
              try clear c40
              try clear c40b0
              try clear c40b1
              try clear c41
              try clear c42
              try clear c43
              try clear hcz11_0
              try clear hcz11_1
              try clear hcz11_2
              try clear hcz11_3
              try clear hcz11_4
              try clear hcz11_5
              try clear hcz12_0
              try clear hcz12_1
              try clear hcz12_2
              try clear hcz12_3
              try clear hcz12_4
              try clear hcz12_5
              try clear hcz19_0
              try clear hcz19_1
              try clear hcz19_2
              try clear hcz19_3
              try clear hcz19_4
              try clear hcz19_5
              try clear hcz24_0
              try clear hcz24_1
              try clear hcz24_2
              try clear hcz24_3
              try clear hcz24_4
              try clear hcz24_5
              try clear hcz30_0
              try clear hcz30_1
              try clear hcz30_2
              try clear hcz30_3
              try clear hcz30_4
              try clear hcz30_5
              try clear hcz32_0
              try clear hcz32_1
              try clear hcz32_2
              try clear hcz32_3
              try clear hcz32_4
              try clear hcz32_5
              try clear hcz35_0
              try clear hcz35_1
              try clear hcz35_2
              try clear hcz35_3
              try clear hcz35_4
              try clear hcz35_5
              try clear hcz44_0
              try clear hcz44_1
              try clear hcz44_2
              try clear hcz44_3
              try clear hcz44_4
              try clear hcz44_5
              try clear hcz9_0
              try clear hcz9_1
              try clear hcz9_2
              try clear hcz9_3
              try clear hcz9_4
              try clear hcz9_5
              try clear hfz11_0
              try clear hfz11_1
              try clear hfz11_2
              try clear hfz11_3
              try clear hfz11_4
              try clear hfz11_5
              try clear hfz12_0
              try clear hfz12_1
              try clear hfz12_2
              try clear hfz12_3
              try clear hfz12_4
              try clear hfz12_5
              try clear hfz19_0
              try clear hfz19_1
              try clear hfz19_2
              try clear hfz19_3
              try clear hfz19_4
              try clear hfz19_5
              try clear hfz24_0
              try clear hfz24_1
              try clear hfz24_2
              try clear hfz24_3
              try clear hfz24_4
              try clear hfz24_5
              try clear hfz30_0
              try clear hfz30_1
              try clear hfz30_2
              try clear hfz30_3
              try clear hfz30_4
              try clear hfz30_5
              try clear hfz32_0
              try clear hfz32_1
              try clear hfz32_2
              try clear hfz32_3
              try clear hfz32_4
              try clear hfz32_5
              try clear hfz35_0
              try clear hfz35_1
              try clear hfz35_2
              try clear hfz35_3
              try clear hfz35_4
              try clear hfz35_5
              try clear hfz44_0
              try clear hfz44_1
              try clear hfz44_2
              try clear hfz44_3
              try clear hfz44_4
              try clear hfz44_5
              try clear hfz9_0
              try clear hfz9_1
              try clear hfz9_2
              try clear hfz9_3
              try clear hfz9_4
              try clear hfz9_5
              try clear p2
              obtain ⟨kq,x52_36,rfl,HA,HJ36,HO_595002,BK582,BK583,BK594,HB⟩:=hcut
              cases kq with
              | zero => exact absurd HA.out (by simp [humuslaw04_RowSame.j2])
              | succ kj36 =>
                have H:=HA.out
                clear HA
                simp only [humuslaw04_RowSame.j2] at H
                by_cases c46 : x52_36 = true
                · subst c46
                  have H1 : (some false) = some r:=by rw [if_pos rfl] at H;exact H
                  clear H
                  have H:=H1
                  clear H1
                  obtain rfl:=Option.some.inj H
                  go_wp2
                  go_ret
                  exact ⟨by first | rfl | (simp [errW_none,errW_some] <;> rfl) | (simp [*,errW_none,errW_some] <;> rfl),by repeat (first | (with_reducible first | exact HB.out | apply below_alloc | apply pw_below_drewN | apply below_drew1 | refine below_set ?_ GE582.out | refine below_set ?_ GE583.out | refine below_set ?_ GE594.out) | exact HB.out)⟩
                · replace c46:=Bool.eq_false_iff.mpr c46
                  subst c46
                  have H1 : ((row_Same.f a0_0 a0_1 l0_2 a0_3 a0_4 a0_5 a1_0 a1_1 l1_2 a1_3 a1_4 a1_5).bind fun t597 => ((humusref04_Same.f kj36 a0_0 a0_1 l0_2 a0_3 a0_4 a0_5 a1_0 a1_1 l1_2 a1_3 a1_4 a1_5).bind fun t598 => (if (t597 == t598) = true then ((row_Same.f a0_0 a0_1 l0_2 a0_3 a0_4 a0_5 a0_0 a0_1 l0_2 a0_3 a0_4 a0_5).bind fun t599 => (if t599 = true then ((humuslaw04_awake.f kj36).bind fun t600 => (some t600)) else (some false))) else (some false)))) = some r:=by rw [if_neg (show ¬ (false = true) by decide)] at H;exact H
                  clear H
                  have H:=H1
                  clear H1
                  replace H:=Option.bind_eq_some_iff.mp H
                  obtain ⟨t597,A470,H⟩:=H
                  replace H : ((humusref04_Same.f kj36 a0_0 a0_1 l0_2 a0_3 a0_4 a0_5 a1_0 a1_1 l1_2 a1_3 a1_4 a1_5).bind fun t598 => (if (t597 == t598) = true then ((row_Same.f a0_0 a0_1 l0_2 a0_3 a0_4 a0_5 a0_0 a0_1 l0_2 a0_3 a0_4 a0_5).bind fun t599 => (if t599 = true then ((humuslaw04_awake.f kj36).bind fun t600 => (some t600)) else (some false))) else (some false))) = some r:=H
                  have A47:=Aside0.mk A470
                  clear A470
                  replace H:=Option.bind_eq_some_iff.mp H
                  obtain ⟨t598,A480,H⟩:=H
                  replace H : (if (t597 == t598) = true then ((row_Same.f a0_0 a0_1 l0_2 a0_3 a0_4 a0_5 a0_0 a0_1 l0_2 a0_3 a0_4 a0_5).bind fun t599 => (if t599 = true then ((humuslaw04_awake.f kj36).bind fun t600 => (some t600)) else (some false))) else (some false)) = some r:=H
                  have A48:=Aside0.mk A480
                  clear A480
                  by_cases c49 : (t597 == t598) = true
                  · rw [if_pos c49] at H
                    have c49b0 : (t597 == t598) = true:=c49
                    (try (have c49b1 : decide (t597 = t598) = true:=by simpa using c49))
                    (try (have c49b2 : (t597 == t598) = true:=by simpa using c49))
                    clear c49
                    replace H:=Option.bind_eq_some_iff.mp H
                    obtain ⟨t599,A500,H⟩:=H
                    replace H : (if t599 = true then ((humuslaw04_awake.f kj36).bind fun t600 => (some t600)) else (some false)) = some r:=H
                    have A50:=Aside0.mk A500
                    clear A500
                    by_cases c51 : t599 = true
                    · subst c51
                      have H1 : ((humuslaw04_awake.f kj36).bind fun t600 => (some t600)) = some r:=by rw [if_pos rfl] at H;exact H
                      clear H
                      have H:=H1
                      clear H1
                      replace H:=Option.bind_eq_some_iff.mp H
                      obtain ⟨t600,A520,H⟩:=H
                      replace H : (some t600) = some r:=H
                      have A52:=Aside0.mk A520
                      clear A520
                      obtain rfl:=Option.some.inj H
                      try go_wp2
                      have n0_:=Aside0.mk (Kd.R_drew HO_595002.out)
                      have n1_:=Aside0.mk (blk_drew BK582.out)
                      have n2_:=Aside0.mk (blk_drew BK583.out)
                      have n3_:=Aside0.mk (blk_drew BK594.out)
                      have n4_:=Aside0.mk (below_drew1 HB.out)
                      clear HO_595002
                      clear BK582
                      clear BK583
                      clear BK594
                      clear HB
                      have HO_595002:=n0_
                      have BK582:=n1_
                      have BK583:=n2_
                      have BK594:=n3_
                      have HB:=n4_
                      clear n0_ n1_ n2_ n3_ n4_
                      refine start_ (n:=16) (S:=fun w' => w'.cell? ⟨gb582,0,none⟩ = some (.float .f64 a0_0) ∧ w'.cell? ⟨gb582,1,none⟩ = some (.bool a0_1) ∧ w'.cell? ⟨gb582,2,none⟩ = some (.slice A0_2 l0_2.length c0_2) ∧ w'.cell? ⟨gb582,3,none⟩ = some (.int .i64 a0_3) ∧ w'.cell? ⟨gb582,4,none⟩ = some (.int .i64 a0_4) ∧ w'.cell? ⟨gb582,5,none⟩ = some (.int .i64 a0_5) ∧ w'.cell? ⟨gb583,0,none⟩ = some (.float .f64 a1_0) ∧ w'.cell? ⟨gb583,1,none⟩ = some (.bool a1_1) ∧ w'.cell? ⟨gb583,2,none⟩ = some (.slice A1_2 l1_2.length c1_2) ∧ w'.cell? ⟨gb583,3,none⟩ = some (.int .i64 a1_3) ∧ w'.cell? ⟨gb583,4,none⟩ = some (.int .i64 a1_4) ∧ w'.cell? ⟨gb583,5,none⟩ = some (.int .i64 a1_5)) (ds:=[10,13]) #[false,false,false,false,false,false,false,false,false,false,false,false,false,false,false,false] (by kernel_rfl) rfl rfl ⟨(blk_cell BK582.out 0).trans rfl,(blk_cell BK582.out 1).trans rfl,(blk_cell BK582.out 2).trans rfl,(blk_cell BK582.out 3).trans rfl,(blk_cell BK582.out 4).trans rfl,(blk_cell BK582.out 5).trans rfl,(blk_cell BK583.out 0).trans rfl,(blk_cell BK583.out 1).trans rfl,(blk_cell BK583.out 2).trans rfl,(blk_cell BK583.out 3).trans rfl,(blk_cell BK583.out 4).trans rfl,(blk_cell BK583.out 5).trans rfl⟩ (fun hHeld => ?_);refine with_tabW humuslaw04_RowSame.tab7 humuslaw04_RowSame.bits7 (fun HT_ HW_ => ?_)
                      generalize wc.drew = w53 at HO_595002 BK582 BK583 BK594 HB hHeld ⊢
                      refine take_ (i:=0) (N:=some 53) (v:=?_) (a':=?_) #[true,false,false,false,false,false,false,false,false,false,false,false,false,false,false,false] rfl rfl (take_ofW HT_.out HW_.out (by kernel_rfl)) (fun _ _ _ h => h) (Or.inl ⟨by rfl,?_⟩) hHeld ?_ ?_
                      rotate_left
                      · rintro w' ⟨s0,s1,s2,s3,s4,s5,s6,s7,s8,s9,s10,s11⟩
                        go_simp
                        with_reducible rfl
                      rotate_left
                      · simp only [Act.put,List.setIfInBounds_toArray,List.set_cons_zero,List.set_cons_succ,i64_w,i32_w]
                        rfl
                      refine take_ (i:=1) (N:=some 54) (v:=?_) (a':=?_) #[true,true,false,false,false,false,false,false,false,false,false,false,false,false,false,false] rfl rfl (take_ofW HT_.out HW_.out (by kernel_rfl)) (fun _ _ _ h => h) (Or.inl ⟨by rfl,?_⟩) hHeld ?_ ?_
                      rotate_left
                      · rintro w' ⟨s0,s1,s2,s3,s4,s5,s6,s7,s8,s9,s10,s11⟩
                        go_simp
                        with_reducible rfl
                      rotate_left
                      · simp only [Act.put,List.setIfInBounds_toArray,List.set_cons_zero,List.set_cons_succ,i64_w,i32_w]
                        rfl
                      refine take_ (i:=3) (N:=some 56) (v:=?_) (a':=?_) #[true,true,false,true,false,false,false,false,false,false,false,false,false,false,false,false] rfl rfl (take_ofW HT_.out HW_.out (by kernel_rfl)) (fun _ _ _ h => h) (Or.inl ⟨by rfl,?_⟩) hHeld ?_ ?_
                      rotate_left
                      · rintro w' ⟨s0,s1,s2,s3,s4,s5,s6,s7,s8,s9,s10,s11⟩
                        go_simp
                        with_reducible rfl
                      rotate_left
                      · simp only [Act.put,List.setIfInBounds_toArray,List.set_cons_zero,List.set_cons_succ,i64_w,i32_w]
                        rfl
                      refine take_ (i:=4) (N:=some 57) (v:=?_) (a':=?_) #[true,true,false,true,true,false,false,false,false,false,false,false,false,false,false,false] rfl rfl (take_ofW HT_.out HW_.out (by kernel_rfl)) (fun _ _ _ h => h) (Or.inl ⟨by rfl,?_⟩) hHeld ?_ ?_
                      rotate_left
                      · rintro w' ⟨s0,s1,s2,s3,s4,s5,s6,s7,s8,s9,s10,s11⟩
                        go_simp
                        with_reducible rfl
                      rotate_left
                      · simp only [Act.put,List.setIfInBounds_toArray,List.set_cons_zero,List.set_cons_succ,i64_w,i32_w]
                        rfl
                      refine one_ (i:=2) (N:=some 55) #[true,true,true,true,true,false,false,false,false,false,false,false,false,false,false,false] rfl rfl (one_of HT_.out (by kernel_rfl)) (by decide) (fun K hK => ?_)
                      refine goes_ Try.func43 (by kernel_rfl) rfl #[.agg #[.float .f64 a0_0,.bool a0_1,.slice A0_2 l0_2.length c0_2,.int .i64 a0_3,.int .i64 a0_4,.int .i64 a0_5],.agg #[.float .f64 a1_0,.bool a1_1,.slice A1_2 l1_2.length c1_2,.int .i64 a1_3,.int .i64 a1_4,.int .i64 a1_5]] (by rfl) rfl rfl (by (try simp only [List.map_toArray,List.map_cons,List.map_nil]);first | done | rfl | (simp only [List.length_drop,List.length_take];rfl)) ?_
                      with_reducible refine (row_Same.calls a0_0 a0_1 _ _ l0_2 a0_3 a0_4 a0_5 a1_0 a1_1 _ _ l1_2 a1_3 a1_4 a1_5 t597 _ ?side1 ?side2 ?side3 ?side4 A47.out).mono ?_
                      (case side1 => repeat (first | exact (Kd.C_below HR0_2.out HB.out) | (with_reducible refine Kd.C_alloc ?_ _) | (with_reducible refine Kd.C_drewN ?_ _) | (with_reducible refine Kd.C_drew ?_)))
                      (case side2 => exact HC0_2.out)
                      (case side3 => repeat (first | exact (Kd.C_below HR1_2.out HB.out) | (with_reducible refine Kd.C_alloc ?_ _) | (with_reducible refine Kd.C_drewN ?_ _) | (with_reducible refine Kd.C_drew ?_)))
                      (case side4 => exact HC1_2.out)
                      rintro e w54 ⟨rfl,hb⟩
                      refine ⟨_,rfl,?_⟩
                      have n0_:=Aside0.mk (Kd.R_below (by (with_reducible repeat (first | apply Kd.R_alloc | apply Kd.R_drewN | apply Kd.R_drew));exact HO_595002.out) hb)
                      have n1_:=Aside0.mk (blk_below (g:=gb582) (o:=.cells #[.float .f64 a0_0,.bool a0_1,.slice A0_2 l0_2.length c0_2,.int .i64 a0_3,.int .i64 a0_4,.int .i64 a0_5] 30 (0,0)) (by (with_reducible repeat (first | refine blk_drewN ?_ _ | refine blk_drew ?_ | refine blk_alloc ?_ _));exact BK582.out) hb)
                      have n2_:=Aside0.mk (blk_below (g:=gb583) (o:=.cells #[.float .f64 a1_0,.bool a1_1,.slice A1_2 l1_2.length c1_2,.int .i64 a1_3,.int .i64 a1_4,.int .i64 a1_5] 30 (0,0)) (by (with_reducible repeat (first | refine blk_drewN ?_ _ | refine blk_drew ?_ | refine blk_alloc ?_ _));exact BK583.out) hb)
                      have n3_:=Aside0.mk (blk_below (g:=gb594) (o:=.cells #[.float .f64 t585,.bool t586,.slice Ao25 t587.length co25,.int .i64 t590,.int .i64 t591,.int .i64 t592] 30 (0,0)) (by (with_reducible repeat (first | refine blk_drewN ?_ _ | refine blk_drew ?_ | refine blk_alloc ?_ _));exact BK594.out) hb)
                      have n4_:=Aside0.mk (below_step (by repeat (first | (with_reducible first | exact HB.out | apply below_alloc | apply pw_below_drewN | apply below_drew1 | refine below_set ?_ GE582.out | refine below_set ?_ GE583.out | refine below_set ?_ GE594.out) | exact HB.out)) hb)
                      clear HO_595002
                      clear BK582
                      clear BK583
                      clear BK594
                      clear HB
                      have HO_595002:=n0_
                      have BK582:=n1_
                      have BK583:=n2_
                      have BK594:=n3_
                      have HB:=n4_
                      clear n0_ n1_ n2_ n3_ n4_
                      (try clear hb)
                      (try clear hb2)
                      (try clear hk)
                      (try clear hi)
                      refine hK.out _ _ ⟨(blk_cell BK582.out 0).trans rfl,(blk_cell BK582.out 1).trans rfl,(blk_cell BK582.out 2).trans rfl,(blk_cell BK582.out 3).trans rfl,(blk_cell BK582.out 4).trans rfl,(blk_cell BK582.out 5).trans rfl,(blk_cell BK583.out 0).trans rfl,(blk_cell BK583.out 1).trans rfl,(blk_cell BK583.out 2).trans rfl,(blk_cell BK583.out 3).trans rfl,(blk_cell BK583.out 4).trans rfl,(blk_cell BK583.out 5).trans rfl⟩ (fun hHeld => ?_)
                      clear hK K
                      refine norm_ (a':=?_) ?_ ?_
                      rotate_left
                      · show Act.put _ (some 55) _ = _
                        simp only [Act.put,List.setIfInBounds_toArray,List.set_cons_zero,List.set_cons_succ,i64_w,i32_w]
                        rfl
                      refine one_ (i:=5) (N:=some 58) #[true,true,true,true,true,true,false,false,false,false,false,false,false,false,false,false] rfl rfl (one_of HT_.out (by kernel_rfl)) (by decide) (fun K hK => ?_)
                      refine goes_ Try.func37 (by kernel_rfl) rfl #[.agg #[.float .f64 a0_0,.bool a0_1,.slice A0_2 l0_2.length c0_2,.int .i64 a0_3,.int .i64 a0_4,.int .i64 a0_5],.agg #[.float .f64 a1_0,.bool a1_1,.slice A1_2 l1_2.length c1_2,.int .i64 a1_3,.int .i64 a1_4,.int .i64 a1_5]] (by rfl) rfl rfl (by (try simp only [List.map_toArray,List.map_cons,List.map_nil]);first | done | rfl | (simp only [List.length_drop,List.length_take];rfl)) ?_
                      with_reducible refine (humusref04_Same.calls kj36 a0_0 a0_1 _ _ l0_2 a0_3 a0_4 a0_5 a1_0 a1_1 _ _ l1_2 a1_3 a1_4 a1_5 t598 _ ?side1 ?side2 ?side3 ?side4 A48.out).mono ?_
                      (case side1 => repeat (first | exact (Kd.C_below HR0_2.out HB.out) | (with_reducible refine Kd.C_alloc ?_ _) | (with_reducible refine Kd.C_drewN ?_ _) | (with_reducible refine Kd.C_drew ?_)))
                      (case side2 => exact HC0_2.out)
                      (case side3 => repeat (first | exact (Kd.C_below HR1_2.out HB.out) | (with_reducible refine Kd.C_alloc ?_ _) | (with_reducible refine Kd.C_drewN ?_ _) | (with_reducible refine Kd.C_drew ?_)))
                      (case side4 => exact HC1_2.out)
                      rintro e w55 ⟨rfl,hb⟩
                      refine ⟨_,rfl,?_⟩
                      have n0_:=Aside0.mk (Kd.R_below (by (with_reducible repeat (first | apply Kd.R_alloc | apply Kd.R_drewN | apply Kd.R_drew));exact HO_595002.out) hb)
                      have n1_:=Aside0.mk (blk_below (g:=gb582) (o:=.cells #[.float .f64 a0_0,.bool a0_1,.slice A0_2 l0_2.length c0_2,.int .i64 a0_3,.int .i64 a0_4,.int .i64 a0_5] 30 (0,0)) (by (with_reducible repeat (first | refine blk_drewN ?_ _ | refine blk_drew ?_ | refine blk_alloc ?_ _));exact BK582.out) hb)
                      have n2_:=Aside0.mk (blk_below (g:=gb583) (o:=.cells #[.float .f64 a1_0,.bool a1_1,.slice A1_2 l1_2.length c1_2,.int .i64 a1_3,.int .i64 a1_4,.int .i64 a1_5] 30 (0,0)) (by (with_reducible repeat (first | refine blk_drewN ?_ _ | refine blk_drew ?_ | refine blk_alloc ?_ _));exact BK583.out) hb)
                      have n3_:=Aside0.mk (blk_below (g:=gb594) (o:=.cells #[.float .f64 t585,.bool t586,.slice Ao25 t587.length co25,.int .i64 t590,.int .i64 t591,.int .i64 t592] 30 (0,0)) (by (with_reducible repeat (first | refine blk_drewN ?_ _ | refine blk_drew ?_ | refine blk_alloc ?_ _));exact BK594.out) hb)
                      have n4_:=Aside0.mk (below_step (by repeat (first | (with_reducible first | exact HB.out | apply below_alloc | apply pw_below_drewN | apply below_drew1 | refine below_set ?_ GE582.out | refine below_set ?_ GE583.out | refine below_set ?_ GE594.out) | exact HB.out)) hb)
                      clear HO_595002
                      clear BK582
                      clear BK583
                      clear BK594
                      clear HB
                      have HO_595002:=n0_
                      have BK582:=n1_
                      have BK583:=n2_
                      have BK594:=n3_
                      have HB:=n4_
                      clear n0_ n1_ n2_ n3_ n4_
                      (try clear hb)
                      (try clear hb2)
                      (try clear hk)
                      (try clear hi)
                      refine hK.out _ _ ⟨(blk_cell BK582.out 0).trans rfl,(blk_cell BK582.out 1).trans rfl,(blk_cell BK582.out 2).trans rfl,(blk_cell BK582.out 3).trans rfl,(blk_cell BK582.out 4).trans rfl,(blk_cell BK582.out 5).trans rfl,(blk_cell BK583.out 0).trans rfl,(blk_cell BK583.out 1).trans rfl,(blk_cell BK583.out 2).trans rfl,(blk_cell BK583.out 3).trans rfl,(blk_cell BK583.out 4).trans rfl,(blk_cell BK583.out 5).trans rfl⟩ (fun hHeld => ?_)
                      clear hK K
                      refine norm_ (a':=?_) ?_ ?_
                      rotate_left
                      · show Act.put _ (some 58) _ = _
                        simp only [Act.put,List.setIfInBounds_toArray,List.set_cons_zero,List.set_cons_succ,i64_w,i32_w]
                        rfl
                      refine pure_ (i:=6) (N:=some 59) (v:=?_) (a':=?_) #[true,true,true,true,true,true,true,false,false,false,false,false,false,false,false,false] rfl rfl (any_of HT_.out (by kernel_rfl)) (fun _ _ _ h => h) (Or.inl ⟨by rfl,?_⟩) ?_ ?_
                      rotate_left
                      · intro w'
                        go_simp
                        with_reducible rfl
                      rotate_left
                      · simp only [Act.put,List.setIfInBounds_toArray,List.set_cons_zero,List.set_cons_succ,i64_w,i32_w]
                        rfl
                      refine pure_ (i:=7) (N:=some 60) (v:=?_) (a':=?_) #[true,true,true,true,true,true,true,true,false,false,false,false,false,false,false,false] rfl rfl (any_of HT_.out (by kernel_rfl)) (fun _ _ _ h => h) (Or.inl ⟨by rfl,?_⟩) ?_ ?_
                      rotate_left
                      · intro w'
                        go_simp
                        with_reducible rfl
                      rotate_left
                      · simp only [Act.put,List.setIfInBounds_toArray,List.set_cons_zero,List.set_cons_succ,i64_w,i32_w]
                        rfl
                      refine take_ (i:=8) (N:=some 61) (v:=?_) (a':=?_) #[true,true,true,true,true,true,true,true,true,false,false,false,false,false,false,false] rfl rfl (take_ofW HT_.out HW_.out (by kernel_rfl)) (fun _ _ _ h => h) (Or.inl ⟨by rfl,?_⟩) hHeld ?_ ?_
                      rotate_left
                      · rintro w' ⟨s0,s1,s2,s3,s4,s5,s6,s7,s8,s9,s10,s11⟩
                        go_simp
                        with_reducible rfl
                      rotate_left
                      · simp only [Act.put,List.setIfInBounds_toArray,List.set_cons_zero,List.set_cons_succ,i64_w,i32_w]
                        rfl
                      refine take_ (i:=9) (N:=some 62) (v:=?_) (a':=?_) #[true,true,true,true,true,true,true,true,true,true,false,false,false,false,false,false] rfl rfl (take_ofW HT_.out HW_.out (by kernel_rfl)) (fun _ _ _ h => h) (Or.inl ⟨by rfl,?_⟩) hHeld ?_ ?_
                      rotate_left
                      · rintro w' ⟨s0,s1,s2,s3,s4,s5,s6,s7,s8,s9,s10,s11⟩
                        go_simp
                        with_reducible rfl
                      rotate_left
                      · simp only [Act.put,List.setIfInBounds_toArray,List.set_cons_zero,List.set_cons_succ,i64_w,i32_w]
                        rfl
                      refine last_ (i:=10) (N:=some 63) #[true,true,true,true,true,true,true,true,true,true,true,false,false,false,false,false] rfl rfl (one_of HT_.out (by kernel_rfl)) (by decide) (fun K hK => ?_)
                      refine goes_ Try.func43 (by kernel_rfl) rfl #[.agg #[.float .f64 a0_0,.bool a0_1,.slice A0_2 l0_2.length c0_2,.int .i64 a0_3,.int .i64 a0_4,.int .i64 a0_5],.agg #[.float .f64 a0_0,.bool a0_1,.slice A0_2 l0_2.length c0_2,.int .i64 a0_3,.int .i64 a0_4,.int .i64 a0_5]] (by rfl) rfl rfl (by (try simp only [List.map_toArray,List.map_cons,List.map_nil]);first | done | rfl | (simp only [List.length_drop,List.length_take];rfl)) ?_
                      with_reducible refine (row_Same.calls a0_0 a0_1 _ _ l0_2 a0_3 a0_4 a0_5 a0_0 a0_1 _ _ l0_2 a0_3 a0_4 a0_5 true _ ?side1 ?side2 ?side3 ?side4 A50.out).mono ?_
                      (case side1 => repeat (first | exact (Kd.C_below HR0_2.out HB.out) | (with_reducible refine Kd.C_alloc ?_ _) | (with_reducible refine Kd.C_drewN ?_ _) | (with_reducible refine Kd.C_drew ?_)))
                      (case side2 => exact HC0_2.out)
                      (case side3 => repeat (first | exact (Kd.C_below HR0_2.out HB.out) | (with_reducible refine Kd.C_alloc ?_ _) | (with_reducible refine Kd.C_drewN ?_ _) | (with_reducible refine Kd.C_drew ?_)))
                      (case side4 => exact HC0_2.out)
                      rintro e w56 ⟨rfl,hb⟩
                      refine ⟨_,rfl,?_⟩
                      have n0_:=Aside0.mk (Kd.R_below (by (with_reducible repeat (first | apply Kd.R_alloc | apply Kd.R_drewN | apply Kd.R_drew));exact HO_595002.out) hb)
                      have n1_:=Aside0.mk (blk_below (g:=gb582) (o:=.cells #[.float .f64 a0_0,.bool a0_1,.slice A0_2 l0_2.length c0_2,.int .i64 a0_3,.int .i64 a0_4,.int .i64 a0_5] 30 (0,0)) (by (with_reducible repeat (first | refine blk_drewN ?_ _ | refine blk_drew ?_ | refine blk_alloc ?_ _));exact BK582.out) hb)
                      have n2_:=Aside0.mk (blk_below (g:=gb583) (o:=.cells #[.float .f64 a1_0,.bool a1_1,.slice A1_2 l1_2.length c1_2,.int .i64 a1_3,.int .i64 a1_4,.int .i64 a1_5] 30 (0,0)) (by (with_reducible repeat (first | refine blk_drewN ?_ _ | refine blk_drew ?_ | refine blk_alloc ?_ _));exact BK583.out) hb)
                      have n3_:=Aside0.mk (blk_below (g:=gb594) (o:=.cells #[.float .f64 t585,.bool t586,.slice Ao25 t587.length co25,.int .i64 t590,.int .i64 t591,.int .i64 t592] 30 (0,0)) (by (with_reducible repeat (first | refine blk_drewN ?_ _ | refine blk_drew ?_ | refine blk_alloc ?_ _));exact BK594.out) hb)
                      have n4_:=Aside0.mk (below_step (by repeat (first | (with_reducible first | exact HB.out | apply below_alloc | apply pw_below_drewN | apply below_drew1 | refine below_set ?_ GE582.out | refine below_set ?_ GE583.out | refine below_set ?_ GE594.out) | exact HB.out)) hb)
                      clear HO_595002
                      clear BK582
                      clear BK583
                      clear BK594
                      clear HB
                      have HO_595002:=n0_
                      have BK582:=n1_
                      have BK583:=n2_
                      have BK594:=n3_
                      have HB:=n4_
                      clear n0_ n1_ n2_ n3_ n4_
                      (try clear hb)
                      (try clear hb2)
                      (try clear hk)
                      (try clear hi)
                      refine hK.out _ _ ?_
                      clear hK K
                      refine norm_ (a':=?_) ?_ ?_
                      rotate_left
                      · show Act.put _ (some 63) _ = _
                        simp only [Act.put,List.setIfInBounds_toArray,List.set_cons_zero,List.set_cons_succ,i64_w,i32_w]
                        rfl
                      refine pure_ (i:=11) (N:=some 64) (v:=?_) (a':=?_) #[true,true,true,true,true,true,true,true,true,true,true,true,false,false,false,false] rfl rfl (any_of HT_.out (by kernel_rfl)) (fun _ _ _ h => h) (Or.inl ⟨by rfl,?_⟩) ?_ ?_
                      rotate_left
                      · intro w'
                        go_simp
                        with_reducible rfl
                      rotate_left
                      · simp only [Act.put,List.setIfInBounds_toArray,List.set_cons_zero,List.set_cons_succ,i64_w,i32_w]
                        rfl
                      refine pure_ (i:=12) (N:=some 65) (v:=?_) (a':=?_) #[true,true,true,true,true,true,true,true,true,true,true,true,true,false,false,false] rfl rfl (any_of HT_.out (by kernel_rfl)) (fun _ _ _ h => h) (Or.inl ⟨by rfl,?_⟩) ?_ ?_
                      rotate_left
                      · intro w'
                        go_simp
                        with_reducible rfl
                      rotate_left
                      · simp only [Act.put,List.setIfInBounds_toArray,List.set_cons_zero,List.set_cons_succ,i64_w,i32_w]
                        rfl
                      refine last_ (i:=13) (N:=some 66) #[true,true,true,true,true,true,true,true,true,true,true,true,true,true,false,false] rfl rfl (one_of HT_.out (by kernel_rfl)) (by decide) (fun K hK => ?_)
                      refine goes_ Try.func31 (by kernel_rfl) rfl #[] (by rfl) rfl rfl (by (try simp only [List.map_toArray,List.map_cons,List.map_nil]);first | done | rfl | (simp only [List.length_drop,List.length_take];rfl)) ?_
                      with_reducible refine (humuslaw04_awake.calls kj36  t600 _ A52.out).mono ?_
                      rintro e w57 ⟨rfl,hb⟩
                      refine ⟨_,rfl,?_⟩
                      have n0_:=Aside0.mk (Kd.R_below (by (with_reducible repeat (first | apply Kd.R_alloc | apply Kd.R_drewN | apply Kd.R_drew));exact HO_595002.out) hb)
                      have n1_:=Aside0.mk (blk_below (g:=gb582) (o:=.cells #[.float .f64 a0_0,.bool a0_1,.slice A0_2 l0_2.length c0_2,.int .i64 a0_3,.int .i64 a0_4,.int .i64 a0_5] 30 (0,0)) (by (with_reducible repeat (first | refine blk_drewN ?_ _ | refine blk_drew ?_ | refine blk_alloc ?_ _));exact BK582.out) hb)
                      have n2_:=Aside0.mk (blk_below (g:=gb583) (o:=.cells #[.float .f64 a1_0,.bool a1_1,.slice A1_2 l1_2.length c1_2,.int .i64 a1_3,.int .i64 a1_4,.int .i64 a1_5] 30 (0,0)) (by (with_reducible repeat (first | refine blk_drewN ?_ _ | refine blk_drew ?_ | refine blk_alloc ?_ _));exact BK583.out) hb)
                      have n3_:=Aside0.mk (blk_below (g:=gb594) (o:=.cells #[.float .f64 t585,.bool t586,.slice Ao25 t587.length co25,.int .i64 t590,.int .i64 t591,.int .i64 t592] 30 (0,0)) (by (with_reducible repeat (first | refine blk_drewN ?_ _ | refine blk_drew ?_ | refine blk_alloc ?_ _));exact BK594.out) hb)
                      have n4_:=Aside0.mk (below_step (by repeat (first | (with_reducible first | exact HB.out | apply below_alloc | apply pw_below_drewN | apply below_drew1 | refine below_set ?_ GE582.out | refine below_set ?_ GE583.out | refine below_set ?_ GE594.out) | exact HB.out)) hb)
                      clear HO_595002
                      clear BK582
                      clear BK583
                      clear BK594
                      clear HB
                      have HO_595002:=n0_
                      have BK582:=n1_
                      have BK583:=n2_
                      have BK594:=n3_
                      have HB:=n4_
                      clear n0_ n1_ n2_ n3_ n4_
                      (try clear hb)
                      (try clear hb2)
                      (try clear hk)
                      (try clear hi)
                      refine hK.out _ _ ?_
                      clear hK K
                      refine norm_ (a':=?_) ?_ ?_
                      rotate_left
                      · show Act.put _ (some 66) _ = _
                        simp only [Act.put,List.setIfInBounds_toArray,List.set_cons_zero,List.set_cons_succ,i64_w,i32_w]
                        rfl
                      refine pure_ (i:=14) (N:=some 67) (v:=?_) (a':=?_) #[true,true,true,true,true,true,true,true,true,true,true,true,true,true,true,false] rfl rfl (any_of HT_.out (by kernel_rfl)) (fun _ _ _ h => h) (Or.inl ⟨by rfl,?_⟩) ?_ ?_
                      rotate_left
                      · intro w'
                        go_simp
                        with_reducible rfl
                      rotate_left
                      · simp only [Act.put,List.setIfInBounds_toArray,List.set_cons_zero,List.set_cons_succ,i64_w,i32_w]
                        rfl
                      refine pure_ (i:=15) (N:=some 6) (v:=?_) (a':=?_) #[true,true,true,true,true,true,true,true,true,true,true,true,true,true,true,true] rfl rfl (any_of HT_.out (by kernel_rfl)) (fun _ _ _ h => h) (Or.inl ⟨by rfl,?_⟩) ?_ ?_
                      rotate_left
                      · intro w'
                        go_simp
                        with_reducible rfl
                      rotate_left
                      · simp only [Act.put,List.setIfInBounds_toArray,List.set_cons_zero,List.set_cons_succ,i64_w,i32_w]
                        rfl
                      refine done_ (done_of HT_.out (by kernel_rfl)) ?_
                      try go_wp2
                      go_ret
                      exact ⟨by first | rfl | (simp [errW_none,errW_some] <;> rfl) | (simp [*,errW_none,errW_some] <;> rfl),by repeat (first | (with_reducible first | exact HB.out | apply below_alloc | apply pw_below_drewN | apply below_drew1 | refine below_set ?_ GE582.out | refine below_set ?_ GE583.out | refine below_set ?_ GE594.out) | exact HB.out)⟩
                    · replace c51:=Bool.eq_false_iff.mpr c51
                      subst c51
                      have H1 : (some false) = some r:=by rw [if_neg (show ¬ (false = true) by decide)] at H;exact H
                      clear H
                      have H:=H1
                      clear H1
                      obtain rfl:=Option.some.inj H
                      try go_wp2
                      have n0_:=Aside0.mk (Kd.R_drew HO_595002.out)
                      have n1_:=Aside0.mk (blk_drew BK582.out)
                      have n2_:=Aside0.mk (blk_drew BK583.out)
                      have n3_:=Aside0.mk (blk_drew BK594.out)
                      have n4_:=Aside0.mk (below_drew1 HB.out)
                      clear HO_595002
                      clear BK582
                      clear BK583
                      clear BK594
                      clear HB
                      have HO_595002:=n0_
                      have BK582:=n1_
                      have BK583:=n2_
                      have BK594:=n3_
                      have HB:=n4_
                      clear n0_ n1_ n2_ n3_ n4_
                      refine start_ (n:=16) (S:=fun w' => w'.cell? ⟨gb582,0,none⟩ = some (.float .f64 a0_0) ∧ w'.cell? ⟨gb582,1,none⟩ = some (.bool a0_1) ∧ w'.cell? ⟨gb582,2,none⟩ = some (.slice A0_2 l0_2.length c0_2) ∧ w'.cell? ⟨gb582,3,none⟩ = some (.int .i64 a0_3) ∧ w'.cell? ⟨gb582,4,none⟩ = some (.int .i64 a0_4) ∧ w'.cell? ⟨gb582,5,none⟩ = some (.int .i64 a0_5) ∧ w'.cell? ⟨gb583,0,none⟩ = some (.float .f64 a1_0) ∧ w'.cell? ⟨gb583,1,none⟩ = some (.bool a1_1) ∧ w'.cell? ⟨gb583,2,none⟩ = some (.slice A1_2 l1_2.length c1_2) ∧ w'.cell? ⟨gb583,3,none⟩ = some (.int .i64 a1_3) ∧ w'.cell? ⟨gb583,4,none⟩ = some (.int .i64 a1_4) ∧ w'.cell? ⟨gb583,5,none⟩ = some (.int .i64 a1_5)) (ds:=[10]) #[false,false,false,false,false,false,false,false,false,false,false,false,false,false,false,false] (by kernel_rfl) rfl rfl ⟨(blk_cell BK582.out 0).trans rfl,(blk_cell BK582.out 1).trans rfl,(blk_cell BK582.out 2).trans rfl,(blk_cell BK582.out 3).trans rfl,(blk_cell BK582.out 4).trans rfl,(blk_cell BK582.out 5).trans rfl,(blk_cell BK583.out 0).trans rfl,(blk_cell BK583.out 1).trans rfl,(blk_cell BK583.out 2).trans rfl,(blk_cell BK583.out 3).trans rfl,(blk_cell BK583.out 4).trans rfl,(blk_cell BK583.out 5).trans rfl⟩ (fun hHeld => ?_);refine with_tabW humuslaw04_RowSame.tab7 humuslaw04_RowSame.bits7 (fun HT_ HW_ => ?_)
                      generalize wc.drew = w58 at HO_595002 BK582 BK583 BK594 HB hHeld ⊢
                      refine take_ (i:=0) (N:=some 53) (v:=?_) (a':=?_) #[true,false,false,false,false,false,false,false,false,false,false,false,false,false,false,false] rfl rfl (take_ofW HT_.out HW_.out (by kernel_rfl)) (fun _ _ _ h => h) (Or.inl ⟨by rfl,?_⟩) hHeld ?_ ?_
                      rotate_left
                      · rintro w' ⟨s0,s1,s2,s3,s4,s5,s6,s7,s8,s9,s10,s11⟩
                        go_simp
                        with_reducible rfl
                      rotate_left
                      · simp only [Act.put,List.setIfInBounds_toArray,List.set_cons_zero,List.set_cons_succ,i64_w,i32_w]
                        rfl
                      refine take_ (i:=1) (N:=some 54) (v:=?_) (a':=?_) #[true,true,false,false,false,false,false,false,false,false,false,false,false,false,false,false] rfl rfl (take_ofW HT_.out HW_.out (by kernel_rfl)) (fun _ _ _ h => h) (Or.inl ⟨by rfl,?_⟩) hHeld ?_ ?_
                      rotate_left
                      · rintro w' ⟨s0,s1,s2,s3,s4,s5,s6,s7,s8,s9,s10,s11⟩
                        go_simp
                        with_reducible rfl
                      rotate_left
                      · simp only [Act.put,List.setIfInBounds_toArray,List.set_cons_zero,List.set_cons_succ,i64_w,i32_w]
                        rfl
                      refine take_ (i:=3) (N:=some 56) (v:=?_) (a':=?_) #[true,true,false,true,false,false,false,false,false,false,false,false,false,false,false,false] rfl rfl (take_ofW HT_.out HW_.out (by kernel_rfl)) (fun _ _ _ h => h) (Or.inl ⟨by rfl,?_⟩) hHeld ?_ ?_
                      rotate_left
                      · rintro w' ⟨s0,s1,s2,s3,s4,s5,s6,s7,s8,s9,s10,s11⟩
                        go_simp
                        with_reducible rfl
                      rotate_left
                      · simp only [Act.put,List.setIfInBounds_toArray,List.set_cons_zero,List.set_cons_succ,i64_w,i32_w]
                        rfl
                      refine take_ (i:=4) (N:=some 57) (v:=?_) (a':=?_) #[true,true,false,true,true,false,false,false,false,false,false,false,false,false,false,false] rfl rfl (take_ofW HT_.out HW_.out (by kernel_rfl)) (fun _ _ _ h => h) (Or.inl ⟨by rfl,?_⟩) hHeld ?_ ?_
                      rotate_left
                      · rintro w' ⟨s0,s1,s2,s3,s4,s5,s6,s7,s8,s9,s10,s11⟩
                        go_simp
                        with_reducible rfl
                      rotate_left
                      · simp only [Act.put,List.setIfInBounds_toArray,List.set_cons_zero,List.set_cons_succ,i64_w,i32_w]
                        rfl
                      refine one_ (i:=2) (N:=some 55) #[true,true,true,true,true,false,false,false,false,false,false,false,false,false,false,false] rfl rfl (one_of HT_.out (by kernel_rfl)) (by decide) (fun K hK => ?_)
                      refine goes_ Try.func43 (by kernel_rfl) rfl #[.agg #[.float .f64 a0_0,.bool a0_1,.slice A0_2 l0_2.length c0_2,.int .i64 a0_3,.int .i64 a0_4,.int .i64 a0_5],.agg #[.float .f64 a1_0,.bool a1_1,.slice A1_2 l1_2.length c1_2,.int .i64 a1_3,.int .i64 a1_4,.int .i64 a1_5]] (by rfl) rfl rfl (by (try simp only [List.map_toArray,List.map_cons,List.map_nil]);first | done | rfl | (simp only [List.length_drop,List.length_take];rfl)) ?_
                      with_reducible refine (row_Same.calls a0_0 a0_1 _ _ l0_2 a0_3 a0_4 a0_5 a1_0 a1_1 _ _ l1_2 a1_3 a1_4 a1_5 t597 _ ?side1 ?side2 ?side3 ?side4 A47.out).mono ?_
                      (case side1 => repeat (first | exact (Kd.C_below HR0_2.out HB.out) | (with_reducible refine Kd.C_alloc ?_ _) | (with_reducible refine Kd.C_drewN ?_ _) | (with_reducible refine Kd.C_drew ?_)))
                      (case side2 => exact HC0_2.out)
                      (case side3 => repeat (first | exact (Kd.C_below HR1_2.out HB.out) | (with_reducible refine Kd.C_alloc ?_ _) | (with_reducible refine Kd.C_drewN ?_ _) | (with_reducible refine Kd.C_drew ?_)))
                      (case side4 => exact HC1_2.out)
                      rintro e w59 ⟨rfl,hb⟩
                      refine ⟨_,rfl,?_⟩
                      have n0_:=Aside0.mk (Kd.R_below (by (with_reducible repeat (first | apply Kd.R_alloc | apply Kd.R_drewN | apply Kd.R_drew));exact HO_595002.out) hb)
                      have n1_:=Aside0.mk (blk_below (g:=gb582) (o:=.cells #[.float .f64 a0_0,.bool a0_1,.slice A0_2 l0_2.length c0_2,.int .i64 a0_3,.int .i64 a0_4,.int .i64 a0_5] 30 (0,0)) (by (with_reducible repeat (first | refine blk_drewN ?_ _ | refine blk_drew ?_ | refine blk_alloc ?_ _));exact BK582.out) hb)
                      have n2_:=Aside0.mk (blk_below (g:=gb583) (o:=.cells #[.float .f64 a1_0,.bool a1_1,.slice A1_2 l1_2.length c1_2,.int .i64 a1_3,.int .i64 a1_4,.int .i64 a1_5] 30 (0,0)) (by (with_reducible repeat (first | refine blk_drewN ?_ _ | refine blk_drew ?_ | refine blk_alloc ?_ _));exact BK583.out) hb)
                      have n3_:=Aside0.mk (blk_below (g:=gb594) (o:=.cells #[.float .f64 t585,.bool t586,.slice Ao25 t587.length co25,.int .i64 t590,.int .i64 t591,.int .i64 t592] 30 (0,0)) (by (with_reducible repeat (first | refine blk_drewN ?_ _ | refine blk_drew ?_ | refine blk_alloc ?_ _));exact BK594.out) hb)
                      have n4_:=Aside0.mk (below_step (by repeat (first | (with_reducible first | exact HB.out | apply below_alloc | apply pw_below_drewN | apply below_drew1 | refine below_set ?_ GE582.out | refine below_set ?_ GE583.out | refine below_set ?_ GE594.out) | exact HB.out)) hb)
                      clear HO_595002
                      clear BK582
                      clear BK583
                      clear BK594
                      clear HB
                      have HO_595002:=n0_
                      have BK582:=n1_
                      have BK583:=n2_
                      have BK594:=n3_
                      have HB:=n4_
                      clear n0_ n1_ n2_ n3_ n4_
                      (try clear hb)
                      (try clear hb2)
                      (try clear hk)
                      (try clear hi)
                      refine hK.out _ _ ⟨(blk_cell BK582.out 0).trans rfl,(blk_cell BK582.out 1).trans rfl,(blk_cell BK582.out 2).trans rfl,(blk_cell BK582.out 3).trans rfl,(blk_cell BK582.out 4).trans rfl,(blk_cell BK582.out 5).trans rfl,(blk_cell BK583.out 0).trans rfl,(blk_cell BK583.out 1).trans rfl,(blk_cell BK583.out 2).trans rfl,(blk_cell BK583.out 3).trans rfl,(blk_cell BK583.out 4).trans rfl,(blk_cell BK583.out 5).trans rfl⟩ (fun hHeld => ?_)
                      clear hK K
                      refine norm_ (a':=?_) ?_ ?_
                      rotate_left
                      · show Act.put _ (some 55) _ = _
                        simp only [Act.put,List.setIfInBounds_toArray,List.set_cons_zero,List.set_cons_succ,i64_w,i32_w]
                        rfl
                      refine one_ (i:=5) (N:=some 58) #[true,true,true,true,true,true,false,false,false,false,false,false,false,false,false,false] rfl rfl (one_of HT_.out (by kernel_rfl)) (by decide) (fun K hK => ?_)
                      refine goes_ Try.func37 (by kernel_rfl) rfl #[.agg #[.float .f64 a0_0,.bool a0_1,.slice A0_2 l0_2.length c0_2,.int .i64 a0_3,.int .i64 a0_4,.int .i64 a0_5],.agg #[.float .f64 a1_0,.bool a1_1,.slice A1_2 l1_2.length c1_2,.int .i64 a1_3,.int .i64 a1_4,.int .i64 a1_5]] (by rfl) rfl rfl (by (try simp only [List.map_toArray,List.map_cons,List.map_nil]);first | done | rfl | (simp only [List.length_drop,List.length_take];rfl)) ?_
                      with_reducible refine (humusref04_Same.calls kj36 a0_0 a0_1 _ _ l0_2 a0_3 a0_4 a0_5 a1_0 a1_1 _ _ l1_2 a1_3 a1_4 a1_5 t598 _ ?side1 ?side2 ?side3 ?side4 A48.out).mono ?_
                      (case side1 => repeat (first | exact (Kd.C_below HR0_2.out HB.out) | (with_reducible refine Kd.C_alloc ?_ _) | (with_reducible refine Kd.C_drewN ?_ _) | (with_reducible refine Kd.C_drew ?_)))
                      (case side2 => exact HC0_2.out)
                      (case side3 => repeat (first | exact (Kd.C_below HR1_2.out HB.out) | (with_reducible refine Kd.C_alloc ?_ _) | (with_reducible refine Kd.C_drewN ?_ _) | (with_reducible refine Kd.C_drew ?_)))
                      (case side4 => exact HC1_2.out)
                      rintro e w60 ⟨rfl,hb⟩
                      refine ⟨_,rfl,?_⟩
                      have n0_:=Aside0.mk (Kd.R_below (by (with_reducible repeat (first | apply Kd.R_alloc | apply Kd.R_drewN | apply Kd.R_drew));exact HO_595002.out) hb)
                      have n1_:=Aside0.mk (blk_below (g:=gb582) (o:=.cells #[.float .f64 a0_0,.bool a0_1,.slice A0_2 l0_2.length c0_2,.int .i64 a0_3,.int .i64 a0_4,.int .i64 a0_5] 30 (0,0)) (by (with_reducible repeat (first | refine blk_drewN ?_ _ | refine blk_drew ?_ | refine blk_alloc ?_ _));exact BK582.out) hb)
                      have n2_:=Aside0.mk (blk_below (g:=gb583) (o:=.cells #[.float .f64 a1_0,.bool a1_1,.slice A1_2 l1_2.length c1_2,.int .i64 a1_3,.int .i64 a1_4,.int .i64 a1_5] 30 (0,0)) (by (with_reducible repeat (first | refine blk_drewN ?_ _ | refine blk_drew ?_ | refine blk_alloc ?_ _));exact BK583.out) hb)
                      have n3_:=Aside0.mk (blk_below (g:=gb594) (o:=.cells #[.float .f64 t585,.bool t586,.slice Ao25 t587.length co25,.int .i64 t590,.int .i64 t591,.int .i64 t592] 30 (0,0)) (by (with_reducible repeat (first | refine blk_drewN ?_ _ | refine blk_drew ?_ | refine blk_alloc ?_ _));exact BK594.out) hb)
                      have n4_:=Aside0.mk (below_step (by repeat (first | (with_reducible first | exact HB.out | apply below_alloc | apply pw_below_drewN | apply below_drew1 | refine below_set ?_ GE582.out | refine below_set ?_ GE583.out | refine below_set ?_ GE594.out) | exact HB.out)) hb)
                      clear HO_595002
                      clear BK582
                      clear BK583
                      clear BK594
                      clear HB
                      have HO_595002:=n0_
                      have BK582:=n1_
                      have BK583:=n2_
                      have BK594:=n3_
                      have HB:=n4_
                      clear n0_ n1_ n2_ n3_ n4_
                      (try clear hb)
                      (try clear hb2)
                      (try clear hk)
                      (try clear hi)
                      refine hK.out _ _ ⟨(blk_cell BK582.out 0).trans rfl,(blk_cell BK582.out 1).trans rfl,(blk_cell BK582.out 2).trans rfl,(blk_cell BK582.out 3).trans rfl,(blk_cell BK582.out 4).trans rfl,(blk_cell BK582.out 5).trans rfl,(blk_cell BK583.out 0).trans rfl,(blk_cell BK583.out 1).trans rfl,(blk_cell BK583.out 2).trans rfl,(blk_cell BK583.out 3).trans rfl,(blk_cell BK583.out 4).trans rfl,(blk_cell BK583.out 5).trans rfl⟩ (fun hHeld => ?_)
                      clear hK K
                      refine norm_ (a':=?_) ?_ ?_
                      rotate_left
                      · show Act.put _ (some 58) _ = _
                        simp only [Act.put,List.setIfInBounds_toArray,List.set_cons_zero,List.set_cons_succ,i64_w,i32_w]
                        rfl
                      refine pure_ (i:=6) (N:=some 59) (v:=?_) (a':=?_) #[true,true,true,true,true,true,true,false,false,false,false,false,false,false,false,false] rfl rfl (any_of HT_.out (by kernel_rfl)) (fun _ _ _ h => h) (Or.inl ⟨by rfl,?_⟩) ?_ ?_
                      rotate_left
                      · intro w'
                        go_simp
                        with_reducible rfl
                      rotate_left
                      · simp only [Act.put,List.setIfInBounds_toArray,List.set_cons_zero,List.set_cons_succ,i64_w,i32_w]
                        rfl
                      refine pure_ (i:=7) (N:=some 60) (v:=?_) (a':=?_) #[true,true,true,true,true,true,true,true,false,false,false,false,false,false,false,false] rfl rfl (any_of HT_.out (by kernel_rfl)) (fun _ _ _ h => h) (Or.inl ⟨by rfl,?_⟩) ?_ ?_
                      rotate_left
                      · intro w'
                        go_simp
                        with_reducible rfl
                      rotate_left
                      · simp only [Act.put,List.setIfInBounds_toArray,List.set_cons_zero,List.set_cons_succ,i64_w,i32_w]
                        rfl
                      refine take_ (i:=8) (N:=some 61) (v:=?_) (a':=?_) #[true,true,true,true,true,true,true,true,true,false,false,false,false,false,false,false] rfl rfl (take_ofW HT_.out HW_.out (by kernel_rfl)) (fun _ _ _ h => h) (Or.inl ⟨by rfl,?_⟩) hHeld ?_ ?_
                      rotate_left
                      · rintro w' ⟨s0,s1,s2,s3,s4,s5,s6,s7,s8,s9,s10,s11⟩
                        go_simp
                        with_reducible rfl
                      rotate_left
                      · simp only [Act.put,List.setIfInBounds_toArray,List.set_cons_zero,List.set_cons_succ,i64_w,i32_w]
                        rfl
                      refine take_ (i:=9) (N:=some 62) (v:=?_) (a':=?_) #[true,true,true,true,true,true,true,true,true,true,false,false,false,false,false,false] rfl rfl (take_ofW HT_.out HW_.out (by kernel_rfl)) (fun _ _ _ h => h) (Or.inl ⟨by rfl,?_⟩) hHeld ?_ ?_
                      rotate_left
                      · rintro w' ⟨s0,s1,s2,s3,s4,s5,s6,s7,s8,s9,s10,s11⟩
                        go_simp
                        with_reducible rfl
                      rotate_left
                      · simp only [Act.put,List.setIfInBounds_toArray,List.set_cons_zero,List.set_cons_succ,i64_w,i32_w]
                        rfl
                      refine last_ (i:=10) (N:=some 63) #[true,true,true,true,true,true,true,true,true,true,true,false,false,false,false,false] rfl rfl (one_of HT_.out (by kernel_rfl)) (by decide) (fun K hK => ?_)
                      refine goes_ Try.func43 (by kernel_rfl) rfl #[.agg #[.float .f64 a0_0,.bool a0_1,.slice A0_2 l0_2.length c0_2,.int .i64 a0_3,.int .i64 a0_4,.int .i64 a0_5],.agg #[.float .f64 a0_0,.bool a0_1,.slice A0_2 l0_2.length c0_2,.int .i64 a0_3,.int .i64 a0_4,.int .i64 a0_5]] (by rfl) rfl rfl (by (try simp only [List.map_toArray,List.map_cons,List.map_nil]);first | done | rfl | (simp only [List.length_drop,List.length_take];rfl)) ?_
                      with_reducible refine (row_Same.calls a0_0 a0_1 _ _ l0_2 a0_3 a0_4 a0_5 a0_0 a0_1 _ _ l0_2 a0_3 a0_4 a0_5 false _ ?side1 ?side2 ?side3 ?side4 A50.out).mono ?_
                      (case side1 => repeat (first | exact (Kd.C_below HR0_2.out HB.out) | (with_reducible refine Kd.C_alloc ?_ _) | (with_reducible refine Kd.C_drewN ?_ _) | (with_reducible refine Kd.C_drew ?_)))
                      (case side2 => exact HC0_2.out)
                      (case side3 => repeat (first | exact (Kd.C_below HR0_2.out HB.out) | (with_reducible refine Kd.C_alloc ?_ _) | (with_reducible refine Kd.C_drewN ?_ _) | (with_reducible refine Kd.C_drew ?_)))
                      (case side4 => exact HC0_2.out)
                      rintro e w61 ⟨rfl,hb⟩
                      refine ⟨_,rfl,?_⟩
                      have n0_:=Aside0.mk (Kd.R_below (by (with_reducible repeat (first | apply Kd.R_alloc | apply Kd.R_drewN | apply Kd.R_drew));exact HO_595002.out) hb)
                      have n1_:=Aside0.mk (blk_below (g:=gb582) (o:=.cells #[.float .f64 a0_0,.bool a0_1,.slice A0_2 l0_2.length c0_2,.int .i64 a0_3,.int .i64 a0_4,.int .i64 a0_5] 30 (0,0)) (by (with_reducible repeat (first | refine blk_drewN ?_ _ | refine blk_drew ?_ | refine blk_alloc ?_ _));exact BK582.out) hb)
                      have n2_:=Aside0.mk (blk_below (g:=gb583) (o:=.cells #[.float .f64 a1_0,.bool a1_1,.slice A1_2 l1_2.length c1_2,.int .i64 a1_3,.int .i64 a1_4,.int .i64 a1_5] 30 (0,0)) (by (with_reducible repeat (first | refine blk_drewN ?_ _ | refine blk_drew ?_ | refine blk_alloc ?_ _));exact BK583.out) hb)
                      have n3_:=Aside0.mk (blk_below (g:=gb594) (o:=.cells #[.float .f64 t585,.bool t586,.slice Ao25 t587.length co25,.int .i64 t590,.int .i64 t591,.int .i64 t592] 30 (0,0)) (by (with_reducible repeat (first | refine blk_drewN ?_ _ | refine blk_drew ?_ | refine blk_alloc ?_ _));exact BK594.out) hb)
                      have n4_:=Aside0.mk (below_step (by repeat (first | (with_reducible first | exact HB.out | apply below_alloc | apply pw_below_drewN | apply below_drew1 | refine below_set ?_ GE582.out | refine below_set ?_ GE583.out | refine below_set ?_ GE594.out) | exact HB.out)) hb)
                      clear HO_595002
                      clear BK582
                      clear BK583
                      clear BK594
                      clear HB
                      have HO_595002:=n0_
                      have BK582:=n1_
                      have BK583:=n2_
                      have BK594:=n3_
                      have HB:=n4_
                      clear n0_ n1_ n2_ n3_ n4_
                      (try clear hb)
                      (try clear hb2)
                      (try clear hk)
                      (try clear hi)
                      refine hK.out _ _ ?_
                      clear hK K
                      refine norm_ (a':=?_) ?_ ?_
                      rotate_left
                      · show Act.put _ (some 63) _ = _
                        simp only [Act.put,List.setIfInBounds_toArray,List.set_cons_zero,List.set_cons_succ,i64_w,i32_w]
                        rfl
                      refine pure_ (i:=11) (N:=some 64) (v:=?_) (a':=?_) #[true,true,true,true,true,true,true,true,true,true,true,true,false,false,false,false] rfl rfl (any_of HT_.out (by kernel_rfl)) (fun _ _ _ h => h) (Or.inl ⟨by rfl,?_⟩) ?_ ?_
                      rotate_left
                      · intro w'
                        go_simp
                        with_reducible rfl
                      rotate_left
                      · simp only [Act.put,List.setIfInBounds_toArray,List.set_cons_zero,List.set_cons_succ,i64_w,i32_w]
                        rfl
                      refine pure_ (i:=12) (N:=some 65) (v:=?_) (a':=?_) #[true,true,true,true,true,true,true,true,true,true,true,true,true,false,false,false] rfl rfl (any_of HT_.out (by kernel_rfl)) (fun _ _ _ h => h) (Or.inl ⟨by rfl,?_⟩) ?_ ?_
                      rotate_left
                      · intro w'
                        go_simp
                        with_reducible rfl
                      rotate_left
                      · simp only [Act.put,List.setIfInBounds_toArray,List.set_cons_zero,List.set_cons_succ,i64_w,i32_w]
                        rfl
                      refine pure_ (i:=13) (N:=some 66) (v:=undef) (a':=?_) #[true,true,true,true,true,true,true,true,true,true,true,true,true,true,false,false] rfl rfl (any_of HT_.out (by kernel_rfl)) (fun _ _ _ h => h) (Or.inr ⟨by rfl,rfl⟩) ?_ ?_
                      rotate_left
                      · simp only [Act.put,List.setIfInBounds_toArray,List.set_cons_zero,List.set_cons_succ,i64_w,i32_w]
                        rfl
                      refine pure_ (i:=14) (N:=some 67) (v:=?_) (a':=?_) #[true,true,true,true,true,true,true,true,true,true,true,true,true,true,true,false] rfl rfl (any_of HT_.out (by kernel_rfl)) (fun _ _ _ h => h) (Or.inl ⟨by rfl,?_⟩) ?_ ?_
                      rotate_left
                      · intro w'
                        go_simp
                        with_reducible rfl
                      rotate_left
                      · simp only [Act.put,List.setIfInBounds_toArray,List.set_cons_zero,List.set_cons_succ,i64_w,i32_w]
                        rfl
                      refine pure_ (i:=15) (N:=some 6) (v:=?_) (a':=?_) #[true,true,true,true,true,true,true,true,true,true,true,true,true,true,true,true] rfl rfl (any_of HT_.out (by kernel_rfl)) (fun _ _ _ h => h) (Or.inl ⟨by rfl,?_⟩) ?_ ?_
                      rotate_left
                      · intro w'
                        go_simp
                        with_reducible rfl
                      rotate_left
                      · simp only [Act.put,List.setIfInBounds_toArray,List.set_cons_zero,List.set_cons_succ,i64_w,i32_w]
                        rfl
                      refine done_ (done_of HT_.out (by kernel_rfl)) ?_
                      try go_wp2
                      go_ret
                      exact ⟨by first | rfl | (simp [errW_none,errW_some] <;> rfl) | (simp [*,errW_none,errW_some] <;> rfl),by repeat (first | (with_reducible first | exact HB.out | apply below_alloc | apply pw_below_drewN | apply below_drew1 | refine below_set ?_ GE582.out | refine below_set ?_ GE583.out | refine below_set ?_ GE594.out) | exact HB.out)⟩
                  · rw [if_neg c49] at H
                    have c49b0 : (t597 == t598) = false:=by simpa using c49
                    (try (have c49b1 : decide (t597 = t598) = false:=by simpa using c49))
                    (try (have c49b2 : (t597 == t598) = false:=by simpa using c49))
                    (try (have c49b3 : ¬ (t597 = t598):=by simpa using c49))
                    clear c49
                    obtain rfl:=Option.some.inj H
                    try go_wp2
                    have n0_:=Aside0.mk (Kd.R_drew HO_595002.out)
                    have n1_:=Aside0.mk (blk_drew BK582.out)
                    have n2_:=Aside0.mk (blk_drew BK583.out)
                    have n3_:=Aside0.mk (blk_drew BK594.out)
                    have n4_:=Aside0.mk (below_drew1 HB.out)
                    clear HO_595002
                    clear BK582
                    clear BK583
                    clear BK594
                    clear HB
                    have HO_595002:=n0_
                    have BK582:=n1_
                    have BK583:=n2_
                    have BK594:=n3_
                    have HB:=n4_
                    clear n0_ n1_ n2_ n3_ n4_
                    refine start_ (n:=16) (S:=fun w' => w'.cell? ⟨gb582,0,none⟩ = some (.float .f64 a0_0) ∧ w'.cell? ⟨gb582,1,none⟩ = some (.bool a0_1) ∧ w'.cell? ⟨gb582,2,none⟩ = some (.slice A0_2 l0_2.length c0_2) ∧ w'.cell? ⟨gb582,3,none⟩ = some (.int .i64 a0_3) ∧ w'.cell? ⟨gb582,4,none⟩ = some (.int .i64 a0_4) ∧ w'.cell? ⟨gb582,5,none⟩ = some (.int .i64 a0_5) ∧ w'.cell? ⟨gb583,0,none⟩ = some (.float .f64 a1_0) ∧ w'.cell? ⟨gb583,1,none⟩ = some (.bool a1_1) ∧ w'.cell? ⟨gb583,2,none⟩ = some (.slice A1_2 l1_2.length c1_2) ∧ w'.cell? ⟨gb583,3,none⟩ = some (.int .i64 a1_3) ∧ w'.cell? ⟨gb583,4,none⟩ = some (.int .i64 a1_4) ∧ w'.cell? ⟨gb583,5,none⟩ = some (.int .i64 a1_5)) (ds:=[5]) #[false,false,false,false,false,false,false,false,false,false,false,false,false,false,false,false] (by kernel_rfl) rfl rfl ⟨(blk_cell BK582.out 0).trans rfl,(blk_cell BK582.out 1).trans rfl,(blk_cell BK582.out 2).trans rfl,(blk_cell BK582.out 3).trans rfl,(blk_cell BK582.out 4).trans rfl,(blk_cell BK582.out 5).trans rfl,(blk_cell BK583.out 0).trans rfl,(blk_cell BK583.out 1).trans rfl,(blk_cell BK583.out 2).trans rfl,(blk_cell BK583.out 3).trans rfl,(blk_cell BK583.out 4).trans rfl,(blk_cell BK583.out 5).trans rfl⟩ (fun hHeld => ?_);refine with_tabW humuslaw04_RowSame.tab7 humuslaw04_RowSame.bits7 (fun HT_ HW_ => ?_)
                    generalize wc.drew = w62 at HO_595002 BK582 BK583 BK594 HB hHeld ⊢
                    refine take_ (i:=0) (N:=some 53) (v:=?_) (a':=?_) #[true,false,false,false,false,false,false,false,false,false,false,false,false,false,false,false] rfl rfl (take_ofW HT_.out HW_.out (by kernel_rfl)) (fun _ _ _ h => h) (Or.inl ⟨by rfl,?_⟩) hHeld ?_ ?_
                    rotate_left
                    · rintro w' ⟨s0,s1,s2,s3,s4,s5,s6,s7,s8,s9,s10,s11⟩
                      go_simp
                      with_reducible rfl
                    rotate_left
                    · simp only [Act.put,List.setIfInBounds_toArray,List.set_cons_zero,List.set_cons_succ,i64_w,i32_w]
                      rfl
                    refine take_ (i:=1) (N:=some 54) (v:=?_) (a':=?_) #[true,true,false,false,false,false,false,false,false,false,false,false,false,false,false,false] rfl rfl (take_ofW HT_.out HW_.out (by kernel_rfl)) (fun _ _ _ h => h) (Or.inl ⟨by rfl,?_⟩) hHeld ?_ ?_
                    rotate_left
                    · rintro w' ⟨s0,s1,s2,s3,s4,s5,s6,s7,s8,s9,s10,s11⟩
                      go_simp
                      with_reducible rfl
                    rotate_left
                    · simp only [Act.put,List.setIfInBounds_toArray,List.set_cons_zero,List.set_cons_succ,i64_w,i32_w]
                      rfl
                    refine take_ (i:=3) (N:=some 56) (v:=?_) (a':=?_) #[true,true,false,true,false,false,false,false,false,false,false,false,false,false,false,false] rfl rfl (take_ofW HT_.out HW_.out (by kernel_rfl)) (fun _ _ _ h => h) (Or.inl ⟨by rfl,?_⟩) hHeld ?_ ?_
                    rotate_left
                    · rintro w' ⟨s0,s1,s2,s3,s4,s5,s6,s7,s8,s9,s10,s11⟩
                      go_simp
                      with_reducible rfl
                    rotate_left
                    · simp only [Act.put,List.setIfInBounds_toArray,List.set_cons_zero,List.set_cons_succ,i64_w,i32_w]
                      rfl
                    refine take_ (i:=4) (N:=some 57) (v:=?_) (a':=?_) #[true,true,false,true,true,false,false,false,false,false,false,false,false,false,false,false] rfl rfl (take_ofW HT_.out HW_.out (by kernel_rfl)) (fun _ _ _ h => h) (Or.inl ⟨by rfl,?_⟩) hHeld ?_ ?_
                    rotate_left
                    · rintro w' ⟨s0,s1,s2,s3,s4,s5,s6,s7,s8,s9,s10,s11⟩
                      go_simp
                      with_reducible rfl
                    rotate_left
                    · simp only [Act.put,List.setIfInBounds_toArray,List.set_cons_zero,List.set_cons_succ,i64_w,i32_w]
                      rfl
                    refine one_ (i:=2) (N:=some 55) #[true,true,true,true,true,false,false,false,false,false,false,false,false,false,false,false] rfl rfl (one_of HT_.out (by kernel_rfl)) (by decide) (fun K hK => ?_)
                    refine goes_ Try.func43 (by kernel_rfl) rfl #[.agg #[.float .f64 a0_0,.bool a0_1,.slice A0_2 l0_2.length c0_2,.int .i64 a0_3,.int .i64 a0_4,.int .i64 a0_5],.agg #[.float .f64 a1_0,.bool a1_1,.slice A1_2 l1_2.length c1_2,.int .i64 a1_3,.int .i64 a1_4,.int .i64 a1_5]] (by rfl) rfl rfl (by (try simp only [List.map_toArray,List.map_cons,List.map_nil]);first | done | rfl | (simp only [List.length_drop,List.length_take];rfl)) ?_
                    with_reducible refine (row_Same.calls a0_0 a0_1 _ _ l0_2 a0_3 a0_4 a0_5 a1_0 a1_1 _ _ l1_2 a1_3 a1_4 a1_5 t597 _ ?side1 ?side2 ?side3 ?side4 A47.out).mono ?_
                    (case side1 => repeat (first | exact (Kd.C_below HR0_2.out HB.out) | (with_reducible refine Kd.C_alloc ?_ _) | (with_reducible refine Kd.C_drewN ?_ _) | (with_reducible refine Kd.C_drew ?_)))
                    (case side2 => exact HC0_2.out)
                    (case side3 => repeat (first | exact (Kd.C_below HR1_2.out HB.out) | (with_reducible refine Kd.C_alloc ?_ _) | (with_reducible refine Kd.C_drewN ?_ _) | (with_reducible refine Kd.C_drew ?_)))
                    (case side4 => exact HC1_2.out)
                    rintro e w63 ⟨rfl,hb⟩
                    refine ⟨_,rfl,?_⟩
                    have n0_:=Aside0.mk (Kd.R_below (by (with_reducible repeat (first | apply Kd.R_alloc | apply Kd.R_drewN | apply Kd.R_drew));exact HO_595002.out) hb)
                    have n1_:=Aside0.mk (blk_below (g:=gb582) (o:=.cells #[.float .f64 a0_0,.bool a0_1,.slice A0_2 l0_2.length c0_2,.int .i64 a0_3,.int .i64 a0_4,.int .i64 a0_5] 30 (0,0)) (by (with_reducible repeat (first | refine blk_drewN ?_ _ | refine blk_drew ?_ | refine blk_alloc ?_ _));exact BK582.out) hb)
                    have n2_:=Aside0.mk (blk_below (g:=gb583) (o:=.cells #[.float .f64 a1_0,.bool a1_1,.slice A1_2 l1_2.length c1_2,.int .i64 a1_3,.int .i64 a1_4,.int .i64 a1_5] 30 (0,0)) (by (with_reducible repeat (first | refine blk_drewN ?_ _ | refine blk_drew ?_ | refine blk_alloc ?_ _));exact BK583.out) hb)
                    have n3_:=Aside0.mk (blk_below (g:=gb594) (o:=.cells #[.float .f64 t585,.bool t586,.slice Ao25 t587.length co25,.int .i64 t590,.int .i64 t591,.int .i64 t592] 30 (0,0)) (by (with_reducible repeat (first | refine blk_drewN ?_ _ | refine blk_drew ?_ | refine blk_alloc ?_ _));exact BK594.out) hb)
                    have n4_:=Aside0.mk (below_step (by repeat (first | (with_reducible first | exact HB.out | apply below_alloc | apply pw_below_drewN | apply below_drew1 | refine below_set ?_ GE582.out | refine below_set ?_ GE583.out | refine below_set ?_ GE594.out) | exact HB.out)) hb)
                    clear HO_595002
                    clear BK582
                    clear BK583
                    clear BK594
                    clear HB
                    have HO_595002:=n0_
                    have BK582:=n1_
                    have BK583:=n2_
                    have BK594:=n3_
                    have HB:=n4_
                    clear n0_ n1_ n2_ n3_ n4_
                    (try clear hb)
                    (try clear hb2)
                    (try clear hk)
                    (try clear hi)
                    refine hK.out _ _ ⟨(blk_cell BK582.out 0).trans rfl,(blk_cell BK582.out 1).trans rfl,(blk_cell BK582.out 2).trans rfl,(blk_cell BK582.out 3).trans rfl,(blk_cell BK582.out 4).trans rfl,(blk_cell BK582.out 5).trans rfl,(blk_cell BK583.out 0).trans rfl,(blk_cell BK583.out 1).trans rfl,(blk_cell BK583.out 2).trans rfl,(blk_cell BK583.out 3).trans rfl,(blk_cell BK583.out 4).trans rfl,(blk_cell BK583.out 5).trans rfl⟩ (fun hHeld => ?_)
                    clear hK K
                    refine norm_ (a':=?_) ?_ ?_
                    rotate_left
                    · show Act.put _ (some 55) _ = _
                      simp only [Act.put,List.setIfInBounds_toArray,List.set_cons_zero,List.set_cons_succ,i64_w,i32_w]
                      rfl
                    refine last_ (i:=5) (N:=some 58) #[true,true,true,true,true,true,false,false,false,false,false,false,false,false,false,false] rfl rfl (one_of HT_.out (by kernel_rfl)) (by decide) (fun K hK => ?_)
                    refine goes_ Try.func37 (by kernel_rfl) rfl #[.agg #[.float .f64 a0_0,.bool a0_1,.slice A0_2 l0_2.length c0_2,.int .i64 a0_3,.int .i64 a0_4,.int .i64 a0_5],.agg #[.float .f64 a1_0,.bool a1_1,.slice A1_2 l1_2.length c1_2,.int .i64 a1_3,.int .i64 a1_4,.int .i64 a1_5]] (by rfl) rfl rfl (by (try simp only [List.map_toArray,List.map_cons,List.map_nil]);first | done | rfl | (simp only [List.length_drop,List.length_take];rfl)) ?_
                    with_reducible refine (humusref04_Same.calls kj36 a0_0 a0_1 _ _ l0_2 a0_3 a0_4 a0_5 a1_0 a1_1 _ _ l1_2 a1_3 a1_4 a1_5 t598 _ ?side1 ?side2 ?side3 ?side4 A48.out).mono ?_
                    (case side1 => repeat (first | exact (Kd.C_below HR0_2.out HB.out) | (with_reducible refine Kd.C_alloc ?_ _) | (with_reducible refine Kd.C_drewN ?_ _) | (with_reducible refine Kd.C_drew ?_)))
                    (case side2 => exact HC0_2.out)
                    (case side3 => repeat (first | exact (Kd.C_below HR1_2.out HB.out) | (with_reducible refine Kd.C_alloc ?_ _) | (with_reducible refine Kd.C_drewN ?_ _) | (with_reducible refine Kd.C_drew ?_)))
                    (case side4 => exact HC1_2.out)
                    rintro e w64 ⟨rfl,hb⟩
                    refine ⟨_,rfl,?_⟩
                    have n0_:=Aside0.mk (Kd.R_below (by (with_reducible repeat (first | apply Kd.R_alloc | apply Kd.R_drewN | apply Kd.R_drew));exact HO_595002.out) hb)
                    have n1_:=Aside0.mk (blk_below (g:=gb582) (o:=.cells #[.float .f64 a0_0,.bool a0_1,.slice A0_2 l0_2.length c0_2,.int .i64 a0_3,.int .i64 a0_4,.int .i64 a0_5] 30 (0,0)) (by (with_reducible repeat (first | refine blk_drewN ?_ _ | refine blk_drew ?_ | refine blk_alloc ?_ _));exact BK582.out) hb)
                    have n2_:=Aside0.mk (blk_below (g:=gb583) (o:=.cells #[.float .f64 a1_0,.bool a1_1,.slice A1_2 l1_2.length c1_2,.int .i64 a1_3,.int .i64 a1_4,.int .i64 a1_5] 30 (0,0)) (by (with_reducible repeat (first | refine blk_drewN ?_ _ | refine blk_drew ?_ | refine blk_alloc ?_ _));exact BK583.out) hb)
                    have n3_:=Aside0.mk (blk_below (g:=gb594) (o:=.cells #[.float .f64 t585,.bool t586,.slice Ao25 t587.length co25,.int .i64 t590,.int .i64 t591,.int .i64 t592] 30 (0,0)) (by (with_reducible repeat (first | refine blk_drewN ?_ _ | refine blk_drew ?_ | refine blk_alloc ?_ _));exact BK594.out) hb)
                    have n4_:=Aside0.mk (below_step (by repeat (first | (with_reducible first | exact HB.out | apply below_alloc | apply pw_below_drewN | apply below_drew1 | refine below_set ?_ GE582.out | refine below_set ?_ GE583.out | refine below_set ?_ GE594.out) | exact HB.out)) hb)
                    clear HO_595002
                    clear BK582
                    clear BK583
                    clear BK594
                    clear HB
                    have HO_595002:=n0_
                    have BK582:=n1_
                    have BK583:=n2_
                    have BK594:=n3_
                    have HB:=n4_
                    clear n0_ n1_ n2_ n3_ n4_
                    (try clear hb)
                    (try clear hb2)
                    (try clear hk)
                    (try clear hi)
                    refine hK.out _ _ ?_
                    clear hK K
                    refine norm_ (a':=?_) ?_ ?_
                    rotate_left
                    · show Act.put _ (some 58) _ = _
                      simp only [Act.put,List.setIfInBounds_toArray,List.set_cons_zero,List.set_cons_succ,i64_w,i32_w]
                      rfl
                    refine pure_ (i:=6) (N:=some 59) (v:=?_) (a':=?_) #[true,true,true,true,true,true,true,false,false,false,false,false,false,false,false,false] rfl rfl (any_of HT_.out (by kernel_rfl)) (fun _ _ _ h => h) (Or.inl ⟨by rfl,?_⟩) ?_ ?_
                    rotate_left
                    · intro w'
                      go_simp
                      with_reducible rfl
                    rotate_left
                    · simp only [Act.put,List.setIfInBounds_toArray,List.set_cons_zero,List.set_cons_succ,i64_w,i32_w]
                      rfl
                    refine pure_ (i:=7) (N:=some 60) (v:=?_) (a':=?_) #[true,true,true,true,true,true,true,true,false,false,false,false,false,false,false,false] rfl rfl (any_of HT_.out (by kernel_rfl)) (fun _ _ _ h => h) (Or.inl ⟨by rfl,?_⟩) ?_ ?_
                    rotate_left
                    · intro w'
                      go_simp
                      with_reducible rfl
                    rotate_left
                    · simp only [Act.put,List.setIfInBounds_toArray,List.set_cons_zero,List.set_cons_succ,i64_w,i32_w]
                      rfl
                    refine pure_ (i:=8) (N:=some 61) (v:=undef) (a':=?_) #[true,true,true,true,true,true,true,true,true,false,false,false,false,false,false,false] rfl rfl (any_of HT_.out (by kernel_rfl)) (fun _ _ _ h => h) (Or.inr ⟨by rfl,rfl⟩) ?_ ?_
                    rotate_left
                    · simp only [Act.put,List.setIfInBounds_toArray,List.set_cons_zero,List.set_cons_succ,i64_w,i32_w]
                      rfl
                    refine pure_ (i:=9) (N:=some 62) (v:=undef) (a':=?_) #[true,true,true,true,true,true,true,true,true,true,false,false,false,false,false,false] rfl rfl (any_of HT_.out (by kernel_rfl)) (fun _ _ _ h => h) (Or.inr ⟨by rfl,rfl⟩) ?_ ?_
                    rotate_left
                    · simp only [Act.put,List.setIfInBounds_toArray,List.set_cons_zero,List.set_cons_succ,i64_w,i32_w]
                      rfl
                    refine pure_ (i:=10) (N:=some 63) (v:=undef) (a':=?_) #[true,true,true,true,true,true,true,true,true,true,true,false,false,false,false,false] rfl rfl (any_of HT_.out (by kernel_rfl)) (fun _ _ _ h => h) (Or.inr ⟨by rfl,rfl⟩) ?_ ?_
                    rotate_left
                    · simp only [Act.put,List.setIfInBounds_toArray,List.set_cons_zero,List.set_cons_succ,i64_w,i32_w]
                      rfl
                    refine pure_ (i:=11) (N:=some 64) (v:=?_) (a':=?_) #[true,true,true,true,true,true,true,true,true,true,true,true,false,false,false,false] rfl rfl (any_of HT_.out (by kernel_rfl)) (fun _ _ _ h => h) (Or.inl ⟨by rfl,?_⟩) ?_ ?_
                    rotate_left
                    · intro w'
                      go_simp
                      with_reducible rfl
                    rotate_left
                    · simp only [Act.put,List.setIfInBounds_toArray,List.set_cons_zero,List.set_cons_succ,i64_w,i32_w]
                      rfl
                    refine pure_ (i:=12) (N:=some 65) (v:=?_) (a':=?_) #[true,true,true,true,true,true,true,true,true,true,true,true,true,false,false,false] rfl rfl (any_of HT_.out (by kernel_rfl)) (fun _ _ _ h => h) (Or.inl ⟨by rfl,?_⟩) ?_ ?_
                    rotate_left
                    · intro w'
                      go_simp
                      with_reducible rfl
                    rotate_left
                    · simp only [Act.put,List.setIfInBounds_toArray,List.set_cons_zero,List.set_cons_succ,i64_w,i32_w]
                      rfl
                    refine pure_ (i:=13) (N:=some 66) (v:=undef) (a':=?_) #[true,true,true,true,true,true,true,true,true,true,true,true,true,true,false,false] rfl rfl (any_of HT_.out (by kernel_rfl)) (fun _ _ _ h => h) (Or.inr ⟨by rfl,rfl⟩) ?_ ?_
                    rotate_left
                    · simp only [Act.put,List.setIfInBounds_toArray,List.set_cons_zero,List.set_cons_succ,i64_w,i32_w]
                      rfl
                    refine pure_ (i:=14) (N:=some 67) (v:=?_) (a':=?_) #[true,true,true,true,true,true,true,true,true,true,true,true,true,true,true,false] rfl rfl (any_of HT_.out (by kernel_rfl)) (fun _ _ _ h => h) (Or.inl ⟨by rfl,?_⟩) ?_ ?_
                    rotate_left
                    · intro w'
                      go_simp
                      with_reducible rfl
                    rotate_left
                    · simp only [Act.put,List.setIfInBounds_toArray,List.set_cons_zero,List.set_cons_succ,i64_w,i32_w]
                      rfl
                    refine pure_ (i:=15) (N:=some 6) (v:=?_) (a':=?_) #[true,true,true,true,true,true,true,true,true,true,true,true,true,true,true,true] rfl rfl (any_of HT_.out (by kernel_rfl)) (fun _ _ _ h => h) (Or.inl ⟨by rfl,?_⟩) ?_ ?_
                    rotate_left
                    · intro w'
                      go_simp
                      with_reducible rfl
                    rotate_left
                    · simp only [Act.put,List.setIfInBounds_toArray,List.set_cons_zero,List.set_cons_succ,i64_w,i32_w]
                      rfl
                    refine done_ (done_of HT_.out (by kernel_rfl)) ?_
                    try go_wp2
                    go_ret
                    exact ⟨by first | rfl | (simp [errW_none,errW_some] <;> rfl) | (simp [*,errW_none,errW_some] <;> rfl),by repeat (first | (with_reducible first | exact HB.out | apply below_alloc | apply pw_below_drewN | apply below_drew1 | refine below_set ?_ GE582.out | refine below_set ?_ GE583.out | refine below_set ?_ GE594.out) | exact HB.out)⟩
end Go.Proofs.Ytdcllbhkjcdnoaa.P
set_option linter.unusedVariables false
namespace Go.Proofs.Ytdcllbhkjcdnoaa.P
open Go.RowKit Go.Proofs.Ytdcllbhkjcdnoaa Go.Proofs.Ytdcllbhkjcdnoaa.Mem Go.Proofs.Ytdcllbhkjcdnoaa.Pac Go.Proofs.YtdcllbhkjcdnoaaW.PrintWords Go.Proofs.YtdcllbhkjcdnoaaW.PrintLast
theorem rowSame_j2 {k : Nat} (hk : 200 ≤ k) {ke : Nat} {de : Bool} {co : List Nat} {wr ce no : Int} {ke' : Nat} {de' : Bool} {co' : List Nat} {wr' ce' no' : Int} (hl : co.length ≤ 100) : humuslaw04_RowSame.j2 k false ke de co wr ce no ke' de' co' wr' ce' no' = some true := by
  obtain ⟨k, rfl⟩ : ∃ m, k = m + 1 := ⟨k - 1, by omega⟩
  simp only [humuslaw04_RowSame.j2]
  rw [if_neg (by decide), row_Same_ev (by omega), Same04_ev (by omega) (by omega), row_Same_ev (by omega), sameRow_self, awake04_ev (by omega)]
  simp only [Option.bind_some, if_true, beq_self_eq_true]
theorem rowSame_ev {ke : Nat} {de : Bool} {co : List Nat} {wr ce no : Int} {ke' : Nat} {de' : Bool} {co' : List Nat} {wr' ce' no' : Int} (x : Nat) (hx : ke < 18446744073709551616) : humuslaw04_RowSame.f 300 ke de co wr ce no ke' de' co' wr' ce' no' x = some true := by
  have hT : ∀ z : Bool, z = true → humuslaw04_RowSame.j0 300 x z ke de co wr ce no ke' de' co' wr' ce' no' = some true := by
    intro z hz
    subst hz
    rw [show (300 : Nat) = 299 + 1 from rfl]
    simp only [humuslaw04_RowSame.j0]
    rw [if_pos trivial, awake04_ev (by omega)]
    simp only [Option.bind_some]
  unfold humuslaw04_RowSame.f
  by_cases hl : co.length ≤ 100
  rotate_left
  · rw [if_pos (by omega)]; exact hT _ rfl
  rw [if_neg (by omega)]
  by_cases hl' : co'.length ≤ 100
  rotate_left
  · exact hT _ (decide_eq_true (by omega))
  rw [decide_eq_false (by omega), show (300 : Nat) = 299 + 1 from rfl]
  simp only [humuslaw04_RowSame.j0]
  have hP := row_Plus_ev (k := 299) (by omega) (ke := ke) (de := de) (co := co) (wr := wr) (ce := ce) (no := no) x (by omega)
  rw [if_neg (by decide), May04_ev (by omega) hx (by omega)]
  have hJ := rowSame_j2 (k := 298) (by omega) (ke := ke) (de := de) (co := co) (wr := wr) (ce := ce) (no := no) (ke' := ke') (de' := de') (co' := co') (wr' := wr') (ce' := ce') (no' := no') hl
  by_cases hm : mayRow ke de co wr ce no = true
  · by_cases hc : co = []
    · rw [if_neg (fun h => h.2 hc)] at hP
      rw [hP, hm, show (299 : Nat) = 298 + 1 from rfl]
      simp only [Option.bind_some, humuslaw04_RowSame.j1]
      rw [if_pos trivial, show decide ((co.length : Int) > 0) = false by rw [hc]; rfl, if_neg (by decide), if_neg (by decide), if_pos trivial, Same04_ev (by decide) (by decide), sameRow_self]
      exact hJ
    · rw [if_pos ⟨hm, hc⟩] at hP
      rw [hP, hm, show (299 : Nat) = 298 + 1 from rfl]
      simp only [Option.bind_some, humuslaw04_RowSame.j1]
      rw [if_pos trivial, show decide ((co.length : Int) > 0) = true from decide_eq_true (by have := List.length_pos_iff.2 hc; omega), if_neg (by decide), if_pos rfl]
      exact hJ
  · rw [if_neg (fun h => hm h.1)] at hP
    rw [hP, (Bool.not_eq_true _).mp hm, show (299 : Nat) = 298 + 1 from rfl]
    simp only [Option.bind_some, humuslaw04_RowSame.j1]
    rw [if_neg (by decide), if_neg (by decide), if_neg (by decide), if_pos trivial, Same04_ev (by decide) (by decide), sameRow_self]
    exact hJ
theorem RowSame_walk {w : World} (a : S30) (A : Option Addr) (c : Nat) (hc : a.f2.length ≤ c) (hr : Kd.C Kd.f64 w A a.f2.length a.f2) (ga : good_row a) (b : S30) (B : Option Addr) (d : Nat) (hd : b.f2.length ≤ d) (hs : Kd.C Kd.f64 w B b.f2.length b.f2) (gb : good_row b) (x : Nat) (hx : (Lit.float .f64 x).wf = true) :
    Calls Try.prog 9 #[.agg #[.float .f64 a.f0, .bool a.f1, .slice A a.f2.length c, .int .i64 a.f3, .int .i64 a.f4.f0, .int .i64 a.f4.f1], .agg #[.float .f64 b.f0, .bool b.f1, .slice B b.f2.length d, .int .i64 b.f3, .int .i64 b.f4.f0, .int .i64 b.f4.f1], .float .f64 x] w fun e w' => e = .returned (.bool true) ∧ Below w.heap.size w w' :=
  humuslaw04_RowSame.calls 300 _ _ _ _ _ _ _ _ _ _ _ _ _ _ _ _ _ true w hr hc hs hd (rowSame_ev x ga.1)
end Go.Proofs.Ytdcllbhkjcdnoaa.P
