/- Put together by wip/prune.py out of this claim's texts. -/
import Derived.Test.YtdcllbhkjcdnoaaMRowSums5
import Derived.Test.YtdcllbhkjcdnoaaMRowSums7
import Derived.Test.YtdcllbhkjcdnoaaMRowSums10
import Derived.Test.YtdcllbhkjcdnoaaMRowSums15
import Derived.Test.YtdcllbhkjcdnoaaMRowSums16
import Derived.Test.YtdcllbhkjcdnoaaMRowSums17
namespace Go.Proofs.Ytdcllbhkjcdnoaa.P
open Go.RowKit Go.Proofs.YtdcllbhkjcdnoaaW.PrintWords Go.Proofs.YtdcllbhkjcdnoaaW.PrintLast Go.Proofs.YtdcllbhkjcdnoaaW.PrintMore
attribute [local go_sem] max2_int min2_int max_two min_two max_three min_three max_four min_four   -- for this text's walks alone
attribute [local go_sem] run_store_float
set_option linter.unusedVariables false
set_option linter.unusedSimpArgs false
attribute [local go_sem high] eqA28
mutual
def humuslaw04_RowSums.j0 : Nat → Nat → Nat → Bool → Nat → Bool → List Nat → Int → Int → Int → Option (Bool)
  | 0,_,_,_,_,_,_,_,_,_ => none
  | k + 1,x1,x2,x20,x602000,x602001,x602002,x602003,x602004,x602005 => if x20 = true then ((humuslaw04_awake.f k).bind fun t603 => (some t603)) else ((row_Plus.f k x602000 x602001 x602002 x602003 x602004 x602005 x1).bind fun bt604 => ((row_Plus.f k bt604.1 bt604.2.1 bt604.2.2.1 bt604.2.2.2.1 bt604.2.2.2.2.1 bt604.2.2.2.2.2.1 x2).bind fun bt614 => (if bt604.2.2.2.2.2.2 = 0 then (if bt614.2.2.2.2.2.2 = 0 then (if (bt614.2.2.1.length : Int) = (x602002.length : Int) then ((humusref01_Same.f bt614.1 x602000).bind fun t624 => (if t624 = true then (if bt614.2.2.2.1 = x602003 then (if (!(bt614.2.2.2.2.1 == x602004) || (!(bt614.2.2.2.2.2.1 == x602005))) = true then (humuslaw04_RowSums.j1 k x1 x2 true x602000 x602001 x602002 x602003 x602004 x602005 bt614.1 bt614.2.1 bt614.2.2.1 bt614.2.2.2.1 bt614.2.2.2.2.1 bt614.2.2.2.2.2.1) else (humuslaw04_RowSums.j1 k x1 x2 bt614.2.1 x602000 x602001 x602002 x602003 x602004 x602005 bt614.1 bt614.2.1 bt614.2.2.1 bt614.2.2.2.1 bt614.2.2.2.2.1 bt614.2.2.2.2.2.1)) else (humuslaw04_RowSums.j1 k x1 x2 true x602000 x602001 x602002 x602003 x602004 x602005 bt614.1 bt614.2.1 bt614.2.2.1 bt614.2.2.2.1 bt614.2.2.2.2.1 bt614.2.2.2.2.2.1)) else (humuslaw04_RowSums.j1 k x1 x2 true x602000 x602001 x602002 x602003 x602004 x602005 bt614.1 bt614.2.1 bt614.2.2.1 bt614.2.2.2.1 bt614.2.2.2.2.1 bt614.2.2.2.2.2.1))) else (humuslaw04_RowSums.j1 k x1 x2 true x602000 x602001 x602002 x602003 x602004 x602005 bt614.1 bt614.2.1 bt614.2.2.1 bt614.2.2.2.1 bt614.2.2.2.2.1 bt614.2.2.2.2.2.1)) else (humuslaw04_RowSums.j1 k x1 x2 true x602000 x602001 x602002 x602003 x602004 x602005 bt614.1 bt614.2.1 bt614.2.2.1 bt614.2.2.2.1 bt614.2.2.2.2.1 bt614.2.2.2.2.2.1)) else (humuslaw04_RowSums.j1 k x1 x2 true x602000 x602001 x602002 x602003 x602004 x602005 bt614.1 bt614.2.1 bt614.2.2.1 bt614.2.2.2.1 bt614.2.2.2.2.1 bt614.2.2.2.2.2.1))))
def humuslaw04_RowSums.j1 : Nat → Nat → Nat → Bool → Nat → Bool → List Nat → Int → Int → Int → Nat → Bool → List Nat → Int → Int → Int → Option (Bool)
  | 0,_,_,_,_,_,_,_,_,_,_,_,_,_,_,_ => none
  | k + 1,x1,x2,x74,x602000,x602001,x602002,x602003,x602004,x602005,x624000,x624001,x624002,x624003,x624004,x624005 => if x74 = true then (some false) else (humuslaw04_RowSums.l0 k x1 x2 1 x602000 x602001 x602002 x602003 x602004 x602005 x624000 x624001 x624002 x624003 x624004 x624005)
def humuslaw04_RowSums.l0 : Nat → Nat → Nat → Int → Nat → Bool → List Nat → Int → Int → Int → Nat → Bool → List Nat → Int → Int → Int → Option (Bool)
  | 0,_,_,_,_,_,_,_,_,_,_,_,_,_,_,_ => none
  | k + 1,x1,x2,x11,x602000,x602001,x602002,x602003,x602004,x602005,x624000,x624001,x624002,x624003,x624004,x624005 => if x11 < (x602002.length : Int) then (if 0 ≤ x11 then (if x11 < (x624002.length : Int) then ((humusref01_Same.f (rdF x624002 x11) (rdF x602002 x11)).bind fun t627 => (if t627 = true then (humuslaw04_RowSums.l0 k x1 x2 (wrap64 (x11 + 1)) x602000 x602001 x602002 x602003 x602004 x602005 x624000 x624001 x624002 x624003 x624004 x624005) else (some false))) else (none)) else (none)) else ((humusref04_Plus.f x602000 x602001 x602002 x602003 x602004 x602005 x1).bind fun bt628 => ((humusref04_Plus.f bt628.1 bt628.2.1 bt628.2.2.1 bt628.2.2.2.1 bt628.2.2.2.2.1 bt628.2.2.2.2.2 x2).bind fun bt636 => ((humusref04_Same.f k x624000 x624001 x624002 x624003 x624004 x624005 bt636.1 bt636.2.1 bt636.2.2.1 bt636.2.2.2.1 bt636.2.2.2.2.1 bt636.2.2.2.2.2).bind fun t644 => (if t644 = true then ((humuslaw04_awake.f k).bind fun t645 => (some t645)) else (some false)))))
end
def humuslaw04_RowSums.f (k : Nat) (a0_0 : Nat) (a0_1 : Bool) (l0_2 : List Nat) (a0_3 : Int) (a0_4 : Int) (a0_5 : Int) (a1 : Nat) (a2 : Nat) : Option (Bool):=(humusref04_May.f k a0_0 a0_1 l0_2 a0_3 a0_4 a0_5).bind fun t602 => (if t602 = true then (humuslaw04_RowSums.j0 k a1 a2 ((l0_2.length : Int) == 0) a0_0 a0_1 l0_2 a0_3 a0_4 a0_5) else (humuslaw04_RowSums.j0 k a1 a2 true a0_0 a0_1 l0_2 a0_3 a0_4 a0_5))
def humuslaw04_RowSums.T10 : Bool × List (List Nat × List Nat):=(true,[([],[]),([0],[0]),([],[]),([1,2],[1,2]),([3],[3]),([],[]),([5],[5]),([],[]),([6,7],[6,7]),([8],[8]),([4,9],[4,9]),([10],[10])])
def humuslaw04_RowSums.B10 : List Nat:=[0,1,0,7,15,0,32,0,224,480,1023,2047]
theorem humuslaw04_RowSums.tab10 : rtab .any (opsOf Try.f10 10) = humuslaw04_RowSums.T10:=by kernel_rfl
theorem humuslaw04_RowSums.bits10 : waitsOk humuslaw04_RowSums.T10.2 humuslaw04_RowSums.B10 = true:=by kernel_rfl
def humuslaw04_RowSums.T12 : Bool × List (List Nat × List Nat):=(true,[([],[]),([],[]),([],[]),([1,2],[1,2]),([],[]),([3,4,3],[3,4]),([0,5,5],[0,5]),([6,6],[6]),([7,7],[7]),([7,8],[7,8]),([9,8,0,1,2,3,4,5,6,7,8,9],[9])])
def humuslaw04_RowSums.B12 : List Nat:=[0,0,0,6,0,30,63,127,255,511,1023]
theorem humuslaw04_RowSums.tab12 : rtab .any (opsOf Try.f10 12) = humuslaw04_RowSums.T12:=by kernel_rfl
theorem humuslaw04_RowSums.bits12 : waitsOk humuslaw04_RowSums.T12.2 humuslaw04_RowSums.B12 = true:=by kernel_rfl
set_option maxHeartbeats 8000000 in
set_option maxRecDepth 100000 in
theorem humuslaw04_RowSums.calls (k : Nat) (a0_0 : Nat) (a0_1 : Bool) (A0_2 : Option Addr) (c0_2 : Nat) (l0_2 : List Nat) (a0_3 : Int) (a0_4 : Int) (a0_5 : Int) (a1 : Nat) (a2 : Nat) (r : Bool) (w : World) (hr0_2 : Kd.C Kd.f64 w A0_2 l0_2.length l0_2) (hc0_2 : l0_2.length ≤ c0_2) (h : humuslaw04_RowSums.f k a0_0 a0_1 l0_2 a0_3 a0_4 a0_5 a1 a2 = some r) :
    Calls Try.prog 10 #[.agg #[.float .f64 a0_0,.bool a0_1,.slice A0_2 l0_2.length c0_2,.int .i64 a0_3,.int .i64 a0_4,.int .i64 a0_5],.float .f64 a1,.float .f64 a2] w fun e w' => e = .returned (.bool r) ∧ Below w.heap.size w w':=by
  have hu30:=Try.underlying30
  have hu28:=Try.underlying28
  have HR0_2:=Aside0.mk hr0_2
  have HC0_2:=Aside0.mk hc0_2
  clear hr0_2 hc0_2
  have HB:=Aside0.mk (Below.refl w.heap.size w)
  have H : ((humusref04_May.f k a0_0 a0_1 l0_2 a0_3 a0_4 a0_5).bind fun t602 => (if t602 = true then (humuslaw04_RowSums.j0 k a1 a2 ((l0_2.length : Int) == 0) a0_0 a0_1 l0_2 a0_3 a0_4 a0_5) else (humuslaw04_RowSums.j0 k a1 a2 true a0_0 a0_1 l0_2 a0_3 a0_4 a0_5))) = some r:=h
  clear h
  have HC4:=Aside0.mk H
  clear H
  go_enter Try.func10,Try.ntmps10
  go_upto_region 1 with (first | ((with_reducible refine gate_dst (N:=3) rfl ?_);(try (refine gate_guard (by rfl) ?_;dsimp only));refine box_event ?hg (N:=3) ?hd (cs:=#[.float .f64 a0_0,.bool a0_1,.slice A0_2 l0_2.length c0_2,.int .i64 a0_3,.int .i64 a0_4,.int .i64 a0_5]) (t:=30) ?hr ?_;(case hd => rfl);(case hg => rfl);(case hr => first | (go_simp;done) | (go_simp;rfl));intro gb601 hg w5 hbox hb;have n0_:=Aside0.mk (below_step (by repeat (first | (with_reducible first | exact HB.out | apply below_alloc | apply pw_below_drewN | apply below_drew1) | exact HB.out)) hb);have n1_:=Aside0.mk (hbox);have n2_:=Aside0.mk ((by rw [hg];exact (below_size (by repeat (first | (with_reducible first | exact HB.out | apply below_alloc | apply pw_below_drewN | apply below_drew1) | exact HB.out))) : w.heap.size ≤ gb601));have n3_:=Aside0.mk ((by rw [hg];exact (below_size (by repeat (first | (with_reducible first | exact HB.out | apply below_alloc | apply pw_below_drewN | apply below_drew1) | exact HB.out))) : w.heap.size ≤ gb601));clear HB;have HB:=n0_;have BK601:=n1_;have GW601:=n2_;have GE601:=n3_;clear n0_ n1_ n2_ n3_;clear hb hbox hg))
  (try simp only [Act.put,List.setIfInBounds_toArray,List.set_cons_zero,List.set_cons_succ])
  go_cut [20] (fun v20 wc => ∃ (kq : Nat) (x20_3 : Bool),v20 = .bool x20_3 ∧ Aside0 (humuslaw04_RowSums.j0 kq a1 a2 x20_3 a0_0 a0_1 l0_2 a0_3 a0_4 a0_5 = some r) ∧ Aside0 (kq ≤ k) ∧ Aside0 (wc.heap[gb601]? = some (.cells #[.float .f64 a0_0,.bool a0_1,(.slice A0_2 l0_2.length c0_2),.int .i64 a0_3,.int .i64 a0_4,.int .i64 a0_5] 30 (0,0))) ∧ Aside0 (Below w.heap.size w wc))
  case first =>
    have H:=HC4.out
    clear HC4
    replace H:=Option.bind_eq_some_iff.mp H
    obtain ⟨t602,A60,H⟩:=H
    replace H : (if t602 = true then (humuslaw04_RowSums.j0 k a1 a2 ((l0_2.length : Int) == 0) a0_0 a0_1 l0_2 a0_3 a0_4 a0_5) else (humuslaw04_RowSums.j0 k a1 a2 true a0_0 a0_1 l0_2 a0_3 a0_4 a0_5)) = some r:=H
    have A6:=Aside0.mk A60
    clear A60
    by_cases c7 : t602 = true
    · subst c7
      have H1 : (humuslaw04_RowSums.j0 k a1 a2 ((l0_2.length : Int) == 0) a0_0 a0_1 l0_2 a0_3 a0_4 a0_5) = some r:=by rw [if_pos rfl] at H;exact H
      clear H
      have H:=H1
      clear H1
      have H':=Aside0.mk H
      clear H
      have hcz8_0 : w5.cell? ⟨gb601,0,none⟩ = some (.float .f64 a0_0):=(blk_cell BK601.out 0).trans rfl
      have hcz8_1 : w5.cell? ⟨gb601,1,none⟩ = some (.bool a0_1):=(blk_cell BK601.out 1).trans rfl
      have hcz8_2 : w5.cell? ⟨gb601,2,none⟩ = some (.slice A0_2 l0_2.length c0_2):=(blk_cell BK601.out 2).trans rfl
      have hcz8_3 : w5.cell? ⟨gb601,3,none⟩ = some (.int .i64 a0_3):=(blk_cell BK601.out 3).trans rfl
      have hcz8_4 : w5.cell? ⟨gb601,4,none⟩ = some (.int .i64 a0_4):=(blk_cell BK601.out 4).trans rfl
      have hcz8_5 : w5.cell? ⟨gb601,5,none⟩ = some (.int .i64 a0_5):=(blk_cell BK601.out 5).trans rfl
      have hfz8_0:=blk_frozen BK601.out 0
      have hfz8_1:=blk_frozen BK601.out 1
      have hfz8_2:=blk_frozen BK601.out 2
      have hfz8_3:=blk_frozen BK601.out 3
      have hfz8_4:=blk_frozen BK601.out 4
      have hfz8_5:=blk_frozen BK601.out 5
      go_wp2_with (first | ((with_reducible refine gate_callee (f:=34) rfl ?_);refine goesL_ (some 13) rfl rfl Try.func34 (by kernel_rfl) rfl #[.agg #[.float .f64 a0_0,.bool a0_1,.slice A0_2 l0_2.length c0_2,.int .i64 a0_3,.int .i64 a0_4,.int .i64 a0_5]] rfl (by (try simp only [List.map_toArray,List.map_cons,List.map_nil]);first | done | rfl | (simp only [List.length_drop,List.length_take];rfl)) ?_;(with_reducible refine (humusref04_May.calls k a0_0 a0_1 _ _ l0_2 a0_3 a0_4 a0_5 true _ ?side1 ?side2 A6.out).mono ?_);(case side1 => repeat (first | exact (Kd.C_below HR0_2.out HB.out) | (with_reducible refine Kd.C_alloc ?_ _) | (with_reducible refine Kd.C_drewN ?_ _) | (with_reducible refine Kd.C_drew ?_)));(case side2 => exact HC0_2.out);rintro e w9 ⟨rfl,hb⟩;refine ⟨_,rfl,?_⟩;have n0_:=Aside0.mk (blk_below (g:=gb601) (o:=.cells #[.float .f64 a0_0,.bool a0_1,.slice A0_2 l0_2.length c0_2,.int .i64 a0_3,.int .i64 a0_4,.int .i64 a0_5] 30 (0,0)) (by (with_reducible repeat (first | refine blk_drewN ?_ _ | refine blk_drew ?_ | refine blk_alloc ?_ _));exact BK601.out) hb);have n1_:=Aside0.mk (below_step (by repeat (first | (with_reducible first | exact HB.out | apply below_alloc | apply pw_below_drewN | apply below_drew1 | refine below_set ?_ GE601.out) | exact HB.out)) hb);clear BK601;clear HB;have BK601:=n0_;have HB:=n1_;clear n0_ n1_;(try clear hb);(try clear hb2);(try clear hk);(try clear hi);have hcz10_0 : w9.cell? ⟨gb601,0,none⟩ = some (.float .f64 a0_0):=(blk_cell BK601.out 0).trans rfl;have hcz10_1 : w9.cell? ⟨gb601,1,none⟩ = some (.bool a0_1):=(blk_cell BK601.out 1).trans rfl;have hcz10_2 : w9.cell? ⟨gb601,2,none⟩ = some (.slice A0_2 l0_2.length c0_2):=(blk_cell BK601.out 2).trans rfl;have hcz10_3 : w9.cell? ⟨gb601,3,none⟩ = some (.int .i64 a0_3):=(blk_cell BK601.out 3).trans rfl;have hcz10_4 : w9.cell? ⟨gb601,4,none⟩ = some (.int .i64 a0_4):=(blk_cell BK601.out 4).trans rfl;have hcz10_5 : w9.cell? ⟨gb601,5,none⟩ = some (.int .i64 a0_5):=(blk_cell BK601.out 5).trans rfl;have hfz10_0:=blk_frozen BK601.out 0;have hfz10_1:=blk_frozen BK601.out 1;have hfz10_2:=blk_frozen BK601.out 2;have hfz10_3:=blk_frozen BK601.out 3;have hfz10_4:=blk_frozen BK601.out 4;have hfz10_5:=blk_frozen BK601.out 5))
      go_meet
      case rel => exact ⟨_,(((l0_2.length : Int) == 0)),(by first | rfl | (simp;done) | (simp [*];done)),H',⟨by first | omega | exact Nat.le_refl _⟩,⟨by (with_reducible repeat (first | refine blk_drewN ?_ _ | refine blk_drew ?_ | refine blk_alloc ?_ _));exact BK601.out⟩,⟨by repeat (first | (with_reducible first | exact HB.out | apply below_alloc | apply pw_below_drewN | apply below_drew1 | refine below_set ?_ GE601.out) | exact HB.out)⟩⟩
    · replace c7:=Bool.eq_false_iff.mpr c7
      subst c7
      have H1 : (humuslaw04_RowSums.j0 k a1 a2 true a0_0 a0_1 l0_2 a0_3 a0_4 a0_5) = some r:=by rw [if_neg (show ¬ (false = true) by decide)] at H;exact H
      clear H
      have H:=H1
      clear H1
      have H':=Aside0.mk H
      clear H
      have hcz11_0 : w5.cell? ⟨gb601,0,none⟩ = some (.float .f64 a0_0):=(blk_cell BK601.out 0).trans rfl
      have hcz11_1 : w5.cell? ⟨gb601,1,none⟩ = some (.bool a0_1):=(blk_cell BK601.out 1).trans rfl
      have hcz11_2 : w5.cell? ⟨gb601,2,none⟩ = some (.slice A0_2 l0_2.length c0_2):=(blk_cell BK601.out 2).trans rfl
      have hcz11_3 : w5.cell? ⟨gb601,3,none⟩ = some (.int .i64 a0_3):=(blk_cell BK601.out 3).trans rfl
      have hcz11_4 : w5.cell? ⟨gb601,4,none⟩ = some (.int .i64 a0_4):=(blk_cell BK601.out 4).trans rfl
      have hcz11_5 : w5.cell? ⟨gb601,5,none⟩ = some (.int .i64 a0_5):=(blk_cell BK601.out 5).trans rfl
      have hfz11_0:=blk_frozen BK601.out 0
      have hfz11_1:=blk_frozen BK601.out 1
      have hfz11_2:=blk_frozen BK601.out 2
      have hfz11_3:=blk_frozen BK601.out 3
      have hfz11_4:=blk_frozen BK601.out 4
      have hfz11_5:=blk_frozen BK601.out 5
      go_wp2_with (first | ((with_reducible refine gate_callee (f:=34) rfl ?_);refine goesL_ (some 13) rfl rfl Try.func34 (by kernel_rfl) rfl #[.agg #[.float .f64 a0_0,.bool a0_1,.slice A0_2 l0_2.length c0_2,.int .i64 a0_3,.int .i64 a0_4,.int .i64 a0_5]] rfl (by (try simp only [List.map_toArray,List.map_cons,List.map_nil]);first | done | rfl | (simp only [List.length_drop,List.length_take];rfl)) ?_;(with_reducible refine (humusref04_May.calls k a0_0 a0_1 _ _ l0_2 a0_3 a0_4 a0_5 false _ ?side1 ?side2 A6.out).mono ?_);(case side1 => repeat (first | exact (Kd.C_below HR0_2.out HB.out) | (with_reducible refine Kd.C_alloc ?_ _) | (with_reducible refine Kd.C_drewN ?_ _) | (with_reducible refine Kd.C_drew ?_)));(case side2 => exact HC0_2.out);rintro e w12 ⟨rfl,hb⟩;refine ⟨_,rfl,?_⟩;have n0_:=Aside0.mk (blk_below (g:=gb601) (o:=.cells #[.float .f64 a0_0,.bool a0_1,.slice A0_2 l0_2.length c0_2,.int .i64 a0_3,.int .i64 a0_4,.int .i64 a0_5] 30 (0,0)) (by (with_reducible repeat (first | refine blk_drewN ?_ _ | refine blk_drew ?_ | refine blk_alloc ?_ _));exact BK601.out) hb);have n1_:=Aside0.mk (below_step (by repeat (first | (with_reducible first | exact HB.out | apply below_alloc | apply pw_below_drewN | apply below_drew1 | refine below_set ?_ GE601.out) | exact HB.out)) hb);clear BK601;clear HB;have BK601:=n0_;have HB:=n1_;clear n0_ n1_;(try clear hb);(try clear hb2);(try clear hk);(try clear hi)))
      go_meet
      case rel => exact ⟨_,(true),(by first | rfl | (simp;done) | (simp [*];done)),H',⟨by first | omega | exact Nat.le_refl _⟩,⟨by (with_reducible repeat (first | refine blk_drewN ?_ _ | refine blk_drew ?_ | refine blk_alloc ?_ _));exact BK601.out⟩,⟨by repeat (first | (with_reducible first | exact HB.out | apply below_alloc | apply pw_below_drewN | apply below_drew1 | refine below_set ?_ GE601.out) | exact HB.out)⟩⟩
  case rest =>
    clear HC4
    try clear c1
    try clear p2
    try clear c3
    try clear c7
    try clear c10
    try clear hcz10_0
    try clear hcz10_1
    try clear hcz10_2
    try clear hcz10_3
    try clear hcz10_4
    try clear hcz10_5
    try clear hcz11_0
    try clear hcz11_1
    try clear hcz11_2
    try clear hcz11_3
    try clear hcz11_4
    try clear hcz11_5
    try clear hcz8_0
    try clear hcz8_1
    try clear hcz8_2
    try clear hcz8_3
    try clear hcz8_4
    try clear hcz8_5
    try clear hfz10_0
    try clear hfz10_1
    try clear hfz10_2
    try clear hfz10_3
    try clear hfz10_4
    try clear hfz10_5
    try clear hfz11_0
    try clear hfz11_1
    try clear hfz11_2
    try clear hfz11_3
    try clear hfz11_4
    try clear hfz11_5
    try clear hfz8_0
    try clear hfz8_1
    try clear hfz8_2
    try clear hfz8_3
    try clear hfz8_4
    try clear hfz8_5
    obtain ⟨kq,x20_3,rfl,HA,HJ3,BK601,HB⟩:=hcut
    cases kq with
    | zero => exact absurd HA.out (by simp [humuslaw04_RowSums.j0])
    | succ kj3 =>
      have H:=HA.out
      clear HA
      simp only [humuslaw04_RowSums.j0] at H
      by_cases c13 : x20_3 = true
      · subst c13
        have H1 : ((humuslaw04_awake.f kj3).bind fun t603 => (some t603)) = some r:=by rw [if_pos rfl] at H;exact H
        clear H
        have H:=H1
        clear H1
        replace H:=Option.bind_eq_some_iff.mp H
        obtain ⟨t603,A140,H⟩:=H
        replace H : (some t603) = some r:=H
        have A14:=Aside0.mk A140
        clear A140
        obtain rfl:=Option.some.inj H
        go_wp2_with (first | ((with_reducible refine gate_callee (f:=31) rfl ?_);refine goesL_ (some 21) rfl rfl Try.func31 (by kernel_rfl) rfl #[] rfl (by (try simp only [List.map_toArray,List.map_cons,List.map_nil]);first | done | rfl | (simp only [List.length_drop,List.length_take];rfl)) ?_;(with_reducible refine (humuslaw04_awake.calls kj3  t603 _ A14.out).mono ?_);rintro e w15 ⟨rfl,hb⟩;refine ⟨_,rfl,?_⟩;have n0_:=Aside0.mk (blk_below (g:=gb601) (o:=.cells #[.float .f64 a0_0,.bool a0_1,.slice A0_2 l0_2.length c0_2,.int .i64 a0_3,.int .i64 a0_4,.int .i64 a0_5] 30 (0,0)) (by (with_reducible repeat (first | refine blk_drewN ?_ _ | refine blk_drew ?_ | refine blk_alloc ?_ _));exact BK601.out) hb);have n1_:=Aside0.mk (below_step (by repeat (first | (with_reducible first | exact HB.out | apply below_alloc | apply pw_below_drewN | apply below_drew1 | refine below_set ?_ GE601.out) | exact HB.out)) hb);clear BK601;clear HB;have BK601:=n0_;have HB:=n1_;clear n0_ n1_;(try clear hb);(try clear hb2);(try clear hk);(try clear hi)))
        go_ret
        exact ⟨by first | rfl | (simp [errW_none,errW_some] <;> rfl) | (simp [*,errW_none,errW_some] <;> rfl),by repeat (first | (with_reducible first | exact HB.out | apply below_alloc | apply pw_below_drewN | apply below_drew1 | refine below_set ?_ GE601.out) | exact HB.out)⟩
      · replace c13:=Bool.eq_false_iff.mpr c13
        subst c13
        have H1 : ((row_Plus.f kj3 a0_0 a0_1 l0_2 a0_3 a0_4 a0_5 a1).bind fun bt604 => ((row_Plus.f kj3 bt604.1 bt604.2.1 bt604.2.2.1 bt604.2.2.2.1 bt604.2.2.2.2.1 bt604.2.2.2.2.2.1 a2).bind fun bt614 => (if bt604.2.2.2.2.2.2 = 0 then (if bt614.2.2.2.2.2.2 = 0 then (if (bt614.2.2.1.length : Int) = (l0_2.length : Int) then ((humusref01_Same.f bt614.1 a0_0).bind fun t624 => (if t624 = true then (if bt614.2.2.2.1 = a0_3 then (if (!(bt614.2.2.2.2.1 == a0_4) || (!(bt614.2.2.2.2.2.1 == a0_5))) = true then (humuslaw04_RowSums.j1 kj3 a1 a2 true a0_0 a0_1 l0_2 a0_3 a0_4 a0_5 bt614.1 bt614.2.1 bt614.2.2.1 bt614.2.2.2.1 bt614.2.2.2.2.1 bt614.2.2.2.2.2.1) else (humuslaw04_RowSums.j1 kj3 a1 a2 bt614.2.1 a0_0 a0_1 l0_2 a0_3 a0_4 a0_5 bt614.1 bt614.2.1 bt614.2.2.1 bt614.2.2.2.1 bt614.2.2.2.2.1 bt614.2.2.2.2.2.1)) else (humuslaw04_RowSums.j1 kj3 a1 a2 true a0_0 a0_1 l0_2 a0_3 a0_4 a0_5 bt614.1 bt614.2.1 bt614.2.2.1 bt614.2.2.2.1 bt614.2.2.2.2.1 bt614.2.2.2.2.2.1)) else (humuslaw04_RowSums.j1 kj3 a1 a2 true a0_0 a0_1 l0_2 a0_3 a0_4 a0_5 bt614.1 bt614.2.1 bt614.2.2.1 bt614.2.2.2.1 bt614.2.2.2.2.1 bt614.2.2.2.2.2.1))) else (humuslaw04_RowSums.j1 kj3 a1 a2 true a0_0 a0_1 l0_2 a0_3 a0_4 a0_5 bt614.1 bt614.2.1 bt614.2.2.1 bt614.2.2.2.1 bt614.2.2.2.2.1 bt614.2.2.2.2.2.1)) else (humuslaw04_RowSums.j1 kj3 a1 a2 true a0_0 a0_1 l0_2 a0_3 a0_4 a0_5 bt614.1 bt614.2.1 bt614.2.2.1 bt614.2.2.2.1 bt614.2.2.2.2.1 bt614.2.2.2.2.2.1)) else (humuslaw04_RowSums.j1 kj3 a1 a2 true a0_0 a0_1 l0_2 a0_3 a0_4 a0_5 bt614.1 bt614.2.1 bt614.2.2.1 bt614.2.2.2.1 bt614.2.2.2.2.1 bt614.2.2.2.2.2.1)))) = some r:=by rw [if_neg (show ¬ (false = true) by decide)] at H;exact H
        clear H
        have H:=H1
        clear H1
        replace H:=Option.bind_eq_some_iff.mp H
        obtain ⟨⟨t604,t605,t606,t609,t610,t611,t612⟩,A160,H⟩:=H
        replace H : ((row_Plus.f kj3 t604 t605 t606 t609 t610 t611 a2).bind fun bt614 => (if t612 = 0 then (if bt614.2.2.2.2.2.2 = 0 then (if (bt614.2.2.1.length : Int) = (l0_2.length : Int) then ((humusref01_Same.f bt614.1 a0_0).bind fun t624 => (if t624 = true then (if bt614.2.2.2.1 = a0_3 then (if (!(bt614.2.2.2.2.1 == a0_4) || (!(bt614.2.2.2.2.2.1 == a0_5))) = true then (humuslaw04_RowSums.j1 kj3 a1 a2 true a0_0 a0_1 l0_2 a0_3 a0_4 a0_5 bt614.1 bt614.2.1 bt614.2.2.1 bt614.2.2.2.1 bt614.2.2.2.2.1 bt614.2.2.2.2.2.1) else (humuslaw04_RowSums.j1 kj3 a1 a2 bt614.2.1 a0_0 a0_1 l0_2 a0_3 a0_4 a0_5 bt614.1 bt614.2.1 bt614.2.2.1 bt614.2.2.2.1 bt614.2.2.2.2.1 bt614.2.2.2.2.2.1)) else (humuslaw04_RowSums.j1 kj3 a1 a2 true a0_0 a0_1 l0_2 a0_3 a0_4 a0_5 bt614.1 bt614.2.1 bt614.2.2.1 bt614.2.2.2.1 bt614.2.2.2.2.1 bt614.2.2.2.2.2.1)) else (humuslaw04_RowSums.j1 kj3 a1 a2 true a0_0 a0_1 l0_2 a0_3 a0_4 a0_5 bt614.1 bt614.2.1 bt614.2.2.1 bt614.2.2.2.1 bt614.2.2.2.2.1 bt614.2.2.2.2.2.1))) else (humuslaw04_RowSums.j1 kj3 a1 a2 true a0_0 a0_1 l0_2 a0_3 a0_4 a0_5 bt614.1 bt614.2.1 bt614.2.2.1 bt614.2.2.2.1 bt614.2.2.2.2.1 bt614.2.2.2.2.2.1)) else (humuslaw04_RowSums.j1 kj3 a1 a2 true a0_0 a0_1 l0_2 a0_3 a0_4 a0_5 bt614.1 bt614.2.1 bt614.2.2.1 bt614.2.2.2.1 bt614.2.2.2.2.1 bt614.2.2.2.2.2.1)) else (humuslaw04_RowSums.j1 kj3 a1 a2 true a0_0 a0_1 l0_2 a0_3 a0_4 a0_5 bt614.1 bt614.2.1 bt614.2.2.1 bt614.2.2.2.1 bt614.2.2.2.2.1 bt614.2.2.2.2.2.1))) = some r:=H
        have A16:=Aside0.mk A160
        clear A160
        replace H:=Option.bind_eq_some_iff.mp H
        obtain ⟨⟨t614,t615,t616,t619,t620,t621,t622⟩,A170,H⟩:=H
        replace H : (if t612 = 0 then (if t622 = 0 then (if (t616.length : Int) = (l0_2.length : Int) then ((humusref01_Same.f t614 a0_0).bind fun t624 => (if t624 = true then (if t619 = a0_3 then (if (!(t620 == a0_4) || (!(t621 == a0_5))) = true then (humuslaw04_RowSums.j1 kj3 a1 a2 true a0_0 a0_1 l0_2 a0_3 a0_4 a0_5 t614 t615 t616 t619 t620 t621) else (humuslaw04_RowSums.j1 kj3 a1 a2 t615 a0_0 a0_1 l0_2 a0_3 a0_4 a0_5 t614 t615 t616 t619 t620 t621)) else (humuslaw04_RowSums.j1 kj3 a1 a2 true a0_0 a0_1 l0_2 a0_3 a0_4 a0_5 t614 t615 t616 t619 t620 t621)) else (humuslaw04_RowSums.j1 kj3 a1 a2 true a0_0 a0_1 l0_2 a0_3 a0_4 a0_5 t614 t615 t616 t619 t620 t621))) else (humuslaw04_RowSums.j1 kj3 a1 a2 true a0_0 a0_1 l0_2 a0_3 a0_4 a0_5 t614 t615 t616 t619 t620 t621)) else (humuslaw04_RowSums.j1 kj3 a1 a2 true a0_0 a0_1 l0_2 a0_3 a0_4 a0_5 t614 t615 t616 t619 t620 t621)) else (humuslaw04_RowSums.j1 kj3 a1 a2 true a0_0 a0_1 l0_2 a0_3 a0_4 a0_5 t614 t615 t616 t619 t620 t621)) = some r:=H
        have A17:=Aside0.mk A170
        clear A170
        have HC18:=Aside0.mk H
        clear H
        have hcz19_0 : wc.cell? ⟨gb601,0,none⟩ = some (.float .f64 a0_0):=(blk_cell BK601.out 0).trans rfl
        have hcz19_1 : wc.cell? ⟨gb601,1,none⟩ = some (.bool a0_1):=(blk_cell BK601.out 1).trans rfl
        have hcz19_2 : wc.cell? ⟨gb601,2,none⟩ = some (.slice A0_2 l0_2.length c0_2):=(blk_cell BK601.out 2).trans rfl
        have hcz19_3 : wc.cell? ⟨gb601,3,none⟩ = some (.int .i64 a0_3):=(blk_cell BK601.out 3).trans rfl
        have hcz19_4 : wc.cell? ⟨gb601,4,none⟩ = some (.int .i64 a0_4):=(blk_cell BK601.out 4).trans rfl
        have hcz19_5 : wc.cell? ⟨gb601,5,none⟩ = some (.int .i64 a0_5):=(blk_cell BK601.out 5).trans rfl
        have hfz19_0:=blk_frozen BK601.out 0
        have hfz19_1:=blk_frozen BK601.out 1
        have hfz19_2:=blk_frozen BK601.out 2
        have hfz19_3:=blk_frozen BK601.out 3
        have hfz19_4:=blk_frozen BK601.out 4
        have hfz19_5:=blk_frozen BK601.out 5
        go_upto_region 5 with (first | ((with_reducible refine gate_callee (f:=41) rfl ?_);refine goesL_ (some 25) rfl rfl Try.func41 (by kernel_rfl) rfl #[.agg #[.float .f64 a0_0,.bool a0_1,.slice A0_2 l0_2.length c0_2,.int .i64 a0_3,.int .i64 a0_4,.int .i64 a0_5],.float .f64 a1] rfl (by (try simp only [List.map_toArray,List.map_cons,List.map_nil]);first | done | rfl | (simp only [List.length_drop,List.length_take];rfl)) ?_;(with_reducible refine (row_Plus.calls kj3 a0_0 a0_1 _ _ l0_2 a0_3 a0_4 a0_5 a1 t604 t605 t606 t609 t610 t611 t612 _ ?side1 ?side2 A16.out).mono ?_);(case side1 => repeat (first | exact (Kd.C_below HR0_2.out HB.out) | (with_reducible refine Kd.C_alloc ?_ _) | (with_reducible refine Kd.C_drewN ?_ _) | (with_reducible refine Kd.C_drew ?_)));(case side2 => exact HC0_2.out);rintro e w20 ⟨v607,rfl,ho0,hb⟩;refine ⟨_,rfl,?_⟩;have n0_:=Aside0.mk (Kd.R_lower ho0 (below_size (by repeat (first | (with_reducible first | exact HB.out | apply below_alloc | apply pw_below_drewN | apply below_drew1 | refine below_set ?_ GE601.out) | exact HB.out))));have n1_:=Aside0.mk (blk_below (g:=gb601) (o:=.cells #[.float .f64 a0_0,.bool a0_1,.slice A0_2 l0_2.length c0_2,.int .i64 a0_3,.int .i64 a0_4,.int .i64 a0_5] 30 (0,0)) (by (with_reducible repeat (first | refine blk_drewN ?_ _ | refine blk_drew ?_ | refine blk_alloc ?_ _));exact BK601.out) hb);have n2_:=Aside0.mk (below_step (by repeat (first | (with_reducible first | exact HB.out | apply below_alloc | apply pw_below_drewN | apply below_drew1 | refine below_set ?_ GE601.out) | exact HB.out)) hb);clear BK601;clear HB;have HO608:=n0_;have BK601:=n1_;have HB:=n2_;clear n0_ n1_ n2_;(try clear hb);(try clear hb2);(try clear hk);(try clear hi);(try clear ho0)) | ((with_reducible refine gate_dst (N:=7) rfl ?_);(try (refine gate_guard (by rfl) ?_;dsimp only));refine box_event ?hg (N:=7) ?hd (cs:=#[.float .f64 0,.bool false,.slice none 0 0,.int .i64 0,.int .i64 0,.int .i64 0]) (t:=30) ?hr ?_;(case hd => rfl);(case hg => rfl);(case hr => first | (go_simp;done) | (go_simp;rfl));intro gb613 hg w21 hbox hb;have n0_:=Aside0.mk (Kd.R_below (by (with_reducible repeat (first | apply Kd.R_alloc | apply Kd.R_drewN | apply Kd.R_drew));exact HO608.out) hb);have n1_:=Aside0.mk (blk_below (g:=gb601) (o:=.cells #[.float .f64 a0_0,.bool a0_1,.slice A0_2 l0_2.length c0_2,.int .i64 a0_3,.int .i64 a0_4,.int .i64 a0_5] 30 (0,0)) (by (with_reducible repeat (first | refine blk_drewN ?_ _ | refine blk_drew ?_ | refine blk_alloc ?_ _));exact BK601.out) hb);have n2_:=Aside0.mk (below_step (by repeat (first | (with_reducible first | exact HB.out | apply below_alloc | apply pw_below_drewN | apply below_drew1 | refine below_set ?_ GE601.out) | exact HB.out)) hb);have n3_:=Aside0.mk (hbox);have n4_:=Aside0.mk ((by rw [hg];exact (below_size (by repeat (first | (with_reducible first | exact HB.out | apply below_alloc | apply pw_below_drewN | apply below_drew1 | refine below_set ?_ GE601.out) | exact HB.out))) : w.heap.size ≤ gb613));have n5_:=Aside0.mk ((by rw [hg];exact (below_size (by repeat (first | (with_reducible first | exact HB.out | apply below_alloc | apply pw_below_drewN | apply below_drew1 | refine below_set ?_ GE601.out) | exact HB.out))) : w.heap.size ≤ gb613));have n6_:=Aside0.mk ((by rw [hg];exact Nat.ne_of_lt (blk_lt (g:=gb601) (o:=.cells #[.float .f64 a0_0,.bool a0_1,.slice A0_2 l0_2.length c0_2,.int .i64 a0_3,.int .i64 a0_4,.int .i64 a0_5] 30 (0,0)) (by (with_reducible repeat (first | refine blk_drewN ?_ _ | refine blk_drew ?_ | refine blk_alloc ?_ _));exact BK601.out)) : gb601 ≠ gb613));have n7_:=Aside0.mk ((by rw [hg];exact Nat.ne_of_gt (blk_lt (g:=gb601) (o:=.cells #[.float .f64 a0_0,.bool a0_1,.slice A0_2 l0_2.length c0_2,.int .i64 a0_3,.int .i64 a0_4,.int .i64 a0_5] 30 (0,0)) (by (with_reducible repeat (first | refine blk_drewN ?_ _ | refine blk_drew ?_ | refine blk_alloc ?_ _));exact BK601.out)) : gb613 ≠ gb601));clear HO608;clear BK601;clear HB;have HO608:=n0_;have BK601:=n1_;have HB:=n2_;have BK613:=n3_;have GW613:=n4_;have GE613:=n5_;have NB601_613:=n6_;have NB613_601:=n7_;clear n0_ n1_ n2_ n3_ n4_ n5_ n6_ n7_;clear hb hbox hg;have hnb22:=NB613_601.out;have hnc22:=NB601_613.out;have hcz23_0 : w21.cell? ⟨gb613,0,none⟩ = some (.float .f64 0):=(blk_cell BK613.out 0).trans rfl;have hcz23_1 : w21.cell? ⟨gb613,1,none⟩ = some (.bool false):=(blk_cell BK613.out 1).trans rfl;have hcz23_2 : w21.cell? ⟨gb613,2,none⟩ = some (.slice none 0 0):=(blk_cell BK613.out 2).trans rfl;have hcz23_3 : w21.cell? ⟨gb613,3,none⟩ = some (.int .i64 0):=(blk_cell BK613.out 3).trans rfl;have hcz23_4 : w21.cell? ⟨gb613,4,none⟩ = some (.int .i64 0):=(blk_cell BK613.out 4).trans rfl;have hcz23_5 : w21.cell? ⟨gb613,5,none⟩ = some (.int .i64 0):=(blk_cell BK613.out 5).trans rfl;have hfz23_0:=blk_frozen BK613.out 0;have hfz23_1:=blk_frozen BK613.out 1;have hfz23_2:=blk_frozen BK613.out 2;have hfz23_3:=blk_frozen BK613.out 3;have hfz23_4:=blk_frozen BK613.out 4;have hfz23_5:=blk_frozen BK613.out 5;obtain ⟨Ao24,co24,eo24⟩:=Kd.R_slice HO608.out;subst eo24) | ((with_reducible refine gate_callee (f:=41) rfl ?_);refine goesL_ (some 31) rfl rfl Try.func41 (by kernel_rfl) rfl #[.agg #[.float .f64 t604,.bool t605,.slice Ao24 t606.length co24,.int .i64 t609,.int .i64 t610,.int .i64 t611],.float .f64 a2] rfl (by (try simp only [List.map_toArray,List.map_cons,List.map_nil]);first | done | rfl | (simp only [List.length_drop,List.length_take];rfl)) ?_;(with_reducible refine (row_Plus.calls kj3 t604 t605 _ _ t606 t609 t610 t611 a2 t614 t615 t616 t619 t620 t621 t622 _ ?side1 ?side2 A17.out).mono ?_);(case side1 => refine (Kd.R_reads' (e:=25) (base:=w.heap.size) (ok:=fun k_ => True) (n:=t606.length) (c:=co24) ?_).2.2;exact (by (with_reducible repeat (first | apply Kd.R_alloc | apply Kd.R_drewN | apply Kd.R_drew));exact (Kd.R_mono (Kd.R_far (p:=⟨gb613,5,none⟩) (Kd.R_far (p:=⟨gb613,4,none⟩) (Kd.R_far (p:=⟨gb613,3,none⟩) (Kd.R_far (p:=⟨gb613,2,none⟩) (Kd.R_far (p:=⟨gb613,1,none⟩) (Kd.R_far (p:=⟨gb613,0,none⟩) (Kd.R_types HO608.out BK613.out (by decide)) (fun _ hk => hk.2) (.float .f64 t604)) (fun _ hk => hk.2) (.bool t605)) (fun _ hk => hk.2) (.slice Ao24 t606.length co24)) (fun _ hk => hk.2) (.int .i64 t609)) (fun _ hk => hk.2) (.int .i64 t610)) (fun _ hk => hk.2) (.int .i64 t611)) (fun _ h_ => h_.1))));(case side2 => exact (Kd.R_reads' HO608.out).2.1);rintro e w25 ⟨v617,rfl,ho0,hb⟩;refine ⟨_,rfl,?_⟩;have n0_:=Aside0.mk (Kd.R_elder' (by (with_reducible repeat (first | apply Kd.R_alloc | apply Kd.R_drewN | apply Kd.R_drew));exact (Kd.R_mono (Kd.R_far (p:=⟨gb613,5,none⟩) (Kd.R_far (p:=⟨gb613,4,none⟩) (Kd.R_far (p:=⟨gb613,3,none⟩) (Kd.R_far (p:=⟨gb613,2,none⟩) (Kd.R_far (p:=⟨gb613,1,none⟩) (Kd.R_far (p:=⟨gb613,0,none⟩) (Kd.R_types HO608.out BK613.out (by decide)) (fun _ hk => hk.2) (.float .f64 t604)) (fun _ hk => hk.2) (.bool t605)) (fun _ hk => hk.2) (.slice Ao24 t606.length co24)) (fun _ hk => hk.2) (.int .i64 t609)) (fun _ hk => hk.2) (.int .i64 t610)) (fun _ hk => hk.2) (.int .i64 t611)) (fun _ h_ => h_.1))) (Kd.R_base ho0) hb);have n1_:=Aside0.mk (Kd.R_lower (Kd.R_new' ho0 (Kd.R_lt (by (with_reducible repeat (first | apply Kd.R_alloc | apply Kd.R_drewN | apply Kd.R_drew));exact (Kd.R_mono (Kd.R_far (p:=⟨gb613,5,none⟩) (Kd.R_far (p:=⟨gb613,4,none⟩) (Kd.R_far (p:=⟨gb613,3,none⟩) (Kd.R_far (p:=⟨gb613,2,none⟩) (Kd.R_far (p:=⟨gb613,1,none⟩) (Kd.R_far (p:=⟨gb613,0,none⟩) (Kd.R_types HO608.out BK613.out (by decide)) (fun _ hk => hk.2) (.float .f64 t604)) (fun _ hk => hk.2) (.bool t605)) (fun _ hk => hk.2) (.slice Ao24 t606.length co24)) (fun _ hk => hk.2) (.int .i64 t609)) (fun _ hk => hk.2) (.int .i64 t610)) (fun _ hk => hk.2) (.int .i64 t611)) (fun _ h_ => h_.1))))) (below_size (by repeat (first | (with_reducible first | exact HB.out | apply below_alloc | apply pw_below_drewN | apply below_drew1 | refine below_set ?_ GE601.out | refine below_set ?_ GE613.out) | exact HB.out))));have n2_:=Aside0.mk (blk_below (g:=gb601) (o:=.cells #[.float .f64 a0_0,.bool a0_1,.slice A0_2 l0_2.length c0_2,.int .i64 a0_3,.int .i64 a0_4,.int .i64 a0_5] 30 (0,0)) (by (with_reducible repeat (first | refine blk_drewN ?_ _ | refine blk_drew ?_ | refine blk_alloc ?_ _));refine blk_far ?_ NB601_613.out _;(with_reducible repeat (first | refine blk_drewN ?_ _ | refine blk_drew ?_ | refine blk_alloc ?_ _));refine blk_far ?_ NB601_613.out _;(with_reducible repeat (first | refine blk_drewN ?_ _ | refine blk_drew ?_ | refine blk_alloc ?_ _));refine blk_far ?_ NB601_613.out _;(with_reducible repeat (first | refine blk_drewN ?_ _ | refine blk_drew ?_ | refine blk_alloc ?_ _));refine blk_far ?_ NB601_613.out _;(with_reducible repeat (first | refine blk_drewN ?_ _ | refine blk_drew ?_ | refine blk_alloc ?_ _));refine blk_far ?_ NB601_613.out _;(with_reducible repeat (first | refine blk_drewN ?_ _ | refine blk_drew ?_ | refine blk_alloc ?_ _));refine blk_far ?_ NB601_613.out _;(with_reducible repeat (first | refine blk_drewN ?_ _ | refine blk_drew ?_ | refine blk_alloc ?_ _));exact BK601.out) hb);have n3_:=Aside0.mk (blk_below (g:=gb613) (o:=.cells #[.float .f64 t604,.bool t605,.slice Ao24 t606.length co24,.int .i64 t609,.int .i64 t610,.int .i64 t611] 30 (0,0)) (by (with_reducible repeat (first | refine blk_drewN ?_ _ | refine blk_drew ?_ | refine blk_alloc ?_ _));refine blk_put (cs:=#[.float .f64 t604,.bool t605,.slice Ao24 t606.length co24,.int .i64 t609,.int .i64 t610,.int .i64 0]) ?_ 5 _ rfl;(with_reducible repeat (first | refine blk_drewN ?_ _ | refine blk_drew ?_ | refine blk_alloc ?_ _));refine blk_put (cs:=#[.float .f64 t604,.bool t605,.slice Ao24 t606.length co24,.int .i64 t609,.int .i64 0,.int .i64 0]) ?_ 4 _ rfl;(with_reducible repeat (first | refine blk_drewN ?_ _ | refine blk_drew ?_ | refine blk_alloc ?_ _));refine blk_put (cs:=#[.float .f64 t604,.bool t605,.slice Ao24 t606.length co24,.int .i64 0,.int .i64 0,.int .i64 0]) ?_ 3 _ rfl;(with_reducible repeat (first | refine blk_drewN ?_ _ | refine blk_drew ?_ | refine blk_alloc ?_ _));refine blk_put (cs:=#[.float .f64 t604,.bool t605,.slice none 0 0,.int .i64 0,.int .i64 0,.int .i64 0]) ?_ 2 _ rfl;(with_reducible repeat (first | refine blk_drewN ?_ _ | refine blk_drew ?_ | refine blk_alloc ?_ _));refine blk_put (cs:=#[.float .f64 t604,.bool false,.slice none 0 0,.int .i64 0,.int .i64 0,.int .i64 0]) ?_ 1 _ rfl;(with_reducible repeat (first | refine blk_drewN ?_ _ | refine blk_drew ?_ | refine blk_alloc ?_ _));refine blk_put (cs:=#[.float .f64 0,.bool false,.slice none 0 0,.int .i64 0,.int .i64 0,.int .i64 0]) ?_ 0 _ rfl;(with_reducible repeat (first | refine blk_drewN ?_ _ | refine blk_drew ?_ | refine blk_alloc ?_ _));exact BK613.out) hb);have n4_:=Aside0.mk (below_step (by repeat (first | (with_reducible first | exact HB.out | apply below_alloc | apply pw_below_drewN | apply below_drew1 | refine below_set ?_ GE601.out | refine below_set ?_ GE613.out) | exact HB.out)) hb);clear HO608;clear BK601;clear BK613;clear HB;have HO608:=n0_;have HO618:=n1_;have BK601:=n2_;have BK613:=n3_;have HB:=n4_;clear n0_ n1_ n2_ n3_ n4_;(try clear hb);(try clear hb2);(try clear hk);(try clear hi);(try clear ho0)) | ((with_reducible refine gate_dst (N:=9) rfl ?_);(try (refine gate_guard (by rfl) ?_;dsimp only));refine box_event ?hg (N:=9) ?hd (cs:=#[.float .f64 0,.bool false,.slice none 0 0,.int .i64 0,.int .i64 0,.int .i64 0]) (t:=30) ?hr ?_;(case hd => rfl);(case hg => rfl);(case hr => first | (go_simp;done) | (go_simp;rfl));intro gb623 hg w26 hbox hb;have n0_:=Aside0.mk (Kd.R_below (by (with_reducible repeat (first | apply Kd.R_alloc | apply Kd.R_drewN | apply Kd.R_drew));exact HO608.out) hb);have n1_:=Aside0.mk (Kd.R_below (by (with_reducible repeat (first | apply Kd.R_alloc | apply Kd.R_drewN | apply Kd.R_drew));exact HO618.out) hb);have n2_:=Aside0.mk (blk_below (g:=gb601) (o:=.cells #[.float .f64 a0_0,.bool a0_1,.slice A0_2 l0_2.length c0_2,.int .i64 a0_3,.int .i64 a0_4,.int .i64 a0_5] 30 (0,0)) (by (with_reducible repeat (first | refine blk_drewN ?_ _ | refine blk_drew ?_ | refine blk_alloc ?_ _));exact BK601.out) hb);have n3_:=Aside0.mk (blk_below (g:=gb613) (o:=.cells #[.float .f64 t604,.bool t605,.slice Ao24 t606.length co24,.int .i64 t609,.int .i64 t610,.int .i64 t611] 30 (0,0)) (by (with_reducible repeat (first | refine blk_drewN ?_ _ | refine blk_drew ?_ | refine blk_alloc ?_ _));exact BK613.out) hb);have n4_:=Aside0.mk (below_step (by repeat (first | (with_reducible first | exact HB.out | apply below_alloc | apply pw_below_drewN | apply below_drew1 | refine below_set ?_ GE601.out | refine below_set ?_ GE613.out) | exact HB.out)) hb);have n5_:=Aside0.mk (hbox);have n6_:=Aside0.mk ((by rw [hg];exact (below_size (by repeat (first | (with_reducible first | exact HB.out | apply below_alloc | apply pw_below_drewN | apply below_drew1 | refine below_set ?_ GE601.out | refine below_set ?_ GE613.out) | exact HB.out))) : w.heap.size ≤ gb623));have n7_:=Aside0.mk ((by rw [hg];exact (below_size (by repeat (first | (with_reducible first | exact HB.out | apply below_alloc | apply pw_below_drewN | apply below_drew1 | refine below_set ?_ GE601.out | refine below_set ?_ GE613.out) | exact HB.out))) : w.heap.size ≤ gb623));have n8_:=Aside0.mk ((by rw [hg];exact Nat.ne_of_lt (blk_lt (g:=gb601) (o:=.cells #[.float .f64 a0_0,.bool a0_1,.slice A0_2 l0_2.length c0_2,.int .i64 a0_3,.int .i64 a0_4,.int .i64 a0_5] 30 (0,0)) (by (with_reducible repeat (first | refine blk_drewN ?_ _ | refine blk_drew ?_ | refine blk_alloc ?_ _));exact BK601.out)) : gb601 ≠ gb623));have n9_:=Aside0.mk ((by rw [hg];exact Nat.ne_of_gt (blk_lt (g:=gb601) (o:=.cells #[.float .f64 a0_0,.bool a0_1,.slice A0_2 l0_2.length c0_2,.int .i64 a0_3,.int .i64 a0_4,.int .i64 a0_5] 30 (0,0)) (by (with_reducible repeat (first | refine blk_drewN ?_ _ | refine blk_drew ?_ | refine blk_alloc ?_ _));exact BK601.out)) : gb623 ≠ gb601));have n10_:=Aside0.mk ((by rw [hg];exact Nat.ne_of_lt (blk_lt (g:=gb613) (o:=.cells #[.float .f64 t604,.bool t605,.slice Ao24 t606.length co24,.int .i64 t609,.int .i64 t610,.int .i64 t611] 30 (0,0)) (by (with_reducible repeat (first | refine blk_drewN ?_ _ | refine blk_drew ?_ | refine blk_alloc ?_ _));exact BK613.out)) : gb613 ≠ gb623));have n11_:=Aside0.mk ((by rw [hg];exact Nat.ne_of_gt (blk_lt (g:=gb613) (o:=.cells #[.float .f64 t604,.bool t605,.slice Ao24 t606.length co24,.int .i64 t609,.int .i64 t610,.int .i64 t611] 30 (0,0)) (by (with_reducible repeat (first | refine blk_drewN ?_ _ | refine blk_drew ?_ | refine blk_alloc ?_ _));exact BK613.out)) : gb623 ≠ gb613));clear HO608;clear HO618;clear BK601;clear BK613;clear HB;have HO608:=n0_;have HO618:=n1_;have BK601:=n2_;have BK613:=n3_;have HB:=n4_;have BK623:=n5_;have GW623:=n6_;have GE623:=n7_;have NB601_623:=n8_;have NB623_601:=n9_;have NB613_623:=n10_;have NB623_613:=n11_;clear n0_ n1_ n2_ n3_ n4_ n5_ n6_ n7_ n8_ n9_ n10_ n11_;clear hb hbox hg;have hnb27:=NB623_601.out;have hnc27:=NB601_623.out;have hnb28:=NB623_613.out;have hnc28:=NB613_623.out;have hcz29_0 : w26.cell? ⟨gb623,0,none⟩ = some (.float .f64 0):=(blk_cell BK623.out 0).trans rfl;have hcz29_1 : w26.cell? ⟨gb623,1,none⟩ = some (.bool false):=(blk_cell BK623.out 1).trans rfl;have hcz29_2 : w26.cell? ⟨gb623,2,none⟩ = some (.slice none 0 0):=(blk_cell BK623.out 2).trans rfl;have hcz29_3 : w26.cell? ⟨gb623,3,none⟩ = some (.int .i64 0):=(blk_cell BK623.out 3).trans rfl;have hcz29_4 : w26.cell? ⟨gb623,4,none⟩ = some (.int .i64 0):=(blk_cell BK623.out 4).trans rfl;have hcz29_5 : w26.cell? ⟨gb623,5,none⟩ = some (.int .i64 0):=(blk_cell BK623.out 5).trans rfl;have hfz29_0:=blk_frozen BK623.out 0;have hfz29_1:=blk_frozen BK623.out 1;have hfz29_2:=blk_frozen BK623.out 2;have hfz29_3:=blk_frozen BK623.out 3;have hfz29_4:=blk_frozen BK623.out 4;have hfz29_5:=blk_frozen BK623.out 5;obtain ⟨Ao30,co30,eo30⟩:=Kd.R_slice HO618.out;subst eo30))
        (try simp only [Act.put,List.setIfInBounds_toArray,List.set_cons_zero,List.set_cons_succ])
        go_cut [74] (fun v74 wc => ∃ (kq : Nat) (x74_17 : Bool),v74 = .bool x74_17 ∧ Aside0 (humuslaw04_RowSums.j1 kq a1 a2 x74_17 a0_0 a0_1 l0_2 a0_3 a0_4 a0_5 t614 t615 t616 t619 t620 t621 = some r) ∧ Aside0 (kq ≤ kj3) ∧ Aside0 (Kd.R Kd.f64 25 wc w.heap.size (fun k_ => some k_ ≠ ((.slice Ao30 t616.length co30) : Value).ownBlock) (.slice Ao24 t606.length co24) t606) ∧ Aside0 (Kd.R Kd.f64 25 wc w.heap.size (fun k_ => some k_ ≠ ((.slice Ao24 t606.length co24) : Value).ownBlock) (.slice Ao30 t616.length co30) t616) ∧ Aside0 (wc.heap[gb601]? = some (.cells #[.float .f64 a0_0,.bool a0_1,(.slice A0_2 l0_2.length c0_2),.int .i64 a0_3,.int .i64 a0_4,.int .i64 a0_5] 30 (0,0))) ∧ Aside0 (wc.heap[gb613]? = some (.cells #[.float .f64 t604,.bool t605,(.slice Ao24 t606.length co24),.int .i64 t609,.int .i64 t610,.int .i64 t611] 30 (0,0))) ∧ Aside0 (wc.heap[gb623]? = some (.cells #[.float .f64 t614,.bool t615,(.slice Ao30 t616.length co30),.int .i64 t619,.int .i64 t620,.int .i64 t621] 30 (0,0))) ∧ Aside0 (Below w.heap.size w wc))
        case first =>
          have H:=HC18.out
          clear HC18
          by_cases c31 : t612 = 0
          · rw [if_pos c31] at H
            have c31b0 : (t612 == 0) = true:=beq_iff_eq.mpr c31
            have c31b1 : (t612 != 0) = false:=bne_eq_false_iff_eq.mpr c31
            clear c31
            (first | rw [c31b0] | (simp only [i64_w,i32_w];rw [c31b0]) | skip)
            by_cases c32 : t622 = 0
            · rw [if_pos c32] at H
              have c32b0 : (t622 == 0) = true:=beq_iff_eq.mpr c32
              have c32b1 : (t622 != 0) = false:=bne_eq_false_iff_eq.mpr c32
              clear c32
              by_cases c33 : (t616.length : Int) = (l0_2.length : Int)
              · rw [if_pos c33] at H
                have c33b0 : ((t616.length : Int) == (l0_2.length : Int)) = true:=beq_iff_eq.mpr c33
                have c33b1 : ((t616.length : Int) != (l0_2.length : Int)) = false:=bne_eq_false_iff_eq.mpr c33
                have c33b2 : (t616.length == l0_2.length) = true:=by first | simpa using c33 | (simp at c33 ⊢;omega)
                clear c33
                replace H:=Option.bind_eq_some_iff.mp H
                obtain ⟨t624,A340,H⟩:=H
                replace H : (if t624 = true then (if t619 = a0_3 then (if (!(t620 == a0_4) || (!(t621 == a0_5))) = true then (humuslaw04_RowSums.j1 kj3 a1 a2 true a0_0 a0_1 l0_2 a0_3 a0_4 a0_5 t614 t615 t616 t619 t620 t621) else (humuslaw04_RowSums.j1 kj3 a1 a2 t615 a0_0 a0_1 l0_2 a0_3 a0_4 a0_5 t614 t615 t616 t619 t620 t621)) else (humuslaw04_RowSums.j1 kj3 a1 a2 true a0_0 a0_1 l0_2 a0_3 a0_4 a0_5 t614 t615 t616 t619 t620 t621)) else (humuslaw04_RowSums.j1 kj3 a1 a2 true a0_0 a0_1 l0_2 a0_3 a0_4 a0_5 t614 t615 t616 t619 t620 t621)) = some r:=H
                have A34:=Aside0.mk A340
                clear A340
                by_cases c35 : t624 = true
                · subst c35
                  have H1 : (if t619 = a0_3 then (if (!(t620 == a0_4) || (!(t621 == a0_5))) = true then (humuslaw04_RowSums.j1 kj3 a1 a2 true a0_0 a0_1 l0_2 a0_3 a0_4 a0_5 t614 t615 t616 t619 t620 t621) else (humuslaw04_RowSums.j1 kj3 a1 a2 t615 a0_0 a0_1 l0_2 a0_3 a0_4 a0_5 t614 t615 t616 t619 t620 t621)) else (humuslaw04_RowSums.j1 kj3 a1 a2 true a0_0 a0_1 l0_2 a0_3 a0_4 a0_5 t614 t615 t616 t619 t620 t621)) = some r:=by rw [if_pos rfl] at H;exact H
                  clear H
                  have H:=H1
                  clear H1
                  by_cases c36 : t619 = a0_3
                  · rw [if_pos c36] at H
                    have c36b0 : (t619 == a0_3) = true:=beq_iff_eq.mpr c36
                    have c36b1 : (t619 != a0_3) = false:=bne_eq_false_iff_eq.mpr c36
                    clear c36
                    by_cases c37 : (!(t620 == a0_4) || (!(t621 == a0_5))) = true
                    · rw [if_pos c37] at H
                      have c37b0 : (!(t620 == a0_4) || (!(t621 == a0_5))) = true:=c37
                      clear c37
                      have H':=Aside0.mk H
                      clear H
                      have hnb38:=NB623_601.out
                      have hnc38:=NB601_623.out
                      have hnb39:=NB623_613.out
                      have hnc39:=NB613_623.out
                      have hcz40_0 : w26.cell? ⟨gb623,0,none⟩ = some (.float .f64 0):=(blk_cell BK623.out 0).trans rfl
                      have hcz40_1 : w26.cell? ⟨gb623,1,none⟩ = some (.bool false):=(blk_cell BK623.out 1).trans rfl
                      have hcz40_2 : w26.cell? ⟨gb623,2,none⟩ = some (.slice none 0 0):=(blk_cell BK623.out 2).trans rfl
                      have hcz40_3 : w26.cell? ⟨gb623,3,none⟩ = some (.int .i64 0):=(blk_cell BK623.out 3).trans rfl
                      have hcz40_4 : w26.cell? ⟨gb623,4,none⟩ = some (.int .i64 0):=(blk_cell BK623.out 4).trans rfl
                      have hcz40_5 : w26.cell? ⟨gb623,5,none⟩ = some (.int .i64 0):=(blk_cell BK623.out 5).trans rfl
                      have hfz40_0:=blk_frozen BK623.out 0
                      have hfz40_1:=blk_frozen BK623.out 1
                      have hfz40_2:=blk_frozen BK623.out 2
                      have hfz40_3:=blk_frozen BK623.out 3
                      have hfz40_4:=blk_frozen BK623.out 4
                      have hfz40_5:=blk_frozen BK623.out 5
                      have hnb41:=NB601_613.out
                      have hnc41:=NB613_601.out
                      have hcz42_0 : w26.cell? ⟨gb601,0,none⟩ = some (.float .f64 a0_0):=(blk_cell BK601.out 0).trans rfl
                      have hcz42_1 : w26.cell? ⟨gb601,1,none⟩ = some (.bool a0_1):=(blk_cell BK601.out 1).trans rfl
                      have hcz42_2 : w26.cell? ⟨gb601,2,none⟩ = some (.slice A0_2 l0_2.length c0_2):=(blk_cell BK601.out 2).trans rfl
                      have hcz42_3 : w26.cell? ⟨gb601,3,none⟩ = some (.int .i64 a0_3):=(blk_cell BK601.out 3).trans rfl
                      have hcz42_4 : w26.cell? ⟨gb601,4,none⟩ = some (.int .i64 a0_4):=(blk_cell BK601.out 4).trans rfl
                      have hcz42_5 : w26.cell? ⟨gb601,5,none⟩ = some (.int .i64 a0_5):=(blk_cell BK601.out 5).trans rfl
                      have hfz42_0:=blk_frozen BK601.out 0
                      have hfz42_1:=blk_frozen BK601.out 1
                      have hfz42_2:=blk_frozen BK601.out 2
                      have hfz42_3:=blk_frozen BK601.out 3
                      have hfz42_4:=blk_frozen BK601.out 4
                      have hfz42_5:=blk_frozen BK601.out 5
                      go_wp2_with (first | (go_at_call 44;(with_reducible refine (humusref01_Same.calls t614 a0_0 true _ A34.out).mono ?_);rintro e w' ⟨rfl,⟨nd,rfl⟩⟩))
                      go_meet
                      case rel => exact ⟨_,(true),(by first | rfl | (simp;done) | (simp [*];done)),H',⟨by have:=HJ3.out;first | omega | exact Nat.le_refl _⟩,⟨by (with_reducible repeat (first | apply Kd.R_alloc | apply Kd.R_drewN | apply Kd.R_drew));exact Kd.R_mono (Kd.R_far (p:=⟨gb623,5,none⟩) (Kd.R_far (p:=⟨gb623,4,none⟩) (Kd.R_far (p:=⟨gb623,3,none⟩) (Kd.R_far (p:=⟨gb623,2,none⟩) (Kd.R_far (p:=⟨gb623,1,none⟩) (Kd.R_far (p:=⟨gb623,0,none⟩) (Kd.R_types HO608.out BK623.out (by decide)) (fun _ hk => hk.2) (.float .f64 t614)) (fun _ hk => hk.2) (.bool t615)) (fun _ hk => hk.2) (.slice Ao30 t616.length co30)) (fun _ hk => hk.2) (.int .i64 t619)) (fun _ hk => hk.2) (.int .i64 t620)) (fun _ hk => hk.2) (.int .i64 t621)) (fun _ hk => hk.1.2)⟩,⟨by (with_reducible repeat (first | apply Kd.R_alloc | apply Kd.R_drewN | apply Kd.R_drew));exact Kd.R_mono (Kd.R_far (p:=⟨gb623,5,none⟩) (Kd.R_far (p:=⟨gb623,4,none⟩) (Kd.R_far (p:=⟨gb623,3,none⟩) (Kd.R_far (p:=⟨gb623,2,none⟩) (Kd.R_far (p:=⟨gb623,1,none⟩) (Kd.R_far (p:=⟨gb623,0,none⟩) (Kd.R_types HO618.out BK623.out (by decide)) (fun _ hk => hk.2) (.float .f64 t614)) (fun _ hk => hk.2) (.bool t615)) (fun _ hk => hk.2) (.slice Ao30 t616.length co30)) (fun _ hk => hk.2) (.int .i64 t619)) (fun _ hk => hk.2) (.int .i64 t620)) (fun _ hk => hk.2) (.int .i64 t621)) (fun _ hk => hk.1.2)⟩,⟨by (with_reducible repeat (first | refine blk_drewN ?_ _ | refine blk_drew ?_ | refine blk_alloc ?_ _));refine blk_far ?_ NB601_623.out _;(with_reducible repeat (first | refine blk_drewN ?_ _ | refine blk_drew ?_ | refine blk_alloc ?_ _));refine blk_far ?_ NB601_623.out _;(with_reducible repeat (first | refine blk_drewN ?_ _ | refine blk_drew ?_ | refine blk_alloc ?_ _));refine blk_far ?_ NB601_623.out _;(with_reducible repeat (first | refine blk_drewN ?_ _ | refine blk_drew ?_ | refine blk_alloc ?_ _));refine blk_far ?_ NB601_623.out _;(with_reducible repeat (first | refine blk_drewN ?_ _ | refine blk_drew ?_ | refine blk_alloc ?_ _));refine blk_far ?_ NB601_623.out _;(with_reducible repeat (first | refine blk_drewN ?_ _ | refine blk_drew ?_ | refine blk_alloc ?_ _));refine blk_far ?_ NB601_623.out _;(with_reducible repeat (first | refine blk_drewN ?_ _ | refine blk_drew ?_ | refine blk_alloc ?_ _));exact BK601.out⟩,⟨by (with_reducible repeat (first | refine blk_drewN ?_ _ | refine blk_drew ?_ | refine blk_alloc ?_ _));refine blk_far ?_ NB613_623.out _;(with_reducible repeat (first | refine blk_drewN ?_ _ | refine blk_drew ?_ | refine blk_alloc ?_ _));refine blk_far ?_ NB613_623.out _;(with_reducible repeat (first | refine blk_drewN ?_ _ | refine blk_drew ?_ | refine blk_alloc ?_ _));refine blk_far ?_ NB613_623.out _;(with_reducible repeat (first | refine blk_drewN ?_ _ | refine blk_drew ?_ | refine blk_alloc ?_ _));refine blk_far ?_ NB613_623.out _;(with_reducible repeat (first | refine blk_drewN ?_ _ | refine blk_drew ?_ | refine blk_alloc ?_ _));refine blk_far ?_ NB613_623.out _;(with_reducible repeat (first | refine blk_drewN ?_ _ | refine blk_drew ?_ | refine blk_alloc ?_ _));refine blk_far ?_ NB613_623.out _;(with_reducible repeat (first | refine blk_drewN ?_ _ | refine blk_drew ?_ | refine blk_alloc ?_ _));exact BK613.out⟩,⟨by (with_reducible repeat (first | refine blk_drewN ?_ _ | refine blk_drew ?_ | refine blk_alloc ?_ _));refine blk_put (cs:=#[.float .f64 t614,.bool t615,.slice Ao30 t616.length co30,.int .i64 t619,.int .i64 t620,.int .i64 0]) ?_ 5 _ rfl;(with_reducible repeat (first | refine blk_drewN ?_ _ | refine blk_drew ?_ | refine blk_alloc ?_ _));refine blk_put (cs:=#[.float .f64 t614,.bool t615,.slice Ao30 t616.length co30,.int .i64 t619,.int .i64 0,.int .i64 0]) ?_ 4 _ rfl;(with_reducible repeat (first | refine blk_drewN ?_ _ | refine blk_drew ?_ | refine blk_alloc ?_ _));refine blk_put (cs:=#[.float .f64 t614,.bool t615,.slice Ao30 t616.length co30,.int .i64 0,.int .i64 0,.int .i64 0]) ?_ 3 _ rfl;(with_reducible repeat (first | refine blk_drewN ?_ _ | refine blk_drew ?_ | refine blk_alloc ?_ _));refine blk_put (cs:=#[.float .f64 t614,.bool t615,.slice none 0 0,.int .i64 0,.int .i64 0,.int .i64 0]) ?_ 2 _ rfl;(with_reducible repeat (first | refine blk_drewN ?_ _ | refine blk_drew ?_ | refine blk_alloc ?_ _));refine blk_put (cs:=#[.float .f64 t614,.bool false,.slice none 0 0,.int .i64 0,.int .i64 0,.int .i64 0]) ?_ 1 _ rfl;(with_reducible repeat (first | refine blk_drewN ?_ _ | refine blk_drew ?_ | refine blk_alloc ?_ _));refine blk_put (cs:=#[.float .f64 0,.bool false,.slice none 0 0,.int .i64 0,.int .i64 0,.int .i64 0]) ?_ 0 _ rfl;(with_reducible repeat (first | refine blk_drewN ?_ _ | refine blk_drew ?_ | refine blk_alloc ?_ _));exact BK623.out⟩,⟨by repeat (first | (with_reducible first | exact HB.out | apply below_alloc | apply pw_below_drewN | apply below_drew1 | refine below_set ?_ GE601.out | refine below_set ?_ GE613.out | refine below_set ?_ GE623.out) | exact HB.out)⟩⟩
                    · rw [if_neg c37] at H
                      have c37b0 : (!(t620 == a0_4) || (!(t621 == a0_5))) = false:=by simpa using c37
                      clear c37
                      have H':=Aside0.mk H
                      clear H
                      have hnb43:=NB623_601.out
                      have hnc43:=NB601_623.out
                      have hnb44:=NB623_613.out
                      have hnc44:=NB613_623.out
                      have hcz45_0 : w26.cell? ⟨gb623,0,none⟩ = some (.float .f64 0):=(blk_cell BK623.out 0).trans rfl
                      have hcz45_1 : w26.cell? ⟨gb623,1,none⟩ = some (.bool false):=(blk_cell BK623.out 1).trans rfl
                      have hcz45_2 : w26.cell? ⟨gb623,2,none⟩ = some (.slice none 0 0):=(blk_cell BK623.out 2).trans rfl
                      have hcz45_3 : w26.cell? ⟨gb623,3,none⟩ = some (.int .i64 0):=(blk_cell BK623.out 3).trans rfl
                      have hcz45_4 : w26.cell? ⟨gb623,4,none⟩ = some (.int .i64 0):=(blk_cell BK623.out 4).trans rfl
                      have hcz45_5 : w26.cell? ⟨gb623,5,none⟩ = some (.int .i64 0):=(blk_cell BK623.out 5).trans rfl
                      have hfz45_0:=blk_frozen BK623.out 0
                      have hfz45_1:=blk_frozen BK623.out 1
                      have hfz45_2:=blk_frozen BK623.out 2
                      have hfz45_3:=blk_frozen BK623.out 3
                      have hfz45_4:=blk_frozen BK623.out 4
                      have hfz45_5:=blk_frozen BK623.out 5
                      have hnb46:=NB601_613.out
                      have hnc46:=NB613_601.out
                      have hcz47_0 : w26.cell? ⟨gb601,0,none⟩ = some (.float .f64 a0_0):=(blk_cell BK601.out 0).trans rfl
                      have hcz47_1 : w26.cell? ⟨gb601,1,none⟩ = some (.bool a0_1):=(blk_cell BK601.out 1).trans rfl
                      have hcz47_2 : w26.cell? ⟨gb601,2,none⟩ = some (.slice A0_2 l0_2.length c0_2):=(blk_cell BK601.out 2).trans rfl
                      have hcz47_3 : w26.cell? ⟨gb601,3,none⟩ = some (.int .i64 a0_3):=(blk_cell BK601.out 3).trans rfl
                      have hcz47_4 : w26.cell? ⟨gb601,4,none⟩ = some (.int .i64 a0_4):=(blk_cell BK601.out 4).trans rfl
                      have hcz47_5 : w26.cell? ⟨gb601,5,none⟩ = some (.int .i64 a0_5):=(blk_cell BK601.out 5).trans rfl
                      have hfz47_0:=blk_frozen BK601.out 0
                      have hfz47_1:=blk_frozen BK601.out 1
                      have hfz47_2:=blk_frozen BK601.out 2
                      have hfz47_3:=blk_frozen BK601.out 3
                      have hfz47_4:=blk_frozen BK601.out 4
                      have hfz47_5:=blk_frozen BK601.out 5
                      go_wp2_with (first | (go_at_call 44;(with_reducible refine (humusref01_Same.calls t614 a0_0 true _ A34.out).mono ?_);rintro e w' ⟨rfl,⟨nd,rfl⟩⟩))
                      go_meet
                      case rel => exact ⟨_,(t615),(by first | rfl | (simp;done) | (simp [*];done)),H',⟨by have:=HJ3.out;first | omega | exact Nat.le_refl _⟩,⟨by (with_reducible repeat (first | apply Kd.R_alloc | apply Kd.R_drewN | apply Kd.R_drew));exact Kd.R_mono (Kd.R_far (p:=⟨gb623,5,none⟩) (Kd.R_far (p:=⟨gb623,4,none⟩) (Kd.R_far (p:=⟨gb623,3,none⟩) (Kd.R_far (p:=⟨gb623,2,none⟩) (Kd.R_far (p:=⟨gb623,1,none⟩) (Kd.R_far (p:=⟨gb623,0,none⟩) (Kd.R_types HO608.out BK623.out (by decide)) (fun _ hk => hk.2) (.float .f64 t614)) (fun _ hk => hk.2) (.bool t615)) (fun _ hk => hk.2) (.slice Ao30 t616.length co30)) (fun _ hk => hk.2) (.int .i64 t619)) (fun _ hk => hk.2) (.int .i64 t620)) (fun _ hk => hk.2) (.int .i64 t621)) (fun _ hk => hk.1.2)⟩,⟨by (with_reducible repeat (first | apply Kd.R_alloc | apply Kd.R_drewN | apply Kd.R_drew));exact Kd.R_mono (Kd.R_far (p:=⟨gb623,5,none⟩) (Kd.R_far (p:=⟨gb623,4,none⟩) (Kd.R_far (p:=⟨gb623,3,none⟩) (Kd.R_far (p:=⟨gb623,2,none⟩) (Kd.R_far (p:=⟨gb623,1,none⟩) (Kd.R_far (p:=⟨gb623,0,none⟩) (Kd.R_types HO618.out BK623.out (by decide)) (fun _ hk => hk.2) (.float .f64 t614)) (fun _ hk => hk.2) (.bool t615)) (fun _ hk => hk.2) (.slice Ao30 t616.length co30)) (fun _ hk => hk.2) (.int .i64 t619)) (fun _ hk => hk.2) (.int .i64 t620)) (fun _ hk => hk.2) (.int .i64 t621)) (fun _ hk => hk.1.2)⟩,⟨by (with_reducible repeat (first | refine blk_drewN ?_ _ | refine blk_drew ?_ | refine blk_alloc ?_ _));refine blk_far ?_ NB601_623.out _;(with_reducible repeat (first | refine blk_drewN ?_ _ | refine blk_drew ?_ | refine blk_alloc ?_ _));refine blk_far ?_ NB601_623.out _;(with_reducible repeat (first | refine blk_drewN ?_ _ | refine blk_drew ?_ | refine blk_alloc ?_ _));refine blk_far ?_ NB601_623.out _;(with_reducible repeat (first | refine blk_drewN ?_ _ | refine blk_drew ?_ | refine blk_alloc ?_ _));refine blk_far ?_ NB601_623.out _;(with_reducible repeat (first | refine blk_drewN ?_ _ | refine blk_drew ?_ | refine blk_alloc ?_ _));refine blk_far ?_ NB601_623.out _;(with_reducible repeat (first | refine blk_drewN ?_ _ | refine blk_drew ?_ | refine blk_alloc ?_ _));refine blk_far ?_ NB601_623.out _;(with_reducible repeat (first | refine blk_drewN ?_ _ | refine blk_drew ?_ | refine blk_alloc ?_ _));exact BK601.out⟩,⟨by (with_reducible repeat (first | refine blk_drewN ?_ _ | refine blk_drew ?_ | refine blk_alloc ?_ _));refine blk_far ?_ NB613_623.out _;(with_reducible repeat (first | refine blk_drewN ?_ _ | refine blk_drew ?_ | refine blk_alloc ?_ _));refine blk_far ?_ NB613_623.out _;(with_reducible repeat (first | refine blk_drewN ?_ _ | refine blk_drew ?_ | refine blk_alloc ?_ _));refine blk_far ?_ NB613_623.out _;(with_reducible repeat (first | refine blk_drewN ?_ _ | refine blk_drew ?_ | refine blk_alloc ?_ _));refine blk_far ?_ NB613_623.out _;(with_reducible repeat (first | refine blk_drewN ?_ _ | refine blk_drew ?_ | refine blk_alloc ?_ _));refine blk_far ?_ NB613_623.out _;(with_reducible repeat (first | refine blk_drewN ?_ _ | refine blk_drew ?_ | refine blk_alloc ?_ _));refine blk_far ?_ NB613_623.out _;(with_reducible repeat (first | refine blk_drewN ?_ _ | refine blk_drew ?_ | refine blk_alloc ?_ _));exact BK613.out⟩,⟨by (with_reducible repeat (first | refine blk_drewN ?_ _ | refine blk_drew ?_ | refine blk_alloc ?_ _));refine blk_put (cs:=#[.float .f64 t614,.bool t615,.slice Ao30 t616.length co30,.int .i64 t619,.int .i64 t620,.int .i64 0]) ?_ 5 _ rfl;(with_reducible repeat (first | refine blk_drewN ?_ _ | refine blk_drew ?_ | refine blk_alloc ?_ _));refine blk_put (cs:=#[.float .f64 t614,.bool t615,.slice Ao30 t616.length co30,.int .i64 t619,.int .i64 0,.int .i64 0]) ?_ 4 _ rfl;(with_reducible repeat (first | refine blk_drewN ?_ _ | refine blk_drew ?_ | refine blk_alloc ?_ _));refine blk_put (cs:=#[.float .f64 t614,.bool t615,.slice Ao30 t616.length co30,.int .i64 0,.int .i64 0,.int .i64 0]) ?_ 3 _ rfl;(with_reducible repeat (first | refine blk_drewN ?_ _ | refine blk_drew ?_ | refine blk_alloc ?_ _));refine blk_put (cs:=#[.float .f64 t614,.bool t615,.slice none 0 0,.int .i64 0,.int .i64 0,.int .i64 0]) ?_ 2 _ rfl;(with_reducible repeat (first | refine blk_drewN ?_ _ | refine blk_drew ?_ | refine blk_alloc ?_ _));refine blk_put (cs:=#[.float .f64 t614,.bool false,.slice none 0 0,.int .i64 0,.int .i64 0,.int .i64 0]) ?_ 1 _ rfl;(with_reducible repeat (first | refine blk_drewN ?_ _ | refine blk_drew ?_ | refine blk_alloc ?_ _));refine blk_put (cs:=#[.float .f64 0,.bool false,.slice none 0 0,.int .i64 0,.int .i64 0,.int .i64 0]) ?_ 0 _ rfl;(with_reducible repeat (first | refine blk_drewN ?_ _ | refine blk_drew ?_ | refine blk_alloc ?_ _));exact BK623.out⟩,⟨by repeat (first | (with_reducible first | exact HB.out | apply below_alloc | apply pw_below_drewN | apply below_drew1 | refine below_set ?_ GE601.out | refine below_set ?_ GE613.out | refine below_set ?_ GE623.out) | exact HB.out)⟩⟩
                  · rw [if_neg c36] at H
                    have c36b0 : (t619 == a0_3) = false:=beq_eq_false_iff_ne.mpr c36
                    have c36b1 : (t619 != a0_3) = true:=bne_iff_ne.mpr c36
                    have H':=Aside0.mk H
                    clear H
                    have hnb48:=NB623_601.out
                    have hnc48:=NB601_623.out
                    have hnb49:=NB623_613.out
                    have hnc49:=NB613_623.out
                    have hcz50_0 : w26.cell? ⟨gb623,0,none⟩ = some (.float .f64 0):=(blk_cell BK623.out 0).trans rfl
                    have hcz50_1 : w26.cell? ⟨gb623,1,none⟩ = some (.bool false):=(blk_cell BK623.out 1).trans rfl
                    have hcz50_2 : w26.cell? ⟨gb623,2,none⟩ = some (.slice none 0 0):=(blk_cell BK623.out 2).trans rfl
                    have hcz50_3 : w26.cell? ⟨gb623,3,none⟩ = some (.int .i64 0):=(blk_cell BK623.out 3).trans rfl
                    have hcz50_4 : w26.cell? ⟨gb623,4,none⟩ = some (.int .i64 0):=(blk_cell BK623.out 4).trans rfl
                    have hcz50_5 : w26.cell? ⟨gb623,5,none⟩ = some (.int .i64 0):=(blk_cell BK623.out 5).trans rfl
                    have hfz50_0:=blk_frozen BK623.out 0
                    have hfz50_1:=blk_frozen BK623.out 1
                    have hfz50_2:=blk_frozen BK623.out 2
                    have hfz50_3:=blk_frozen BK623.out 3
                    have hfz50_4:=blk_frozen BK623.out 4
                    have hfz50_5:=blk_frozen BK623.out 5
                    have hnb51:=NB601_613.out
                    have hnc51:=NB613_601.out
                    have hcz52_0 : w26.cell? ⟨gb601,0,none⟩ = some (.float .f64 a0_0):=(blk_cell BK601.out 0).trans rfl
                    have hcz52_1 : w26.cell? ⟨gb601,1,none⟩ = some (.bool a0_1):=(blk_cell BK601.out 1).trans rfl
                    have hcz52_2 : w26.cell? ⟨gb601,2,none⟩ = some (.slice A0_2 l0_2.length c0_2):=(blk_cell BK601.out 2).trans rfl
                    have hcz52_3 : w26.cell? ⟨gb601,3,none⟩ = some (.int .i64 a0_3):=(blk_cell BK601.out 3).trans rfl
                    have hcz52_4 : w26.cell? ⟨gb601,4,none⟩ = some (.int .i64 a0_4):=(blk_cell BK601.out 4).trans rfl
                    have hcz52_5 : w26.cell? ⟨gb601,5,none⟩ = some (.int .i64 a0_5):=(blk_cell BK601.out 5).trans rfl
                    have hfz52_0:=blk_frozen BK601.out 0
                    have hfz52_1:=blk_frozen BK601.out 1
                    have hfz52_2:=blk_frozen BK601.out 2
                    have hfz52_3:=blk_frozen BK601.out 3
                    have hfz52_4:=blk_frozen BK601.out 4
                    have hfz52_5:=blk_frozen BK601.out 5
                    go_wp2_with (first | (go_at_call 44;(with_reducible refine (humusref01_Same.calls t614 a0_0 true _ A34.out).mono ?_);rintro e w' ⟨rfl,⟨nd,rfl⟩⟩))
                    go_meet
                    case rel => exact ⟨_,(true),(by first | rfl | (simp;done) | (simp [*];done)),H',⟨by have:=HJ3.out;first | omega | exact Nat.le_refl _⟩,⟨by (with_reducible repeat (first | apply Kd.R_alloc | apply Kd.R_drewN | apply Kd.R_drew));exact Kd.R_mono (Kd.R_far (p:=⟨gb623,5,none⟩) (Kd.R_far (p:=⟨gb623,4,none⟩) (Kd.R_far (p:=⟨gb623,3,none⟩) (Kd.R_far (p:=⟨gb623,2,none⟩) (Kd.R_far (p:=⟨gb623,1,none⟩) (Kd.R_far (p:=⟨gb623,0,none⟩) (Kd.R_types HO608.out BK623.out (by decide)) (fun _ hk => hk.2) (.float .f64 t614)) (fun _ hk => hk.2) (.bool t615)) (fun _ hk => hk.2) (.slice Ao30 t616.length co30)) (fun _ hk => hk.2) (.int .i64 t619)) (fun _ hk => hk.2) (.int .i64 t620)) (fun _ hk => hk.2) (.int .i64 t621)) (fun _ hk => hk.1.2)⟩,⟨by (with_reducible repeat (first | apply Kd.R_alloc | apply Kd.R_drewN | apply Kd.R_drew));exact Kd.R_mono (Kd.R_far (p:=⟨gb623,5,none⟩) (Kd.R_far (p:=⟨gb623,4,none⟩) (Kd.R_far (p:=⟨gb623,3,none⟩) (Kd.R_far (p:=⟨gb623,2,none⟩) (Kd.R_far (p:=⟨gb623,1,none⟩) (Kd.R_far (p:=⟨gb623,0,none⟩) (Kd.R_types HO618.out BK623.out (by decide)) (fun _ hk => hk.2) (.float .f64 t614)) (fun _ hk => hk.2) (.bool t615)) (fun _ hk => hk.2) (.slice Ao30 t616.length co30)) (fun _ hk => hk.2) (.int .i64 t619)) (fun _ hk => hk.2) (.int .i64 t620)) (fun _ hk => hk.2) (.int .i64 t621)) (fun _ hk => hk.1.2)⟩,⟨by (with_reducible repeat (first | refine blk_drewN ?_ _ | refine blk_drew ?_ | refine blk_alloc ?_ _));refine blk_far ?_ NB601_623.out _;(with_reducible repeat (first | refine blk_drewN ?_ _ | refine blk_drew ?_ | refine blk_alloc ?_ _));refine blk_far ?_ NB601_623.out _;(with_reducible repeat (first | refine blk_drewN ?_ _ | refine blk_drew ?_ | refine blk_alloc ?_ _));refine blk_far ?_ NB601_623.out _;(with_reducible repeat (first | refine blk_drewN ?_ _ | refine blk_drew ?_ | refine blk_alloc ?_ _));refine blk_far ?_ NB601_623.out _;(with_reducible repeat (first | refine blk_drewN ?_ _ | refine blk_drew ?_ | refine blk_alloc ?_ _));refine blk_far ?_ NB601_623.out _;(with_reducible repeat (first | refine blk_drewN ?_ _ | refine blk_drew ?_ | refine blk_alloc ?_ _));refine blk_far ?_ NB601_623.out _;(with_reducible repeat (first | refine blk_drewN ?_ _ | refine blk_drew ?_ | refine blk_alloc ?_ _));exact BK601.out⟩,⟨by (with_reducible repeat (first | refine blk_drewN ?_ _ | refine blk_drew ?_ | refine blk_alloc ?_ _));refine blk_far ?_ NB613_623.out _;(with_reducible repeat (first | refine blk_drewN ?_ _ | refine blk_drew ?_ | refine blk_alloc ?_ _));refine blk_far ?_ NB613_623.out _;(with_reducible repeat (first | refine blk_drewN ?_ _ | refine blk_drew ?_ | refine blk_alloc ?_ _));refine blk_far ?_ NB613_623.out _;(with_reducible repeat (first | refine blk_drewN ?_ _ | refine blk_drew ?_ | refine blk_alloc ?_ _));refine blk_far ?_ NB613_623.out _;(with_reducible repeat (first | refine blk_drewN ?_ _ | refine blk_drew ?_ | refine blk_alloc ?_ _));refine blk_far ?_ NB613_623.out _;(with_reducible repeat (first | refine blk_drewN ?_ _ | refine blk_drew ?_ | refine blk_alloc ?_ _));refine blk_far ?_ NB613_623.out _;(with_reducible repeat (first | refine blk_drewN ?_ _ | refine blk_drew ?_ | refine blk_alloc ?_ _));exact BK613.out⟩,⟨by (with_reducible repeat (first | refine blk_drewN ?_ _ | refine blk_drew ?_ | refine blk_alloc ?_ _));refine blk_put (cs:=#[.float .f64 t614,.bool t615,.slice Ao30 t616.length co30,.int .i64 t619,.int .i64 t620,.int .i64 0]) ?_ 5 _ rfl;(with_reducible repeat (first | refine blk_drewN ?_ _ | refine blk_drew ?_ | refine blk_alloc ?_ _));refine blk_put (cs:=#[.float .f64 t614,.bool t615,.slice Ao30 t616.length co30,.int .i64 t619,.int .i64 0,.int .i64 0]) ?_ 4 _ rfl;(with_reducible repeat (first | refine blk_drewN ?_ _ | refine blk_drew ?_ | refine blk_alloc ?_ _));refine blk_put (cs:=#[.float .f64 t614,.bool t615,.slice Ao30 t616.length co30,.int .i64 0,.int .i64 0,.int .i64 0]) ?_ 3 _ rfl;(with_reducible repeat (first | refine blk_drewN ?_ _ | refine blk_drew ?_ | refine blk_alloc ?_ _));refine blk_put (cs:=#[.float .f64 t614,.bool t615,.slice none 0 0,.int .i64 0,.int .i64 0,.int .i64 0]) ?_ 2 _ rfl;(with_reducible repeat (first | refine blk_drewN ?_ _ | refine blk_drew ?_ | refine blk_alloc ?_ _));refine blk_put (cs:=#[.float .f64 t614,.bool false,.slice none 0 0,.int .i64 0,.int .i64 0,.int .i64 0]) ?_ 1 _ rfl;(with_reducible repeat (first | refine blk_drewN ?_ _ | refine blk_drew ?_ | refine blk_alloc ?_ _));refine blk_put (cs:=#[.float .f64 0,.bool false,.slice none 0 0,.int .i64 0,.int .i64 0,.int .i64 0]) ?_ 0 _ rfl;(with_reducible repeat (first | refine blk_drewN ?_ _ | refine blk_drew ?_ | refine blk_alloc ?_ _));exact BK623.out⟩,⟨by repeat (first | (with_reducible first | exact HB.out | apply below_alloc | apply pw_below_drewN | apply below_drew1 | refine below_set ?_ GE601.out | refine below_set ?_ GE613.out | refine below_set ?_ GE623.out) | exact HB.out)⟩⟩
                · replace c35:=Bool.eq_false_iff.mpr c35
                  subst c35
                  have H1 : (humuslaw04_RowSums.j1 kj3 a1 a2 true a0_0 a0_1 l0_2 a0_3 a0_4 a0_5 t614 t615 t616 t619 t620 t621) = some r:=by rw [if_neg (show ¬ (false = true) by decide)] at H;exact H
                  clear H
                  have H:=H1
                  clear H1
                  have H':=Aside0.mk H
                  clear H
                  have hnb53:=NB623_601.out
                  have hnc53:=NB601_623.out
                  have hnb54:=NB623_613.out
                  have hnc54:=NB613_623.out
                  have hcz55_0 : w26.cell? ⟨gb623,0,none⟩ = some (.float .f64 0):=(blk_cell BK623.out 0).trans rfl
                  have hcz55_1 : w26.cell? ⟨gb623,1,none⟩ = some (.bool false):=(blk_cell BK623.out 1).trans rfl
                  have hcz55_2 : w26.cell? ⟨gb623,2,none⟩ = some (.slice none 0 0):=(blk_cell BK623.out 2).trans rfl
                  have hcz55_3 : w26.cell? ⟨gb623,3,none⟩ = some (.int .i64 0):=(blk_cell BK623.out 3).trans rfl
                  have hcz55_4 : w26.cell? ⟨gb623,4,none⟩ = some (.int .i64 0):=(blk_cell BK623.out 4).trans rfl
                  have hcz55_5 : w26.cell? ⟨gb623,5,none⟩ = some (.int .i64 0):=(blk_cell BK623.out 5).trans rfl
                  have hfz55_0:=blk_frozen BK623.out 0
                  have hfz55_1:=blk_frozen BK623.out 1
                  have hfz55_2:=blk_frozen BK623.out 2
                  have hfz55_3:=blk_frozen BK623.out 3
                  have hfz55_4:=blk_frozen BK623.out 4
                  have hfz55_5:=blk_frozen BK623.out 5
                  have hnb56:=NB601_613.out
                  have hnc56:=NB613_601.out
                  have hcz57_0 : w26.cell? ⟨gb601,0,none⟩ = some (.float .f64 a0_0):=(blk_cell BK601.out 0).trans rfl
                  have hcz57_1 : w26.cell? ⟨gb601,1,none⟩ = some (.bool a0_1):=(blk_cell BK601.out 1).trans rfl
                  have hcz57_2 : w26.cell? ⟨gb601,2,none⟩ = some (.slice A0_2 l0_2.length c0_2):=(blk_cell BK601.out 2).trans rfl
                  have hcz57_3 : w26.cell? ⟨gb601,3,none⟩ = some (.int .i64 a0_3):=(blk_cell BK601.out 3).trans rfl
                  have hcz57_4 : w26.cell? ⟨gb601,4,none⟩ = some (.int .i64 a0_4):=(blk_cell BK601.out 4).trans rfl
                  have hcz57_5 : w26.cell? ⟨gb601,5,none⟩ = some (.int .i64 a0_5):=(blk_cell BK601.out 5).trans rfl
                  have hfz57_0:=blk_frozen BK601.out 0
                  have hfz57_1:=blk_frozen BK601.out 1
                  have hfz57_2:=blk_frozen BK601.out 2
                  have hfz57_3:=blk_frozen BK601.out 3
                  have hfz57_4:=blk_frozen BK601.out 4
                  have hfz57_5:=blk_frozen BK601.out 5
                  go_wp2_with (first | (go_at_call 44;(with_reducible refine (humusref01_Same.calls t614 a0_0 false _ A34.out).mono ?_);rintro e w' ⟨rfl,⟨nd,rfl⟩⟩))
                  go_meet
                  case rel => exact ⟨_,(true),(by first | rfl | (simp;done) | (simp [*];done)),H',⟨by have:=HJ3.out;first | omega | exact Nat.le_refl _⟩,⟨by (with_reducible repeat (first | apply Kd.R_alloc | apply Kd.R_drewN | apply Kd.R_drew));exact Kd.R_mono (Kd.R_far (p:=⟨gb623,5,none⟩) (Kd.R_far (p:=⟨gb623,4,none⟩) (Kd.R_far (p:=⟨gb623,3,none⟩) (Kd.R_far (p:=⟨gb623,2,none⟩) (Kd.R_far (p:=⟨gb623,1,none⟩) (Kd.R_far (p:=⟨gb623,0,none⟩) (Kd.R_types HO608.out BK623.out (by decide)) (fun _ hk => hk.2) (.float .f64 t614)) (fun _ hk => hk.2) (.bool t615)) (fun _ hk => hk.2) (.slice Ao30 t616.length co30)) (fun _ hk => hk.2) (.int .i64 t619)) (fun _ hk => hk.2) (.int .i64 t620)) (fun _ hk => hk.2) (.int .i64 t621)) (fun _ hk => hk.1.2)⟩,⟨by (with_reducible repeat (first | apply Kd.R_alloc | apply Kd.R_drewN | apply Kd.R_drew));exact Kd.R_mono (Kd.R_far (p:=⟨gb623,5,none⟩) (Kd.R_far (p:=⟨gb623,4,none⟩) (Kd.R_far (p:=⟨gb623,3,none⟩) (Kd.R_far (p:=⟨gb623,2,none⟩) (Kd.R_far (p:=⟨gb623,1,none⟩) (Kd.R_far (p:=⟨gb623,0,none⟩) (Kd.R_types HO618.out BK623.out (by decide)) (fun _ hk => hk.2) (.float .f64 t614)) (fun _ hk => hk.2) (.bool t615)) (fun _ hk => hk.2) (.slice Ao30 t616.length co30)) (fun _ hk => hk.2) (.int .i64 t619)) (fun _ hk => hk.2) (.int .i64 t620)) (fun _ hk => hk.2) (.int .i64 t621)) (fun _ hk => hk.1.2)⟩,⟨by (with_reducible repeat (first | refine blk_drewN ?_ _ | refine blk_drew ?_ | refine blk_alloc ?_ _));refine blk_far ?_ NB601_623.out _;(with_reducible repeat (first | refine blk_drewN ?_ _ | refine blk_drew ?_ | refine blk_alloc ?_ _));refine blk_far ?_ NB601_623.out _;(with_reducible repeat (first | refine blk_drewN ?_ _ | refine blk_drew ?_ | refine blk_alloc ?_ _));refine blk_far ?_ NB601_623.out _;(with_reducible repeat (first | refine blk_drewN ?_ _ | refine blk_drew ?_ | refine blk_alloc ?_ _));refine blk_far ?_ NB601_623.out _;(with_reducible repeat (first | refine blk_drewN ?_ _ | refine blk_drew ?_ | refine blk_alloc ?_ _));refine blk_far ?_ NB601_623.out _;(with_reducible repeat (first | refine blk_drewN ?_ _ | refine blk_drew ?_ | refine blk_alloc ?_ _));refine blk_far ?_ NB601_623.out _;(with_reducible repeat (first | refine blk_drewN ?_ _ | refine blk_drew ?_ | refine blk_alloc ?_ _));exact BK601.out⟩,⟨by (with_reducible repeat (first | refine blk_drewN ?_ _ | refine blk_drew ?_ | refine blk_alloc ?_ _));refine blk_far ?_ NB613_623.out _;(with_reducible repeat (first | refine blk_drewN ?_ _ | refine blk_drew ?_ | refine blk_alloc ?_ _));refine blk_far ?_ NB613_623.out _;(with_reducible repeat (first | refine blk_drewN ?_ _ | refine blk_drew ?_ | refine blk_alloc ?_ _));refine blk_far ?_ NB613_623.out _;(with_reducible repeat (first | refine blk_drewN ?_ _ | refine blk_drew ?_ | refine blk_alloc ?_ _));refine blk_far ?_ NB613_623.out _;(with_reducible repeat (first | refine blk_drewN ?_ _ | refine blk_drew ?_ | refine blk_alloc ?_ _));refine blk_far ?_ NB613_623.out _;(with_reducible repeat (first | refine blk_drewN ?_ _ | refine blk_drew ?_ | refine blk_alloc ?_ _));refine blk_far ?_ NB613_623.out _;(with_reducible repeat (first | refine blk_drewN ?_ _ | refine blk_drew ?_ | refine blk_alloc ?_ _));exact BK613.out⟩,⟨by (with_reducible repeat (first | refine blk_drewN ?_ _ | refine blk_drew ?_ | refine blk_alloc ?_ _));refine blk_put (cs:=#[.float .f64 t614,.bool t615,.slice Ao30 t616.length co30,.int .i64 t619,.int .i64 t620,.int .i64 0]) ?_ 5 _ rfl;(with_reducible repeat (first | refine blk_drewN ?_ _ | refine blk_drew ?_ | refine blk_alloc ?_ _));refine blk_put (cs:=#[.float .f64 t614,.bool t615,.slice Ao30 t616.length co30,.int .i64 t619,.int .i64 0,.int .i64 0]) ?_ 4 _ rfl;(with_reducible repeat (first | refine blk_drewN ?_ _ | refine blk_drew ?_ | refine blk_alloc ?_ _));refine blk_put (cs:=#[.float .f64 t614,.bool t615,.slice Ao30 t616.length co30,.int .i64 0,.int .i64 0,.int .i64 0]) ?_ 3 _ rfl;(with_reducible repeat (first | refine blk_drewN ?_ _ | refine blk_drew ?_ | refine blk_alloc ?_ _));refine blk_put (cs:=#[.float .f64 t614,.bool t615,.slice none 0 0,.int .i64 0,.int .i64 0,.int .i64 0]) ?_ 2 _ rfl;(with_reducible repeat (first | refine blk_drewN ?_ _ | refine blk_drew ?_ | refine blk_alloc ?_ _));refine blk_put (cs:=#[.float .f64 t614,.bool false,.slice none 0 0,.int .i64 0,.int .i64 0,.int .i64 0]) ?_ 1 _ rfl;(with_reducible repeat (first | refine blk_drewN ?_ _ | refine blk_drew ?_ | refine blk_alloc ?_ _));refine blk_put (cs:=#[.float .f64 0,.bool false,.slice none 0 0,.int .i64 0,.int .i64 0,.int .i64 0]) ?_ 0 _ rfl;(with_reducible repeat (first | refine blk_drewN ?_ _ | refine blk_drew ?_ | refine blk_alloc ?_ _));exact BK623.out⟩,⟨by repeat (first | (with_reducible first | exact HB.out | apply below_alloc | apply pw_below_drewN | apply below_drew1 | refine below_set ?_ GE601.out | refine below_set ?_ GE613.out | refine below_set ?_ GE623.out) | exact HB.out)⟩⟩
              · rw [if_neg c33] at H
                have c33b0 : ((t616.length : Int) == (l0_2.length : Int)) = false:=beq_eq_false_iff_ne.mpr c33
                have c33b1 : ((t616.length : Int) != (l0_2.length : Int)) = true:=bne_iff_ne.mpr c33
                have c33b2 : (t616.length == l0_2.length) = false:=by first | simpa using c33 | (simp at c33 ⊢;omega)
                have H':=Aside0.mk H
                clear H
                have hnb58:=NB623_601.out
                have hnc58:=NB601_623.out
                have hnb59:=NB623_613.out
                have hnc59:=NB613_623.out
                have hcz60_0 : w26.cell? ⟨gb623,0,none⟩ = some (.float .f64 0):=(blk_cell BK623.out 0).trans rfl
                have hcz60_1 : w26.cell? ⟨gb623,1,none⟩ = some (.bool false):=(blk_cell BK623.out 1).trans rfl
                have hcz60_2 : w26.cell? ⟨gb623,2,none⟩ = some (.slice none 0 0):=(blk_cell BK623.out 2).trans rfl
                have hcz60_3 : w26.cell? ⟨gb623,3,none⟩ = some (.int .i64 0):=(blk_cell BK623.out 3).trans rfl
                have hcz60_4 : w26.cell? ⟨gb623,4,none⟩ = some (.int .i64 0):=(blk_cell BK623.out 4).trans rfl
                have hcz60_5 : w26.cell? ⟨gb623,5,none⟩ = some (.int .i64 0):=(blk_cell BK623.out 5).trans rfl
                have hfz60_0:=blk_frozen BK623.out 0
                have hfz60_1:=blk_frozen BK623.out 1
                have hfz60_2:=blk_frozen BK623.out 2
                have hfz60_3:=blk_frozen BK623.out 3
                have hfz60_4:=blk_frozen BK623.out 4
                have hfz60_5:=blk_frozen BK623.out 5
                have hnb61:=NB601_613.out
                have hnc61:=NB613_601.out
                have hcz62_0 : w26.cell? ⟨gb601,0,none⟩ = some (.float .f64 a0_0):=(blk_cell BK601.out 0).trans rfl
                have hcz62_1 : w26.cell? ⟨gb601,1,none⟩ = some (.bool a0_1):=(blk_cell BK601.out 1).trans rfl
                have hcz62_2 : w26.cell? ⟨gb601,2,none⟩ = some (.slice A0_2 l0_2.length c0_2):=(blk_cell BK601.out 2).trans rfl
                have hcz62_3 : w26.cell? ⟨gb601,3,none⟩ = some (.int .i64 a0_3):=(blk_cell BK601.out 3).trans rfl
                have hcz62_4 : w26.cell? ⟨gb601,4,none⟩ = some (.int .i64 a0_4):=(blk_cell BK601.out 4).trans rfl
                have hcz62_5 : w26.cell? ⟨gb601,5,none⟩ = some (.int .i64 a0_5):=(blk_cell BK601.out 5).trans rfl
                have hfz62_0:=blk_frozen BK601.out 0
                have hfz62_1:=blk_frozen BK601.out 1
                have hfz62_2:=blk_frozen BK601.out 2
                have hfz62_3:=blk_frozen BK601.out 3
                have hfz62_4:=blk_frozen BK601.out 4
                have hfz62_5:=blk_frozen BK601.out 5
                go_wp2
                go_meet
                case rel => exact ⟨_,(true),(by first | rfl | (simp;done) | (simp [*];done)),H',⟨by have:=HJ3.out;first | omega | exact Nat.le_refl _⟩,⟨by (with_reducible repeat (first | apply Kd.R_alloc | apply Kd.R_drewN | apply Kd.R_drew));exact Kd.R_mono (Kd.R_far (p:=⟨gb623,5,none⟩) (Kd.R_far (p:=⟨gb623,4,none⟩) (Kd.R_far (p:=⟨gb623,3,none⟩) (Kd.R_far (p:=⟨gb623,2,none⟩) (Kd.R_far (p:=⟨gb623,1,none⟩) (Kd.R_far (p:=⟨gb623,0,none⟩) (Kd.R_types HO608.out BK623.out (by decide)) (fun _ hk => hk.2) (.float .f64 t614)) (fun _ hk => hk.2) (.bool t615)) (fun _ hk => hk.2) (.slice Ao30 t616.length co30)) (fun _ hk => hk.2) (.int .i64 t619)) (fun _ hk => hk.2) (.int .i64 t620)) (fun _ hk => hk.2) (.int .i64 t621)) (fun _ hk => hk.1.2)⟩,⟨by (with_reducible repeat (first | apply Kd.R_alloc | apply Kd.R_drewN | apply Kd.R_drew));exact Kd.R_mono (Kd.R_far (p:=⟨gb623,5,none⟩) (Kd.R_far (p:=⟨gb623,4,none⟩) (Kd.R_far (p:=⟨gb623,3,none⟩) (Kd.R_far (p:=⟨gb623,2,none⟩) (Kd.R_far (p:=⟨gb623,1,none⟩) (Kd.R_far (p:=⟨gb623,0,none⟩) (Kd.R_types HO618.out BK623.out (by decide)) (fun _ hk => hk.2) (.float .f64 t614)) (fun _ hk => hk.2) (.bool t615)) (fun _ hk => hk.2) (.slice Ao30 t616.length co30)) (fun _ hk => hk.2) (.int .i64 t619)) (fun _ hk => hk.2) (.int .i64 t620)) (fun _ hk => hk.2) (.int .i64 t621)) (fun _ hk => hk.1.2)⟩,⟨by (with_reducible repeat (first | refine blk_drewN ?_ _ | refine blk_drew ?_ | refine blk_alloc ?_ _));refine blk_far ?_ NB601_623.out _;(with_reducible repeat (first | refine blk_drewN ?_ _ | refine blk_drew ?_ | refine blk_alloc ?_ _));refine blk_far ?_ NB601_623.out _;(with_reducible repeat (first | refine blk_drewN ?_ _ | refine blk_drew ?_ | refine blk_alloc ?_ _));refine blk_far ?_ NB601_623.out _;(with_reducible repeat (first | refine blk_drewN ?_ _ | refine blk_drew ?_ | refine blk_alloc ?_ _));refine blk_far ?_ NB601_623.out _;(with_reducible repeat (first | refine blk_drewN ?_ _ | refine blk_drew ?_ | refine blk_alloc ?_ _));refine blk_far ?_ NB601_623.out _;(with_reducible repeat (first | refine blk_drewN ?_ _ | refine blk_drew ?_ | refine blk_alloc ?_ _));refine blk_far ?_ NB601_623.out _;(with_reducible repeat (first | refine blk_drewN ?_ _ | refine blk_drew ?_ | refine blk_alloc ?_ _));exact BK601.out⟩,⟨by (with_reducible repeat (first | refine blk_drewN ?_ _ | refine blk_drew ?_ | refine blk_alloc ?_ _));refine blk_far ?_ NB613_623.out _;(with_reducible repeat (first | refine blk_drewN ?_ _ | refine blk_drew ?_ | refine blk_alloc ?_ _));refine blk_far ?_ NB613_623.out _;(with_reducible repeat (first | refine blk_drewN ?_ _ | refine blk_drew ?_ | refine blk_alloc ?_ _));refine blk_far ?_ NB613_623.out _;(with_reducible repeat (first | refine blk_drewN ?_ _ | refine blk_drew ?_ | refine blk_alloc ?_ _));refine blk_far ?_ NB613_623.out _;(with_reducible repeat (first | refine blk_drewN ?_ _ | refine blk_drew ?_ | refine blk_alloc ?_ _));refine blk_far ?_ NB613_623.out _;(with_reducible repeat (first | refine blk_drewN ?_ _ | refine blk_drew ?_ | refine blk_alloc ?_ _));refine blk_far ?_ NB613_623.out _;(with_reducible repeat (first | refine blk_drewN ?_ _ | refine blk_drew ?_ | refine blk_alloc ?_ _));exact BK613.out⟩,⟨by (with_reducible repeat (first | refine blk_drewN ?_ _ | refine blk_drew ?_ | refine blk_alloc ?_ _));refine blk_put (cs:=#[.float .f64 t614,.bool t615,.slice Ao30 t616.length co30,.int .i64 t619,.int .i64 t620,.int .i64 0]) ?_ 5 _ rfl;(with_reducible repeat (first | refine blk_drewN ?_ _ | refine blk_drew ?_ | refine blk_alloc ?_ _));refine blk_put (cs:=#[.float .f64 t614,.bool t615,.slice Ao30 t616.length co30,.int .i64 t619,.int .i64 0,.int .i64 0]) ?_ 4 _ rfl;(with_reducible repeat (first | refine blk_drewN ?_ _ | refine blk_drew ?_ | refine blk_alloc ?_ _));refine blk_put (cs:=#[.float .f64 t614,.bool t615,.slice Ao30 t616.length co30,.int .i64 0,.int .i64 0,.int .i64 0]) ?_ 3 _ rfl;(with_reducible repeat (first | refine blk_drewN ?_ _ | refine blk_drew ?_ | refine blk_alloc ?_ _));refine blk_put (cs:=#[.float .f64 t614,.bool t615,.slice none 0 0,.int .i64 0,.int .i64 0,.int .i64 0]) ?_ 2 _ rfl;(with_reducible repeat (first | refine blk_drewN ?_ _ | refine blk_drew ?_ | refine blk_alloc ?_ _));refine blk_put (cs:=#[.float .f64 t614,.bool false,.slice none 0 0,.int .i64 0,.int .i64 0,.int .i64 0]) ?_ 1 _ rfl;(with_reducible repeat (first | refine blk_drewN ?_ _ | refine blk_drew ?_ | refine blk_alloc ?_ _));refine blk_put (cs:=#[.float .f64 0,.bool false,.slice none 0 0,.int .i64 0,.int .i64 0,.int .i64 0]) ?_ 0 _ rfl;(with_reducible repeat (first | refine blk_drewN ?_ _ | refine blk_drew ?_ | refine blk_alloc ?_ _));exact BK623.out⟩,⟨by repeat (first | (with_reducible first | exact HB.out | apply below_alloc | apply pw_below_drewN | apply below_drew1 | refine below_set ?_ GE601.out | refine below_set ?_ GE613.out | refine below_set ?_ GE623.out) | exact HB.out)⟩⟩
            · rw [if_neg c32] at H
              have c32b0 : (t622 == 0) = false:=beq_eq_false_iff_ne.mpr c32
              have c32b1 : (t622 != 0) = true:=bne_iff_ne.mpr c32
              have H':=Aside0.mk H
              clear H
              go_wp2
              go_meet
              case rel => exact ⟨_,(true),(by first | rfl | (simp;done) | (simp [*];done)),H',⟨by have:=HJ3.out;first | omega | exact Nat.le_refl _⟩,⟨by (with_reducible repeat (first | apply Kd.R_alloc | apply Kd.R_drewN | apply Kd.R_drew));exact Kd.R_mono (Kd.R_far (p:=⟨gb623,5,none⟩) (Kd.R_far (p:=⟨gb623,4,none⟩) (Kd.R_far (p:=⟨gb623,3,none⟩) (Kd.R_far (p:=⟨gb623,2,none⟩) (Kd.R_far (p:=⟨gb623,1,none⟩) (Kd.R_far (p:=⟨gb623,0,none⟩) (Kd.R_types HO608.out BK623.out (by decide)) (fun _ hk => hk.2) (.float .f64 t614)) (fun _ hk => hk.2) (.bool t615)) (fun _ hk => hk.2) (.slice Ao30 t616.length co30)) (fun _ hk => hk.2) (.int .i64 t619)) (fun _ hk => hk.2) (.int .i64 t620)) (fun _ hk => hk.2) (.int .i64 t621)) (fun _ hk => hk.1.2)⟩,⟨by (with_reducible repeat (first | apply Kd.R_alloc | apply Kd.R_drewN | apply Kd.R_drew));exact Kd.R_mono (Kd.R_far (p:=⟨gb623,5,none⟩) (Kd.R_far (p:=⟨gb623,4,none⟩) (Kd.R_far (p:=⟨gb623,3,none⟩) (Kd.R_far (p:=⟨gb623,2,none⟩) (Kd.R_far (p:=⟨gb623,1,none⟩) (Kd.R_far (p:=⟨gb623,0,none⟩) (Kd.R_types HO618.out BK623.out (by decide)) (fun _ hk => hk.2) (.float .f64 t614)) (fun _ hk => hk.2) (.bool t615)) (fun _ hk => hk.2) (.slice Ao30 t616.length co30)) (fun _ hk => hk.2) (.int .i64 t619)) (fun _ hk => hk.2) (.int .i64 t620)) (fun _ hk => hk.2) (.int .i64 t621)) (fun _ hk => hk.1.2)⟩,⟨by (with_reducible repeat (first | refine blk_drewN ?_ _ | refine blk_drew ?_ | refine blk_alloc ?_ _));refine blk_far ?_ NB601_623.out _;(with_reducible repeat (first | refine blk_drewN ?_ _ | refine blk_drew ?_ | refine blk_alloc ?_ _));refine blk_far ?_ NB601_623.out _;(with_reducible repeat (first | refine blk_drewN ?_ _ | refine blk_drew ?_ | refine blk_alloc ?_ _));refine blk_far ?_ NB601_623.out _;(with_reducible repeat (first | refine blk_drewN ?_ _ | refine blk_drew ?_ | refine blk_alloc ?_ _));refine blk_far ?_ NB601_623.out _;(with_reducible repeat (first | refine blk_drewN ?_ _ | refine blk_drew ?_ | refine blk_alloc ?_ _));refine blk_far ?_ NB601_623.out _;(with_reducible repeat (first | refine blk_drewN ?_ _ | refine blk_drew ?_ | refine blk_alloc ?_ _));refine blk_far ?_ NB601_623.out _;(with_reducible repeat (first | refine blk_drewN ?_ _ | refine blk_drew ?_ | refine blk_alloc ?_ _));exact BK601.out⟩,⟨by (with_reducible repeat (first | refine blk_drewN ?_ _ | refine blk_drew ?_ | refine blk_alloc ?_ _));refine blk_far ?_ NB613_623.out _;(with_reducible repeat (first | refine blk_drewN ?_ _ | refine blk_drew ?_ | refine blk_alloc ?_ _));refine blk_far ?_ NB613_623.out _;(with_reducible repeat (first | refine blk_drewN ?_ _ | refine blk_drew ?_ | refine blk_alloc ?_ _));refine blk_far ?_ NB613_623.out _;(with_reducible repeat (first | refine blk_drewN ?_ _ | refine blk_drew ?_ | refine blk_alloc ?_ _));refine blk_far ?_ NB613_623.out _;(with_reducible repeat (first | refine blk_drewN ?_ _ | refine blk_drew ?_ | refine blk_alloc ?_ _));refine blk_far ?_ NB613_623.out _;(with_reducible repeat (first | refine blk_drewN ?_ _ | refine blk_drew ?_ | refine blk_alloc ?_ _));refine blk_far ?_ NB613_623.out _;(with_reducible repeat (first | refine blk_drewN ?_ _ | refine blk_drew ?_ | refine blk_alloc ?_ _));exact BK613.out⟩,⟨by (with_reducible repeat (first | refine blk_drewN ?_ _ | refine blk_drew ?_ | refine blk_alloc ?_ _));refine blk_put (cs:=#[.float .f64 t614,.bool t615,.slice Ao30 t616.length co30,.int .i64 t619,.int .i64 t620,.int .i64 0]) ?_ 5 _ rfl;(with_reducible repeat (first | refine blk_drewN ?_ _ | refine blk_drew ?_ | refine blk_alloc ?_ _));refine blk_put (cs:=#[.float .f64 t614,.bool t615,.slice Ao30 t616.length co30,.int .i64 t619,.int .i64 0,.int .i64 0]) ?_ 4 _ rfl;(with_reducible repeat (first | refine blk_drewN ?_ _ | refine blk_drew ?_ | refine blk_alloc ?_ _));refine blk_put (cs:=#[.float .f64 t614,.bool t615,.slice Ao30 t616.length co30,.int .i64 0,.int .i64 0,.int .i64 0]) ?_ 3 _ rfl;(with_reducible repeat (first | refine blk_drewN ?_ _ | refine blk_drew ?_ | refine blk_alloc ?_ _));refine blk_put (cs:=#[.float .f64 t614,.bool t615,.slice none 0 0,.int .i64 0,.int .i64 0,.int .i64 0]) ?_ 2 _ rfl;(with_reducible repeat (first | refine blk_drewN ?_ _ | refine blk_drew ?_ | refine blk_alloc ?_ _));refine blk_put (cs:=#[.float .f64 t614,.bool false,.slice none 0 0,.int .i64 0,.int .i64 0,.int .i64 0]) ?_ 1 _ rfl;(with_reducible repeat (first | refine blk_drewN ?_ _ | refine blk_drew ?_ | refine blk_alloc ?_ _));refine blk_put (cs:=#[.float .f64 0,.bool false,.slice none 0 0,.int .i64 0,.int .i64 0,.int .i64 0]) ?_ 0 _ rfl;(with_reducible repeat (first | refine blk_drewN ?_ _ | refine blk_drew ?_ | refine blk_alloc ?_ _));exact BK623.out⟩,⟨by repeat (first | (with_reducible first | exact HB.out | apply below_alloc | apply pw_below_drewN | apply below_drew1 | refine below_set ?_ GE601.out | refine below_set ?_ GE613.out | refine below_set ?_ GE623.out) | exact HB.out)⟩⟩
          · rw [if_neg c31] at H
            have c31b0 : (t612 == 0) = false:=beq_eq_false_iff_ne.mpr c31
            have c31b1 : (t612 != 0) = true:=bne_iff_ne.mpr c31
            (first | rw [c31b0] | (simp only [i64_w,i32_w];rw [c31b0]) | skip)
            have H':=Aside0.mk H
            clear H
            go_wp2
            go_meet
            case rel => exact ⟨_,(true),(by first | rfl | (simp;done) | (simp [*];done)),H',⟨by have:=HJ3.out;first | omega | exact Nat.le_refl _⟩,⟨by (with_reducible repeat (first | apply Kd.R_alloc | apply Kd.R_drewN | apply Kd.R_drew));exact Kd.R_mono (Kd.R_far (p:=⟨gb623,5,none⟩) (Kd.R_far (p:=⟨gb623,4,none⟩) (Kd.R_far (p:=⟨gb623,3,none⟩) (Kd.R_far (p:=⟨gb623,2,none⟩) (Kd.R_far (p:=⟨gb623,1,none⟩) (Kd.R_far (p:=⟨gb623,0,none⟩) (Kd.R_types HO608.out BK623.out (by decide)) (fun _ hk => hk.2) (.float .f64 t614)) (fun _ hk => hk.2) (.bool t615)) (fun _ hk => hk.2) (.slice Ao30 t616.length co30)) (fun _ hk => hk.2) (.int .i64 t619)) (fun _ hk => hk.2) (.int .i64 t620)) (fun _ hk => hk.2) (.int .i64 t621)) (fun _ hk => hk.1.2)⟩,⟨by (with_reducible repeat (first | apply Kd.R_alloc | apply Kd.R_drewN | apply Kd.R_drew));exact Kd.R_mono (Kd.R_far (p:=⟨gb623,5,none⟩) (Kd.R_far (p:=⟨gb623,4,none⟩) (Kd.R_far (p:=⟨gb623,3,none⟩) (Kd.R_far (p:=⟨gb623,2,none⟩) (Kd.R_far (p:=⟨gb623,1,none⟩) (Kd.R_far (p:=⟨gb623,0,none⟩) (Kd.R_types HO618.out BK623.out (by decide)) (fun _ hk => hk.2) (.float .f64 t614)) (fun _ hk => hk.2) (.bool t615)) (fun _ hk => hk.2) (.slice Ao30 t616.length co30)) (fun _ hk => hk.2) (.int .i64 t619)) (fun _ hk => hk.2) (.int .i64 t620)) (fun _ hk => hk.2) (.int .i64 t621)) (fun _ hk => hk.1.2)⟩,⟨by (with_reducible repeat (first | refine blk_drewN ?_ _ | refine blk_drew ?_ | refine blk_alloc ?_ _));refine blk_far ?_ NB601_623.out _;(with_reducible repeat (first | refine blk_drewN ?_ _ | refine blk_drew ?_ | refine blk_alloc ?_ _));refine blk_far ?_ NB601_623.out _;(with_reducible repeat (first | refine blk_drewN ?_ _ | refine blk_drew ?_ | refine blk_alloc ?_ _));refine blk_far ?_ NB601_623.out _;(with_reducible repeat (first | refine blk_drewN ?_ _ | refine blk_drew ?_ | refine blk_alloc ?_ _));refine blk_far ?_ NB601_623.out _;(with_reducible repeat (first | refine blk_drewN ?_ _ | refine blk_drew ?_ | refine blk_alloc ?_ _));refine blk_far ?_ NB601_623.out _;(with_reducible repeat (first | refine blk_drewN ?_ _ | refine blk_drew ?_ | refine blk_alloc ?_ _));refine blk_far ?_ NB601_623.out _;(with_reducible repeat (first | refine blk_drewN ?_ _ | refine blk_drew ?_ | refine blk_alloc ?_ _));exact BK601.out⟩,⟨by (with_reducible repeat (first | refine blk_drewN ?_ _ | refine blk_drew ?_ | refine blk_alloc ?_ _));refine blk_far ?_ NB613_623.out _;(with_reducible repeat (first | refine blk_drewN ?_ _ | refine blk_drew ?_ | refine blk_alloc ?_ _));refine blk_far ?_ NB613_623.out _;(with_reducible repeat (first | refine blk_drewN ?_ _ | refine blk_drew ?_ | refine blk_alloc ?_ _));refine blk_far ?_ NB613_623.out _;(with_reducible repeat (first | refine blk_drewN ?_ _ | refine blk_drew ?_ | refine blk_alloc ?_ _));refine blk_far ?_ NB613_623.out _;(with_reducible repeat (first | refine blk_drewN ?_ _ | refine blk_drew ?_ | refine blk_alloc ?_ _));refine blk_far ?_ NB613_623.out _;(with_reducible repeat (first | refine blk_drewN ?_ _ | refine blk_drew ?_ | refine blk_alloc ?_ _));refine blk_far ?_ NB613_623.out _;(with_reducible repeat (first | refine blk_drewN ?_ _ | refine blk_drew ?_ | refine blk_alloc ?_ _));exact BK613.out⟩,⟨by (with_reducible repeat (first | refine blk_drewN ?_ _ | refine blk_drew ?_ | refine blk_alloc ?_ _));refine blk_put (cs:=#[.float .f64 t614,.bool t615,.slice Ao30 t616.length co30,.int .i64 t619,.int .i64 t620,.int .i64 0]) ?_ 5 _ rfl;(with_reducible repeat (first | refine blk_drewN ?_ _ | refine blk_drew ?_ | refine blk_alloc ?_ _));refine blk_put (cs:=#[.float .f64 t614,.bool t615,.slice Ao30 t616.length co30,.int .i64 t619,.int .i64 0,.int .i64 0]) ?_ 4 _ rfl;(with_reducible repeat (first | refine blk_drewN ?_ _ | refine blk_drew ?_ | refine blk_alloc ?_ _));refine blk_put (cs:=#[.float .f64 t614,.bool t615,.slice Ao30 t616.length co30,.int .i64 0,.int .i64 0,.int .i64 0]) ?_ 3 _ rfl;(with_reducible repeat (first | refine blk_drewN ?_ _ | refine blk_drew ?_ | refine blk_alloc ?_ _));refine blk_put (cs:=#[.float .f64 t614,.bool t615,.slice none 0 0,.int .i64 0,.int .i64 0,.int .i64 0]) ?_ 2 _ rfl;(with_reducible repeat (first | refine blk_drewN ?_ _ | refine blk_drew ?_ | refine blk_alloc ?_ _));refine blk_put (cs:=#[.float .f64 t614,.bool false,.slice none 0 0,.int .i64 0,.int .i64 0,.int .i64 0]) ?_ 1 _ rfl;(with_reducible repeat (first | refine blk_drewN ?_ _ | refine blk_drew ?_ | refine blk_alloc ?_ _));refine blk_put (cs:=#[.float .f64 0,.bool false,.slice none 0 0,.int .i64 0,.int .i64 0,.int .i64 0]) ?_ 0 _ rfl;(with_reducible repeat (first | refine blk_drewN ?_ _ | refine blk_drew ?_ | refine blk_alloc ?_ _));exact BK623.out⟩,⟨by repeat (first | (with_reducible first | exact HB.out | apply below_alloc | apply pw_below_drewN | apply below_drew1 | refine below_set ?_ GE601.out | refine below_set ?_ GE613.out | refine below_set ?_ GE623.out) | exact HB.out)⟩⟩
        case rest =>
          clear HC18
          try clear c1
          try clear c2
          try clear p2
          try clear c3
          try clear c4
          try clear c5
          try clear c6
          try clear c7
          try clear c10
          try clear c13
          try clear c22
          try clear c27
          try clear c28
          try clear c31
          try clear c31b0
          try clear c31b1
          try clear c32
          try clear c32b0
          try clear c32b1
          try clear c33
          try clear c33b0
          try clear c33b1
          try clear c33b2
          try clear c34
          try clear c35
          try clear c36
          try clear c36b0
          try clear c36b1
          try clear c37
          try clear c37b0
          try clear c38
          try clear c39
          try clear c41
          try clear c43
          try clear c44
          try clear c46
          try clear c48
          try clear c49
          try clear c51
          try clear c53
          try clear c54
          try clear c56
          try clear c58
          try clear c59
          try clear c61
          try clear hcz10_0
          try clear hcz10_1
          try clear hcz10_2
          try clear hcz10_3
          try clear hcz10_4
          try clear hcz10_5
          try clear hcz11_0
          try clear hcz11_1
          try clear hcz11_2
          try clear hcz11_3
          try clear hcz11_4
          try clear hcz11_5
          try clear hcz19_0
          try clear hcz19_1
          try clear hcz19_2
          try clear hcz19_3
          try clear hcz19_4
          try clear hcz19_5
          try clear hcz23_0
          try clear hcz23_1
          try clear hcz23_2
          try clear hcz23_3
          try clear hcz23_4
          try clear hcz23_5
          try clear hcz29_0
          try clear hcz29_1
          try clear hcz29_2
          try clear hcz29_3
          try clear hcz29_4
          try clear hcz29_5
          try clear hcz40_0
          try clear hcz40_1
          try clear hcz40_2
          try clear hcz40_3
          try clear hcz40_4
          try clear hcz40_5
          try clear hcz42_0
          try clear hcz42_1
          try clear hcz42_2
          try clear hcz42_3
          try clear hcz42_4
          try clear hcz42_5
          try clear hcz45_0
          try clear hcz45_1
          try clear hcz45_2
          try clear hcz45_3
          try clear hcz45_4
          try clear hcz45_5
          try clear hcz47_0
          try clear hcz47_1
          try clear hcz47_2
          try clear hcz47_3
          try clear hcz47_4
          try clear hcz47_5
          try clear hcz50_0
          try clear hcz50_1
          try clear hcz50_2
          try clear hcz50_3
          try clear hcz50_4
          try clear hcz50_5
          try clear hcz52_0
          try clear hcz52_1
          try clear hcz52_2
          try clear hcz52_3
          try clear hcz52_4
          try clear hcz52_5
          try clear hcz55_0
          try clear hcz55_1
          try clear hcz55_2
          try clear hcz55_3
          try clear hcz55_4
          try clear hcz55_5
          try clear hcz57_0
          try clear hcz57_1
          try clear hcz57_2
          try clear hcz57_3
          try clear hcz57_4
          try clear hcz57_5
          try clear hcz60_0
          try clear hcz60_1
          try clear hcz60_2
          try clear hcz60_3
          try clear hcz60_4
          try clear hcz60_5
          try clear hcz62_0
          try clear hcz62_1
          try clear hcz62_2
          try clear hcz62_3
          try clear hcz62_4
          try clear hcz62_5
          try clear hcz8_0
          try clear hcz8_1
          try clear hcz8_2
          try clear hcz8_3
          try clear hcz8_4
          try clear hcz8_5
          try clear hfz10_0
          try clear hfz10_1
          try clear hfz10_2
          try clear hfz10_3
          try clear hfz10_4
          try clear hfz10_5
          try clear hfz11_0
          try clear hfz11_1
          try clear hfz11_2
          try clear hfz11_3
          try clear hfz11_4
          try clear hfz11_5
          try clear hfz19_0
          try clear hfz19_1
          try clear hfz19_2
          try clear hfz19_3
          try clear hfz19_4
          try clear hfz19_5
          try clear hfz23_0
          try clear hfz23_1
          try clear hfz23_2
          try clear hfz23_3
          try clear hfz23_4
          try clear hfz23_5
          try clear hfz29_0
          try clear hfz29_1
          try clear hfz29_2
          try clear hfz29_3
          try clear hfz29_4
          try clear hfz29_5
          try clear hfz40_0
          try clear hfz40_1
          try clear hfz40_2
          try clear hfz40_3
          try clear hfz40_4
          try clear hfz40_5
          try clear hfz42_0
          try clear hfz42_1
          try clear hfz42_2
          try clear hfz42_3
          try clear hfz42_4
          try clear hfz42_5
          try clear hfz45_0
          try clear hfz45_1
          try clear hfz45_2
          try clear hfz45_3
          try clear hfz45_4
          try clear hfz45_5
          try clear hfz47_0
          try clear hfz47_1
          try clear hfz47_2
          try clear hfz47_3
          try clear hfz47_4
          try clear hfz47_5
          try clear hfz50_0
          try clear hfz50_1
          try clear hfz50_2
          try clear hfz50_3
          try clear hfz50_4
          try clear hfz50_5
          try clear hfz52_0
          try clear hfz52_1
          try clear hfz52_2
          try clear hfz52_3
          try clear hfz52_4
          try clear hfz52_5
          try clear hfz55_0
          try clear hfz55_1
          try clear hfz55_2
          try clear hfz55_3
          try clear hfz55_4
          try clear hfz55_5
          try clear hfz57_0
          try clear hfz57_1
          try clear hfz57_2
          try clear hfz57_3
          try clear hfz57_4
          try clear hfz57_5
          try clear hfz60_0
          try clear hfz60_1
          try clear hfz60_2
          try clear hfz60_3
          try clear hfz60_4
          try clear hfz60_5
          try clear hfz62_0
          try clear hfz62_1
          try clear hfz62_2
          try clear hfz62_3
          try clear hfz62_4
          try clear hfz62_5
          try clear hfz8_0
          try clear hfz8_1
          try clear hfz8_2
          try clear hfz8_3
          try clear hfz8_4
          try clear hfz8_5
          try clear p2
          obtain ⟨kq,x74_17,rfl,HA,HJ17,HO_614002,HO_624002,BK601,BK613,BK623,HB⟩:=hcut
          cases kq with
          | zero => exact absurd HA.out (by simp [humuslaw04_RowSums.j1])
          | succ kj17 =>
            have H:=HA.out
            clear HA
            simp only [humuslaw04_RowSums.j1] at H
            by_cases c63 : x74_17 = true
            · subst c63
              have H1 : (some false) = some r:=by rw [if_pos rfl] at H;exact H
              clear H
              have H:=H1
              clear H1
              obtain rfl:=Option.some.inj H
              go_wp2
              go_ret
              exact ⟨by first | rfl | (simp [errW_none,errW_some] <;> rfl) | (simp [*,errW_none,errW_some] <;> rfl),by repeat (first | (with_reducible first | exact HB.out | apply below_alloc | apply pw_below_drewN | apply below_drew1 | refine below_set ?_ GE601.out | refine below_set ?_ GE613.out | refine below_set ?_ GE623.out) | exact HB.out)⟩
            · replace c63:=Bool.eq_false_iff.mpr c63
              subst c63
              have H1 : (humuslaw04_RowSums.l0 kj17 a1 a2 1 a0_0 a0_1 l0_2 a0_3 a0_4 a0_5 t614 t615 t616 t619 t620 t621) = some r:=by rw [if_neg (show ¬ (false = true) by decide)] at H;exact H
              clear H
              have H:=H1
              clear H1
              have H':=Aside0.mk H
              clear H
              go_wp2
              go_loopg [11] kj17 (fun kq v11 w' => ∃ (x11_3 : Int),v11 = .int .i64 x11_3 ∧ Aside0 (humuslaw04_RowSums.l0 kq a1 a2 x11_3 a0_0 a0_1 l0_2 a0_3 a0_4 a0_5 t614 t615 t616 t619 t620 t621 = some r) ∧ Aside0 (kq ≤ kj17) ∧ Aside0 (Kd.R Kd.f64 25 w' w.heap.size (fun k_ => some k_ ≠ ((.slice Ao30 t616.length co30) : Value).ownBlock) (.slice Ao24 t606.length co24) t606) ∧ Aside0 (Kd.R Kd.f64 25 w' w.heap.size (fun k_ => some k_ ≠ ((.slice Ao24 t606.length co24) : Value).ownBlock) (.slice Ao30 t616.length co30) t616) ∧ Aside0 (w'.heap[gb601]? = some (.cells #[.float .f64 a0_0,.bool a0_1,(.slice A0_2 l0_2.length c0_2),.int .i64 a0_3,.int .i64 a0_4,.int .i64 a0_5] 30 (0,0))) ∧ Aside0 (w'.heap[gb613]? = some (.cells #[.float .f64 t604,.bool t605,(.slice Ao24 t606.length co24),.int .i64 t609,.int .i64 t610,.int .i64 t611] 30 (0,0))) ∧ Aside0 (w'.heap[gb623]? = some (.cells #[.float .f64 t614,.bool t615,(.slice Ao30 t616.length co30),.int .i64 t619,.int .i64 t620,.int .i64 t621] 30 (0,0))) ∧ Aside0 (Below w.heap.size w w'))
              case atStart => exact ⟨(1),(by first | rfl | (simp;done) | (simp [*];done)),H',⟨Nat.le_refl _⟩,⟨by (with_reducible repeat (first | apply Kd.R_alloc | apply Kd.R_drewN | apply Kd.R_drew));exact HO_614002.out⟩,⟨by (with_reducible repeat (first | apply Kd.R_alloc | apply Kd.R_drewN | apply Kd.R_drew));exact HO_624002.out⟩,⟨by (with_reducible repeat (first | refine blk_drewN ?_ _ | refine blk_drew ?_ | refine blk_alloc ?_ _));exact BK601.out⟩,⟨by (with_reducible repeat (first | refine blk_drewN ?_ _ | refine blk_drew ?_ | refine blk_alloc ?_ _));exact BK613.out⟩,⟨by (with_reducible repeat (first | refine blk_drewN ?_ _ | refine blk_drew ?_ | refine blk_alloc ?_ _));exact BK623.out⟩,⟨by repeat (first | (with_reducible first | exact HB.out | apply below_alloc | apply pw_below_drewN | apply below_drew1 | refine below_set ?_ GE601.out | refine below_set ?_ GE613.out | refine below_set ?_ GE623.out) | exact HB.out)⟩⟩
              case round =>
                clear H'
                try clear c1
                try clear c2
                try clear p2
                try clear c3
                try clear c4
                try clear c5
                try clear c6
                try clear c7
                try clear c10
                try clear c13
                try clear c22
                try clear c27
                try clear c28
                try clear c31
                try clear c31b0
                try clear c31b1
                try clear c32
                try clear c32b0
                try clear c32b1
                try clear c33
                try clear c33b0
                try clear c33b1
                try clear c33b2
                try clear c34
                try clear c35
                try clear c36
                try clear c36b0
                try clear c36b1
                try clear c37
                try clear c37b0
                try clear c38
                try clear c39
                try clear c41
                try clear c43
                try clear c44
                try clear c46
                try clear c48
                try clear c49
                try clear c51
                try clear c53
                try clear c54
                try clear c56
                try clear c58
                try clear c59
                try clear c61
                try clear c63
                try clear hcz10_0
                try clear hcz10_1
                try clear hcz10_2
                try clear hcz10_3
                try clear hcz10_4
                try clear hcz10_5
                try clear hcz11_0
                try clear hcz11_1
                try clear hcz11_2
                try clear hcz11_3
                try clear hcz11_4
                try clear hcz11_5
                try clear hcz19_0
                try clear hcz19_1
                try clear hcz19_2
                try clear hcz19_3
                try clear hcz19_4
                try clear hcz19_5
                try clear hcz23_0
                try clear hcz23_1
                try clear hcz23_2
                try clear hcz23_3
                try clear hcz23_4
                try clear hcz23_5
                try clear hcz29_0
                try clear hcz29_1
                try clear hcz29_2
                try clear hcz29_3
                try clear hcz29_4
                try clear hcz29_5
                try clear hcz40_0
                try clear hcz40_1
                try clear hcz40_2
                try clear hcz40_3
                try clear hcz40_4
                try clear hcz40_5
                try clear hcz42_0
                try clear hcz42_1
                try clear hcz42_2
                try clear hcz42_3
                try clear hcz42_4
                try clear hcz42_5
                try clear hcz45_0
                try clear hcz45_1
                try clear hcz45_2
                try clear hcz45_3
                try clear hcz45_4
                try clear hcz45_5
                try clear hcz47_0
                try clear hcz47_1
                try clear hcz47_2
                try clear hcz47_3
                try clear hcz47_4
                try clear hcz47_5
                try clear hcz50_0
                try clear hcz50_1
                try clear hcz50_2
                try clear hcz50_3
                try clear hcz50_4
                try clear hcz50_5
                try clear hcz52_0
                try clear hcz52_1
                try clear hcz52_2
                try clear hcz52_3
                try clear hcz52_4
                try clear hcz52_5
                try clear hcz55_0
                try clear hcz55_1
                try clear hcz55_2
                try clear hcz55_3
                try clear hcz55_4
                try clear hcz55_5
                try clear hcz57_0
                try clear hcz57_1
                try clear hcz57_2
                try clear hcz57_3
                try clear hcz57_4
                try clear hcz57_5
                try clear hcz60_0
                try clear hcz60_1
                try clear hcz60_2
                try clear hcz60_3
                try clear hcz60_4
                try clear hcz60_5
                try clear hcz62_0
                try clear hcz62_1
                try clear hcz62_2
                try clear hcz62_3
                try clear hcz62_4
                try clear hcz62_5
                try clear hcz8_0
                try clear hcz8_1
                try clear hcz8_2
                try clear hcz8_3
                try clear hcz8_4
                try clear hcz8_5
                try clear hfz10_0
                try clear hfz10_1
                try clear hfz10_2
                try clear hfz10_3
                try clear hfz10_4
                try clear hfz10_5
                try clear hfz11_0
                try clear hfz11_1
                try clear hfz11_2
                try clear hfz11_3
                try clear hfz11_4
                try clear hfz11_5
                try clear hfz19_0
                try clear hfz19_1
                try clear hfz19_2
                try clear hfz19_3
                try clear hfz19_4
                try clear hfz19_5
                try clear hfz23_0
                try clear hfz23_1
                try clear hfz23_2
                try clear hfz23_3
                try clear hfz23_4
                try clear hfz23_5
                try clear hfz29_0
                try clear hfz29_1
                try clear hfz29_2
                try clear hfz29_3
                try clear hfz29_4
                try clear hfz29_5
                try clear hfz40_0
                try clear hfz40_1
                try clear hfz40_2
                try clear hfz40_3
                try clear hfz40_4
                try clear hfz40_5
                try clear hfz42_0
                try clear hfz42_1
                try clear hfz42_2
                try clear hfz42_3
                try clear hfz42_4
                try clear hfz42_5
                try clear hfz45_0
                try clear hfz45_1
                try clear hfz45_2
                try clear hfz45_3
                try clear hfz45_4
                try clear hfz45_5
                try clear hfz47_0
                try clear hfz47_1
                try clear hfz47_2
                try clear hfz47_3
                try clear hfz47_4
                try clear hfz47_5
                try clear hfz50_0
                try clear hfz50_1
                try clear hfz50_2
                try clear hfz50_3
                try clear hfz50_4
                try clear hfz50_5
                try clear hfz52_0
                try clear hfz52_1
                try clear hfz52_2
                try clear hfz52_3
                try clear hfz52_4
                try clear hfz52_5
                try clear hfz55_0
                try clear hfz55_1
                try clear hfz55_2
                try clear hfz55_3
                try clear hfz55_4
                try clear hfz55_5
                try clear hfz57_0
                try clear hfz57_1
                try clear hfz57_2
                try clear hfz57_3
                try clear hfz57_4
                try clear hfz57_5
                try clear hfz60_0
                try clear hfz60_1
                try clear hfz60_2
                try clear hfz60_3
                try clear hfz60_4
                try clear hfz60_5
                try clear hfz62_0
                try clear hfz62_1
                try clear hfz62_2
                try clear hfz62_3
                try clear hfz62_4
                try clear hfz62_5
                try clear hfz8_0
                try clear hfz8_1
                try clear hfz8_2
                try clear hfz8_3
                try clear hfz8_4
                try clear hfz8_5
                try clear p2
                obtain ⟨x11_3,rfl,HA,HK3,HO_614002,HO_624002,BK601,BK613,BK623,HB⟩:=hrel
                cases gk with
                | zero => exact absurd HA.out (by simp [humuslaw04_RowSums.l0])
                | succ k3 =>
                  have H:=HA.out
                  clear HA
                  simp only [humuslaw04_RowSums.l0] at H
                  by_cases c64 : x11_3 < (l0_2.length : Int)
                  · rw [if_pos c64] at H
                    have c64b0 : decide (x11_3 < (l0_2.length : Int)) = true:=decide_eq_true c64
                    clear c64
                    by_cases c65 : 0 ≤ x11_3
                    · rw [if_pos c65] at H
                      have c65b0 : decide (0 ≤ x11_3) = true:=decide_eq_true c65
                      clear c65
                      by_cases c66 : x11_3 < (t616.length : Int)
                      · rw [if_pos c66] at H
                        have c66b0 : decide (x11_3 < (t616.length : Int)) = true:=decide_eq_true c66
                        clear c66
                        replace H:=Option.bind_eq_some_iff.mp H
                        obtain ⟨t627,A670,H⟩:=H
                        replace H : (if t627 = true then (humuslaw04_RowSums.l0 k3 a1 a2 (wrap64 (x11_3 + 1)) a0_0 a0_1 l0_2 a0_3 a0_4 a0_5 t614 t615 t616 t619 t620 t621) else (some false)) = some r:=H
                        have A67:=Aside0.mk A670
                        clear A670
                        by_cases c68 : t627 = true
                        · subst c68
                          have H1 : (humuslaw04_RowSums.l0 k3 a1 a2 (wrap64 (x11_3 + 1)) a0_0 a0_1 l0_2 a0_3 a0_4 a0_5 t614 t615 t616 t619 t620 t621) = some r:=by rw [if_pos rfl] at H;exact H
                          clear H
                          have H:=H1
                          clear H1
                          have H':=Aside0.mk H
                          clear H
                          have hnb69:=NB601_613.out
                          have hnc69:=NB613_601.out
                          have hnb70:=NB601_623.out
                          have hnc70:=NB623_601.out
                          have hcz71_0 : wr.cell? ⟨gb601,0,none⟩ = some (.float .f64 a0_0):=(blk_cell BK601.out 0).trans rfl
                          have hcz71_1 : wr.cell? ⟨gb601,1,none⟩ = some (.bool a0_1):=(blk_cell BK601.out 1).trans rfl
                          have hcz71_2 : wr.cell? ⟨gb601,2,none⟩ = some (.slice A0_2 l0_2.length c0_2):=(blk_cell BK601.out 2).trans rfl
                          have hcz71_3 : wr.cell? ⟨gb601,3,none⟩ = some (.int .i64 a0_3):=(blk_cell BK601.out 3).trans rfl
                          have hcz71_4 : wr.cell? ⟨gb601,4,none⟩ = some (.int .i64 a0_4):=(blk_cell BK601.out 4).trans rfl
                          have hcz71_5 : wr.cell? ⟨gb601,5,none⟩ = some (.int .i64 a0_5):=(blk_cell BK601.out 5).trans rfl
                          have hfz71_0:=blk_frozen BK601.out 0
                          have hfz71_1:=blk_frozen BK601.out 1
                          have hfz71_2:=blk_frozen BK601.out 2
                          have hfz71_3:=blk_frozen BK601.out 3
                          have hfz71_4:=blk_frozen BK601.out 4
                          have hfz71_5:=blk_frozen BK601.out 5
                          try go_wp2
                          have n0_:=Aside0.mk (Kd.R_drew HO_614002.out)
                          have n1_:=Aside0.mk (Kd.R_drew HO_624002.out)
                          have n2_:=Aside0.mk (blk_drew BK601.out)
                          have n3_:=Aside0.mk (blk_drew BK613.out)
                          have n4_:=Aside0.mk (blk_drew BK623.out)
                          have n5_:=Aside0.mk (below_drew1 HB.out)
                          clear HO_614002
                          clear HO_624002
                          clear BK601
                          clear BK613
                          clear BK623
                          clear HB
                          have HO_614002:=n0_
                          have HO_624002:=n1_
                          have BK601:=n2_
                          have BK613:=n3_
                          have BK623:=n4_
                          have HB:=n5_
                          clear n0_ n1_ n2_ n3_ n4_ n5_
                          have p625 : 0 ≤ (x11_3 : Int):=of_decide_eq_true (by first | (with_reducible assumption) | assumption)
                          have q625 : x11_3 < (t616.length : Int):=of_decide_eq_true (by first | (with_reducible assumption) | assumption)
                          obtain ⟨ad625,e625,hx625_0⟩:=Kd.at_f64 (Kd.R_reads' HO_624002.out).2.2 x11_3 p625 q625
                          cases e625
                          replace p625:=eq_true p625
                          replace q625:=eq_true q625
                          have p626 : 0 ≤ (x11_3 : Int):=of_decide_eq_true (by first | (with_reducible assumption) | assumption)
                          have q626 : x11_3 < (l0_2.length : Int):=of_decide_eq_true (by first | (with_reducible assumption) | assumption)
                          obtain ⟨ad626,e626,hx626_0⟩:=Kd.at_f64 HR0_2.out x11_3 p626 q626
                          have hw626_0:=hx626_0
                          cases e626
                          replace hx626_0:=(HB.out.cell (World.block_lt_of_cell? w _ hx626_0)).trans hx626_0
                          replace p626:=eq_true p626
                          replace q626:=eq_true q626
                          refine start_ (n:=12) (S:=fun w' => w'.cell? ⟨gb623,0,none⟩ = some (.float .f64 t614) ∧ w'.cell? ⟨gb623,1,none⟩ = some (.bool t615) ∧ w'.cell? ⟨gb623,2,none⟩ = some (.slice (some ad625) t616.length co30) ∧ w'.cell? ⟨gb623,3,none⟩ = some (.int .i64 t619) ∧ w'.cell? ⟨gb623,4,none⟩ = some (.int .i64 t620) ∧ w'.cell? ⟨gb623,5,none⟩ = some (.int .i64 t621) ∧ w'.cell? ⟨gb601,0,none⟩ = some (.float .f64 a0_0) ∧ w'.cell? ⟨gb601,1,none⟩ = some (.bool a0_1) ∧ w'.cell? ⟨gb601,2,none⟩ = some (.slice (some ad626) l0_2.length c0_2) ∧ w'.cell? ⟨gb601,3,none⟩ = some (.int .i64 a0_3) ∧ w'.cell? ⟨gb601,4,none⟩ = some (.int .i64 a0_4) ∧ w'.cell? ⟨gb601,5,none⟩ = some (.int .i64 a0_5) ∧ w'.cell? (ad625.add (x11_3).toNat) = some (.float .f64 (rdF t616 x11_3)) ∧ w'.cell? (ad626.add (x11_3).toNat) = some (.float .f64 (rdF l0_2 x11_3))) (ds:=[10]) #[false,false,false,false,false,false,false,false,false,false,false,false] (by kernel_rfl) rfl rfl ⟨(blk_cell BK623.out 0).trans rfl,(blk_cell BK623.out 1).trans rfl,(blk_cell BK623.out 2).trans rfl,(blk_cell BK623.out 3).trans rfl,(blk_cell BK623.out 4).trans rfl,(blk_cell BK623.out 5).trans rfl,(blk_cell BK601.out 0).trans rfl,(blk_cell BK601.out 1).trans rfl,(blk_cell BK601.out 2).trans rfl,(blk_cell BK601.out 3).trans rfl,(blk_cell BK601.out 4).trans rfl,(blk_cell BK601.out 5).trans rfl,hx625_0,((HB.out.cell (World.block_lt_of_cell? w _ hw626_0)).trans hw626_0)⟩ (fun hHeld => ?_);refine with_tabW humuslaw04_RowSums.tab10 humuslaw04_RowSums.bits10 (fun HT_ HW_ => ?_)
                          generalize wr.drew = w72 at HO_614002 HO_624002 BK601 BK613 BK623 HB hx625_0 hx626_0 hHeld ⊢
                          refine pure_ (i:=0) (N:=some 82) (v:=?_) (a':=?_) #[true,false,false,false,false,false,false,false,false,false,false,false] rfl rfl (any_of HT_.out (by kernel_rfl)) (fun _ _ _ h => h) (Or.inl ⟨by rfl,?_⟩) ?_ ?_
                          rotate_left
                          · intro w'
                            go_simp
                            with_reducible rfl
                          rotate_left
                          · simp only [Act.put,List.setIfInBounds_toArray,List.set_cons_zero,List.set_cons_succ,i64_w,i32_w]
                            rfl
                          refine pure_ (i:=2) (N:=some 84) (v:=?_) (a':=?_) #[true,false,true,false,false,false,false,false,false,false,false,false] rfl rfl (any_of HT_.out (by kernel_rfl)) (fun _ _ _ h => h) (Or.inl ⟨by rfl,?_⟩) ?_ ?_
                          rotate_left
                          · intro w'
                            go_simp
                            with_reducible rfl
                          rotate_left
                          · simp only [Act.put,List.setIfInBounds_toArray,List.set_cons_zero,List.set_cons_succ,i64_w,i32_w]
                            rfl
                          refine pure_ (i:=5) (N:=some 87) (v:=?_) (a':=?_) #[true,false,true,false,false,true,false,false,false,false,false,false] rfl rfl (any_of HT_.out (by kernel_rfl)) (fun _ _ _ h => h) (Or.inl ⟨by rfl,?_⟩) ?_ ?_
                          rotate_left
                          · intro w'
                            go_simp
                            with_reducible rfl
                          rotate_left
                          · simp only [Act.put,List.setIfInBounds_toArray,List.set_cons_zero,List.set_cons_succ,i64_w,i32_w]
                            rfl
                          refine pure_ (i:=7) (N:=some 89) (v:=?_) (a':=?_) #[true,false,true,false,false,true,false,true,false,false,false,false] rfl rfl (any_of HT_.out (by kernel_rfl)) (fun _ _ _ h => h) (Or.inl ⟨by rfl,?_⟩) ?_ ?_
                          rotate_left
                          · intro w'
                            go_simp
                            with_reducible rfl
                          rotate_left
                          · simp only [Act.put,List.setIfInBounds_toArray,List.set_cons_zero,List.set_cons_succ,i64_w,i32_w]
                            rfl
                          refine take_ (i:=1) (N:=some 83) (v:=?_) (a':=?_) #[true,true,true,false,false,true,false,true,false,false,false,false] rfl rfl (take_ofW HT_.out HW_.out (by kernel_rfl)) (fun _ _ _ h => h) (Or.inl ⟨by rfl,?_⟩) hHeld ?_ ?_
                          rotate_left
                          · rintro w' ⟨s0,s1,s2,s3,s4,s5,s6,s7,s8,s9,s10,s11,s12,s13⟩
                            go_simp
                            with_reducible rfl
                          rotate_left
                          · simp only [Act.put,List.setIfInBounds_toArray,List.set_cons_zero,List.set_cons_succ,i64_w,i32_w]
                            rfl
                          refine pure_ (i:=3) (N:=some 85) (v:=?_) (a':=?_) #[true,true,true,true,false,true,false,true,false,false,false,false] rfl rfl (any_of HT_.out (by kernel_rfl)) (fun _ _ _ h => h) (Or.inl ⟨by rfl,?_⟩) ?_ ?_
                          rotate_left
                          · intro w'
                            go_simp
                            with_reducible rfl
                          rotate_left
                          · simp only [Act.put,List.setIfInBounds_toArray,List.set_cons_zero,List.set_cons_succ,i64_w,i32_w]
                            rfl
                          refine take_ (i:=4) (N:=some 86) (v:=?_) (a':=?_) #[true,true,true,true,true,true,false,true,false,false,false,false] rfl rfl (take_ofW HT_.out HW_.out (by kernel_rfl)) (fun _ _ _ h => h) (Or.inl ⟨by rfl,?_⟩) hHeld ?_ ?_
                          rotate_left
                          · rintro w' ⟨s0,s1,s2,s3,s4,s5,s6,s7,s8,s9,s10,s11,s12,s13⟩
                            go_simp
                            with_reducible rfl
                          rotate_left
                          · simp only [Act.put,List.setIfInBounds_toArray,List.set_cons_zero,List.set_cons_succ,i64_w,i32_w]
                            rfl
                          refine take_ (i:=6) (N:=some 88) (v:=?_) (a':=?_) #[true,true,true,true,true,true,true,true,false,false,false,false] rfl rfl (take_ofW HT_.out HW_.out (by kernel_rfl)) (fun _ _ _ h => h) (Or.inl ⟨by rfl,?_⟩) hHeld ?_ ?_
                          rotate_left
                          · rintro w' ⟨s0,s1,s2,s3,s4,s5,s6,s7,s8,s9,s10,s11,s12,s13⟩
                            go_simp
                            with_reducible rfl
                          rotate_left
                          · simp only [Act.put,List.setIfInBounds_toArray,List.set_cons_zero,List.set_cons_succ,i64_w,i32_w]
                            rfl
                          refine pure_ (i:=8) (N:=some 90) (v:=?_) (a':=?_) #[true,true,true,true,true,true,true,true,true,false,false,false] rfl rfl (any_of HT_.out (by kernel_rfl)) (fun _ _ _ h => h) (Or.inl ⟨by rfl,?_⟩) ?_ ?_
                          rotate_left
                          · intro w'
                            go_simp
                            with_reducible rfl
                          rotate_left
                          · simp only [Act.put,List.setIfInBounds_toArray,List.set_cons_zero,List.set_cons_succ,i64_w,i32_w]
                            rfl
                          refine take_ (i:=9) (N:=some 91) (v:=?_) (a':=?_) #[true,true,true,true,true,true,true,true,true,true,false,false] rfl rfl (take_ofW HT_.out HW_.out (by kernel_rfl)) (fun _ _ _ h => h) (Or.inl ⟨by rfl,?_⟩) hHeld ?_ ?_
                          rotate_left
                          · rintro w' ⟨s0,s1,s2,s3,s4,s5,s6,s7,s8,s9,s10,s11,s12,s13⟩
                            go_simp
                            with_reducible rfl
                          rotate_left
                          · simp only [Act.put,List.setIfInBounds_toArray,List.set_cons_zero,List.set_cons_succ,i64_w,i32_w]
                            rfl
                          refine last_ (i:=10) (N:=some 92) #[true,true,true,true,true,true,true,true,true,true,true,false] rfl rfl (one_of HT_.out (by kernel_rfl)) (by decide) (fun K hK => ?_)
                          refine goes_ Try.func44 (by kernel_rfl) rfl #[.float .f64 (rdF t616 x11_3),.float .f64 (rdF l0_2 x11_3)] (by rfl) rfl rfl (by (try simp only [List.map_toArray,List.map_cons,List.map_nil]);first | done | rfl | (simp only [List.length_drop,List.length_take];rfl)) ?_
                          with_reducible refine (humusref01_Same.calls (rdF t616 x11_3) (rdF l0_2 x11_3) true _ A67.out).mono ?_
                          rintro e w' ⟨rfl,⟨nd,rfl⟩⟩
                          refine ⟨_,rfl,?_⟩
                          refine hK.out _ _ ?_
                          clear hK K
                          refine norm_ (a':=?_) ?_ ?_
                          rotate_left
                          · show Act.put _ (some 92) _ = _
                            simp only [Act.put,List.setIfInBounds_toArray,List.set_cons_zero,List.set_cons_succ,i64_w,i32_w]
                            rfl
                          refine pure_ (i:=11) (N:=some 93) (v:=?_) (a':=?_) #[true,true,true,true,true,true,true,true,true,true,true,true] rfl rfl (any_of HT_.out (by kernel_rfl)) (fun _ _ _ h => h) (Or.inl ⟨by rfl,?_⟩) ?_ ?_
                          rotate_left
                          · intro w'
                            go_simp
                            with_reducible rfl
                          rotate_left
                          · simp only [Act.put,List.setIfInBounds_toArray,List.set_cons_zero,List.set_cons_succ,i64_w,i32_w]
                            rfl
                          refine done_ (done_of HT_.out (by kernel_rfl)) ?_
                          try go_wp2
                          go_roundg k3
                          case measure => have:=HJ3.out;have:=HJ17.out;have:=HK3.out;omega
                          case rel => exact ⟨(wrap64 (x11_3 + 1)),(by first | rfl | (simp;done) | (simp [*];done)),H',⟨by have:=HJ3.out;have:=HJ17.out;have:=HK3.out;omega⟩,⟨by (with_reducible repeat (first | apply Kd.R_alloc | apply Kd.R_drewN | apply Kd.R_drew));exact HO_614002.out⟩,⟨by (with_reducible repeat (first | apply Kd.R_alloc | apply Kd.R_drewN | apply Kd.R_drew));exact HO_624002.out⟩,⟨by (with_reducible repeat (first | refine blk_drewN ?_ _ | refine blk_drew ?_ | refine blk_alloc ?_ _));exact BK601.out⟩,⟨by (with_reducible repeat (first | refine blk_drewN ?_ _ | refine blk_drew ?_ | refine blk_alloc ?_ _));exact BK613.out⟩,⟨by (with_reducible repeat (first | refine blk_drewN ?_ _ | refine blk_drew ?_ | refine blk_alloc ?_ _));exact BK623.out⟩,⟨by repeat (first | (with_reducible first | exact HB.out | apply below_alloc | apply pw_below_drewN | apply below_drew1 | refine below_set ?_ GE601.out | refine below_set ?_ GE613.out | refine below_set ?_ GE623.out) | exact HB.out)⟩⟩
                        · replace c68:=Bool.eq_false_iff.mpr c68
                          subst c68
                          have H1 : (some false) = some r:=by rw [if_neg (show ¬ (false = true) by decide)] at H;exact H
                          clear H
                          have H:=H1
                          clear H1
                          obtain rfl:=Option.some.inj H
                          have hnb73:=NB601_613.out
                          have hnc73:=NB613_601.out
                          have hnb74:=NB601_623.out
                          have hnc74:=NB623_601.out
                          have hcz75_0 : wr.cell? ⟨gb601,0,none⟩ = some (.float .f64 a0_0):=(blk_cell BK601.out 0).trans rfl
                          have hcz75_1 : wr.cell? ⟨gb601,1,none⟩ = some (.bool a0_1):=(blk_cell BK601.out 1).trans rfl
                          have hcz75_2 : wr.cell? ⟨gb601,2,none⟩ = some (.slice A0_2 l0_2.length c0_2):=(blk_cell BK601.out 2).trans rfl
                          have hcz75_3 : wr.cell? ⟨gb601,3,none⟩ = some (.int .i64 a0_3):=(blk_cell BK601.out 3).trans rfl
                          have hcz75_4 : wr.cell? ⟨gb601,4,none⟩ = some (.int .i64 a0_4):=(blk_cell BK601.out 4).trans rfl
                          have hcz75_5 : wr.cell? ⟨gb601,5,none⟩ = some (.int .i64 a0_5):=(blk_cell BK601.out 5).trans rfl
                          have hfz75_0:=blk_frozen BK601.out 0
                          have hfz75_1:=blk_frozen BK601.out 1
                          have hfz75_2:=blk_frozen BK601.out 2
                          have hfz75_3:=blk_frozen BK601.out 3
                          have hfz75_4:=blk_frozen BK601.out 4
                          have hfz75_5:=blk_frozen BK601.out 5
                          try go_wp2
                          have n0_:=Aside0.mk (Kd.R_drew HO_614002.out)
                          have n1_:=Aside0.mk (Kd.R_drew HO_624002.out)
                          have n2_:=Aside0.mk (blk_drew BK601.out)
                          have n3_:=Aside0.mk (blk_drew BK613.out)
                          have n4_:=Aside0.mk (blk_drew BK623.out)
                          have n5_:=Aside0.mk (below_drew1 HB.out)
                          clear HO_614002
                          clear HO_624002
                          clear BK601
                          clear BK613
                          clear BK623
                          clear HB
                          have HO_614002:=n0_
                          have HO_624002:=n1_
                          have BK601:=n2_
                          have BK613:=n3_
                          have BK623:=n4_
                          have HB:=n5_
                          clear n0_ n1_ n2_ n3_ n4_ n5_
                          have p625 : 0 ≤ (x11_3 : Int):=of_decide_eq_true (by first | (with_reducible assumption) | assumption)
                          have q625 : x11_3 < (t616.length : Int):=of_decide_eq_true (by first | (with_reducible assumption) | assumption)
                          obtain ⟨ad625,e625,hx625_0⟩:=Kd.at_f64 (Kd.R_reads' HO_624002.out).2.2 x11_3 p625 q625
                          cases e625
                          replace p625:=eq_true p625
                          replace q625:=eq_true q625
                          have p626 : 0 ≤ (x11_3 : Int):=of_decide_eq_true (by first | (with_reducible assumption) | assumption)
                          have q626 : x11_3 < (l0_2.length : Int):=of_decide_eq_true (by first | (with_reducible assumption) | assumption)
                          obtain ⟨ad626,e626,hx626_0⟩:=Kd.at_f64 HR0_2.out x11_3 p626 q626
                          have hw626_0:=hx626_0
                          cases e626
                          replace hx626_0:=(HB.out.cell (World.block_lt_of_cell? w _ hx626_0)).trans hx626_0
                          replace p626:=eq_true p626
                          replace q626:=eq_true q626
                          refine start_ (n:=12) (S:=fun w' => w'.cell? ⟨gb623,0,none⟩ = some (.float .f64 t614) ∧ w'.cell? ⟨gb623,1,none⟩ = some (.bool t615) ∧ w'.cell? ⟨gb623,2,none⟩ = some (.slice (some ad625) t616.length co30) ∧ w'.cell? ⟨gb623,3,none⟩ = some (.int .i64 t619) ∧ w'.cell? ⟨gb623,4,none⟩ = some (.int .i64 t620) ∧ w'.cell? ⟨gb623,5,none⟩ = some (.int .i64 t621) ∧ w'.cell? ⟨gb601,0,none⟩ = some (.float .f64 a0_0) ∧ w'.cell? ⟨gb601,1,none⟩ = some (.bool a0_1) ∧ w'.cell? ⟨gb601,2,none⟩ = some (.slice (some ad626) l0_2.length c0_2) ∧ w'.cell? ⟨gb601,3,none⟩ = some (.int .i64 a0_3) ∧ w'.cell? ⟨gb601,4,none⟩ = some (.int .i64 a0_4) ∧ w'.cell? ⟨gb601,5,none⟩ = some (.int .i64 a0_5) ∧ w'.cell? (ad625.add (x11_3).toNat) = some (.float .f64 (rdF t616 x11_3)) ∧ w'.cell? (ad626.add (x11_3).toNat) = some (.float .f64 (rdF l0_2 x11_3))) (ds:=[10]) #[false,false,false,false,false,false,false,false,false,false,false,false] (by kernel_rfl) rfl rfl ⟨(blk_cell BK623.out 0).trans rfl,(blk_cell BK623.out 1).trans rfl,(blk_cell BK623.out 2).trans rfl,(blk_cell BK623.out 3).trans rfl,(blk_cell BK623.out 4).trans rfl,(blk_cell BK623.out 5).trans rfl,(blk_cell BK601.out 0).trans rfl,(blk_cell BK601.out 1).trans rfl,(blk_cell BK601.out 2).trans rfl,(blk_cell BK601.out 3).trans rfl,(blk_cell BK601.out 4).trans rfl,(blk_cell BK601.out 5).trans rfl,hx625_0,((HB.out.cell (World.block_lt_of_cell? w _ hw626_0)).trans hw626_0)⟩ (fun hHeld => ?_);refine with_tabW humuslaw04_RowSums.tab10 humuslaw04_RowSums.bits10 (fun HT_ HW_ => ?_)
                          generalize wr.drew = w76 at HO_614002 HO_624002 BK601 BK613 BK623 HB hx625_0 hx626_0 hHeld ⊢
                          refine pure_ (i:=0) (N:=some 82) (v:=?_) (a':=?_) #[true,false,false,false,false,false,false,false,false,false,false,false] rfl rfl (any_of HT_.out (by kernel_rfl)) (fun _ _ _ h => h) (Or.inl ⟨by rfl,?_⟩) ?_ ?_
                          rotate_left
                          · intro w'
                            go_simp
                            with_reducible rfl
                          rotate_left
                          · simp only [Act.put,List.setIfInBounds_toArray,List.set_cons_zero,List.set_cons_succ,i64_w,i32_w]
                            rfl
                          refine pure_ (i:=2) (N:=some 84) (v:=?_) (a':=?_) #[true,false,true,false,false,false,false,false,false,false,false,false] rfl rfl (any_of HT_.out (by kernel_rfl)) (fun _ _ _ h => h) (Or.inl ⟨by rfl,?_⟩) ?_ ?_
                          rotate_left
                          · intro w'
                            go_simp
                            with_reducible rfl
                          rotate_left
                          · simp only [Act.put,List.setIfInBounds_toArray,List.set_cons_zero,List.set_cons_succ,i64_w,i32_w]
                            rfl
                          refine pure_ (i:=5) (N:=some 87) (v:=?_) (a':=?_) #[true,false,true,false,false,true,false,false,false,false,false,false] rfl rfl (any_of HT_.out (by kernel_rfl)) (fun _ _ _ h => h) (Or.inl ⟨by rfl,?_⟩) ?_ ?_
                          rotate_left
                          · intro w'
                            go_simp
                            with_reducible rfl
                          rotate_left
                          · simp only [Act.put,List.setIfInBounds_toArray,List.set_cons_zero,List.set_cons_succ,i64_w,i32_w]
                            rfl
                          refine pure_ (i:=7) (N:=some 89) (v:=?_) (a':=?_) #[true,false,true,false,false,true,false,true,false,false,false,false] rfl rfl (any_of HT_.out (by kernel_rfl)) (fun _ _ _ h => h) (Or.inl ⟨by rfl,?_⟩) ?_ ?_
                          rotate_left
                          · intro w'
                            go_simp
                            with_reducible rfl
                          rotate_left
                          · simp only [Act.put,List.setIfInBounds_toArray,List.set_cons_zero,List.set_cons_succ,i64_w,i32_w]
                            rfl
                          refine take_ (i:=1) (N:=some 83) (v:=?_) (a':=?_) #[true,true,true,false,false,true,false,true,false,false,false,false] rfl rfl (take_ofW HT_.out HW_.out (by kernel_rfl)) (fun _ _ _ h => h) (Or.inl ⟨by rfl,?_⟩) hHeld ?_ ?_
                          rotate_left
                          · rintro w' ⟨s0,s1,s2,s3,s4,s5,s6,s7,s8,s9,s10,s11,s12,s13⟩
                            go_simp
                            with_reducible rfl
                          rotate_left
                          · simp only [Act.put,List.setIfInBounds_toArray,List.set_cons_zero,List.set_cons_succ,i64_w,i32_w]
                            rfl
                          refine pure_ (i:=3) (N:=some 85) (v:=?_) (a':=?_) #[true,true,true,true,false,true,false,true,false,false,false,false] rfl rfl (any_of HT_.out (by kernel_rfl)) (fun _ _ _ h => h) (Or.inl ⟨by rfl,?_⟩) ?_ ?_
                          rotate_left
                          · intro w'
                            go_simp
                            with_reducible rfl
                          rotate_left
                          · simp only [Act.put,List.setIfInBounds_toArray,List.set_cons_zero,List.set_cons_succ,i64_w,i32_w]
                            rfl
                          refine take_ (i:=4) (N:=some 86) (v:=?_) (a':=?_) #[true,true,true,true,true,true,false,true,false,false,false,false] rfl rfl (take_ofW HT_.out HW_.out (by kernel_rfl)) (fun _ _ _ h => h) (Or.inl ⟨by rfl,?_⟩) hHeld ?_ ?_
                          rotate_left
                          · rintro w' ⟨s0,s1,s2,s3,s4,s5,s6,s7,s8,s9,s10,s11,s12,s13⟩
                            go_simp
                            with_reducible rfl
                          rotate_left
                          · simp only [Act.put,List.setIfInBounds_toArray,List.set_cons_zero,List.set_cons_succ,i64_w,i32_w]
                            rfl
                          refine take_ (i:=6) (N:=some 88) (v:=?_) (a':=?_) #[true,true,true,true,true,true,true,true,false,false,false,false] rfl rfl (take_ofW HT_.out HW_.out (by kernel_rfl)) (fun _ _ _ h => h) (Or.inl ⟨by rfl,?_⟩) hHeld ?_ ?_
                          rotate_left
                          · rintro w' ⟨s0,s1,s2,s3,s4,s5,s6,s7,s8,s9,s10,s11,s12,s13⟩
                            go_simp
                            with_reducible rfl
                          rotate_left
                          · simp only [Act.put,List.setIfInBounds_toArray,List.set_cons_zero,List.set_cons_succ,i64_w,i32_w]
                            rfl
                          refine pure_ (i:=8) (N:=some 90) (v:=?_) (a':=?_) #[true,true,true,true,true,true,true,true,true,false,false,false] rfl rfl (any_of HT_.out (by kernel_rfl)) (fun _ _ _ h => h) (Or.inl ⟨by rfl,?_⟩) ?_ ?_
                          rotate_left
                          · intro w'
                            go_simp
                            with_reducible rfl
                          rotate_left
                          · simp only [Act.put,List.setIfInBounds_toArray,List.set_cons_zero,List.set_cons_succ,i64_w,i32_w]
                            rfl
                          refine take_ (i:=9) (N:=some 91) (v:=?_) (a':=?_) #[true,true,true,true,true,true,true,true,true,true,false,false] rfl rfl (take_ofW HT_.out HW_.out (by kernel_rfl)) (fun _ _ _ h => h) (Or.inl ⟨by rfl,?_⟩) hHeld ?_ ?_
                          rotate_left
                          · rintro w' ⟨s0,s1,s2,s3,s4,s5,s6,s7,s8,s9,s10,s11,s12,s13⟩
                            go_simp
                            with_reducible rfl
                          rotate_left
                          · simp only [Act.put,List.setIfInBounds_toArray,List.set_cons_zero,List.set_cons_succ,i64_w,i32_w]
                            rfl
                          refine last_ (i:=10) (N:=some 92) #[true,true,true,true,true,true,true,true,true,true,true,false] rfl rfl (one_of HT_.out (by kernel_rfl)) (by decide) (fun K hK => ?_)
                          refine goes_ Try.func44 (by kernel_rfl) rfl #[.float .f64 (rdF t616 x11_3),.float .f64 (rdF l0_2 x11_3)] (by rfl) rfl rfl (by (try simp only [List.map_toArray,List.map_cons,List.map_nil]);first | done | rfl | (simp only [List.length_drop,List.length_take];rfl)) ?_
                          with_reducible refine (humusref01_Same.calls (rdF t616 x11_3) (rdF l0_2 x11_3) false _ A67.out).mono ?_
                          rintro e w' ⟨rfl,⟨nd,rfl⟩⟩
                          refine ⟨_,rfl,?_⟩
                          refine hK.out _ _ ?_
                          clear hK K
                          refine norm_ (a':=?_) ?_ ?_
                          rotate_left
                          · show Act.put _ (some 92) _ = _
                            simp only [Act.put,List.setIfInBounds_toArray,List.set_cons_zero,List.set_cons_succ,i64_w,i32_w]
                            rfl
                          refine pure_ (i:=11) (N:=some 93) (v:=?_) (a':=?_) #[true,true,true,true,true,true,true,true,true,true,true,true] rfl rfl (any_of HT_.out (by kernel_rfl)) (fun _ _ _ h => h) (Or.inl ⟨by rfl,?_⟩) ?_ ?_
                          rotate_left
                          · intro w'
                            go_simp
                            with_reducible rfl
                          rotate_left
                          · simp only [Act.put,List.setIfInBounds_toArray,List.set_cons_zero,List.set_cons_succ,i64_w,i32_w]
                            rfl
                          refine done_ (done_of HT_.out (by kernel_rfl)) ?_
                          try go_wp2
                          go_ret
                          exact ⟨by first | rfl | (simp [errW_none,errW_some] <;> rfl) | (simp [*,errW_none,errW_some] <;> rfl),by repeat (first | (with_reducible first | exact HB.out | apply below_alloc | apply pw_below_drewN | apply below_drew1 | refine below_set ?_ GE601.out | refine below_set ?_ GE613.out | refine below_set ?_ GE623.out) | exact HB.out)⟩
                      · rw [if_neg c66] at H
                        exact absurd H (by simp)
                    · rw [if_neg c65] at H
                      exact absurd H (by simp)
                  · rw [if_neg c64] at H
                    have c64b0 : decide (x11_3 < (l0_2.length : Int)) = false:=decide_eq_false c64
                    clear c64
                    replace H:=Option.bind_eq_some_iff.mp H
                    obtain ⟨⟨t628,t629,t630,t633,t634,t635⟩,A770,H⟩:=H
                    replace H : ((humusref04_Plus.f t628 t629 t630 t633 t634 t635 a2).bind fun bt636 => ((humusref04_Same.f k3 t614 t615 t616 t619 t620 t621 bt636.1 bt636.2.1 bt636.2.2.1 bt636.2.2.2.1 bt636.2.2.2.2.1 bt636.2.2.2.2.2).bind fun t644 => (if t644 = true then ((humuslaw04_awake.f k3).bind fun t645 => (some t645)) else (some false)))) = some r:=H
                    have A77:=Aside0.mk A770
                    clear A770
                    replace H:=Option.bind_eq_some_iff.mp H
                    obtain ⟨⟨t636,t637,t638,t641,t642,t643⟩,A780,H⟩:=H
                    replace H : ((humusref04_Same.f k3 t614 t615 t616 t619 t620 t621 t636 t637 t638 t641 t642 t643).bind fun t644 => (if t644 = true then ((humuslaw04_awake.f k3).bind fun t645 => (some t645)) else (some false))) = some r:=H
                    have A78:=Aside0.mk A780
                    clear A780
                    replace H:=Option.bind_eq_some_iff.mp H
                    obtain ⟨t644,A790,H⟩:=H
                    replace H : (if t644 = true then ((humuslaw04_awake.f k3).bind fun t645 => (some t645)) else (some false)) = some r:=H
                    have A79:=Aside0.mk A790
                    clear A790
                    by_cases c80 : t644 = true
                    · subst c80
                      have H1 : ((humuslaw04_awake.f k3).bind fun t645 => (some t645)) = some r:=by rw [if_pos rfl] at H;exact H
                      clear H
                      have H:=H1
                      clear H1
                      replace H:=Option.bind_eq_some_iff.mp H
                      obtain ⟨t645,A810,H⟩:=H
                      replace H : (some t645) = some r:=H
                      have A81:=Aside0.mk A810
                      clear A810
                      obtain rfl:=Option.some.inj H
                      have hnb82:=NB601_613.out
                      have hnc82:=NB613_601.out
                      have hnb83:=NB601_623.out
                      have hnc83:=NB623_601.out
                      have hcz84_0 : wr.cell? ⟨gb601,0,none⟩ = some (.float .f64 a0_0):=(blk_cell BK601.out 0).trans rfl
                      have hcz84_1 : wr.cell? ⟨gb601,1,none⟩ = some (.bool a0_1):=(blk_cell BK601.out 1).trans rfl
                      have hcz84_2 : wr.cell? ⟨gb601,2,none⟩ = some (.slice A0_2 l0_2.length c0_2):=(blk_cell BK601.out 2).trans rfl
                      have hcz84_3 : wr.cell? ⟨gb601,3,none⟩ = some (.int .i64 a0_3):=(blk_cell BK601.out 3).trans rfl
                      have hcz84_4 : wr.cell? ⟨gb601,4,none⟩ = some (.int .i64 a0_4):=(blk_cell BK601.out 4).trans rfl
                      have hcz84_5 : wr.cell? ⟨gb601,5,none⟩ = some (.int .i64 a0_5):=(blk_cell BK601.out 5).trans rfl
                      have hfz84_0:=blk_frozen BK601.out 0
                      have hfz84_1:=blk_frozen BK601.out 1
                      have hfz84_2:=blk_frozen BK601.out 2
                      have hfz84_3:=blk_frozen BK601.out 3
                      have hfz84_4:=blk_frozen BK601.out 4
                      have hfz84_5:=blk_frozen BK601.out 5
                      try go_wp2
                      have n0_:=Aside0.mk (Kd.R_drew HO_614002.out)
                      have n1_:=Aside0.mk (Kd.R_drew HO_624002.out)
                      have n2_:=Aside0.mk (blk_drew BK601.out)
                      have n3_:=Aside0.mk (blk_drew BK613.out)
                      have n4_:=Aside0.mk (blk_drew BK623.out)
                      have n5_:=Aside0.mk (below_drew1 HB.out)
                      clear HO_614002
                      clear HO_624002
                      clear BK601
                      clear BK613
                      clear BK623
                      clear HB
                      have HO_614002:=n0_
                      have HO_624002:=n1_
                      have BK601:=n2_
                      have BK613:=n3_
                      have BK623:=n4_
                      have HB:=n5_
                      clear n0_ n1_ n2_ n3_ n4_ n5_
                      refine start_ (n:=11) (S:=fun w' => w'.cell? ⟨gb623,0,none⟩ = some (.float .f64 t614) ∧ w'.cell? ⟨gb623,1,none⟩ = some (.bool t615) ∧ w'.cell? ⟨gb623,2,none⟩ = some (.slice Ao30 t616.length co30) ∧ w'.cell? ⟨gb623,3,none⟩ = some (.int .i64 t619) ∧ w'.cell? ⟨gb623,4,none⟩ = some (.int .i64 t620) ∧ w'.cell? ⟨gb623,5,none⟩ = some (.int .i64 t621) ∧ w'.cell? ⟨gb601,0,none⟩ = some (.float .f64 a0_0) ∧ w'.cell? ⟨gb601,1,none⟩ = some (.bool a0_1) ∧ w'.cell? ⟨gb601,2,none⟩ = some (.slice A0_2 l0_2.length c0_2) ∧ w'.cell? ⟨gb601,3,none⟩ = some (.int .i64 a0_3) ∧ w'.cell? ⟨gb601,4,none⟩ = some (.int .i64 a0_4) ∧ w'.cell? ⟨gb601,5,none⟩ = some (.int .i64 a0_5)) (ds:=[6,8]) #[false,false,false,false,false,false,false,false,false,false,false] (by kernel_rfl) rfl rfl ⟨(blk_cell BK623.out 0).trans rfl,(blk_cell BK623.out 1).trans rfl,(blk_cell BK623.out 2).trans rfl,(blk_cell BK623.out 3).trans rfl,(blk_cell BK623.out 4).trans rfl,(blk_cell BK623.out 5).trans rfl,(blk_cell BK601.out 0).trans rfl,(blk_cell BK601.out 1).trans rfl,(blk_cell BK601.out 2).trans rfl,(blk_cell BK601.out 3).trans rfl,(blk_cell BK601.out 4).trans rfl,(blk_cell BK601.out 5).trans rfl⟩ (fun hHeld => ?_);refine with_tabW humuslaw04_RowSums.tab12 humuslaw04_RowSums.bits12 (fun HT_ HW_ => ?_)
                      generalize wr.drew = w85 at HO_614002 HO_624002 BK601 BK613 BK623 HB hHeld ⊢
                      refine pure_ (i:=2) (N:=some 96) (v:=?_) (a':=?_) #[false,false,true,false,false,false,false,false,false,false,false] rfl rfl (any_of HT_.out (by kernel_rfl)) (fun _ _ _ h => h) (Or.inl ⟨by rfl,?_⟩) ?_ ?_
                      rotate_left
                      · intro w'
                        go_simp
                        with_reducible rfl
                      rotate_left
                      · simp only [Act.put,List.setIfInBounds_toArray,List.set_cons_zero,List.set_cons_succ,i64_w,i32_w]
                        rfl
                      refine pure_ (i:=4) (N:=some 98) (v:=?_) (a':=?_) #[false,false,true,false,true,false,false,false,false,false,false] rfl rfl (any_of HT_.out (by kernel_rfl)) (fun _ _ _ h => h) (Or.inl ⟨by rfl,?_⟩) ?_ ?_
                      rotate_left
                      · intro w'
                        go_simp
                        with_reducible rfl
                      rotate_left
                      · simp only [Act.put,List.setIfInBounds_toArray,List.set_cons_zero,List.set_cons_succ,i64_w,i32_w]
                        rfl
                      refine take_ (i:=0) (N:=some 94) (v:=?_) (a':=?_) #[true,false,true,false,true,false,false,false,false,false,false] rfl rfl (take_ofW HT_.out HW_.out (by kernel_rfl)) (fun _ _ _ h => h) (Or.inl ⟨by rfl,?_⟩) hHeld ?_ ?_
                      rotate_left
                      · rintro w' ⟨s0,s1,s2,s3,s4,s5,s6,s7,s8,s9,s10,s11⟩
                        go_simp
                        with_reducible rfl
                      rotate_left
                      · simp only [Act.put,List.setIfInBounds_toArray,List.set_cons_zero,List.set_cons_succ,i64_w,i32_w]
                        rfl
                      refine take_ (i:=1) (N:=some 95) (v:=?_) (a':=?_) #[true,true,true,false,true,false,false,false,false,false,false] rfl rfl (take_ofW HT_.out HW_.out (by kernel_rfl)) (fun _ _ _ h => h) (Or.inl ⟨by rfl,?_⟩) hHeld ?_ ?_
                      rotate_left
                      · rintro w' ⟨s0,s1,s2,s3,s4,s5,s6,s7,s8,s9,s10,s11⟩
                        go_simp
                        with_reducible rfl
                      rotate_left
                      · simp only [Act.put,List.setIfInBounds_toArray,List.set_cons_zero,List.set_cons_succ,i64_w,i32_w]
                        rfl
                      refine one_ (i:=3) (N:=some 97) #[true,true,true,true,true,false,false,false,false,false,false] rfl rfl (one_of HT_.out (by kernel_rfl)) (by decide) (fun K hK => ?_)
                      refine goes_ Try.func42 (by kernel_rfl) rfl #[.agg #[.float .f64 a0_0,.bool a0_1,.slice A0_2 l0_2.length c0_2,.int .i64 a0_3,.int .i64 a0_4,.int .i64 a0_5],.float .f64 a1] (by rfl) rfl rfl (by (try simp only [List.map_toArray,List.map_cons,List.map_nil]);first | done | rfl | (simp only [List.length_drop,List.length_take];rfl)) ?_
                      with_reducible refine (humusref04_Plus.calls a0_0 a0_1 _ _ l0_2 a0_3 a0_4 a0_5 a1 t628 t629 t630 t633 t634 t635 _ ?side1 ?side2 A77.out).mono ?_
                      (case side1 => repeat (first | exact (Kd.C_below HR0_2.out HB.out) | (with_reducible refine Kd.C_alloc ?_ _) | (with_reducible refine Kd.C_drewN ?_ _) | (with_reducible refine Kd.C_drew ?_)))
                      (case side2 => exact HC0_2.out)
                      rintro e w86 ⟨v631,rfl,ho0,hb⟩
                      refine ⟨_,rfl,?_⟩
                      have n0_:=Aside0.mk (Kd.R_elder' (by (with_reducible repeat (first | apply Kd.R_alloc | apply Kd.R_drewN | apply Kd.R_drew));exact HO_614002.out) (Kd.R_base ho0) hb)
                      have n1_:=Aside0.mk (Kd.R_elder' (by (with_reducible repeat (first | apply Kd.R_alloc | apply Kd.R_drewN | apply Kd.R_drew));exact HO_624002.out) (Kd.R_base ho0) hb)
                      have n2_:=Aside0.mk (Kd.R_lower (Kd.R_new' (Kd.R_new' ho0 (Kd.R_lt (by (with_reducible repeat (first | apply Kd.R_alloc | apply Kd.R_drewN | apply Kd.R_drew));exact HO_614002.out))) (Kd.R_lt (by (with_reducible repeat (first | apply Kd.R_alloc | apply Kd.R_drewN | apply Kd.R_drew));exact HO_624002.out))) (below_size (by repeat (first | (with_reducible first | exact HB.out | apply below_alloc | apply pw_below_drewN | apply below_drew1 | refine below_set ?_ GE601.out | refine below_set ?_ GE613.out | refine below_set ?_ GE623.out) | exact HB.out))))
                      have n3_:=Aside0.mk (blk_below (g:=gb601) (o:=.cells #[.float .f64 a0_0,.bool a0_1,.slice A0_2 l0_2.length c0_2,.int .i64 a0_3,.int .i64 a0_4,.int .i64 a0_5] 30 (0,0)) (by (with_reducible repeat (first | refine blk_drewN ?_ _ | refine blk_drew ?_ | refine blk_alloc ?_ _));exact BK601.out) hb)
                      have n4_:=Aside0.mk (blk_below (g:=gb613) (o:=.cells #[.float .f64 t604,.bool t605,.slice Ao24 t606.length co24,.int .i64 t609,.int .i64 t610,.int .i64 t611] 30 (0,0)) (by (with_reducible repeat (first | refine blk_drewN ?_ _ | refine blk_drew ?_ | refine blk_alloc ?_ _));exact BK613.out) hb)
                      have n5_:=Aside0.mk (blk_below (g:=gb623) (o:=.cells #[.float .f64 t614,.bool t615,.slice Ao30 t616.length co30,.int .i64 t619,.int .i64 t620,.int .i64 t621] 30 (0,0)) (by (with_reducible repeat (first | refine blk_drewN ?_ _ | refine blk_drew ?_ | refine blk_alloc ?_ _));exact BK623.out) hb)
                      have n6_:=Aside0.mk (below_step (by repeat (first | (with_reducible first | exact HB.out | apply below_alloc | apply pw_below_drewN | apply below_drew1 | refine below_set ?_ GE601.out | refine below_set ?_ GE613.out | refine below_set ?_ GE623.out) | exact HB.out)) hb)
                      clear HO_614002
                      clear HO_624002
                      clear BK601
                      clear BK613
                      clear BK623
                      clear HB
                      have HO_614002:=n0_
                      have HO_624002:=n1_
                      have HO632:=n2_
                      have BK601:=n3_
                      have BK613:=n4_
                      have BK623:=n5_
                      have HB:=n6_
                      clear n0_ n1_ n2_ n3_ n4_ n5_ n6_
                      (try clear hb)
                      (try clear hb2)
                      (try clear hk)
                      (try clear hi)
                      (try clear ho0)
                      obtain ⟨Ao87,co87,eo87⟩:=Kd.R_slice HO632.out
                      (first | subst eo87 | (injection eo87 with f1_ f2_ f3_;have f4_:=f1_.symm;have f5_:=f3_.symm;clear f1_ f2_ f3_;subst f4_;subst f5_))
                      refine hK.out _ _ ⟨(blk_cell BK623.out 0).trans rfl,(blk_cell BK623.out 1).trans rfl,(blk_cell BK623.out 2).trans rfl,(blk_cell BK623.out 3).trans rfl,(blk_cell BK623.out 4).trans rfl,(blk_cell BK623.out 5).trans rfl,(blk_cell BK601.out 0).trans rfl,(blk_cell BK601.out 1).trans rfl,(blk_cell BK601.out 2).trans rfl,(blk_cell BK601.out 3).trans rfl,(blk_cell BK601.out 4).trans rfl,(blk_cell BK601.out 5).trans rfl⟩ (fun hHeld => ?_)
                      clear hK K
                      refine norm_ (a':=?_) ?_ ?_
                      rotate_left
                      · show Act.put _ (some 97) _ = _
                        simp only [Act.put,List.setIfInBounds_toArray,List.set_cons_zero,List.set_cons_succ,i64_w,i32_w]
                        rfl
                      refine one_ (i:=5) (N:=some 99) #[true,true,true,true,true,true,false,false,false,false,false] rfl rfl (one_of HT_.out (by kernel_rfl)) (by decide) (fun K hK => ?_)
                      refine goes_ Try.func42 (by kernel_rfl) rfl #[.agg #[.float .f64 t628,.bool t629,.slice Ao87 t630.length co87,.int .i64 t633,.int .i64 t634,.int .i64 t635],.float .f64 a2] (by rfl) rfl rfl (by (try simp only [List.map_toArray,List.map_cons,List.map_nil]);first | done | rfl | (simp only [List.length_drop,List.length_take];rfl)) ?_
                      with_reducible refine (humusref04_Plus.calls t628 t629 _ _ t630 t633 t634 t635 a2 t636 t637 t638 t641 t642 t643 _ ?side1 ?side2 A78.out).mono ?_
                      (case side1 => repeat (first | exact (Kd.R_reads' HO632.out).2.2 | (with_reducible refine Kd.C_alloc ?_ _) | (with_reducible refine Kd.C_drewN ?_ _) | (with_reducible refine Kd.C_drew ?_)))
                      (case side2 => exact (Kd.R_reads' HO632.out).2.1)
                      rintro e w88 ⟨v639,rfl,ho0,hb⟩
                      refine ⟨_,rfl,?_⟩
                      have n0_:=Aside0.mk (Kd.R_elder' (by (with_reducible repeat (first | apply Kd.R_alloc | apply Kd.R_drewN | apply Kd.R_drew));exact HO_614002.out) (Kd.R_base ho0) hb)
                      have n1_:=Aside0.mk (Kd.R_elder' (by (with_reducible repeat (first | apply Kd.R_alloc | apply Kd.R_drewN | apply Kd.R_drew));exact HO_624002.out) (Kd.R_base ho0) hb)
                      have n2_:=Aside0.mk (Kd.R_elder' (by (with_reducible repeat (first | apply Kd.R_alloc | apply Kd.R_drewN | apply Kd.R_drew));exact HO632.out) (Kd.R_base ho0) hb)
                      have n3_:=Aside0.mk (Kd.R_lower (Kd.R_new' (Kd.R_new' (Kd.R_new' ho0 (Kd.R_lt (by (with_reducible repeat (first | apply Kd.R_alloc | apply Kd.R_drewN | apply Kd.R_drew));exact HO_614002.out))) (Kd.R_lt (by (with_reducible repeat (first | apply Kd.R_alloc | apply Kd.R_drewN | apply Kd.R_drew));exact HO_624002.out))) (Kd.R_lt (by (with_reducible repeat (first | apply Kd.R_alloc | apply Kd.R_drewN | apply Kd.R_drew));exact HO632.out))) (below_size (by repeat (first | (with_reducible first | exact HB.out | apply below_alloc | apply pw_below_drewN | apply below_drew1 | refine below_set ?_ GE601.out | refine below_set ?_ GE613.out | refine below_set ?_ GE623.out) | exact HB.out))))
                      have n4_:=Aside0.mk (blk_below (g:=gb601) (o:=.cells #[.float .f64 a0_0,.bool a0_1,.slice A0_2 l0_2.length c0_2,.int .i64 a0_3,.int .i64 a0_4,.int .i64 a0_5] 30 (0,0)) (by (with_reducible repeat (first | refine blk_drewN ?_ _ | refine blk_drew ?_ | refine blk_alloc ?_ _));exact BK601.out) hb)
                      have n5_:=Aside0.mk (blk_below (g:=gb613) (o:=.cells #[.float .f64 t604,.bool t605,.slice Ao24 t606.length co24,.int .i64 t609,.int .i64 t610,.int .i64 t611] 30 (0,0)) (by (with_reducible repeat (first | refine blk_drewN ?_ _ | refine blk_drew ?_ | refine blk_alloc ?_ _));exact BK613.out) hb)
                      have n6_:=Aside0.mk (blk_below (g:=gb623) (o:=.cells #[.float .f64 t614,.bool t615,.slice Ao30 t616.length co30,.int .i64 t619,.int .i64 t620,.int .i64 t621] 30 (0,0)) (by (with_reducible repeat (first | refine blk_drewN ?_ _ | refine blk_drew ?_ | refine blk_alloc ?_ _));exact BK623.out) hb)
                      have n7_:=Aside0.mk (below_step (by repeat (first | (with_reducible first | exact HB.out | apply below_alloc | apply pw_below_drewN | apply below_drew1 | refine below_set ?_ GE601.out | refine below_set ?_ GE613.out | refine below_set ?_ GE623.out) | exact HB.out)) hb)
                      clear HO_614002
                      clear HO_624002
                      clear HO632
                      clear BK601
                      clear BK613
                      clear BK623
                      clear HB
                      have HO_614002:=n0_
                      have HO_624002:=n1_
                      have HO632:=n2_
                      have HO640:=n3_
                      have BK601:=n4_
                      have BK613:=n5_
                      have BK623:=n6_
                      have HB:=n7_
                      clear n0_ n1_ n2_ n3_ n4_ n5_ n6_ n7_
                      (try clear hb)
                      (try clear hb2)
                      (try clear hk)
                      (try clear hi)
                      (try clear ho0)
                      obtain ⟨Ao89,co89,eo89⟩:=Kd.R_slice HO640.out
                      (first | subst eo89 | (injection eo89 with f1_ f2_ f3_;have f4_:=f1_.symm;have f5_:=f3_.symm;clear f1_ f2_ f3_;subst f4_;subst f5_))
                      refine hK.out _ _ ⟨(blk_cell BK623.out 0).trans rfl,(blk_cell BK623.out 1).trans rfl,(blk_cell BK623.out 2).trans rfl,(blk_cell BK623.out 3).trans rfl,(blk_cell BK623.out 4).trans rfl,(blk_cell BK623.out 5).trans rfl,(blk_cell BK601.out 0).trans rfl,(blk_cell BK601.out 1).trans rfl,(blk_cell BK601.out 2).trans rfl,(blk_cell BK601.out 3).trans rfl,(blk_cell BK601.out 4).trans rfl,(blk_cell BK601.out 5).trans rfl⟩ (fun hHeld => ?_)
                      clear hK K
                      refine norm_ (a':=?_) ?_ ?_
                      rotate_left
                      · show Act.put _ (some 99) _ = _
                        simp only [Act.put,List.setIfInBounds_toArray,List.set_cons_zero,List.set_cons_succ,i64_w,i32_w]
                        rfl
                      refine last_ (i:=6) (N:=some 100) #[true,true,true,true,true,true,true,false,false,false,false] rfl rfl (one_of HT_.out (by kernel_rfl)) (by decide) (fun K hK => ?_)
                      refine goes_ Try.func37 (by kernel_rfl) rfl #[.agg #[.float .f64 t614,.bool t615,.slice Ao30 t616.length co30,.int .i64 t619,.int .i64 t620,.int .i64 t621],.agg #[.float .f64 t636,.bool t637,.slice Ao89 t638.length co89,.int .i64 t641,.int .i64 t642,.int .i64 t643]] (by rfl) rfl rfl (by (try simp only [List.map_toArray,List.map_cons,List.map_nil]);first | done | rfl | (simp only [List.length_drop,List.length_take];rfl)) ?_
                      with_reducible refine (humusref04_Same.calls k3 t614 t615 _ _ t616 t619 t620 t621 t636 t637 _ _ t638 t641 t642 t643 true _ ?side1 ?side2 ?side3 ?side4 A79.out).mono ?_
                      (case side1 => repeat (first | exact (Kd.R_reads' HO_624002.out).2.2 | (with_reducible refine Kd.C_alloc ?_ _) | (with_reducible refine Kd.C_drewN ?_ _) | (with_reducible refine Kd.C_drew ?_)))
                      (case side2 => exact (Kd.R_reads' HO_624002.out).2.1)
                      (case side3 => repeat (first | exact (Kd.R_reads' HO640.out).2.2 | (with_reducible refine Kd.C_alloc ?_ _) | (with_reducible refine Kd.C_drewN ?_ _) | (with_reducible refine Kd.C_drew ?_)))
                      (case side4 => exact (Kd.R_reads' HO640.out).2.1)
                      rintro e w90 ⟨rfl,hb⟩
                      refine ⟨_,rfl,?_⟩
                      have n0_:=Aside0.mk (Kd.R_below (by (with_reducible repeat (first | apply Kd.R_alloc | apply Kd.R_drewN | apply Kd.R_drew));exact HO_614002.out) hb)
                      have n1_:=Aside0.mk (Kd.R_below (by (with_reducible repeat (first | apply Kd.R_alloc | apply Kd.R_drewN | apply Kd.R_drew));exact HO_624002.out) hb)
                      have n2_:=Aside0.mk (Kd.R_below (by (with_reducible repeat (first | apply Kd.R_alloc | apply Kd.R_drewN | apply Kd.R_drew));exact HO632.out) hb)
                      have n3_:=Aside0.mk (Kd.R_below (by (with_reducible repeat (first | apply Kd.R_alloc | apply Kd.R_drewN | apply Kd.R_drew));exact HO640.out) hb)
                      have n4_:=Aside0.mk (blk_below (g:=gb601) (o:=.cells #[.float .f64 a0_0,.bool a0_1,.slice A0_2 l0_2.length c0_2,.int .i64 a0_3,.int .i64 a0_4,.int .i64 a0_5] 30 (0,0)) (by (with_reducible repeat (first | refine blk_drewN ?_ _ | refine blk_drew ?_ | refine blk_alloc ?_ _));exact BK601.out) hb)
                      have n5_:=Aside0.mk (blk_below (g:=gb613) (o:=.cells #[.float .f64 t604,.bool t605,.slice Ao24 t606.length co24,.int .i64 t609,.int .i64 t610,.int .i64 t611] 30 (0,0)) (by (with_reducible repeat (first | refine blk_drewN ?_ _ | refine blk_drew ?_ | refine blk_alloc ?_ _));exact BK613.out) hb)
                      have n6_:=Aside0.mk (blk_below (g:=gb623) (o:=.cells #[.float .f64 t614,.bool t615,.slice Ao30 t616.length co30,.int .i64 t619,.int .i64 t620,.int .i64 t621] 30 (0,0)) (by (with_reducible repeat (first | refine blk_drewN ?_ _ | refine blk_drew ?_ | refine blk_alloc ?_ _));exact BK623.out) hb)
                      have n7_:=Aside0.mk (below_step (by repeat (first | (with_reducible first | exact HB.out | apply below_alloc | apply pw_below_drewN | apply below_drew1 | refine below_set ?_ GE601.out | refine below_set ?_ GE613.out | refine below_set ?_ GE623.out) | exact HB.out)) hb)
                      clear HO_614002
                      clear HO_624002
                      clear HO632
                      clear HO640
                      clear BK601
                      clear BK613
                      clear BK623
                      clear HB
                      have HO_614002:=n0_
                      have HO_624002:=n1_
                      have HO632:=n2_
                      have HO640:=n3_
                      have BK601:=n4_
                      have BK613:=n5_
                      have BK623:=n6_
                      have HB:=n7_
                      clear n0_ n1_ n2_ n3_ n4_ n5_ n6_ n7_
                      (try clear hb)
                      (try clear hb2)
                      (try clear hk)
                      (try clear hi)
                      refine hK.out _ _ ?_
                      clear hK K
                      refine norm_ (a':=?_) ?_ ?_
                      rotate_left
                      · show Act.put _ (some 100) _ = _
                        simp only [Act.put,List.setIfInBounds_toArray,List.set_cons_zero,List.set_cons_succ,i64_w,i32_w]
                        rfl
                      refine pure_ (i:=7) (N:=some 101) (v:=?_) (a':=?_) #[true,true,true,true,true,true,true,true,false,false,false] rfl rfl (any_of HT_.out (by kernel_rfl)) (fun _ _ _ h => h) (Or.inl ⟨by rfl,?_⟩) ?_ ?_
                      rotate_left
                      · intro w'
                        go_simp
                        with_reducible rfl
                      rotate_left
                      · simp only [Act.put,List.setIfInBounds_toArray,List.set_cons_zero,List.set_cons_succ,i64_w,i32_w]
                        rfl
                      refine last_ (i:=8) (N:=some 102) #[true,true,true,true,true,true,true,true,true,false,false] rfl rfl (one_of HT_.out (by kernel_rfl)) (by decide) (fun K hK => ?_)
                      refine goes_ Try.func31 (by kernel_rfl) rfl #[] (by rfl) rfl rfl (by (try simp only [List.map_toArray,List.map_cons,List.map_nil]);first | done | rfl | (simp only [List.length_drop,List.length_take];rfl)) ?_
                      with_reducible refine (humuslaw04_awake.calls k3  t645 _ A81.out).mono ?_
                      rintro e w91 ⟨rfl,hb⟩
                      refine ⟨_,rfl,?_⟩
                      have n0_:=Aside0.mk (Kd.R_below (by (with_reducible repeat (first | apply Kd.R_alloc | apply Kd.R_drewN | apply Kd.R_drew));exact HO_614002.out) hb)
                      have n1_:=Aside0.mk (Kd.R_below (by (with_reducible repeat (first | apply Kd.R_alloc | apply Kd.R_drewN | apply Kd.R_drew));exact HO_624002.out) hb)
                      have n2_:=Aside0.mk (Kd.R_below (by (with_reducible repeat (first | apply Kd.R_alloc | apply Kd.R_drewN | apply Kd.R_drew));exact HO632.out) hb)
                      have n3_:=Aside0.mk (Kd.R_below (by (with_reducible repeat (first | apply Kd.R_alloc | apply Kd.R_drewN | apply Kd.R_drew));exact HO640.out) hb)
                      have n4_:=Aside0.mk (blk_below (g:=gb601) (o:=.cells #[.float .f64 a0_0,.bool a0_1,.slice A0_2 l0_2.length c0_2,.int .i64 a0_3,.int .i64 a0_4,.int .i64 a0_5] 30 (0,0)) (by (with_reducible repeat (first | refine blk_drewN ?_ _ | refine blk_drew ?_ | refine blk_alloc ?_ _));exact BK601.out) hb)
                      have n5_:=Aside0.mk (blk_below (g:=gb613) (o:=.cells #[.float .f64 t604,.bool t605,.slice Ao24 t606.length co24,.int .i64 t609,.int .i64 t610,.int .i64 t611] 30 (0,0)) (by (with_reducible repeat (first | refine blk_drewN ?_ _ | refine blk_drew ?_ | refine blk_alloc ?_ _));exact BK613.out) hb)
                      have n6_:=Aside0.mk (blk_below (g:=gb623) (o:=.cells #[.float .f64 t614,.bool t615,.slice Ao30 t616.length co30,.int .i64 t619,.int .i64 t620,.int .i64 t621] 30 (0,0)) (by (with_reducible repeat (first | refine blk_drewN ?_ _ | refine blk_drew ?_ | refine blk_alloc ?_ _));exact BK623.out) hb)
                      have n7_:=Aside0.mk (below_step (by repeat (first | (with_reducible first | exact HB.out | apply below_alloc | apply pw_below_drewN | apply below_drew1 | refine below_set ?_ GE601.out | refine below_set ?_ GE613.out | refine below_set ?_ GE623.out) | exact HB.out)) hb)
                      clear HO_614002
                      clear HO_624002
                      clear HO632
                      clear HO640
                      clear BK601
                      clear BK613
                      clear BK623
                      clear HB
                      have HO_614002:=n0_
                      have HO_624002:=n1_
                      have HO632:=n2_
                      have HO640:=n3_
                      have BK601:=n4_
                      have BK613:=n5_
                      have BK623:=n6_
                      have HB:=n7_
                      clear n0_ n1_ n2_ n3_ n4_ n5_ n6_ n7_
                      (try clear hb)
                      (try clear hb2)
                      (try clear hk)
                      (try clear hi)
                      refine hK.out _ _ ?_
                      clear hK K
                      refine norm_ (a':=?_) ?_ ?_
                      rotate_left
                      · show Act.put _ (some 102) _ = _
                        simp only [Act.put,List.setIfInBounds_toArray,List.set_cons_zero,List.set_cons_succ,i64_w,i32_w]
                        rfl
                      refine pure_ (i:=9) (N:=some 103) (v:=?_) (a':=?_) #[true,true,true,true,true,true,true,true,true,true,false] rfl rfl (any_of HT_.out (by kernel_rfl)) (fun _ _ _ h => h) (Or.inl ⟨by rfl,?_⟩) ?_ ?_
                      rotate_left
                      · intro w'
                        go_simp
                        with_reducible rfl
                      rotate_left
                      · simp only [Act.put,List.setIfInBounds_toArray,List.set_cons_zero,List.set_cons_succ,i64_w,i32_w]
                        rfl
                      refine pure_ (i:=10) (N:=some 6) (v:=?_) (a':=?_) #[true,true,true,true,true,true,true,true,true,true,true] rfl rfl (any_of HT_.out (by kernel_rfl)) (fun _ _ _ h => h) (Or.inl ⟨by rfl,?_⟩) ?_ ?_
                      rotate_left
                      · intro w'
                        go_simp
                        with_reducible rfl
                      rotate_left
                      · simp only [Act.put,List.setIfInBounds_toArray,List.set_cons_zero,List.set_cons_succ,i64_w,i32_w]
                        rfl
                      refine done_ (done_of HT_.out (by kernel_rfl)) ?_
                      try go_wp2
                      go_ret
                      exact ⟨by first | rfl | (simp [errW_none,errW_some] <;> rfl) | (simp [*,errW_none,errW_some] <;> rfl),by repeat (first | (with_reducible first | exact HB.out | apply below_alloc | apply pw_below_drewN | apply below_drew1 | refine below_set ?_ GE601.out | refine below_set ?_ GE613.out | refine below_set ?_ GE623.out) | exact HB.out)⟩
                    · replace c80:=Bool.eq_false_iff.mpr c80
                      subst c80
                      have H1 : (some false) = some r:=by rw [if_neg (show ¬ (false = true) by decide)] at H;exact H
                      clear H
                      have H:=H1
                      clear H1
                      obtain rfl:=Option.some.inj H
                      have hnb92:=NB601_613.out
                      have hnc92:=NB613_601.out
                      have hnb93:=NB601_623.out
                      have hnc93:=NB623_601.out
                      have hcz94_0 : wr.cell? ⟨gb601,0,none⟩ = some (.float .f64 a0_0):=(blk_cell BK601.out 0).trans rfl
                      have hcz94_1 : wr.cell? ⟨gb601,1,none⟩ = some (.bool a0_1):=(blk_cell BK601.out 1).trans rfl
                      have hcz94_2 : wr.cell? ⟨gb601,2,none⟩ = some (.slice A0_2 l0_2.length c0_2):=(blk_cell BK601.out 2).trans rfl
                      have hcz94_3 : wr.cell? ⟨gb601,3,none⟩ = some (.int .i64 a0_3):=(blk_cell BK601.out 3).trans rfl
                      have hcz94_4 : wr.cell? ⟨gb601,4,none⟩ = some (.int .i64 a0_4):=(blk_cell BK601.out 4).trans rfl
                      have hcz94_5 : wr.cell? ⟨gb601,5,none⟩ = some (.int .i64 a0_5):=(blk_cell BK601.out 5).trans rfl
                      have hfz94_0:=blk_frozen BK601.out 0
                      have hfz94_1:=blk_frozen BK601.out 1
                      have hfz94_2:=blk_frozen BK601.out 2
                      have hfz94_3:=blk_frozen BK601.out 3
                      have hfz94_4:=blk_frozen BK601.out 4
                      have hfz94_5:=blk_frozen BK601.out 5
                      try go_wp2
                      have n0_:=Aside0.mk (Kd.R_drew HO_614002.out)
                      have n1_:=Aside0.mk (Kd.R_drew HO_624002.out)
                      have n2_:=Aside0.mk (blk_drew BK601.out)
                      have n3_:=Aside0.mk (blk_drew BK613.out)
                      have n4_:=Aside0.mk (blk_drew BK623.out)
                      have n5_:=Aside0.mk (below_drew1 HB.out)
                      clear HO_614002
                      clear HO_624002
                      clear BK601
                      clear BK613
                      clear BK623
                      clear HB
                      have HO_614002:=n0_
                      have HO_624002:=n1_
                      have BK601:=n2_
                      have BK613:=n3_
                      have BK623:=n4_
                      have HB:=n5_
                      clear n0_ n1_ n2_ n3_ n4_ n5_
                      refine start_ (n:=11) (S:=fun w' => w'.cell? ⟨gb623,0,none⟩ = some (.float .f64 t614) ∧ w'.cell? ⟨gb623,1,none⟩ = some (.bool t615) ∧ w'.cell? ⟨gb623,2,none⟩ = some (.slice Ao30 t616.length co30) ∧ w'.cell? ⟨gb623,3,none⟩ = some (.int .i64 t619) ∧ w'.cell? ⟨gb623,4,none⟩ = some (.int .i64 t620) ∧ w'.cell? ⟨gb623,5,none⟩ = some (.int .i64 t621) ∧ w'.cell? ⟨gb601,0,none⟩ = some (.float .f64 a0_0) ∧ w'.cell? ⟨gb601,1,none⟩ = some (.bool a0_1) ∧ w'.cell? ⟨gb601,2,none⟩ = some (.slice A0_2 l0_2.length c0_2) ∧ w'.cell? ⟨gb601,3,none⟩ = some (.int .i64 a0_3) ∧ w'.cell? ⟨gb601,4,none⟩ = some (.int .i64 a0_4) ∧ w'.cell? ⟨gb601,5,none⟩ = some (.int .i64 a0_5)) (ds:=[6]) #[false,false,false,false,false,false,false,false,false,false,false] (by kernel_rfl) rfl rfl ⟨(blk_cell BK623.out 0).trans rfl,(blk_cell BK623.out 1).trans rfl,(blk_cell BK623.out 2).trans rfl,(blk_cell BK623.out 3).trans rfl,(blk_cell BK623.out 4).trans rfl,(blk_cell BK623.out 5).trans rfl,(blk_cell BK601.out 0).trans rfl,(blk_cell BK601.out 1).trans rfl,(blk_cell BK601.out 2).trans rfl,(blk_cell BK601.out 3).trans rfl,(blk_cell BK601.out 4).trans rfl,(blk_cell BK601.out 5).trans rfl⟩ (fun hHeld => ?_);refine with_tabW humuslaw04_RowSums.tab12 humuslaw04_RowSums.bits12 (fun HT_ HW_ => ?_)
                      generalize wr.drew = w95 at HO_614002 HO_624002 BK601 BK613 BK623 HB hHeld ⊢
                      refine pure_ (i:=2) (N:=some 96) (v:=?_) (a':=?_) #[false,false,true,false,false,false,false,false,false,false,false] rfl rfl (any_of HT_.out (by kernel_rfl)) (fun _ _ _ h => h) (Or.inl ⟨by rfl,?_⟩) ?_ ?_
                      rotate_left
                      · intro w'
                        go_simp
                        with_reducible rfl
                      rotate_left
                      · simp only [Act.put,List.setIfInBounds_toArray,List.set_cons_zero,List.set_cons_succ,i64_w,i32_w]
                        rfl
                      refine pure_ (i:=4) (N:=some 98) (v:=?_) (a':=?_) #[false,false,true,false,true,false,false,false,false,false,false] rfl rfl (any_of HT_.out (by kernel_rfl)) (fun _ _ _ h => h) (Or.inl ⟨by rfl,?_⟩) ?_ ?_
                      rotate_left
                      · intro w'
                        go_simp
                        with_reducible rfl
                      rotate_left
                      · simp only [Act.put,List.setIfInBounds_toArray,List.set_cons_zero,List.set_cons_succ,i64_w,i32_w]
                        rfl
                      refine take_ (i:=0) (N:=some 94) (v:=?_) (a':=?_) #[true,false,true,false,true,false,false,false,false,false,false] rfl rfl (take_ofW HT_.out HW_.out (by kernel_rfl)) (fun _ _ _ h => h) (Or.inl ⟨by rfl,?_⟩) hHeld ?_ ?_
                      rotate_left
                      · rintro w' ⟨s0,s1,s2,s3,s4,s5,s6,s7,s8,s9,s10,s11⟩
                        go_simp
                        with_reducible rfl
                      rotate_left
                      · simp only [Act.put,List.setIfInBounds_toArray,List.set_cons_zero,List.set_cons_succ,i64_w,i32_w]
                        rfl
                      refine take_ (i:=1) (N:=some 95) (v:=?_) (a':=?_) #[true,true,true,false,true,false,false,false,false,false,false] rfl rfl (take_ofW HT_.out HW_.out (by kernel_rfl)) (fun _ _ _ h => h) (Or.inl ⟨by rfl,?_⟩) hHeld ?_ ?_
                      rotate_left
                      · rintro w' ⟨s0,s1,s2,s3,s4,s5,s6,s7,s8,s9,s10,s11⟩
                        go_simp
                        with_reducible rfl
                      rotate_left
                      · simp only [Act.put,List.setIfInBounds_toArray,List.set_cons_zero,List.set_cons_succ,i64_w,i32_w]
                        rfl
                      refine one_ (i:=3) (N:=some 97) #[true,true,true,true,true,false,false,false,false,false,false] rfl rfl (one_of HT_.out (by kernel_rfl)) (by decide) (fun K hK => ?_)
                      refine goes_ Try.func42 (by kernel_rfl) rfl #[.agg #[.float .f64 a0_0,.bool a0_1,.slice A0_2 l0_2.length c0_2,.int .i64 a0_3,.int .i64 a0_4,.int .i64 a0_5],.float .f64 a1] (by rfl) rfl rfl (by (try simp only [List.map_toArray,List.map_cons,List.map_nil]);first | done | rfl | (simp only [List.length_drop,List.length_take];rfl)) ?_
                      with_reducible refine (humusref04_Plus.calls a0_0 a0_1 _ _ l0_2 a0_3 a0_4 a0_5 a1 t628 t629 t630 t633 t634 t635 _ ?side1 ?side2 A77.out).mono ?_
                      (case side1 => repeat (first | exact (Kd.C_below HR0_2.out HB.out) | (with_reducible refine Kd.C_alloc ?_ _) | (with_reducible refine Kd.C_drewN ?_ _) | (with_reducible refine Kd.C_drew ?_)))
                      (case side2 => exact HC0_2.out)
                      rintro e w96 ⟨v631,rfl,ho0,hb⟩
                      refine ⟨_,rfl,?_⟩
                      have n0_:=Aside0.mk (Kd.R_elder' (by (with_reducible repeat (first | apply Kd.R_alloc | apply Kd.R_drewN | apply Kd.R_drew));exact HO_614002.out) (Kd.R_base ho0) hb)
                      have n1_:=Aside0.mk (Kd.R_elder' (by (with_reducible repeat (first | apply Kd.R_alloc | apply Kd.R_drewN | apply Kd.R_drew));exact HO_624002.out) (Kd.R_base ho0) hb)
                      have n2_:=Aside0.mk (Kd.R_lower (Kd.R_new' (Kd.R_new' ho0 (Kd.R_lt (by (with_reducible repeat (first | apply Kd.R_alloc | apply Kd.R_drewN | apply Kd.R_drew));exact HO_614002.out))) (Kd.R_lt (by (with_reducible repeat (first | apply Kd.R_alloc | apply Kd.R_drewN | apply Kd.R_drew));exact HO_624002.out))) (below_size (by repeat (first | (with_reducible first | exact HB.out | apply below_alloc | apply pw_below_drewN | apply below_drew1 | refine below_set ?_ GE601.out | refine below_set ?_ GE613.out | refine below_set ?_ GE623.out) | exact HB.out))))
                      have n3_:=Aside0.mk (blk_below (g:=gb601) (o:=.cells #[.float .f64 a0_0,.bool a0_1,.slice A0_2 l0_2.length c0_2,.int .i64 a0_3,.int .i64 a0_4,.int .i64 a0_5] 30 (0,0)) (by (with_reducible repeat (first | refine blk_drewN ?_ _ | refine blk_drew ?_ | refine blk_alloc ?_ _));exact BK601.out) hb)
                      have n4_:=Aside0.mk (blk_below (g:=gb613) (o:=.cells #[.float .f64 t604,.bool t605,.slice Ao24 t606.length co24,.int .i64 t609,.int .i64 t610,.int .i64 t611] 30 (0,0)) (by (with_reducible repeat (first | refine blk_drewN ?_ _ | refine blk_drew ?_ | refine blk_alloc ?_ _));exact BK613.out) hb)
                      have n5_:=Aside0.mk (blk_below (g:=gb623) (o:=.cells #[.float .f64 t614,.bool t615,.slice Ao30 t616.length co30,.int .i64 t619,.int .i64 t620,.int .i64 t621] 30 (0,0)) (by (with_reducible repeat (first | refine blk_drewN ?_ _ | refine blk_drew ?_ | refine blk_alloc ?_ _));exact BK623.out) hb)
                      have n6_:=Aside0.mk (below_step (by repeat (first | (with_reducible first | exact HB.out | apply below_alloc | apply pw_below_drewN | apply below_drew1 | refine below_set ?_ GE601.out | refine below_set ?_ GE613.out | refine below_set ?_ GE623.out) | exact HB.out)) hb)
                      clear HO_614002
                      clear HO_624002
                      clear BK601
                      clear BK613
                      clear BK623
                      clear HB
                      have HO_614002:=n0_
                      have HO_624002:=n1_
                      have HO632:=n2_
                      have BK601:=n3_
                      have BK613:=n4_
                      have BK623:=n5_
                      have HB:=n6_
                      clear n0_ n1_ n2_ n3_ n4_ n5_ n6_
                      (try clear hb)
                      (try clear hb2)
                      (try clear hk)
                      (try clear hi)
                      (try clear ho0)
                      obtain ⟨Ao97,co97,eo97⟩:=Kd.R_slice HO632.out
                      (first | subst eo97 | (injection eo97 with f1_ f2_ f3_;have f4_:=f1_.symm;have f5_:=f3_.symm;clear f1_ f2_ f3_;subst f4_;subst f5_))
                      refine hK.out _ _ ⟨(blk_cell BK623.out 0).trans rfl,(blk_cell BK623.out 1).trans rfl,(blk_cell BK623.out 2).trans rfl,(blk_cell BK623.out 3).trans rfl,(blk_cell BK623.out 4).trans rfl,(blk_cell BK623.out 5).trans rfl,(blk_cell BK601.out 0).trans rfl,(blk_cell BK601.out 1).trans rfl,(blk_cell BK601.out 2).trans rfl,(blk_cell BK601.out 3).trans rfl,(blk_cell BK601.out 4).trans rfl,(blk_cell BK601.out 5).trans rfl⟩ (fun hHeld => ?_)
                      clear hK K
                      refine norm_ (a':=?_) ?_ ?_
                      rotate_left
                      · show Act.put _ (some 97) _ = _
                        simp only [Act.put,List.setIfInBounds_toArray,List.set_cons_zero,List.set_cons_succ,i64_w,i32_w]
                        rfl
                      refine one_ (i:=5) (N:=some 99) #[true,true,true,true,true,true,false,false,false,false,false] rfl rfl (one_of HT_.out (by kernel_rfl)) (by decide) (fun K hK => ?_)
                      refine goes_ Try.func42 (by kernel_rfl) rfl #[.agg #[.float .f64 t628,.bool t629,.slice Ao97 t630.length co97,.int .i64 t633,.int .i64 t634,.int .i64 t635],.float .f64 a2] (by rfl) rfl rfl (by (try simp only [List.map_toArray,List.map_cons,List.map_nil]);first | done | rfl | (simp only [List.length_drop,List.length_take];rfl)) ?_
                      with_reducible refine (humusref04_Plus.calls t628 t629 _ _ t630 t633 t634 t635 a2 t636 t637 t638 t641 t642 t643 _ ?side1 ?side2 A78.out).mono ?_
                      (case side1 => repeat (first | exact (Kd.R_reads' HO632.out).2.2 | (with_reducible refine Kd.C_alloc ?_ _) | (with_reducible refine Kd.C_drewN ?_ _) | (with_reducible refine Kd.C_drew ?_)))
                      (case side2 => exact (Kd.R_reads' HO632.out).2.1)
                      rintro e w98 ⟨v639,rfl,ho0,hb⟩
                      refine ⟨_,rfl,?_⟩
                      have n0_:=Aside0.mk (Kd.R_elder' (by (with_reducible repeat (first | apply Kd.R_alloc | apply Kd.R_drewN | apply Kd.R_drew));exact HO_614002.out) (Kd.R_base ho0) hb)
                      have n1_:=Aside0.mk (Kd.R_elder' (by (with_reducible repeat (first | apply Kd.R_alloc | apply Kd.R_drewN | apply Kd.R_drew));exact HO_624002.out) (Kd.R_base ho0) hb)
                      have n2_:=Aside0.mk (Kd.R_elder' (by (with_reducible repeat (first | apply Kd.R_alloc | apply Kd.R_drewN | apply Kd.R_drew));exact HO632.out) (Kd.R_base ho0) hb)
                      have n3_:=Aside0.mk (Kd.R_lower (Kd.R_new' (Kd.R_new' (Kd.R_new' ho0 (Kd.R_lt (by (with_reducible repeat (first | apply Kd.R_alloc | apply Kd.R_drewN | apply Kd.R_drew));exact HO_614002.out))) (Kd.R_lt (by (with_reducible repeat (first | apply Kd.R_alloc | apply Kd.R_drewN | apply Kd.R_drew));exact HO_624002.out))) (Kd.R_lt (by (with_reducible repeat (first | apply Kd.R_alloc | apply Kd.R_drewN | apply Kd.R_drew));exact HO632.out))) (below_size (by repeat (first | (with_reducible first | exact HB.out | apply below_alloc | apply pw_below_drewN | apply below_drew1 | refine below_set ?_ GE601.out | refine below_set ?_ GE613.out | refine below_set ?_ GE623.out) | exact HB.out))))
                      have n4_:=Aside0.mk (blk_below (g:=gb601) (o:=.cells #[.float .f64 a0_0,.bool a0_1,.slice A0_2 l0_2.length c0_2,.int .i64 a0_3,.int .i64 a0_4,.int .i64 a0_5] 30 (0,0)) (by (with_reducible repeat (first | refine blk_drewN ?_ _ | refine blk_drew ?_ | refine blk_alloc ?_ _));exact BK601.out) hb)
                      have n5_:=Aside0.mk (blk_below (g:=gb613) (o:=.cells #[.float .f64 t604,.bool t605,.slice Ao24 t606.length co24,.int .i64 t609,.int .i64 t610,.int .i64 t611] 30 (0,0)) (by (with_reducible repeat (first | refine blk_drewN ?_ _ | refine blk_drew ?_ | refine blk_alloc ?_ _));exact BK613.out) hb)
                      have n6_:=Aside0.mk (blk_below (g:=gb623) (o:=.cells #[.float .f64 t614,.bool t615,.slice Ao30 t616.length co30,.int .i64 t619,.int .i64 t620,.int .i64 t621] 30 (0,0)) (by (with_reducible repeat (first | refine blk_drewN ?_ _ | refine blk_drew ?_ | refine blk_alloc ?_ _));exact BK623.out) hb)
                      have n7_:=Aside0.mk (below_step (by repeat (first | (with_reducible first | exact HB.out | apply below_alloc | apply pw_below_drewN | apply below_drew1 | refine below_set ?_ GE601.out | refine below_set ?_ GE613.out | refine below_set ?_ GE623.out) | exact HB.out)) hb)
                      clear HO_614002
                      clear HO_624002
                      clear HO632
                      clear BK601
                      clear BK613
                      clear BK623
                      clear HB
                      have HO_614002:=n0_
                      have HO_624002:=n1_
                      have HO632:=n2_
                      have HO640:=n3_
                      have BK601:=n4_
                      have BK613:=n5_
                      have BK623:=n6_
                      have HB:=n7_
                      clear n0_ n1_ n2_ n3_ n4_ n5_ n6_ n7_
                      (try clear hb)
                      (try clear hb2)
                      (try clear hk)
                      (try clear hi)
                      (try clear ho0)
                      obtain ⟨Ao99,co99,eo99⟩:=Kd.R_slice HO640.out
                      (first | subst eo99 | (injection eo99 with f1_ f2_ f3_;have f4_:=f1_.symm;have f5_:=f3_.symm;clear f1_ f2_ f3_;subst f4_;subst f5_))
                      refine hK.out _ _ ⟨(blk_cell BK623.out 0).trans rfl,(blk_cell BK623.out 1).trans rfl,(blk_cell BK623.out 2).trans rfl,(blk_cell BK623.out 3).trans rfl,(blk_cell BK623.out 4).trans rfl,(blk_cell BK623.out 5).trans rfl,(blk_cell BK601.out 0).trans rfl,(blk_cell BK601.out 1).trans rfl,(blk_cell BK601.out 2).trans rfl,(blk_cell BK601.out 3).trans rfl,(blk_cell BK601.out 4).trans rfl,(blk_cell BK601.out 5).trans rfl⟩ (fun hHeld => ?_)
                      clear hK K
                      refine norm_ (a':=?_) ?_ ?_
                      rotate_left
                      · show Act.put _ (some 99) _ = _
                        simp only [Act.put,List.setIfInBounds_toArray,List.set_cons_zero,List.set_cons_succ,i64_w,i32_w]
                        rfl
                      refine last_ (i:=6) (N:=some 100) #[true,true,true,true,true,true,true,false,false,false,false] rfl rfl (one_of HT_.out (by kernel_rfl)) (by decide) (fun K hK => ?_)
                      refine goes_ Try.func37 (by kernel_rfl) rfl #[.agg #[.float .f64 t614,.bool t615,.slice Ao30 t616.length co30,.int .i64 t619,.int .i64 t620,.int .i64 t621],.agg #[.float .f64 t636,.bool t637,.slice Ao99 t638.length co99,.int .i64 t641,.int .i64 t642,.int .i64 t643]] (by rfl) rfl rfl (by (try simp only [List.map_toArray,List.map_cons,List.map_nil]);first | done | rfl | (simp only [List.length_drop,List.length_take];rfl)) ?_
                      with_reducible refine (humusref04_Same.calls k3 t614 t615 _ _ t616 t619 t620 t621 t636 t637 _ _ t638 t641 t642 t643 false _ ?side1 ?side2 ?side3 ?side4 A79.out).mono ?_
                      (case side1 => repeat (first | exact (Kd.R_reads' HO_624002.out).2.2 | (with_reducible refine Kd.C_alloc ?_ _) | (with_reducible refine Kd.C_drewN ?_ _) | (with_reducible refine Kd.C_drew ?_)))
                      (case side2 => exact (Kd.R_reads' HO_624002.out).2.1)
                      (case side3 => repeat (first | exact (Kd.R_reads' HO640.out).2.2 | (with_reducible refine Kd.C_alloc ?_ _) | (with_reducible refine Kd.C_drewN ?_ _) | (with_reducible refine Kd.C_drew ?_)))
                      (case side4 => exact (Kd.R_reads' HO640.out).2.1)
                      rintro e w100 ⟨rfl,hb⟩
                      refine ⟨_,rfl,?_⟩
                      have n0_:=Aside0.mk (Kd.R_below (by (with_reducible repeat (first | apply Kd.R_alloc | apply Kd.R_drewN | apply Kd.R_drew));exact HO_614002.out) hb)
                      have n1_:=Aside0.mk (Kd.R_below (by (with_reducible repeat (first | apply Kd.R_alloc | apply Kd.R_drewN | apply Kd.R_drew));exact HO_624002.out) hb)
                      have n2_:=Aside0.mk (Kd.R_below (by (with_reducible repeat (first | apply Kd.R_alloc | apply Kd.R_drewN | apply Kd.R_drew));exact HO632.out) hb)
                      have n3_:=Aside0.mk (Kd.R_below (by (with_reducible repeat (first | apply Kd.R_alloc | apply Kd.R_drewN | apply Kd.R_drew));exact HO640.out) hb)
                      have n4_:=Aside0.mk (blk_below (g:=gb601) (o:=.cells #[.float .f64 a0_0,.bool a0_1,.slice A0_2 l0_2.length c0_2,.int .i64 a0_3,.int .i64 a0_4,.int .i64 a0_5] 30 (0,0)) (by (with_reducible repeat (first | refine blk_drewN ?_ _ | refine blk_drew ?_ | refine blk_alloc ?_ _));exact BK601.out) hb)
                      have n5_:=Aside0.mk (blk_below (g:=gb613) (o:=.cells #[.float .f64 t604,.bool t605,.slice Ao24 t606.length co24,.int .i64 t609,.int .i64 t610,.int .i64 t611] 30 (0,0)) (by (with_reducible repeat (first | refine blk_drewN ?_ _ | refine blk_drew ?_ | refine blk_alloc ?_ _));exact BK613.out) hb)
                      have n6_:=Aside0.mk (blk_below (g:=gb623) (o:=.cells #[.float .f64 t614,.bool t615,.slice Ao30 t616.length co30,.int .i64 t619,.int .i64 t620,.int .i64 t621] 30 (0,0)) (by (with_reducible repeat (first | refine blk_drewN ?_ _ | refine blk_drew ?_ | refine blk_alloc ?_ _));exact BK623.out) hb)
                      have n7_:=Aside0.mk (below_step (by repeat (first | (with_reducible first | exact HB.out | apply below_alloc | apply pw_below_drewN | apply below_drew1 | refine below_set ?_ GE601.out | refine below_set ?_ GE613.out | refine below_set ?_ GE623.out) | exact HB.out)) hb)
                      clear HO_614002
                      clear HO_624002
                      clear HO632
                      clear HO640
                      clear BK601
                      clear BK613
                      clear BK623
                      clear HB
                      have HO_614002:=n0_
                      have HO_624002:=n1_
                      have HO632:=n2_
                      have HO640:=n3_
                      have BK601:=n4_
                      have BK613:=n5_
                      have BK623:=n6_
                      have HB:=n7_
                      clear n0_ n1_ n2_ n3_ n4_ n5_ n6_ n7_
                      (try clear hb)
                      (try clear hb2)
                      (try clear hk)
                      (try clear hi)
                      refine hK.out _ _ ?_
                      clear hK K
                      refine norm_ (a':=?_) ?_ ?_
                      rotate_left
                      · show Act.put _ (some 100) _ = _
                        simp only [Act.put,List.setIfInBounds_toArray,List.set_cons_zero,List.set_cons_succ,i64_w,i32_w]
                        rfl
                      refine pure_ (i:=7) (N:=some 101) (v:=?_) (a':=?_) #[true,true,true,true,true,true,true,true,false,false,false] rfl rfl (any_of HT_.out (by kernel_rfl)) (fun _ _ _ h => h) (Or.inl ⟨by rfl,?_⟩) ?_ ?_
                      rotate_left
                      · intro w'
                        go_simp
                        with_reducible rfl
                      rotate_left
                      · simp only [Act.put,List.setIfInBounds_toArray,List.set_cons_zero,List.set_cons_succ,i64_w,i32_w]
                        rfl
                      refine pure_ (i:=8) (N:=some 102) (v:=undef) (a':=?_) #[true,true,true,true,true,true,true,true,true,false,false] rfl rfl (any_of HT_.out (by kernel_rfl)) (fun _ _ _ h => h) (Or.inr ⟨by rfl,rfl⟩) ?_ ?_
                      rotate_left
                      · simp only [Act.put,List.setIfInBounds_toArray,List.set_cons_zero,List.set_cons_succ,i64_w,i32_w]
                        rfl
                      refine pure_ (i:=9) (N:=some 103) (v:=?_) (a':=?_) #[true,true,true,true,true,true,true,true,true,true,false] rfl rfl (any_of HT_.out (by kernel_rfl)) (fun _ _ _ h => h) (Or.inl ⟨by rfl,?_⟩) ?_ ?_
                      rotate_left
                      · intro w'
                        go_simp
                        with_reducible rfl
                      rotate_left
                      · simp only [Act.put,List.setIfInBounds_toArray,List.set_cons_zero,List.set_cons_succ,i64_w,i32_w]
                        rfl
                      refine pure_ (i:=10) (N:=some 6) (v:=?_) (a':=?_) #[true,true,true,true,true,true,true,true,true,true,true] rfl rfl (any_of HT_.out (by kernel_rfl)) (fun _ _ _ h => h) (Or.inl ⟨by rfl,?_⟩) ?_ ?_
                      rotate_left
                      · intro w'
                        go_simp
                        with_reducible rfl
                      rotate_left
                      · simp only [Act.put,List.setIfInBounds_toArray,List.set_cons_zero,List.set_cons_succ,i64_w,i32_w]
                        rfl
                      refine done_ (done_of HT_.out (by kernel_rfl)) ?_
                      try go_wp2
                      go_ret
                      exact ⟨by first | rfl | (simp [errW_none,errW_some] <;> rfl) | (simp [*,errW_none,errW_some] <;> rfl),by repeat (first | (with_reducible first | exact HB.out | apply below_alloc | apply pw_below_drewN | apply below_drew1 | refine below_set ?_ GE601.out | refine below_set ?_ GE613.out | refine below_set ?_ GE623.out) | exact HB.out)⟩
end Go.Proofs.Ytdcllbhkjcdnoaa.P
set_option linter.unusedVariables false
namespace Go.Proofs.Ytdcllbhkjcdnoaa.P
open Go.RowKit Go.Proofs.Ytdcllbhkjcdnoaa Go.Proofs.Ytdcllbhkjcdnoaa.Mem Go.Proofs.Ytdcllbhkjcdnoaa.Pac Go.Proofs.YtdcllbhkjcdnoaaW.PrintWords Go.Proofs.YtdcllbhkjcdnoaaW.PrintLast
theorem rdF_set_ne (co : List Nat) (v : Nat) {i : Nat} (hi : 1 ≤ i) : rdF (co.set 0 v) (i : Int) = rdF co (i : Int) := by
  unfold rdF rdOf
  rw [Int.toNat_natCast, List.getD_eq_getElem?_getD, List.getD_eq_getElem?_getD, List.getElem?_set_ne (by omega)]
theorem rowSums_l0 (x y : Nat) {ke : Nat} {de : Bool} {co : List Nat} {wr ce no : Int} (hc : co ≠ []) (hl : co.length ≤ 4) : ∀ (d i k : Nat), 1 ≤ i → i + d = co.length → d + 100 ≤ k →
    humuslaw04_RowSums.l0 k x y (i : Int) ke de co wr ce no ke de ((co.set 0 (addv (rdF co 0) x)).set 0 (addv (rdF (co.set 0 (addv (rdF co 0) x)) 0) y)) wr ce no = some true := by
  have hs : co.set 0 (addv (rdF co 0) x) ≠ [] := fun h => hc (by have := congrArg List.length h; rw [List.length_set] at this; exact List.eq_nil_of_length_eq_zero this)
  intro d
  induction d with
  | zero =>
    intro i k h1 hi hk
    obtain ⟨k, rfl⟩ : ∃ m, k = m + 1 := ⟨k - 1, by omega⟩
    simp only [humuslaw04_RowSums.l0]
    rw [if_neg (by omega), rplus_ev x hc (by omega)]
    simp only [Option.bind_some]
    rw [rplus_ev y hs (by rw [List.length_set]; omega)]
    simp only [Option.bind_some]
    rw [Same04_ev (by rw [List.length_set, List.length_set]; omega) (by rw [List.length_set, List.length_set]; omega), sameRow_self]
    simp only [Option.bind_some]
    rw [if_pos trivial, awake04_ev (by omega)]
    rfl
  | succ d ih =>
    intro i k h1 hi hk
    obtain ⟨k, rfl⟩ : ∃ m, k = m + 1 := ⟨k - 1, by omega⟩
    simp only [humuslaw04_RowSums.l0, humusref01_Same.f, Option.bind_some]
    rw [if_pos (by omega), if_pos (by omega), if_pos (by rw [List.length_set, List.length_set]; omega), rdF_set_ne _ _ h1, rdF_set_ne _ _ h1, beq_self_eq_true, if_pos rfl]
    rw [show wrap64 ((i : Int) + 1) = ((i + 1 : Nat) : Int) by unfold wrap64; omega]
    exact ih (i + 1) k (by omega) (by omega) (by omega)
theorem rowSums_ev {ke : Nat} (de : Bool) (co : List Nat) (wr ce no : Int) (x y : Nat) (hx : ke < 18446744073709551616) : humuslaw04_RowSums.f 300 ke de co wr ce no x y = some true := by
  have hT : ∀ z : Bool, z = true → humuslaw04_RowSums.j0 300 x y z ke de co wr ce no = some true := by
    intro z hz
    subst hz
    rw [show (300 : Nat) = 299 + 1 from rfl]
    simp only [humuslaw04_RowSums.j0]
    rw [if_pos trivial, awake04_ev (by omega)]
    rfl
  unfold humuslaw04_RowSums.f
  by_cases hl : 4 < co.length
  · rw [May04_big (by omega) hx hl]
    simp only [Option.bind_some]
    rw [if_neg (by decide)]; exact hT _ rfl
  rw [May04_ev (by omega) hx (by omega)]
  simp only [Option.bind_some]
  by_cases hm : mayRow ke de co wr ce no = true
  rotate_left
  · rw [if_neg hm]; exact hT _ rfl
  rw [if_pos hm, len_beq]
  by_cases hc : co = []
  · exact hT _ (decide_eq_true hc)
  rw [decide_eq_false hc]
  have h4 := (mayRow_iff.1 hm).2.1
  have hs : co.set 0 (addv (rdF co 0) x) ≠ [] := fun h => hc (by have := congrArg List.length h; rw [List.length_set] at this; exact List.eq_nil_of_length_eq_zero this)
  have hP := row_Plus_ev (k := 299) (by omega) (ke := ke) (de := de) (co := co) (wr := wr) (ce := ce) (no := no) x (by omega)
  rw [if_pos ⟨hm, hc⟩] at hP
  have hQ := row_Plus_ev (k := 299) (by omega) (ke := ke) (de := de) (co := co.set 0 (addv (rdF co 0) x)) (wr := wr) (ce := ce) (no := no) y (by rw [List.length_set]; omega)
  rw [if_pos ⟨mayRow_set hm _ _, hs⟩] at hQ
  rw [show (300 : Nat) = 299 + 1 from rfl]
  simp only [humuslaw04_RowSums.j0]
  rw [if_neg (by decide), hP]
  simp only [Option.bind_some]
  rw [hQ]
  simp only [Option.bind_some, humusref01_Same.f]
  rw [if_pos trivial, if_pos trivial, if_pos (by rw [List.length_set, List.length_set])]
  simp only [beq_self_eq_true, Bool.not_true, Bool.or_self]
  have hde : de = false := by
    cases de with
    | false => rfl
    | true => exact absurd ((mayRow_iff.1 hm).2.2.1 rfl) (by have := List.length_pos_iff.2 hc; omega)
  subst hde
  rw [if_pos trivial, if_pos trivial, if_neg (by decide), show (299 : Nat) = 298 + 1 from rfl]
  simp only [humuslaw04_RowSums.j1]
  rw [if_neg (by decide)]
  exact rowSums_l0 x y hc h4 (co.length - 1) 1 _ (by omega) (by have := List.length_pos_iff.2 hc; omega) (by omega)
theorem RowSums_walk {w : World} (a : S30) (A : Option Addr) (c : Nat) (hc : a.f2.length ≤ c) (hr : Kd.C Kd.f64 w A a.f2.length a.f2) (ga : good_row a) (x : Nat) (hx : (Lit.float .f64 x).wf = true) (y : Nat) (hy : (Lit.float .f64 y).wf = true) :
    Calls Try.prog 10 #[.agg #[.float .f64 a.f0, .bool a.f1, .slice A a.f2.length c, .int .i64 a.f3, .int .i64 a.f4.f0, .int .i64 a.f4.f1], .float .f64 x, .float .f64 y] w fun e w' => e = .returned (.bool true) ∧ Below w.heap.size w w' :=
  humuslaw04_RowSums.calls 300 _ _ _ _ _ _ _ _ _ _ true w hr hc (rowSums_ev _ _ _ _ _ x y ga.1)
end Go.Proofs.Ytdcllbhkjcdnoaa.P
