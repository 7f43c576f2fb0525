/- Put together by wip/prune.py out of this claim's texts. -/
import Derived.Test.YtdcllbhkjcdnoaaMRowMakes5
import Derived.Test.YtdcllbhkjcdnoaaMRowMakes7
import Derived.Test.YtdcllbhkjcdnoaaMRowMakes16
namespace Go.Proofs.Ytdcllbhkjcdnoaa.P
open Go.RowKit Go.Proofs.YtdcllbhkjcdnoaaW.PrintWords Go.Proofs.YtdcllbhkjcdnoaaW.PrintLast Go.Proofs.YtdcllbhkjcdnoaaW.PrintMore
attribute [local go_sem] max2_int min2_int max_two min_two max_three min_three max_four min_four   -- for this text's walks alone
attribute [local go_sem] run_store_float
set_option linter.unusedVariables false
set_option linter.unusedSimpArgs false
def humusref04_Of.l0 : Nat → List Nat → Int → Nat → Bool → List Nat → Int → Int → Int → Option (Nat × Bool × List Nat × Int × Int × Int)
  | 0,_,_,_,_,_,_,_,_ => none
  | k + 1,x1,x6,x523000,x523001,x523002,x523003,x523004,x523005 => if x6 < (x1.length : Int) then (if 0 ≤ x6 then ((humusref01_Value.f (rdF x1 x6)).bind fun t524 => (if x523002.length < 17592186044416 then (humusref04_Of.l0 k x1 (wrap64 (x6 + 1)) x523000 x523001 (x523002 ++ [(t524 : Int).toNat]) x523003 x523004 x523005) else (none))) else (none)) else (some (x523000,x523001,x523002,x523003,x523004,x523005))
def humusref04_Of.f (k : Nat) (a0 : Nat) (l1 : List Nat) : Option (Nat × Bool × List Nat × Int × Int × Int):=(humusref01_Key.f a0).bind fun t521 => (humusref04_Of.l0 k l1 0 ((t521 : Int).toNat) false ([] : List Nat) 0 0 0)
def humusref04_Of.T5 : Bool × List (List Nat × List Nat):=(true,[([],[]),([0],[0]),([],[]),([],[]),([2,3],[2,3]),([4],[4]),([5],[5]),([6,6],[6]),([7],[7]),([1,8,7],[1,8]),([0,1,2,3,4,5,6,7,8,9],[]),([10,9,9,0,1,2,3,4,5,6,7,8,9],[9,10])])
def humusref04_Of.B5 : List Nat:=[0,1,0,0,12,28,60,124,252,511,1023,2047]
theorem humusref04_Of.tab5 : rtab .any (opsOf Try.f40 5) = humusref04_Of.T5:=by kernel_rfl
theorem humusref04_Of.bits5 : waitsOk humusref04_Of.T5.2 humusref04_Of.B5 = true:=by kernel_rfl
set_option maxHeartbeats 8000000 in
set_option maxRecDepth 100000 in
theorem humusref04_Of.calls (k : Nat) (a0 : Nat) (A1 : Option Addr) (c1 : Nat) (l1 : List Nat) (r1 : Nat) (r2 : Bool) (r3 : List Nat) (r4 : Int) (r5 : Int) (r6 : Int) (w : World) (hr1 : Kd.C Kd.f64 w A1 l1.length l1) (hc1 : l1.length ≤ c1) (h : humusref04_Of.f k a0 l1 = some (r1,r2,r3,r4,r5,r6)) :
    Calls Try.prog 40 #[.float .f64 a0,.slice A1 l1.length c1] w fun e w' => ∃ v2_ : Value,e = .returned (.agg #[.float .f64 r1,.bool r2,v2_,.int .i64 r4,.int .i64 r5,.int .i64 r6]) ∧ Kd.R Kd.f64 25 w' w.heap.size (fun _ => True) v2_ r3 ∧ Below w.heap.size w w':=by
  have hu30:=Try.underlying30
  have HR1:=Aside0.mk hr1
  have HC1:=Aside0.mk hc1
  clear hr1 hc1
  have HB:=Aside0.mk (Below.refl w.heap.size w)
  have H : ((humusref01_Key.f a0).bind fun t521 => (humusref04_Of.l0 k l1 0 ((t521 : Int).toNat) false ([] : List Nat) 0 0 0)) = some (r1,r2,r3,r4,r5,r6):=h
  clear h
  replace H:=Option.bind_eq_some_iff.mp H
  obtain ⟨t521,A30,H⟩:=H
  replace H : (humusref04_Of.l0 k l1 0 ((t521 : Int).toNat) false ([] : List Nat) 0 0 0) = some (r1,r2,r3,r4,r5,r6):=H
  have A3:=Aside0.mk A30
  clear A30
  have H':=Aside0.mk H
  clear H
  go_enter Try.func40,Try.ntmps40
  go_wp2_with (first | ((with_reducible refine gate_dst (N:=4) rfl ?_);refine box_event ?hg (N:=4) ?hd (cs:=#[.float .f64 0,.bool false,.slice none 0 0,.int .i64 0,.int .i64 0,.int .i64 0]) (t:=30) ?hr ?_;(case hd => rfl);(case hg => rfl);(case hr => first | (go_simp;done) | (go_simp;rfl));intro gb520 hg w4 hbox hb;have n0_:=Aside0.mk (below_step (by repeat (first | (with_reducible first | exact HB.out | apply below_alloc | apply pw_below_drewN | apply below_drew1) | exact HB.out)) hb);have n1_:=Aside0.mk (hbox);have n2_:=Aside0.mk ((by rw [hg];exact (below_size (by repeat (first | (with_reducible first | exact HB.out | apply below_alloc | apply pw_below_drewN | apply below_drew1) | exact HB.out))) : w.heap.size ≤ gb520));have n3_:=Aside0.mk ((by rw [hg];exact (below_size (by repeat (first | (with_reducible first | exact HB.out | apply below_alloc | apply pw_below_drewN | apply below_drew1) | exact HB.out))) : w.heap.size ≤ gb520));clear HB;have HB:=n0_;have BK520:=n1_;have GW520:=n2_;have GE520:=n3_;clear n0_ n1_ n2_ n3_;clear hb hbox hg) | ((with_reducible refine gate_callee (f:=71) rfl ?_);refine goesL_ (some 8) rfl rfl Try.func71 (by kernel_rfl) rfl #[.float .f64 a0] rfl (by (try simp only [List.map_toArray,List.map_cons,List.map_nil]);first | done | rfl | (simp only [List.length_drop,List.length_take];rfl)) ?_;(with_reducible refine (humusref01_Key.calls a0 t521 _ A3.out).mono ?_);rintro e w' ⟨rfl,⟨nd,rfl⟩⟩;refine ⟨_,rfl,?_⟩;(try (rw [drewN_self w4];generalize hq_ : World.drewN w4 _ = w4;have n0_ : Aside0 (w4.heap[gb520]? = some (.cells #[.float .f64 0,.bool false,.slice none 0 0,.int .i64 0,.int .i64 0,.int .i64 0] 30 (0,0))):=⟨by rw [← hq_];exact (by (with_reducible repeat (first | refine blk_drewN ?_ _ | refine blk_drew ?_ | refine blk_alloc ?_ _));exact BK520.out)⟩;have n1_ : Aside0 (Below w.heap.size w w4):=⟨by rw [← hq_];exact (by repeat (first | (with_reducible first | exact HB.out | apply below_alloc | apply pw_below_drewN | apply below_drew1 | refine below_set ?_ GE520.out) | exact HB.out))⟩;clear BK520 HB hq_;have BK520:=n0_;have HB:=n1_;clear n0_ n1_))) | ((with_reducible refine gate_dst (N:=5) rfl ?_);refine box_event ?hg (N:=5) ?hd (cs:=#[.float .f64 0,.bool false,.slice none 0 0,.int .i64 0,.int .i64 0,.int .i64 0]) (t:=30) ?hr ?_;(case hd => rfl);(case hg => rfl);(case hr => first | (go_simp;done) | (go_simp;rfl));intro gb522 hg w5 hbox hb;have n0_:=Aside0.mk (blk_below (g:=gb520) (o:=.cells #[.float .f64 0,.bool false,.slice none 0 0,.int .i64 0,.int .i64 0,.int .i64 0] 30 (0,0)) (by (with_reducible repeat (first | refine blk_drewN ?_ _ | refine blk_drew ?_ | refine blk_alloc ?_ _));exact BK520.out) hb);have n1_:=Aside0.mk (below_step (by repeat (first | (with_reducible first | exact HB.out | apply below_alloc | apply pw_below_drewN | apply below_drew1 | refine below_set ?_ GE520.out) | exact HB.out)) hb);have n2_:=Aside0.mk (hbox);have n3_:=Aside0.mk ((by rw [hg];exact (below_size (by repeat (first | (with_reducible first | exact HB.out | apply below_alloc | apply pw_below_drewN | apply below_drew1 | refine below_set ?_ GE520.out) | exact HB.out))) : w.heap.size ≤ gb522));have n4_:=Aside0.mk ((by rw [hg];exact (below_size (by repeat (first | (with_reducible first | exact HB.out | apply below_alloc | apply pw_below_drewN | apply below_drew1 | refine below_set ?_ GE520.out) | exact HB.out))) : w.heap.size ≤ gb522));have n5_:=Aside0.mk ((by rw [hg];exact Nat.ne_of_lt (blk_lt (g:=gb520) (o:=.cells #[.float .f64 0,.bool false,.slice none 0 0,.int .i64 0,.int .i64 0,.int .i64 0] 30 (0,0)) (by (with_reducible repeat (first | refine blk_drewN ?_ _ | refine blk_drew ?_ | refine blk_alloc ?_ _));exact BK520.out)) : gb520 ≠ gb522));have n6_:=Aside0.mk ((by rw [hg];exact Nat.ne_of_gt (blk_lt (g:=gb520) (o:=.cells #[.float .f64 0,.bool false,.slice none 0 0,.int .i64 0,.int .i64 0,.int .i64 0] 30 (0,0)) (by (with_reducible repeat (first | refine blk_drewN ?_ _ | refine blk_drew ?_ | refine blk_alloc ?_ _));exact BK520.out)) : gb522 ≠ gb520));clear BK520;clear HB;have BK520:=n0_;have HB:=n1_;have BK522:=n2_;have GW522:=n3_;have GE522:=n4_;have NB520_522:=n5_;have NB522_520:=n6_;clear n0_ n1_ n2_ n3_ n4_ n5_ n6_;clear hb hbox hg;have hnb6:=NB522_520.out;have hnc6:=NB520_522.out;have hcz7_0 : w5.cell? ⟨gb522,0,none⟩ = some (.float .f64 0):=(blk_cell BK522.out 0).trans rfl;have hcz7_1 : w5.cell? ⟨gb522,1,none⟩ = some (.bool false):=(blk_cell BK522.out 1).trans rfl;have hcz7_2 : w5.cell? ⟨gb522,2,none⟩ = some (.slice none 0 0):=(blk_cell BK522.out 2).trans rfl;have hcz7_3 : w5.cell? ⟨gb522,3,none⟩ = some (.int .i64 0):=(blk_cell BK522.out 3).trans rfl;have hcz7_4 : w5.cell? ⟨gb522,4,none⟩ = some (.int .i64 0):=(blk_cell BK522.out 4).trans rfl;have hcz7_5 : w5.cell? ⟨gb522,5,none⟩ = some (.int .i64 0):=(blk_cell BK522.out 5).trans rfl;have hfz7_0:=blk_frozen BK522.out 0;have hfz7_1:=blk_frozen BK522.out 1;have hfz7_2:=blk_frozen BK522.out 2;have hfz7_3:=blk_frozen BK522.out 3;have hfz7_4:=blk_frozen BK522.out 4;have hfz7_5:=blk_frozen BK522.out 5))
  go_loopg [6] k (fun kq v6 w' => ∃ (x6_1 : Int) (x523002_1 : List Nat) (u523002 : Value),v6 = .int .i64 x6_1 ∧ Aside0 (humusref04_Of.l0 kq l1 x6_1 ((t521 : Int).toNat) false x523002_1 0 0 0 = some (r1,r2,r3,r4,r5,r6)) ∧ Aside0 (kq ≤ k) ∧ Aside0 (Kd.R Kd.f64 25 w' w.heap.size (fun _ => True) u523002 x523002_1) ∧ Aside0 (w'.heap[gb520]? = some (.cells #[.float .f64 0,.bool false,(.slice none 0 0),.int .i64 0,.int .i64 0,.int .i64 0] 30 (0,0))) ∧ Aside0 (w'.heap[gb522]? = some (.cells #[.float .f64 ((t521 : Int).toNat),.bool false,u523002,.int .i64 0,.int .i64 0,.int .i64 0] 30 (0,0))) ∧ Aside0 (Below w.heap.size w w'))
  case atStart => exact ⟨(0),(([] : List Nat)),(.slice none 0 0),(by first | rfl | (simp;done) | (simp [*];done)),H',⟨Nat.le_refl _⟩,⟨by first | exact Kd.R_nil _ _ _ _ _ | exact Kd.N_nil _ _ _ _ _ | exact Kd.V_nil _ _ _ _ _ | exact Kd.Q_nil _ _ _ _ _ | exact Kd.S_nil _ _ _ _ _⟩,⟨by (with_reducible repeat (first | refine blk_drewN ?_ _ | refine blk_drew ?_ | refine blk_alloc ?_ _));refine blk_far ?_ NB520_522.out _;(with_reducible repeat (first | refine blk_drewN ?_ _ | refine blk_drew ?_ | refine blk_alloc ?_ _));refine blk_far ?_ NB520_522.out _;(with_reducible repeat (first | refine blk_drewN ?_ _ | refine blk_drew ?_ | refine blk_alloc ?_ _));refine blk_far ?_ NB520_522.out _;(with_reducible repeat (first | refine blk_drewN ?_ _ | refine blk_drew ?_ | refine blk_alloc ?_ _));refine blk_far ?_ NB520_522.out _;(with_reducible repeat (first | refine blk_drewN ?_ _ | refine blk_drew ?_ | refine blk_alloc ?_ _));refine blk_far ?_ NB520_522.out _;(with_reducible repeat (first | refine blk_drewN ?_ _ | refine blk_drew ?_ | refine blk_alloc ?_ _));refine blk_far ?_ NB520_522.out _;(with_reducible repeat (first | refine blk_drewN ?_ _ | refine blk_drew ?_ | refine blk_alloc ?_ _));exact BK520.out⟩,⟨by (with_reducible repeat (first | refine blk_drewN ?_ _ | refine blk_drew ?_ | refine blk_alloc ?_ _));refine blk_put (cs:=#[.float .f64 ((t521 : Int).toNat),.bool false,.slice none 0 0,.int .i64 0,.int .i64 0,.int .i64 0]) ?_ 5 _ rfl;(with_reducible repeat (first | refine blk_drewN ?_ _ | refine blk_drew ?_ | refine blk_alloc ?_ _));refine blk_put (cs:=#[.float .f64 ((t521 : Int).toNat),.bool false,.slice none 0 0,.int .i64 0,.int .i64 0,.int .i64 0]) ?_ 4 _ rfl;(with_reducible repeat (first | refine blk_drewN ?_ _ | refine blk_drew ?_ | refine blk_alloc ?_ _));refine blk_put (cs:=#[.float .f64 ((t521 : Int).toNat),.bool false,.slice none 0 0,.int .i64 0,.int .i64 0,.int .i64 0]) ?_ 3 _ rfl;(with_reducible repeat (first | refine blk_drewN ?_ _ | refine blk_drew ?_ | refine blk_alloc ?_ _));refine blk_put (cs:=#[.float .f64 ((t521 : Int).toNat),.bool false,.slice none 0 0,.int .i64 0,.int .i64 0,.int .i64 0]) ?_ 2 _ rfl;(with_reducible repeat (first | refine blk_drewN ?_ _ | refine blk_drew ?_ | refine blk_alloc ?_ _));refine blk_put (cs:=#[.float .f64 ((t521 : Int).toNat),.bool false,.slice none 0 0,.int .i64 0,.int .i64 0,.int .i64 0]) ?_ 1 _ rfl;(with_reducible repeat (first | refine blk_drewN ?_ _ | refine blk_drew ?_ | refine blk_alloc ?_ _));refine blk_put (cs:=#[.float .f64 0,.bool false,.slice none 0 0,.int .i64 0,.int .i64 0,.int .i64 0]) ?_ 0 _ rfl;(with_reducible repeat (first | refine blk_drewN ?_ _ | refine blk_drew ?_ | refine blk_alloc ?_ _));exact BK522.out⟩,⟨by repeat (first | (with_reducible first | exact HB.out | apply below_alloc | apply pw_below_drewN | apply below_drew1 | refine below_set ?_ GE520.out | refine below_set ?_ GE522.out) | exact HB.out)⟩⟩
  case round =>
    clear H'
    try clear c1
    try clear p2
    try clear c4
    try clear c6
    try clear c7
    try clear hcz7_0
    try clear hcz7_1
    try clear hcz7_2
    try clear hcz7_3
    try clear hcz7_4
    try clear hcz7_5
    try clear hfz7_0
    try clear hfz7_1
    try clear hfz7_2
    try clear hfz7_3
    try clear hfz7_4
    try clear hfz7_5
    obtain ⟨x6_1,x523002_1,u523002,rfl,HA,HK1,HO_523002,BK520,BK522,HB⟩:=hrel
    cases gk with
    | zero => exact absurd HA.out (by simp [humusref04_Of.l0])
    | succ k1 =>
      have H:=HA.out
      clear HA
      simp only [humusref04_Of.l0] at H
      by_cases c8 : x6_1 < (l1.length : Int)
      · rw [if_pos c8] at H
        have c8b0 : decide (x6_1 < (l1.length : Int)) = true:=decide_eq_true c8
        clear c8
        by_cases c9 : 0 ≤ x6_1
        · rw [if_pos c9] at H
          have c9b0 : decide (0 ≤ x6_1) = true:=decide_eq_true c9
          clear c9
          replace H:=Option.bind_eq_some_iff.mp H
          obtain ⟨t524,A100,H⟩:=H
          replace H : (if x523002_1.length < 17592186044416 then (humusref04_Of.l0 k1 l1 (wrap64 (x6_1 + 1)) ((t521 : Int).toNat) false (x523002_1 ++ [(t524 : Int).toNat]) 0 0 0) else (none)) = some (r1,r2,r3,r4,r5,r6):=H
          have A10:=Aside0.mk A100
          clear A100
          by_cases c11 : x523002_1.length < 17592186044416
          · rw [if_pos c11] at H
            have LMc11:=Aside0.mk c11
            clear c11
            obtain ⟨y525,hy525⟩ : ∃ y_ : List Nat,y_ = (x523002_1 ++ [(t524 : Int).toNat]):=⟨_,rfl⟩
            replace H : (humusref04_Of.l0 k1 l1 (wrap64 (x6_1 + 1)) ((t521 : Int).toNat) false y525 0 0 0) = some (r1,r2,r3,r4,r5,r6):=by first | (rw [hy525];with_reducible exact H) | (have H2_:=(Option.bind_some _ _).symm.trans H;rw [hy525];with_reducible exact H2_) | (have H2_:=(Option.bind_some _ _).symm.trans H;with_reducible exact H2_) | with_reducible exact H | (rw [hy525];exact H) | exact H
            have Ny525:=Aside0.mk hy525
            clear hy525
            have H':=Aside0.mk H
            clear H
            try go_wp2
            have n0_:=Aside0.mk (Kd.R_drew HO_523002.out)
            have n1_:=Aside0.mk (blk_drew BK520.out)
            have n2_:=Aside0.mk (blk_drew BK522.out)
            have n3_:=Aside0.mk (below_drew1 HB.out)
            clear HO_523002
            clear BK520
            clear BK522
            clear HB
            have HO_523002:=n0_
            have BK520:=n1_
            have BK522:=n2_
            have HB:=n3_
            clear n0_ n1_ n2_ n3_
            have p523 : 0 ≤ (x6_1 : Int):=of_decide_eq_true (by first | (with_reducible assumption) | assumption)
            have q523 : x6_1 < (l1.length : Int):=of_decide_eq_true (by first | (with_reducible assumption) | assumption)
            obtain ⟨ad523,e523,hx523_0⟩:=Kd.at_f64 HR1.out x6_1 p523 q523
            have hw523_0:=hx523_0
            cases e523
            replace hx523_0:=(HB.out.cell (World.block_lt_of_cell? w _ hx523_0)).trans hx523_0
            replace p523:=eq_true p523
            replace q523:=eq_true q523
            refine start_ (n:=12) (S:=fun w' => w'.cell? ⟨gb522,0,none⟩ = some (.float .f64 ((t521 : Int).toNat)) ∧ w'.cell? ⟨gb522,1,none⟩ = some (.bool false) ∧ w'.cell? ⟨gb522,2,none⟩ = some (u523002) ∧ w'.cell? ⟨gb522,3,none⟩ = some (.int .i64 0) ∧ w'.cell? ⟨gb522,4,none⟩ = some (.int .i64 0) ∧ w'.cell? ⟨gb522,5,none⟩ = some (.int .i64 0) ∧ w'.cell? (ad523.add (x6_1).toNat) = some (.float .f64 (rdF l1 x6_1))) (ds:=[11]) #[false,false,false,false,false,false,false,false,false,false,false,false] (by kernel_rfl) rfl rfl ⟨(blk_cell BK522.out 0).trans rfl,(blk_cell BK522.out 1).trans rfl,(blk_cell BK522.out 2).trans rfl,(blk_cell BK522.out 3).trans rfl,(blk_cell BK522.out 4).trans rfl,(blk_cell BK522.out 5).trans rfl,((HB.out.cell (World.block_lt_of_cell? w _ hw523_0)).trans hw523_0)⟩ (fun hHeld => ?_);refine with_tabW humusref04_Of.tab5 humusref04_Of.bits5 (fun HT_ HW_ => ?_)
            generalize wr.drew = w12 at HO_523002 BK520 BK522 HB hx523_0 hHeld ⊢
            refine pure_ (i:=0) (N:=some 17) (v:=?_) (a':=?_) #[true,false,false,false,false,false,false,false,false,false,false,false] rfl rfl (any_of HT_.out (by kernel_rfl)) (fun _ _ _ h => h) (Or.inl ⟨by rfl,?_⟩) ?_ ?_
            rotate_left
            · intro w'
              go_simp
              with_reducible rfl
            rotate_left
            · simp only [Act.put,List.setIfInBounds_toArray,List.set_cons_zero,List.set_cons_succ,i64_w,i32_w]
              rfl
            refine pure_ (i:=2) (N:=some 19) (v:=?_) (a':=?_) #[true,false,true,false,false,false,false,false,false,false,false,false] rfl rfl (any_of HT_.out (by kernel_rfl)) (fun _ _ _ h => h) (Or.inl ⟨by rfl,?_⟩) ?_ ?_
            rotate_left
            · intro w'
              go_simp
              with_reducible rfl
            rotate_left
            · simp only [Act.put,List.setIfInBounds_toArray,List.set_cons_zero,List.set_cons_succ,i64_w,i32_w]
              rfl
            refine pure_ (i:=3) (N:=some 20) (v:=?_) (a':=?_) #[true,false,true,true,false,false,false,false,false,false,false,false] rfl rfl (any_of HT_.out (by kernel_rfl)) (fun _ _ _ h => h) (Or.inl ⟨by rfl,?_⟩) ?_ ?_
            rotate_left
            · intro w'
              go_simp
              with_reducible rfl
            rotate_left
            · simp only [Act.put,List.setIfInBounds_toArray,List.set_cons_zero,List.set_cons_succ,i64_w,i32_w]
              rfl
            refine pure_ (i:=4) (N:=some 21) (v:=?_) (a':=?_) #[true,false,true,true,true,false,false,false,false,false,false,false] rfl rfl (any_of HT_.out (by kernel_rfl)) (fun _ _ _ h => h) (Or.inl ⟨by rfl,?_⟩) ?_ ?_
            rotate_left
            · intro w'
              go_simp
              with_reducible rfl
            rotate_left
            · simp only [Act.put,List.setIfInBounds_toArray,List.set_cons_zero,List.set_cons_succ,i64_w,i32_w]
              rfl
            refine take_ (i:=1) (N:=some 18) (v:=?_) (a':=?_) #[true,true,true,true,true,false,false,false,false,false,false,false] rfl rfl (take_ofW HT_.out HW_.out (by kernel_rfl)) (fun _ _ _ h => h) (Or.inl ⟨by rfl,?_⟩) hHeld ?_ ?_
            rotate_left
            · rintro w' ⟨s0,s1,s2,s3,s4,s5,s6⟩
              go_simp
              with_reducible rfl
            rotate_left
            · simp only [Act.put,List.setIfInBounds_toArray,List.set_cons_zero,List.set_cons_succ,i64_w,i32_w]
              rfl
            refine take_ (i:=5) (N:=some 22) (v:=?_) (a':=?_) #[true,true,true,true,true,true,false,false,false,false,false,false] rfl rfl (take_ofW HT_.out HW_.out (by kernel_rfl)) (fun _ _ _ h => h) (Or.inl ⟨by rfl,?_⟩) hHeld ?_ ?_
            rotate_left
            · rintro w' ⟨s0,s1,s2,s3,s4,s5,s6⟩
              go_simp
              with_reducible rfl
            rotate_left
            · simp only [Act.put,List.setIfInBounds_toArray,List.set_cons_zero,List.set_cons_succ,i64_w,i32_w]
              rfl
            refine one_ (i:=6) (N:=some 23) #[true,true,true,true,true,true,true,false,false,false,false,false] rfl rfl (one_of HT_.out (by kernel_rfl)) (by decide) (fun K hK => ?_)
            refine goes_ Try.func72 (by kernel_rfl) rfl #[.float .f64 (rdF l1 x6_1)] (by rfl) rfl rfl (by (try simp only [List.map_toArray,List.map_cons,List.map_nil]);first | done | rfl | (simp only [List.length_drop,List.length_take];rfl)) ?_
            with_reducible refine (humusref01_Value.calls (rdF l1 x6_1) t524 _ A10.out).mono ?_
            rintro e w' ⟨rfl,⟨nd,rfl⟩⟩
            refine ⟨_,rfl,?_⟩
            refine hK.out _ _ ⟨(blk_cell BK522.out 0).trans rfl,(blk_cell BK522.out 1).trans rfl,(blk_cell BK522.out 2).trans rfl,(blk_cell BK522.out 3).trans rfl,(blk_cell BK522.out 4).trans rfl,(blk_cell BK522.out 5).trans rfl,((HB.out.cell (World.block_lt_of_cell? w _ hw523_0)).trans hw523_0)⟩ (fun hHeld => ?_)
            clear hK K
            refine norm_ (a':=?_) ?_ ?_
            rotate_left
            · show Act.put _ (some 23) _ = _
              simp only [Act.put,List.setIfInBounds_toArray,List.set_cons_zero,List.set_cons_succ,i64_w,i32_w]
              rfl
            refine one_ (i:=7) (N:=some 24) #[true,true,true,true,true,true,true,true,false,false,false,false] rfl rfl (one_of HT_.out (by kernel_rfl)) (by decide) (fun K hK => ?_)
            skip
            refine value_ (w1:=?_) (v:=?_) (by rfl) rfl ?_ ?_
            rotate_left 2
            · go_simp
              constructor
              · rfl
              · rfl
            skip
            refine hK.out _ _ ⟨(blk_cell BK522.out 0).trans rfl,(blk_cell BK522.out 1).trans rfl,(blk_cell BK522.out 2).trans rfl,(blk_cell BK522.out 3).trans rfl,(blk_cell BK522.out 4).trans rfl,(blk_cell BK522.out 5).trans rfl,((HB.out.cell (World.block_lt_of_cell? w _ hw523_0)).trans hw523_0)⟩ (fun hHeld => ?_)
            clear hK K
            refine norm_ (a':=?_) ?_ ?_
            rotate_left
            · show Act.put _ (some 24) _ = _
              simp only [Act.put,List.setIfInBounds_toArray,List.set_cons_zero,List.set_cons_succ,i64_w,i32_w]
              rfl
            refine one_ (i:=8) (N:=some 25) #[true,true,true,true,true,true,true,true,true,false,false,false] rfl rfl (one_of HT_.out (by kernel_rfl)) (by decide) (fun K hK => ?_)
            refine value_ (w1:=?_) (v:=?_) (by rfl) rfl ?_ ?_
            rotate_left 2
            · go_simp
              constructor
              · rfl
              · rfl
            refine hK.out _ _ ⟨(blk_cell (blk_alloc BK522.out _) 0).trans rfl,(blk_cell (blk_alloc BK522.out _) 1).trans rfl,(blk_cell (blk_alloc BK522.out _) 2).trans rfl,(blk_cell (blk_alloc BK522.out _) 3).trans rfl,(blk_cell (blk_alloc BK522.out _) 4).trans rfl,(blk_cell (blk_alloc BK522.out _) 5).trans rfl,(World.cell?_alloc_lt _ _ _ (World.block_lt_of_cell? _ _ (((HB.out.cell (World.block_lt_of_cell? w _ hw523_0)).trans hw523_0)))).trans (((HB.out.cell (World.block_lt_of_cell? w _ hw523_0)).trans hw523_0))⟩ (fun hHeld => ?_)
            clear hK K
            refine norm_ (a':=?_) ?_ ?_
            rotate_left
            · show Act.put _ (some 25) _ = _
              simp only [Act.put,List.setIfInBounds_toArray,List.set_cons_zero,List.set_cons_succ,i64_w,i32_w]
              rfl
            refine one_ (i:=9) (N:=some 26) #[true,true,true,true,true,true,true,true,true,true,false,false] rfl rfl (one_of HT_.out (by kernel_rfl)) (by decide) (fun K hK => ?_)
            refine Kd.R_append_step Kd.f64 (w0:=w) w.heap.size (by rfl) (.tmp 18) (.tmp 25) 26 25 (.float .f64 0) 8 rfl Try.underlying26 info25 rfl (by decide) (by omega) u523002 x523002_1 ((t524 : Int).toNat) [.float .f64 ((t524 : Int).toNat)] (fun _ => True) (fun _ => False) rfl rfl ?aP (fun _ hk => hk.elim) ?aF ?aO ?aB ?aS ?aL ?_
            (case aP => exact rfl)
            (case aB => exact (by repeat (first | (with_reducible first | exact HB.out | apply below_alloc | apply pw_below_drewN | apply below_drew1 | refine below_set ?_ GE520.out | refine below_set ?_ GE522.out) | exact HB.out)))
            (case aF => exact (fun _ _ => trivial))
            (case aO => exact (by (with_reducible repeat (first | apply Kd.R_alloc | apply Kd.R_drewN | apply Kd.R_drew));exact HO_523002.out))
            (case aS => exact (below_size (by repeat (first | (with_reducible first | exact HB.out | apply below_alloc | apply pw_below_drewN | apply below_drew1 | refine below_set ?_ GE520.out | refine below_set ?_ GE522.out) | exact HB.out))))
            (case aL => have:=LMc11.out;omega)
            intro v526 w13 ho hb hg hat
            rw [← Ny525.out] at ho
            have n0_:=Aside0.mk (blk_grown (g:=gb520) (o:=.cells #[.float .f64 0,.bool false,.slice none 0 0,.int .i64 0,.int .i64 0,.int .i64 0] 30 (0,0)) (by (with_reducible repeat (first | refine blk_drewN ?_ _ | refine blk_drew ?_ | refine blk_alloc ?_ _));exact BK520.out) hg (Kd.R_ne HO_523002.out BK520.out (by decide)))
            have n1_:=Aside0.mk (blk_grown (g:=gb522) (o:=.cells #[.float .f64 ((t521 : Int).toNat),.bool false,u523002,.int .i64 0,.int .i64 0,.int .i64 0] 30 (0,0)) (by (with_reducible repeat (first | refine blk_drewN ?_ _ | refine blk_drew ?_ | refine blk_alloc ?_ _));exact BK522.out) hg (Kd.R_ne HO_523002.out BK522.out (by decide)))
            have n2_:=Aside0.mk (hb)
            have n3_:=Aside0.mk (ho)
            clear BK520
            clear BK522
            clear HB
            clear HO_523002
            have BK520:=n0_
            have BK522:=n1_
            have HB:=n2_
            have HO527:=n3_
            clear n0_ n1_ n2_ n3_
            clear ho hb hg hat
            obtain ⟨Ao14,co14,eo14⟩:=Kd.R_slice HO527.out
            (first | subst eo14 | (injection eo14 with f1_ f2_ f3_;have f4_:=f1_.symm;have f5_:=f3_.symm;clear f1_ f2_ f3_;subst f4_;subst f5_))
            refine hK.out _ _ ⟨(blk_cell BK522.out 0).trans rfl,(blk_cell BK522.out 1).trans rfl,(blk_cell BK522.out 2).trans rfl,(blk_cell BK522.out 3).trans rfl,(blk_cell BK522.out 4).trans rfl,(blk_cell BK522.out 5).trans rfl,((HB.out.cell (World.block_lt_of_cell? w _ hw523_0)).trans hw523_0)⟩ (fun hHeld => ?_)
            clear hK K
            refine norm_ (a':=?_) ?_ ?_
            rotate_left
            · show Act.put _ (some 26) _ = _
              simp only [Act.put,List.setIfInBounds_toArray,List.set_cons_zero,List.set_cons_succ,i64_w,i32_w]
              rfl
            refine pure_ (i:=10) (N:=some 27) (v:=?_) (a':=?_) #[true,true,true,true,true,true,true,true,true,true,true,false] rfl rfl (any_of HT_.out (by kernel_rfl)) (fun _ _ _ h => h) (Or.inl ⟨by rfl,?_⟩) ?_ ?_
            rotate_left
            · intro w'
              go_simp
              with_reducible rfl
            rotate_left
            · simp only [Act.put,List.setIfInBounds_toArray,List.set_cons_zero,List.set_cons_succ,i64_w,i32_w]
              rfl
            refine last_ (i:=11) (N:=none) #[true,true,true,true,true,true,true,true,true,true,true,true] rfl rfl (one_of HT_.out (by kernel_rfl)) (by decide) (fun K hK => ?_)
            have hs15 : w13.cell? ⟨gb522,2,none⟩ = some (u523002):=(blk_cell BK522.out 2).trans rfl
            have hfs15:=blk_frozen BK522.out 2
            have hns15_0:=NB520_522.out
            have hms15_0:=NB522_520.out
            refine skip_ (w1:=?_) (by rfl) rfl ?_ ?_
            rotate_left
            · go_simp
              rfl
            refine hK.out _ _ ?_
            clear hK K
            refine done_ (done_of HT_.out (by kernel_rfl)) ?_
            try go_wp2
            go_roundg k1
            case measure => have:=HK1.out;omega
            case rel => exact ⟨(wrap64 (x6_1 + 1)),(y525),(.slice Ao14 y525.length co14),(by first | rfl | (simp;done) | (simp [*];done)),H',⟨by have:=HK1.out;omega⟩,⟨by (with_reducible repeat (first | apply Kd.R_alloc | apply Kd.R_drewN | apply Kd.R_drew));exact Kd.R_mono (Kd.R_far (p:=⟨gb522,2,none⟩) (Kd.R_types HO527.out BK522.out (by decide)) (fun _ hk => hk.2) (.slice Ao14 y525.length co14)) (fun _ hk => trivial)⟩,⟨by (with_reducible repeat (first | refine blk_drewN ?_ _ | refine blk_drew ?_ | refine blk_alloc ?_ _));refine blk_far ?_ NB520_522.out _;(with_reducible repeat (first | refine blk_drewN ?_ _ | refine blk_drew ?_ | refine blk_alloc ?_ _));exact BK520.out⟩,⟨by (with_reducible repeat (first | refine blk_drewN ?_ _ | refine blk_drew ?_ | refine blk_alloc ?_ _));refine blk_put (cs:=#[.float .f64 ((t521 : Int).toNat),.bool false,u523002,.int .i64 0,.int .i64 0,.int .i64 0]) ?_ 2 _ rfl;(with_reducible repeat (first | refine blk_drewN ?_ _ | refine blk_drew ?_ | refine blk_alloc ?_ _));exact BK522.out⟩,⟨by repeat (first | (with_reducible first | exact HB.out | apply below_alloc | apply pw_below_drewN | apply below_drew1 | refine below_set ?_ GE520.out | refine below_set ?_ GE522.out) | exact HB.out)⟩⟩
          · rw [if_neg c11] at H
            exact absurd H (by simp)
        · rw [if_neg c9] at H
          exact absurd H (by simp)
      · rw [if_neg c8] at H
        have c8b0 : decide (x6_1 < (l1.length : Int)) = false:=decide_eq_false c8
        clear c8
        simp only [Option.some.injEq,Prod.mk.injEq] at H
        obtain ⟨rfl,rfl,rfl,rfl,rfl,rfl⟩:=H
        have hnb16:=NB522_520.out
        have hnc16:=NB520_522.out
        have hcz17_0 : wr.cell? ⟨gb522,0,none⟩ = some (.float .f64 ((t521 : Int).toNat)):=(blk_cell BK522.out 0).trans rfl
        have hcz17_1 : wr.cell? ⟨gb522,1,none⟩ = some (.bool false):=(blk_cell BK522.out 1).trans rfl
        have hcz17_2 : wr.cell? ⟨gb522,2,none⟩ = some (u523002):=(blk_cell BK522.out 2).trans rfl
        have hcz17_3 : wr.cell? ⟨gb522,3,none⟩ = some (.int .i64 0):=(blk_cell BK522.out 3).trans rfl
        have hcz17_4 : wr.cell? ⟨gb522,4,none⟩ = some (.int .i64 0):=(blk_cell BK522.out 4).trans rfl
        have hcz17_5 : wr.cell? ⟨gb522,5,none⟩ = some (.int .i64 0):=(blk_cell BK522.out 5).trans rfl
        have hfz17_0:=blk_frozen BK522.out 0
        have hfz17_1:=blk_frozen BK522.out 1
        have hfz17_2:=blk_frozen BK522.out 2
        have hfz17_3:=blk_frozen BK522.out 3
        have hfz17_4:=blk_frozen BK522.out 4
        have hfz17_5:=blk_frozen BK522.out 5
        have hcz18_0 : wr.cell? ⟨gb520,0,none⟩ = some (.float .f64 0):=(blk_cell BK520.out 0).trans rfl
        have hcz18_1 : wr.cell? ⟨gb520,1,none⟩ = some (.bool false):=(blk_cell BK520.out 1).trans rfl
        have hcz18_2 : wr.cell? ⟨gb520,2,none⟩ = some (.slice none 0 0):=(blk_cell BK520.out 2).trans rfl
        have hcz18_3 : wr.cell? ⟨gb520,3,none⟩ = some (.int .i64 0):=(blk_cell BK520.out 3).trans rfl
        have hcz18_4 : wr.cell? ⟨gb520,4,none⟩ = some (.int .i64 0):=(blk_cell BK520.out 4).trans rfl
        have hcz18_5 : wr.cell? ⟨gb520,5,none⟩ = some (.int .i64 0):=(blk_cell BK520.out 5).trans rfl
        have hfz18_0:=blk_frozen BK520.out 0
        have hfz18_1:=blk_frozen BK520.out 1
        have hfz18_2:=blk_frozen BK520.out 2
        have hfz18_3:=blk_frozen BK520.out 3
        have hfz18_4:=blk_frozen BK520.out 4
        have hfz18_5:=blk_frozen BK520.out 5
        obtain ⟨Ao19,co19,eo19⟩:=Kd.R_slice HO_523002.out
        subst eo19
        go_wp2
        refine bodyPost_ret (results_cell_row rfl _ _ gb520 30 #[.float .f64 ((t521 : Int).toNat),.bool false,.slice Ao19 x523002_1.length co19,.int .i64 0,.int .i64 0,.int .i64 0] (0,0) _ rfl (by (with_reducible repeat (first | refine blk_drewN ?_ _ | refine blk_drew ?_ | refine blk_alloc ?_ _));refine blk_put (cs:=#[.float .f64 ((t521 : Int).toNat),.bool false,.slice Ao19 x523002_1.length co19,.int .i64 0,.int .i64 0,.int .i64 0]) ?_ 5 _ rfl;(with_reducible repeat (first | refine blk_drewN ?_ _ | refine blk_drew ?_ | refine blk_alloc ?_ _));refine blk_put (cs:=#[.float .f64 ((t521 : Int).toNat),.bool false,.slice Ao19 x523002_1.length co19,.int .i64 0,.int .i64 0,.int .i64 0]) ?_ 4 _ rfl;(with_reducible repeat (first | refine blk_drewN ?_ _ | refine blk_drew ?_ | refine blk_alloc ?_ _));refine blk_put (cs:=#[.float .f64 ((t521 : Int).toNat),.bool false,.slice Ao19 x523002_1.length co19,.int .i64 0,.int .i64 0,.int .i64 0]) ?_ 3 _ rfl;(with_reducible repeat (first | refine blk_drewN ?_ _ | refine blk_drew ?_ | refine blk_alloc ?_ _));refine blk_put (cs:=#[.float .f64 ((t521 : Int).toNat),.bool false,.slice none 0 0,.int .i64 0,.int .i64 0,.int .i64 0]) ?_ 2 _ rfl;(with_reducible repeat (first | refine blk_drewN ?_ _ | refine blk_drew ?_ | refine blk_alloc ?_ _));refine blk_put (cs:=#[.float .f64 ((t521 : Int).toNat),.bool false,.slice none 0 0,.int .i64 0,.int .i64 0,.int .i64 0]) ?_ 1 _ rfl;(with_reducible repeat (first | refine blk_drewN ?_ _ | refine blk_drew ?_ | refine blk_alloc ?_ _));refine blk_put (cs:=#[.float .f64 0,.bool false,.slice none 0 0,.int .i64 0,.int .i64 0,.int .i64 0]) ?_ 0 _ rfl;(with_reducible repeat (first | refine blk_drewN ?_ _ | refine blk_drew ?_ | refine blk_alloc ?_ _));exact BK520.out) Try.underlying30 rfl (by kernel_rfl)) rfl ?_
        exact ⟨_,by first | rfl | (simp [errW_none,errW_some] <;> rfl) | (simp [*,errW_none,errW_some] <;> rfl),by (with_reducible repeat (first | apply Kd.R_alloc | apply Kd.R_drewN | apply Kd.R_drew));exact Kd.R_mono (Kd.R_far (p:=⟨gb520,5,none⟩) (Kd.R_far (p:=⟨gb520,4,none⟩) (Kd.R_far (p:=⟨gb520,3,none⟩) (Kd.R_far (p:=⟨gb520,2,none⟩) (Kd.R_far (p:=⟨gb520,1,none⟩) (Kd.R_far (p:=⟨gb520,0,none⟩) (Kd.R_types HO_523002.out BK520.out (by decide)) (fun _ hk => hk.2) (.float .f64 ((t521 : Int).toNat))) (fun _ hk => hk.2) (.bool false)) (fun _ hk => hk.2) (.slice Ao19 x523002_1.length co19)) (fun _ hk => hk.2) (.int .i64 0)) (fun _ hk => hk.2) (.int .i64 0)) (fun _ hk => hk.2) (.int .i64 0)) (fun _ hk => trivial),by repeat (first | (with_reducible first | exact HB.out | apply below_alloc | apply pw_below_drewN | apply below_drew1 | refine below_set ?_ GE520.out | refine below_set ?_ GE522.out) | exact HB.out)⟩
end Go.Proofs.Ytdcllbhkjcdnoaa.P
set_option linter.unusedVariables false
set_option linter.unusedSimpArgs false
namespace Go.Proofs.Ytdcllbhkjcdnoaa.P
open Go.RowKit Go.Proofs.Ytdcllbhkjcdnoaa Go.Proofs.Ytdcllbhkjcdnoaa.Mem Go.Proofs.Ytdcllbhkjcdnoaa.Pac Go.Proofs.YtdcllbhkjcdnoaaW.PrintWords Go.Proofs.YtdcllbhkjcdnoaaW.PrintLast
theorem val_addv (a b : Nat) : Flt.val (addv a b) = addv a b := by
  unfold addv
  cases Ieee.double.add a b with
  | some r => exact Flt.val_val r
  | none => decide
theorem valsB_set {co : List Nat} (h : valsB co = true) (a b : Nat) : valsB (co.set 0 (addv a b)) = true := by
  unfold valsB at *
  rw [List.all_eq_true] at *
  intro x hx
  rcases List.mem_or_eq_of_mem_set hx with h1 | rfl
  · exact h x h1
  · exact decide_eq_true (val_addv a b).symm
theorem valsB_map (co : List Nat) : valsB (co.map Flt.val) = true := by
  unfold valsB
  rw [List.all_eq_true]
  intro x hx
  obtain ⟨y, _, rfl⟩ := List.mem_map.1 hx
  exact decide_eq_true (Flt.val_val y).symm
theorem mayRow_set {ke : Nat} {de : Bool} {co : List Nat} {wr ce no : Int} (h : mayRow ke de co wr ce no = true) (a b : Nat) : mayRow ke de (co.set 0 (addv a b)) wr ce no = true := by
  rw [mayRow_iff] at *
  obtain ⟨h1, h2, h3, h4, h5⟩ := h
  exact ⟨h1, by rw [List.length_set]; exact h2, by rw [List.length_set]; exact h3, valsB_set h4 a b, h5⟩
theorem mayRow_made (ke : Nat) {co : List Nat} (hl : co.length ≤ 4) : mayRow (Flt.key ke) false (co.map Flt.val) 0 0 0 = true := by
  rw [mayRow_iff]
  exact ⟨(Flt.key_key ke).symm, by rw [List.length_map]; exact hl, (fun h => by cases h), valsB_map co, by decide, by decide, by decide, Or.inr rfl⟩
theorem rof_l0 (co : List Nat) (hl : co.length ≤ 900) (ke : Nat) (de : Bool) (wr ce no : Int) : ∀ (d i k : Nat) (xs : List Nat), i + d = co.length → d < k → xs.length + d ≤ 900 →
    humusref04_Of.l0 k co (i : Int) ke de xs wr ce no = some (ke, de, xs ++ (co.drop i).map Flt.val, wr, ce, no) := by
  intro d
  induction d with
  | zero =>
    intro i k xs hi hk hx
    obtain ⟨k, rfl⟩ : ∃ m, k = m + 1 := ⟨k - 1, by omega⟩
    obtain rfl : i = co.length := by omega
    simp only [humusref04_Of.l0]
    rw [if_neg (by omega), List.drop_length, List.map_nil, List.append_nil]
  | succ d ih =>
    intro i k xs hi hk hx
    obtain ⟨k, rfl⟩ : ∃ m, k = m + 1 := ⟨k - 1, by omega⟩
    have hlt : i < co.length := by omega
    simp only [humusref04_Of.l0, humusref01_Value.f, Option.bind_some, Int.toNat_natCast]
    rw [if_pos (by omega), if_pos (by omega), if_pos (by omega)]
    rw [show wrap64 ((i : Int) + 1) = ((i + 1 : Nat) : Int) by unfold wrap64; omega]
    rw [ih (i + 1) k _ (by omega) (by omega) (by rw [List.length_append, List.length_singleton]; omega)]
    rw [rdF_of (List.getElem?_eq_getElem hlt), List.drop_eq_getElem_cons hlt, List.map_cons, List.append_assoc]; rfl
theorem rof_ev {k : Nat} {ke : Nat} {co : List Nat} (hk : co.length < k) (hl : co.length ≤ 900) (hx : ke < 18446744073709551616) : humusref04_Of.f k ke co = some (Flt.key ke, false, co.map Flt.val, 0, 0, 0) := by
  unfold humusref04_Of.f humusref01_Key.f
  rw [if_pos hx]
  simp only [Option.bind_some, Int.toNat_natCast]
  have := rof_l0 co hl (Flt.key ke) false 0 0 0 co.length 0 k [] (by omega) hk (by rw [List.length_nil]; omega)
  rw [List.drop_zero, List.nil_append] at this
  exact this
theorem rplus_ev {ke : Nat} {de : Bool} {co : List Nat} {wr ce no : Int} (x : Nat) (hc : co ≠ []) (hl : co.length ≤ 1000000) : humusref04_Plus.f ke de co wr ce no x = some (ke, de, co.set 0 (addv (rdF co 0) x), wr, ce, no) := by
  unfold humusref04_Plus.f
  rw [if_pos ⟨List.length_pos_iff.2 hc, hl⟩]
end Go.Proofs.Ytdcllbhkjcdnoaa.P
