/- Put together by wip/prune.py out of this claim's texts. -/
import Derived.Test.YtbmcbhpkefjhbaaMDsgAlone3
import Derived.Test.YtbmcbhpkefjhbaaMDsgAlone4
import Derived.Test.YtbmcbhpkefjhbaaMDsgAlone8
import Derived.Test.YtbmcbhpkefjhbaaMDsgAlone9
namespace Go.Proofs.Ytbmcbhpkefjhbaa.P
open Go.RowKit Go.Proofs.YtbmcbhpkefjhbaaW.PrintWords Go.Proofs.YtbmcbhpkefjhbaaW.PrintLast Go.Proofs.YtbmcbhpkefjhbaaW.PrintMore
attribute [local go_sem] max2_int min2_int max_two min_two max_three min_three max_four min_four   -- for this text's walks alone
attribute [local go_sem] run_store_float
set_option linter.unusedVariables false
set_option linter.unusedSimpArgs false
def dsg_places.l0 : Nat → List Int → Int → List (S43) → Int → Int → Option (List Int)
 | 0,_,_,_,_,_ => none
 | k + 1,x3,x4,x7,x8,x9 => if x9 < x8 then (if 0 ≤ x9 then (if x9 < (x7.length : Int) then (if (((rd_T43 x7 x9).f3).length : Int) = 0 then (if x3.length < 17592186044416 then (dsg_places.l0 k (x3 ++ [(-1)]) x4 x7 x8 (wrap64 (x9 + 1))) else (none)) else (if x3.length < 17592186044416 then (dsg_places.l0 k (x3 ++ [x4]) (wrap64 (x4 + 1)) x7 x8 (wrap64 (x9 + 1))) else (none))) else (none)) else (none)) else (some x3)
def dsg_places.f (k : Nat) (l0 : List (S43)) : Option (List Int):=dsg_places.l0 k ([] : List Int) 0 l0 (l0.length : Int) 0
set_option maxHeartbeats 8000000 in
set_option maxRecDepth 100000 in
theorem dsg_places.calls (k : Nat) (A0 : Option Addr) (c0 : Nat) (l0 : List (S43)) (r : List Int) (w : World) (hr0 : Kd.C k43 w A0 l0.length l0) (hc0 : l0.length ≤ c0) (h : dsg_places.f k l0 = some r) :
  Calls Try.prog 51 #[.slice A0 l0.length c0] w fun e w' => ∃ v0_ : Value,e = .returned (v0_) ∧ Kd.R (Kd.int .i64) 3 w' w.heap.size (fun _ => True) v0_ r ∧ Below w.heap.size w w':=by
 have hu43:=Try.underlying43
 have HR0:=Aside0.mk hr0
 have HC0:=Aside0.mk hc0
 clear hr0 hc0
 have HB:=Aside0.mk (Below.refl w.heap.size w)
 have H : (dsg_places.l0 k ([] : List Int) 0 l0 (l0.length : Int) 0) = some r:=h
 clear h
 have H':=Aside0.mk H
 clear H
 go_enter Try.func51,Try.ntmps51
 go_wp2
 go_loopg [3,4,9] k (fun kq v3 v4 v9 w' => ∃ (x3_1 : List Int) (x4_1 : Int) (x9_1 : Int),v4 = .int .i64 x4_1 ∧ v9 = .int .i64 x9_1 ∧ Aside0 (dsg_places.l0 kq x3_1 x4_1 l0 (l0.length : Int) x9_1 = some r) ∧ Aside0 (kq ≤ k) ∧ Aside0 (Kd.R (Kd.int .i64) 3 w' w.heap.size (fun _ => True) v3 x3_1) ∧ Aside0 (Below w.heap.size w w'))
 case atStart => exact ⟨(([] : List Int)),(0),(0),(by first | rfl | (simp;done) | (simp [*];done)),(by first | rfl | (simp;done) | (simp [*];done)),H',⟨Nat.le_refl _⟩,⟨by first | exact Kd.R_nil _ _ _ _ _ | exact Kd.N_nil _ _ _ _ _ | exact Kd.V_nil _ _ _ _ _ | exact Kd.Q_nil _ _ _ _ _ | exact Kd.S_nil _ _ _ _ _⟩,⟨by repeat (first | (with_reducible first | exact HB.out | apply below_alloc | apply pw_below_drewN | apply below_drew1) | exact HB.out)⟩⟩
 case round =>
  clear H'
  obtain ⟨x3_1,x4_1,x9_1,rfl,rfl,HA,HK1,HO_3,HB⟩:=hrel
  cases gk with
  | zero => exact absurd HA.out (by simp [dsg_places.l0])
  | succ k1 =>
   have H:=HA.out
   clear HA
   simp only [dsg_places.l0] at H
   by_cases c2 : x9_1 < (l0.length : Int)
   ·rw [if_pos c2] at H
    have c2b0 : decide (x9_1 < (l0.length : Int)) = true:=decide_eq_true c2
    clear c2
    by_cases c3 : 0 ≤ x9_1
    ·rw [if_pos c3] at H
     have c3b0 : decide (0 ≤ x9_1) = true:=decide_eq_true c3
     clear c3
     by_cases c4 : x9_1 < (l0.length : Int)
     ·rw [if_pos c4] at H
      have c4b0 : decide (x9_1 < (l0.length : Int)) = true:=decide_eq_true c4
      clear c4
      by_cases c5 : (((rd_T43 l0 x9_1).f3).length : Int) = 0
      ·rw [if_pos c5] at H
       have c5b0 : ((((rd_T43 l0 x9_1).f3).length : Int) == 0) = true:=beq_iff_eq.mpr c5
       have c5b1 : ((((rd_T43 l0 x9_1).f3).length : Int) != 0) = false:=bne_eq_false_iff_eq.mpr c5
       clear c5
       by_cases c6 : x3_1.length < 17592186044416
       ·rw [if_pos c6] at H
        have LMc6:=Aside0.mk c6
        clear c6
        obtain ⟨y145,hy145⟩ : ∃ y_ : List Int,y_ = (x3_1 ++ [(-1)]):=⟨_,rfl⟩
        replace H : (dsg_places.l0 k1 y145 x4_1 l0 (l0.length : Int) (wrap64 (x9_1 + 1))) = some r:=by first | (rw [hy145];with_reducible exact H) | (have H2_:=(Option.bind_some _ _).symm.trans H;rw [hy145];with_reducible exact H2_) | (have H2_:=(Option.bind_some _ _).symm.trans H;with_reducible exact H2_) | with_reducible exact H | (rw [hy145];exact H) | exact H
        have Ny145:=Aside0.mk hy145
        clear hy145
        have H':=Aside0.mk H
        clear H
        have p143 : 0 ≤ (x9_1 : Int):=of_decide_eq_true (by first | (with_reducible assumption) | assumption)
        have q143 : x9_1 < (l0.length : Int):=of_decide_eq_true (by first | (with_reducible assumption) | assumption)
        obtain ⟨ad143,A143_2,c143_2,A143_3,c143_3,A143_4,c143_4,e143,hx143_0,hx143_1,hx143_2,hx143_3,hx143_4,hl143_2,hi143_2,hl143_3,hi143_3,hl143_4,hi143_4⟩:=at_T43 HR0.out x9_1 p143 q143
        cases e143
        replace hx143_0:=(HB.out.cell (World.block_lt_of_cell? w _ hx143_0)).trans hx143_0
        replace hx143_1:=(HB.out.cell (World.block_lt_of_cell? w _ hx143_1)).trans hx143_1
        replace hx143_2:=(HB.out.cell (World.block_lt_of_cell? w _ hx143_2)).trans hx143_2
        replace hx143_3:=(HB.out.cell (World.block_lt_of_cell? w _ hx143_3)).trans hx143_3
        replace hx143_4:=(HB.out.cell (World.block_lt_of_cell? w _ hx143_4)).trans hx143_4
        have HR143_2:=Aside0.mk hi143_2
        have HC143_2:=Aside0.mk hl143_2
        clear hi143_2 hl143_2
        have HR143_3:=Aside0.mk hi143_3
        have HC143_3:=Aside0.mk hl143_3
        clear hi143_3 hl143_3
        have HR143_4:=Aside0.mk hi143_4
        have HC143_4:=Aside0.mk hl143_4
        clear hi143_4 hl143_4
        replace p143:=eq_true p143
        replace q143:=eq_true q143
        go_wp2_with (first | ((with_reducible refine gate_dst (N:=6) rfl ?_);refine box_event ?hg (N:=6) ?hd (cs:=#[.int .i64 0,.int .i64 0,.slice none 0 0,.slice none 0 0,.slice none 0 0]) (t:=43) ?hr ?_;(case hd => rfl);(case hg => rfl);(case hr => first | (go_simp;done) | (go_simp;rfl));intro gb144 hg w7 hbox hb;have n0_:=Aside0.mk (Kd.R_below (by (with_reducible repeat (first | apply Kd.R_alloc | apply Kd.R_drewN | apply Kd.R_drew));exact HO_3.out) hb);have n1_:=Aside0.mk (below_step (by repeat (first | (with_reducible first | exact HB.out | apply below_alloc | apply pw_below_drewN | apply below_drew1) | exact HB.out)) hb);have n2_:=Aside0.mk (hbox);have n3_:=Aside0.mk ((by rw [hg];exact (below_size (by repeat (first | (with_reducible first | exact HB.out | apply below_alloc | apply pw_below_drewN | apply below_drew1) | exact HB.out))) : w.heap.size ≤ gb144));have n4_:=Aside0.mk ((by rw [hg];exact (below_size (by repeat (first | (with_reducible first | exact HB.out | apply below_alloc | apply pw_below_drewN | apply below_drew1) | exact HB.out))) : w.heap.size ≤ gb144));clear HO_3;clear HB;have HO_3:=n0_;have HB:=n1_;have BK144:=n2_;have GW144:=n3_;have GE144:=n4_;clear n0_ n1_ n2_ n3_ n4_;clear hb hbox hg;obtain ⟨hcz8_0,hcz8_1,hcz8_2,hcz8_3,hcz8_4⟩:=blkc_5 BK144.out;obtain ⟨hfz8_0,hfz8_1,hfz8_2,hfz8_3⟩:=blkz_4 BK144.out;have hfz8_4:=blk_frozen BK144.out 4) | ((with_reducible refine gate_builtin (b:=.append) (xs:=#[.tmp 17,.tmp 18]) rfl ?_);at_builtin;refine Kd.R_append (Kd.int .i64) (w0:=w) w.heap.size rfl (.tmp 17) (.tmp 18) 24 3 (.int .i64 0) 8 rfl Try.underlying24 info3 rfl (by decide) (by omega) u3 x3_1 (-1) [.int .i64 (-1)] (fun _ => True) (fun _ => False) rfl (by first | (go_simp;done) | (go_simp;rfl)) ?aP (fun _ hk => hk.elim) ?aF ?aO ?aB ?aS ?aL ?_;(case aP => exact rfl);(case aB => exact (by repeat (first | (with_reducible first | exact HB.out | apply below_alloc | apply pw_below_drewN | apply below_drew1 | refine below_set ?_ GE144.out) | exact HB.out)));(case aF => exact (fun _ _ => trivial));(case aO => exact (by (with_reducible repeat (first | apply Kd.R_alloc | apply Kd.R_drewN | apply Kd.R_drew));exact Kd.R_mono (Kd.R_far (p:=⟨gb144,4,none⟩) (Kd.R_far (p:=⟨gb144,3,none⟩) (Kd.R_far (p:=⟨gb144,2,none⟩) (Kd.R_far (p:=⟨gb144,1,none⟩) (Kd.R_far (p:=⟨gb144,0,none⟩) (Kd.R_types HO_3.out BK144.out (by decide)) (fun _ hk => hk.2) (.int .i64 ((rd_T43 l0 x9_1).f0))) (fun _ hk => hk.2) (.int .i64 ((rd_T43 l0 x9_1).f1))) (fun _ hk => hk.2) (.slice A143_2 ((rd_T43 l0 x9_1).f2).length c143_2)) (fun _ hk => hk.2) (.slice A143_3 ((rd_T43 l0 x9_1).f3).length c143_3)) (fun _ hk => hk.2) (.slice A143_4 ((rd_T43 l0 x9_1).f4).length c143_4)) (fun _ hk => trivial)));(case aS => exact (below_size (by repeat (first | (with_reducible first | exact HB.out | apply below_alloc | apply pw_below_drewN | apply below_drew1 | refine below_set ?_ GE144.out) | exact HB.out))));(case aL => have:=LMc6.out;omega);intro v146 w9 ho hb hg hat;rw [← Ny145.out] at ho;have n0_:=Aside0.mk (blk_grown (g:=gb144) (o:=.cells #[.int .i64 ((rd_T43 l0 x9_1).f0),.int .i64 ((rd_T43 l0 x9_1).f1),.slice A143_2 ((rd_T43 l0 x9_1).f2).length c143_2,.slice A143_3 ((rd_T43 l0 x9_1).f3).length c143_3,.slice A143_4 ((rd_T43 l0 x9_1).f4).length c143_4] 43 (0,0)) (by (with_reducible repeat (first | refine blk_drewN ?_ _ | refine blk_drew ?_ | refine blk_alloc ?_ _));apply blkf_5_0_4;(with_reducible repeat (first | refine blk_drewN ?_ _ | refine blk_drew ?_ | refine blk_alloc ?_ _));exact BK144.out) hg (Kd.R_ne HO_3.out BK144.out (by decide)));have n1_:=Aside0.mk (hb);have n2_:=Aside0.mk (ho);clear BK144;clear HB;clear HO_3;have BK144:=n0_;have HB:=n1_;have HO147:=n2_;clear n0_ n1_ n2_;clear ho hb hg hat))
        go_roundg k1
        case measure => have:=HK1.out;omega
        case rel => exact ⟨(y145),(x4_1),(wrap64 (x9_1 + 1)),(by first | rfl | (simp;done) | (simp [*];done)),(by first | rfl | (simp;done) | (simp [*];done)),H',⟨by have:=HK1.out;omega⟩,⟨by (with_reducible repeat (first | apply Kd.R_alloc | apply Kd.R_drewN | apply Kd.R_drew));exact HO147.out⟩,⟨by repeat (first | (with_reducible first | exact HB.out | apply below_alloc | apply pw_below_drewN | apply below_drew1 | refine below_set ?_ GE144.out) | exact HB.out)⟩⟩
       ·rw [if_neg c6] at H
        exact absurd H (by simp)
      ·rw [if_neg c5] at H
       have c5b0 : ((((rd_T43 l0 x9_1).f3).length : Int) == 0) = false:=beq_eq_false_iff_ne.mpr c5
       have c5b1 : ((((rd_T43 l0 x9_1).f3).length : Int) != 0) = true:=bne_iff_ne.mpr c5
       have c5b2 : ¬ (((rd_T43 l0 x9_1).f3) = []):=fun h_ => c5 (by rw [h_];rfl)
       by_cases c10 : x3_1.length < 17592186044416
       ·rw [if_pos c10] at H
        have LMc10:=Aside0.mk c10
        clear c10
        obtain ⟨y148,hy148⟩ : ∃ y_ : List Int,y_ = (x3_1 ++ [x4_1]):=⟨_,rfl⟩
        replace H : (dsg_places.l0 k1 y148 (wrap64 (x4_1 + 1)) l0 (l0.length : Int) (wrap64 (x9_1 + 1))) = some r:=by first | (rw [hy148];with_reducible exact H) | (have H2_:=(Option.bind_some _ _).symm.trans H;rw [hy148];with_reducible exact H2_) | (have H2_:=(Option.bind_some _ _).symm.trans H;with_reducible exact H2_) | with_reducible exact H | (rw [hy148];exact H) | exact H
        have Ny148:=Aside0.mk hy148
        clear hy148
        have H':=Aside0.mk H
        clear H
        have p143 : 0 ≤ (x9_1 : Int):=of_decide_eq_true (by first | (with_reducible assumption) | assumption)
        have q143 : x9_1 < (l0.length : Int):=of_decide_eq_true (by first | (with_reducible assumption) | assumption)
        obtain ⟨ad143,A143_2,c143_2,A143_3,c143_3,A143_4,c143_4,e143,hx143_0,hx143_1,hx143_2,hx143_3,hx143_4,hl143_2,hi143_2,hl143_3,hi143_3,hl143_4,hi143_4⟩:=at_T43 HR0.out x9_1 p143 q143
        cases e143
        replace hx143_0:=(HB.out.cell (World.block_lt_of_cell? w _ hx143_0)).trans hx143_0
        replace hx143_1:=(HB.out.cell (World.block_lt_of_cell? w _ hx143_1)).trans hx143_1
        replace hx143_2:=(HB.out.cell (World.block_lt_of_cell? w _ hx143_2)).trans hx143_2
        replace hx143_3:=(HB.out.cell (World.block_lt_of_cell? w _ hx143_3)).trans hx143_3
        replace hx143_4:=(HB.out.cell (World.block_lt_of_cell? w _ hx143_4)).trans hx143_4
        have HR143_2:=Aside0.mk hi143_2
        have HC143_2:=Aside0.mk hl143_2
        clear hi143_2 hl143_2
        have HR143_3:=Aside0.mk hi143_3
        have HC143_3:=Aside0.mk hl143_3
        clear hi143_3 hl143_3
        have HR143_4:=Aside0.mk hi143_4
        have HC143_4:=Aside0.mk hl143_4
        clear hi143_4 hl143_4
        replace p143:=eq_true p143
        replace q143:=eq_true q143
        go_wp2_with (first | ((with_reducible refine gate_dst (N:=6) rfl ?_);refine box_event ?hg (N:=6) ?hd (cs:=#[.int .i64 0,.int .i64 0,.slice none 0 0,.slice none 0 0,.slice none 0 0]) (t:=43) ?hr ?_;(case hd => rfl);(case hg => rfl);(case hr => first | (go_simp;done) | (go_simp;rfl));intro gb144 hg w11 hbox hb;have n0_:=Aside0.mk (Kd.R_below (by (with_reducible repeat (first | apply Kd.R_alloc | apply Kd.R_drewN | apply Kd.R_drew));exact HO_3.out) hb);have n1_:=Aside0.mk (below_step (by repeat (first | (with_reducible first | exact HB.out | apply below_alloc | apply pw_below_drewN | apply below_drew1) | exact HB.out)) hb);have n2_:=Aside0.mk (hbox);have n3_:=Aside0.mk ((by rw [hg];exact (below_size (by repeat (first | (with_reducible first | exact HB.out | apply below_alloc | apply pw_below_drewN | apply below_drew1) | exact HB.out))) : w.heap.size ≤ gb144));have n4_:=Aside0.mk ((by rw [hg];exact (below_size (by repeat (first | (with_reducible first | exact HB.out | apply below_alloc | apply pw_below_drewN | apply below_drew1) | exact HB.out))) : w.heap.size ≤ gb144));clear HO_3;clear HB;have HO_3:=n0_;have HB:=n1_;have BK144:=n2_;have GW144:=n3_;have GE144:=n4_;clear n0_ n1_ n2_ n3_ n4_;clear hb hbox hg;obtain ⟨hcz12_0,hcz12_1,hcz12_2,hcz12_3,hcz12_4⟩:=blkc_5 BK144.out;obtain ⟨hfz12_0,hfz12_1,hfz12_2,hfz12_3⟩:=blkz_4 BK144.out;have hfz12_4:=blk_frozen BK144.out 4) | ((with_reducible refine gate_builtin (b:=.append) (xs:=#[.tmp 20,.tmp 22]) rfl ?_);at_builtin;refine Kd.R_append (Kd.int .i64) (w0:=w) w.heap.size rfl (.tmp 20) (.tmp 22) 24 3 (.int .i64 0) 8 rfl Try.underlying24 info3 rfl (by decide) (by omega) u3 x3_1 x4_1 [.int .i64 x4_1] (fun _ => True) (fun _ => False) rfl (by first | (go_simp;done) | (go_simp;rfl)) ?aP (fun _ hk => hk.elim) ?aF ?aO ?aB ?aS ?aL ?_;(case aP => exact rfl);(case aB => exact (by repeat (first | (with_reducible first | exact HB.out | apply below_alloc | apply pw_below_drewN | apply below_drew1 | refine below_set ?_ GE144.out) | exact HB.out)));(case aF => exact (fun _ _ => trivial));(case aO => exact (by (with_reducible repeat (first | apply Kd.R_alloc | apply Kd.R_drewN | apply Kd.R_drew));exact Kd.R_mono (Kd.R_far (p:=⟨gb144,4,none⟩) (Kd.R_far (p:=⟨gb144,3,none⟩) (Kd.R_far (p:=⟨gb144,2,none⟩) (Kd.R_far (p:=⟨gb144,1,none⟩) (Kd.R_far (p:=⟨gb144,0,none⟩) (Kd.R_types HO_3.out BK144.out (by decide)) (fun _ hk => hk.2) (.int .i64 ((rd_T43 l0 x9_1).f0))) (fun _ hk => hk.2) (.int .i64 ((rd_T43 l0 x9_1).f1))) (fun _ hk => hk.2) (.slice A143_2 ((rd_T43 l0 x9_1).f2).length c143_2)) (fun _ hk => hk.2) (.slice A143_3 ((rd_T43 l0 x9_1).f3).length c143_3)) (fun _ hk => hk.2) (.slice A143_4 ((rd_T43 l0 x9_1).f4).length c143_4)) (fun _ hk => trivial)));(case aS => exact (below_size (by repeat (first | (with_reducible first | exact HB.out | apply below_alloc | apply pw_below_drewN | apply below_drew1 | refine below_set ?_ GE144.out) | exact HB.out))));(case aL => have:=LMc10.out;omega);intro v149 w13 ho hb hg hat;rw [← Ny148.out] at ho;have n0_:=Aside0.mk (blk_grown (g:=gb144) (o:=.cells #[.int .i64 ((rd_T43 l0 x9_1).f0),.int .i64 ((rd_T43 l0 x9_1).f1),.slice A143_2 ((rd_T43 l0 x9_1).f2).length c143_2,.slice A143_3 ((rd_T43 l0 x9_1).f3).length c143_3,.slice A143_4 ((rd_T43 l0 x9_1).f4).length c143_4] 43 (0,0)) (by (with_reducible repeat (first | refine blk_drewN ?_ _ | refine blk_drew ?_ | refine blk_alloc ?_ _));apply blkf_5_0_4;(with_reducible repeat (first | refine blk_drewN ?_ _ | refine blk_drew ?_ | refine blk_alloc ?_ _));exact BK144.out) hg (Kd.R_ne HO_3.out BK144.out (by decide)));have n1_:=Aside0.mk (hb);have n2_:=Aside0.mk (ho);clear BK144;clear HB;clear HO_3;have BK144:=n0_;have HB:=n1_;have HO150:=n2_;clear n0_ n1_ n2_;clear ho hb hg hat))
        go_roundg k1
        case measure => have:=HK1.out;omega
        case rel => exact ⟨(y148),(wrap64 (x4_1 + 1)),(wrap64 (x9_1 + 1)),(by first | rfl | (simp;done) | (simp [*];done)),(by first | rfl | (simp;done) | (simp [*];done)),H',⟨by have:=HK1.out;omega⟩,⟨by (with_reducible repeat (first | apply Kd.R_alloc | apply Kd.R_drewN | apply Kd.R_drew));exact HO150.out⟩,⟨by repeat (first | (with_reducible first | exact HB.out | apply below_alloc | apply pw_below_drewN | apply below_drew1 | refine below_set ?_ GE144.out) | exact HB.out)⟩⟩
       ·rw [if_neg c10] at H
        exact absurd H (by simp)
     ·rw [if_neg c4] at H
      exact absurd H (by simp)
    ·rw [if_neg c3] at H
     exact absurd H (by simp)
   ·rw [if_neg c2] at H
    have c2b0 : decide (x9_1 < (l0.length : Int)) = false:=decide_eq_false c2
    clear c2
    obtain rfl:=Option.some.inj H
    go_wp2
    go_ret
    exact ⟨_,by first | rfl | (simp [errW_none,errW_some] <;> rfl) | (simp [*,errW_none,errW_some] <;> rfl),by (with_reducible repeat (first | apply Kd.R_alloc | apply Kd.R_drewN | apply Kd.R_drew));exact HO_3.out,by repeat (first | (with_reducible first | exact HB.out | apply below_alloc | apply pw_below_drewN | apply below_drew1) | exact HB.out)⟩
end Go.Proofs.Ytbmcbhpkefjhbaa.P
namespace Go.Proofs.Ytbmcbhpkefjhbaa.P
open Go.RowKit Go.Proofs.YtbmcbhpkefjhbaaW.PrintWords Go.Proofs.YtbmcbhpkefjhbaaW.PrintLast Go.Proofs.YtbmcbhpkefjhbaaW.PrintMore
attribute [local go_sem] max2_int min2_int max_two min_two max_three min_three max_four min_four   -- for this text's walks alone
attribute [local go_sem] run_store_float
set_option linter.unusedVariables false
set_option linter.unusedSimpArgs false
mutual
def dsg_Edges.j0 : Nat → List (S43) → List Int → List (S33) → Option ((List (S33)))
 | 0,_,_,_ => none
 | k + 1,x0,x3,x4 => dsg_Edges.l0 k x0 x3 x4 x0 (x0.length : Int) 0
def dsg_Edges.l0 : Nat → List (S43) → List Int → List (S33) → List (S43) → Int → Int → Option ((List (S33)))
 | 0,_,_,_,_,_,_ => none
 | k + 1,x0,x3,x4,x11,x12,x13 => if x13 < x12 then (if 0 ≤ x13 then (if x13 < (x11.length : Int) then (dsg_Edges.l1 k x0 x3 x4 x13 x11 x12 x13 x0 (x0.length : Int) 0 ((rd_T43 x11 x13).f0) ((rd_T43 x11 x13).f1) ((rd_T43 x11 x13).f2) ((rd_T43 x11 x13).f3) ((rd_T43 x11 x13).f4)) else (none)) else (none)) else (some x4)
def dsg_Edges.l1 : Nat → List (S43) → List Int → List (S33) → Int → List (S43) → Int → Int → List (S43) → Int → Int → Int → Int → List (S89) → List (S124) → List Int → Option ((List (S33)))
 | 0,_,_,_,_,_,_,_,_,_,_,_,_,_,_,_ => none
 | k + 1,x0,x3,x4,x5,x11,x12,x13,x18,x19,x20,x156000,x156001,x156002,x156003,x156004 => if x20 < x19 then (if 0 ≤ x20 then (if x20 < (x18.length : Int) then (if x5 = x20 then (dsg_Edges.l1 k x0 x3 x4 x5 x11 x12 x13 x18 x19 (wrap64 (x20 + 1)) x156000 x156001 x156002 x156003 x156004) else (if 0 ≤ x5 then (if x5 < (x3.length : Int) then (if x20 < (x3.length : Int) then ((dsg_ahead.f x156000 x156001 x156002 x156003 x156004 ((rd_T43 x18 x20).f0) ((rd_T43 x18 x20).f1) ((rd_T43 x18 x20).f2) ((rd_T43 x18 x20).f3) ((rd_T43 x18 x20).f4) (rd x3 x5) (rd x3 x20)).bind fun t160 => (if t160 = true then (if x4.length < 8796093022208 then (dsg_Edges.j3 k x0 x3 (x4 ++ [(⟨x5,x20⟩ : S33)]) x5 x11 x12 x13 x18 x19 (wrap64 (x20 + 1)) x156000 x156001 x156002 x156003 x156004) else (none)) else (dsg_Edges.l1 k x0 x3 x4 x5 x11 x12 x13 x18 x19 (wrap64 (x20 + 1)) x156000 x156001 x156002 x156003 x156004))) else (none)) else (none)) else (none))) else (none)) else (none)) else (dsg_Edges.l0 k x0 x3 x4 x11 x12 (wrap64 (x13 + 1)))
def dsg_Edges.j3 : Nat → List (S43) → List Int → List (S33) → Int → List (S43) → Int → Int → List (S43) → Int → Int → Int → Int → List (S89) → List (S124) → List Int → Option ((List (S33)))
 | 0,_,_,_,_,_,_,_,_,_,_,_,_,_,_,_ => none
 | k + 1,x0,x3,x4,x5,x11,x12,x13,x18,x19,x20,x156000,x156001,x156002,x156003,x156004 => dsg_Edges.l1 k x0 x3 x4 x5 x11 x12 x13 x18 x19 x20 x156000 x156001 x156002 x156003 x156004
end
def dsg_Edges.f (k : Nat) (l0 : List (S43)) : Option ((List (S33))):=(dsg_places.f k l0).bind fun t151 => (dsg_Edges.j0 k l0 t151 ([] : List (S33)))
def dsg_Edges.T9 : Bool × List (List Nat × List Nat):=(true,[([],[]),([],[]),([0,1],[0,1]),([2],[2]),([3],[3]),([3],[3]),([3],[3]),([3],[3]),([6,7,3],[3,6,7]),([8,3],[3,8]),([3],[3]),([3],[3]),([10,11,3],[3,10,11]),([12,3],[3,12]),([4,5,9,13,3,3],[3,4,5,9,13]),([3,14],[3,14])])
def dsg_Edges.B9 : List Nat:=[0,0,3,7,15,15,15,15,207,463,15,15,3087,7183,16383,32767]
theorem dsg_Edges.tab9 : rtab .any (opsOf Try.f21 9) = dsg_Edges.T9:=by kernel_rfl
theorem dsg_Edges.bits9 : waitsOk dsg_Edges.T9.2 dsg_Edges.B9 = true:=by kernel_rfl
set_option maxHeartbeats 8000000 in
set_option maxRecDepth 100000 in
theorem dsg_Edges.calls (k : Nat) (A0 : Option Addr) (c0 : Nat) (l0 : List (S43)) (r : List (S33)) (w : World) (hr0 : Kd.C k43 w A0 l0.length l0) (hc0 : l0.length ≤ c0) (h : dsg_Edges.f k l0 = some r) :
  Calls Try.prog 21 #[.slice A0 l0.length c0] w fun e w' => ∃ v0_ : Value,e = .returned (v0_) ∧ Kd.R k33 33 w' w.heap.size (fun _ => True) v0_ r ∧ Below w.heap.size w w':=by
 have hu43:=Try.underlying43
 have hu33:=Try.underlying33
 have HR0:=Aside0.mk hr0
 have HC0:=Aside0.mk hc0
 clear hr0 hc0
 have HB:=Aside0.mk (Below.refl w.heap.size w)
 have H : ((dsg_places.f k l0).bind fun t151 => (dsg_Edges.j0 k l0 t151 ([] : List (S33)))) = some r:=h
 clear h
 replace H:=Option.bind_eq_some_iff.mp H
 obtain ⟨t151,A20,H⟩:=H
 replace H : (dsg_Edges.j0 k l0 t151 ([] : List (S33))) = some r:=H
 have A2:=Aside0.mk A20
 clear A20
 have HC3:=Aside0.mk H
 clear H
 go_enter Try.func21,Try.ntmps21
 go_upto_region 2 with (first | ((with_reducible refine gate_callee (f:=51) rfl ?_);refine goesL_ (some 10) rfl rfl Try.func51 (by kernel_rfl) rfl #[.slice A0 l0.length c0] rfl (by (try simp only [List.map_toArray,List.map_cons,List.map_nil]);first | done | rfl | (simp only [List.length_drop,List.length_take];rfl)) ?_;(with_reducible refine (dsg_places.calls k _ _ l0 t151 _ ?side1 ?side2 A2.out).mono ?_);(case side1 => repeat (first | exact HR0.out | (with_reducible refine Kd.C_alloc ?_ _) | (with_reducible refine Kd.C_drewN ?_ _) | (with_reducible refine Kd.C_drew ?_)));(case side2 => exact HC0.out);rintro e w4 ⟨v152,rfl,ho0,hb⟩;refine ⟨_,rfl,?_⟩;have n0_:=Aside0.mk (Kd.R_lower ho0 (below_size (by repeat (first | (with_reducible first | exact HB.out | apply below_alloc | apply pw_below_drewN | apply below_drew1) | exact HB.out))));have n1_:=Aside0.mk (below_step (by repeat (first | (with_reducible first | exact HB.out | apply below_alloc | apply pw_below_drewN | apply below_drew1) | exact HB.out)) hb);clear HB;have HO153:=n0_;have HB:=n1_;clear n0_ n1_;(try clear hb);(try clear hb2);(try clear hk);(try clear hi);(try clear ho0)))
 (try simp only [Act.put,List.setIfInBounds_toArray,List.set_cons_zero,List.set_cons_succ])
 go_cut [4] (fun v4 wc => ∃ (kq : Nat) (x4_2 : List (S33)),Aside0 (dsg_Edges.j0 kq l0 t151 x4_2 = some r) ∧ Aside0 (kq ≤ k) ∧ Aside0 (Kd.R (Kd.int .i64) 3 wc w.heap.size (fun _ => True) v152 t151) ∧ Aside0 (Kd.R k33 33 wc w.heap.size (fun _ => True) v4 x4_2) ∧ Aside0 (Below w.heap.size w wc))
 case first =>
  have H:=HC3.out
  clear HC3
  have H':=Aside0.mk H
  clear H
  go_wp2
  go_meet
  case rel => exact ⟨_,(([] : List (S33))),H',⟨by first | omega | exact Nat.le_refl _⟩,⟨by (with_reducible repeat (first | apply Kd.R_alloc | apply Kd.R_drewN | apply Kd.R_drew));exact HO153.out⟩,⟨by first | exact Kd.R_nil _ _ _ _ _ | exact Kd.N_nil _ _ _ _ _ | exact Kd.V_nil _ _ _ _ _ | exact Kd.Q_nil _ _ _ _ _ | exact Kd.S_nil _ _ _ _ _⟩,⟨by repeat (first | (with_reducible first | exact HB.out | apply below_alloc | apply pw_below_drewN | apply below_drew1) | exact HB.out)⟩⟩
 case rest =>
  clear HC3
  try clear c2
  try clear p2
  obtain ⟨kq,x4_2,HA,HJ2,HO_3,HO_4,HB⟩:=hcut
  cases kq with
  | zero => exact absurd HA.out (by simp [dsg_Edges.j0])
  | succ kj2 =>
   have H:=HA.out
   clear HA
   simp only [dsg_Edges.j0] at H
   have H':=Aside0.mk H
   clear H
   go_wp2
   go_loopg [4,13] kj2 (fun kq v4 v13 w' => ∃ (x4_2 : List (S33)) (x13_2 : Int),v13 = .int .i64 x13_2 ∧ Aside0 (dsg_Edges.l0 kq l0 t151 x4_2 l0 (l0.length : Int) x13_2 = some r) ∧ Aside0 (kq ≤ kj2) ∧ Aside0 (Kd.R (Kd.int .i64) 3 w' w.heap.size (fun _ => True) v152 t151) ∧ Aside0 (Kd.R k33 33 w' w.heap.size (fun _ => True) v4 x4_2) ∧ Aside0 (Below w.heap.size w w'))
   case atStart => exact ⟨(x4_2),(0),(by first | rfl | (simp;done) | (simp [*];done)),H',⟨Nat.le_refl _⟩,⟨by (with_reducible repeat (first | apply Kd.R_alloc | apply Kd.R_drewN | apply Kd.R_drew));exact HO_3.out⟩,⟨by (with_reducible repeat (first | apply Kd.R_alloc | apply Kd.R_drewN | apply Kd.R_drew));exact HO_4.out⟩,⟨by repeat (first | (with_reducible first | exact HB.out | apply below_alloc | apply pw_below_drewN | apply below_drew1) | exact HB.out)⟩⟩
   case round =>
    clear H'
    try clear c2
    try clear p2
    try clear p2
    obtain ⟨x4_2,x13_2,rfl,HA,HK2,HO_3,HO_4,HB⟩:=hrel
    cases gk with
    | zero => exact absurd HA.out (by simp [dsg_Edges.l0])
    | succ k2 =>
     have H:=HA.out
     clear HA
     simp only [dsg_Edges.l0] at H
     by_cases c5 : x13_2 < (l0.length : Int)
     ·rw [if_pos c5] at H
      have c5b0 : decide (x13_2 < (l0.length : Int)) = true:=decide_eq_true c5
      clear c5
      by_cases c6 : 0 ≤ x13_2
      ·rw [if_pos c6] at H
       have c6b0 : decide (0 ≤ x13_2) = true:=decide_eq_true c6
       clear c6
       by_cases c7 : x13_2 < (l0.length : Int)
       ·rw [if_pos c7] at H
        have c7b0 : decide (x13_2 < (l0.length : Int)) = true:=decide_eq_true c7
        clear c7
        have H':=Aside0.mk H
        clear H
        have p154 : 0 ≤ (x13_2 : Int):=of_decide_eq_true (by first | (with_reducible assumption) | assumption)
        have q154 : x13_2 < (l0.length : Int):=of_decide_eq_true (by first | (with_reducible assumption) | assumption)
        obtain ⟨ad154,A154_2,c154_2,A154_3,c154_3,A154_4,c154_4,e154,hx154_0,hx154_1,hx154_2,hx154_3,hx154_4,hl154_2,hi154_2,hl154_3,hi154_3,hl154_4,hi154_4⟩:=at_T43 HR0.out x13_2 p154 q154
        cases e154
        replace hx154_0:=(HB.out.cell (World.block_lt_of_cell? w _ hx154_0)).trans hx154_0
        replace hx154_1:=(HB.out.cell (World.block_lt_of_cell? w _ hx154_1)).trans hx154_1
        replace hx154_2:=(HB.out.cell (World.block_lt_of_cell? w _ hx154_2)).trans hx154_2
        replace hx154_3:=(HB.out.cell (World.block_lt_of_cell? w _ hx154_3)).trans hx154_3
        replace hx154_4:=(HB.out.cell (World.block_lt_of_cell? w _ hx154_4)).trans hx154_4
        have HR154_2:=Aside0.mk hi154_2
        have HC154_2:=Aside0.mk hl154_2
        clear hi154_2 hl154_2
        have HR154_3:=Aside0.mk hi154_3
        have HC154_3:=Aside0.mk hl154_3
        clear hi154_3 hl154_3
        have HR154_4:=Aside0.mk hi154_4
        have HC154_4:=Aside0.mk hl154_4
        clear hi154_4 hl154_4
        replace p154:=eq_true p154
        replace q154:=eq_true q154
        go_wp2_with (first | ((with_reducible refine gate_dst (N:=6) rfl ?_);refine box_event ?hg (N:=6) ?hd (cs:=#[.int .i64 0,.int .i64 0,.slice none 0 0,.slice none 0 0,.slice none 0 0]) (t:=43) ?hr ?_;(case hd => rfl);(case hg => rfl);(case hr => first | (go_simp;done) | (go_simp;rfl));intro gb155 hg w8 hbox hb;have n0_:=Aside0.mk (Kd.R_below (by (with_reducible repeat (first | apply Kd.R_alloc | apply Kd.R_drewN | apply Kd.R_drew));exact HO_3.out) hb);have n1_:=Aside0.mk (Kd.R_below (by (with_reducible repeat (first | apply Kd.R_alloc | apply Kd.R_drewN | apply Kd.R_drew));exact HO_4.out) hb);have n2_:=Aside0.mk (below_step (by repeat (first | (with_reducible first | exact HB.out | apply below_alloc | apply pw_below_drewN | apply below_drew1) | exact HB.out)) hb);have n3_:=Aside0.mk (hbox);have n4_:=Aside0.mk ((by rw [hg];exact (below_size (by repeat (first | (with_reducible first | exact HB.out | apply below_alloc | apply pw_below_drewN | apply below_drew1) | exact HB.out))) : w.heap.size ≤ gb155));have n5_:=Aside0.mk ((by rw [hg];exact (below_size (by repeat (first | (with_reducible first | exact HB.out | apply below_alloc | apply pw_below_drewN | apply below_drew1) | exact HB.out))) : w.heap.size ≤ gb155));clear HO_3;clear HO_4;clear HB;have HO_3:=n0_;have HO_4:=n1_;have HB:=n2_;have BK155:=n3_;have GW155:=n4_;have GE155:=n5_;clear n0_ n1_ n2_ n3_ n4_ n5_;clear hb hbox hg;obtain ⟨hcz9_0,hcz9_1,hcz9_2,hcz9_3,hcz9_4⟩:=blkc_5 BK155.out;obtain ⟨hfz9_0,hfz9_1,hfz9_2,hfz9_3⟩:=blkz_4 BK155.out;have hfz9_4:=blk_frozen BK155.out 4))
        go_loopg [4,20] k2 (fun kq v4 v20 w' => ∃ (x4_3 : List (S33)) (x20_3 : Int),v20 = .int .i64 x20_3 ∧ Aside0 (dsg_Edges.l1 kq l0 t151 x4_3 x13_2 l0 (l0.length : Int) x13_2 l0 (l0.length : Int) x20_3 ((rd_T43 l0 x13_2).f0) ((rd_T43 l0 x13_2).f1) ((rd_T43 l0 x13_2).f2) ((rd_T43 l0 x13_2).f3) ((rd_T43 l0 x13_2).f4) = some r) ∧ Aside0 (kq ≤ k2) ∧ Aside0 (Kd.R (Kd.int .i64) 3 w' w.heap.size (fun _ => True) v152 t151) ∧ Aside0 (Kd.R k33 33 w' w.heap.size (fun _ => True) v4 x4_3) ∧ Aside0 (w'.heap[gb155]? = some (.cells #[.int .i64 ((rd_T43 l0 x13_2).f0),.int .i64 ((rd_T43 l0 x13_2).f1),(.slice A154_2 ((rd_T43 l0 x13_2).f2).length c154_2),(.slice A154_3 ((rd_T43 l0 x13_2).f3).length c154_3),(.slice A154_4 ((rd_T43 l0 x13_2).f4).length c154_4)] 43 (0,0))) ∧ Aside0 (Below w.heap.size w w'))
        case atStart => exact ⟨(x4_2),(0),(by first | rfl | (simp;done) | (simp [*];done)),H',⟨Nat.le_refl _⟩,⟨by (with_reducible repeat (first | apply Kd.R_alloc | apply Kd.R_drewN | apply Kd.R_drew));exact Kd.R_mono (Kd.R_far (p:=⟨gb155,4,none⟩) (Kd.R_far (p:=⟨gb155,3,none⟩) (Kd.R_far (p:=⟨gb155,2,none⟩) (Kd.R_far (p:=⟨gb155,1,none⟩) (Kd.R_far (p:=⟨gb155,0,none⟩) (Kd.R_types HO_3.out BK155.out (by decide)) (fun _ hk => hk.2) (.int .i64 ((rd_T43 l0 x13_2).f0))) (fun _ hk => hk.2) (.int .i64 ((rd_T43 l0 x13_2).f1))) (fun _ hk => hk.2) (.slice A154_2 ((rd_T43 l0 x13_2).f2).length c154_2)) (fun _ hk => hk.2) (.slice A154_3 ((rd_T43 l0 x13_2).f3).length c154_3)) (fun _ hk => hk.2) (.slice A154_4 ((rd_T43 l0 x13_2).f4).length c154_4)) (fun _ hk => trivial)⟩,⟨by (with_reducible repeat (first | apply Kd.R_alloc | apply Kd.R_drewN | apply Kd.R_drew));exact Kd.R_mono (Kd.R_far (p:=⟨gb155,4,none⟩) (Kd.R_far (p:=⟨gb155,3,none⟩) (Kd.R_far (p:=⟨gb155,2,none⟩) (Kd.R_far (p:=⟨gb155,1,none⟩) (Kd.R_far (p:=⟨gb155,0,none⟩) (Kd.R_types HO_4.out BK155.out (by decide)) (fun _ hk => hk.2) (.int .i64 ((rd_T43 l0 x13_2).f0))) (fun _ hk => hk.2) (.int .i64 ((rd_T43 l0 x13_2).f1))) (fun _ hk => hk.2) (.slice A154_2 ((rd_T43 l0 x13_2).f2).length c154_2)) (fun _ hk => hk.2) (.slice A154_3 ((rd_T43 l0 x13_2).f3).length c154_3)) (fun _ hk => hk.2) (.slice A154_4 ((rd_T43 l0 x13_2).f4).length c154_4)) (fun _ hk => trivial)⟩,⟨by (with_reducible repeat (first | refine blk_drewN ?_ _ | refine blk_drew ?_ | refine blk_alloc ?_ _));apply blkf_5_0_4;(with_reducible repeat (first | refine blk_drewN ?_ _ | refine blk_drew ?_ | refine blk_alloc ?_ _));exact BK155.out⟩,⟨by repeat (first | (with_reducible first | exact HB.out | apply below_alloc | apply pw_below_drewN | apply below_drew1 | refine below_set ?_ GE155.out) | exact HB.out)⟩⟩
        case round =>
         clear H'
         try clear c1
         try clear p1
         try clear q1
         try clear hx1
         try clear c2
         try clear p2
         try clear c5
         try clear c5b0
         try clear c6
         try clear c6b0
         try clear c7
         try clear c7b0
         try clear hcz9_0
         try clear hcz9_1
         try clear hcz9_2
         try clear hcz9_3
         try clear hcz9_4
         try clear hfz9_0
         try clear hfz9_1
         try clear hfz9_2
         try clear hfz9_3
         try clear hfz9_4
         try clear hx154_0
         try clear hx154_1
         try clear hx154_2
         try clear hx154_3
         try clear hx154_4
         try clear p154
         try clear p2
         try clear q154
         obtain ⟨x4_3,x20_3,rfl,HA,HK3,HO_3,HO_4,BK155,HB⟩:=hrel
         cases gk with
         | zero => exact absurd HA.out (by simp [dsg_Edges.l1])
         | succ k3 =>
          have H:=HA.out
          clear HA
          simp only [dsg_Edges.l1] at H
          by_cases c10 : x20_3 < (l0.length : Int)
          ·rw [if_pos c10] at H
           have c10b0 : decide (x20_3 < (l0.length : Int)) = true:=decide_eq_true c10
           clear c10
           by_cases c11 : 0 ≤ x20_3
           ·rw [if_pos c11] at H
            have c11b0 : decide (0 ≤ x20_3) = true:=decide_eq_true c11
            clear c11
            by_cases c12 : x20_3 < (l0.length : Int)
            ·rw [if_pos c12] at H
             have c12b0 : decide (x20_3 < (l0.length : Int)) = true:=decide_eq_true c12
             clear c12
             by_cases c13 : x13_2 = x20_3
             ·rw [if_pos c13] at H
              have c13b0 : (x13_2 == x20_3) = true:=beq_iff_eq.mpr c13
              have c13b1 : (x13_2 != x20_3) = false:=bne_eq_false_iff_eq.mpr c13
              clear c13
              have H':=Aside0.mk H
              clear H
              have p156 : 0 ≤ (x20_3 : Int):=of_decide_eq_true (by first | (with_reducible assumption) | assumption)
              have q156 : x20_3 < (l0.length : Int):=of_decide_eq_true (by first | (with_reducible assumption) | assumption)
              obtain ⟨ad156,A156_2,c156_2,A156_3,c156_3,A156_4,c156_4,e156,hx156_0,hx156_1,hx156_2,hx156_3,hx156_4,hl156_2,hi156_2,hl156_3,hi156_3,hl156_4,hi156_4⟩:=at_T43 HR0.out x20_3 p156 q156
              obtain rfl : ad154 = ad156:=(by injection e156)
              replace hx156_0:=(HB.out.cell (World.block_lt_of_cell? w _ hx156_0)).trans hx156_0
              replace hx156_1:=(HB.out.cell (World.block_lt_of_cell? w _ hx156_1)).trans hx156_1
              replace hx156_2:=(HB.out.cell (World.block_lt_of_cell? w _ hx156_2)).trans hx156_2
              replace hx156_3:=(HB.out.cell (World.block_lt_of_cell? w _ hx156_3)).trans hx156_3
              replace hx156_4:=(HB.out.cell (World.block_lt_of_cell? w _ hx156_4)).trans hx156_4
              have HR156_2:=Aside0.mk hi156_2
              have HC156_2:=Aside0.mk hl156_2
              clear hi156_2 hl156_2
              have HR156_3:=Aside0.mk hi156_3
              have HC156_3:=Aside0.mk hl156_3
              clear hi156_3 hl156_3
              have HR156_4:=Aside0.mk hi156_4
              have HC156_4:=Aside0.mk hl156_4
              clear hi156_4 hl156_4
              replace p156:=eq_true p156
              replace q156:=eq_true q156
              try go_wp2_with (first | ((with_reducible refine gate_dst (N:=8) rfl ?_);refine box_event ?hg (N:=8) ?hd (cs:=#[.int .i64 0,.int .i64 0,.slice none 0 0,.slice none 0 0,.slice none 0 0]) (t:=43) ?hr ?_;(case hd => rfl);(case hg => rfl);(case hr => first | (go_simp;done) | (go_simp;rfl));intro gb157 hg w14 hbox hb;have n0_:=Aside0.mk (Kd.R_below (by (with_reducible repeat (first | apply Kd.R_alloc | apply Kd.R_drewN | apply Kd.R_drew));exact HO_3.out) hb);have n1_:=Aside0.mk (Kd.R_below (by (with_reducible repeat (first | apply Kd.R_alloc | apply Kd.R_drewN | apply Kd.R_drew));exact HO_4.out) hb);have n2_:=Aside0.mk (blk_below (g:=gb155) (o:=.cells #[.int .i64 ((rd_T43 l0 x13_2).f0),.int .i64 ((rd_T43 l0 x13_2).f1),.slice A154_2 ((rd_T43 l0 x13_2).f2).length c154_2,.slice A154_3 ((rd_T43 l0 x13_2).f3).length c154_3,.slice A154_4 ((rd_T43 l0 x13_2).f4).length c154_4] 43 (0,0)) (by (with_reducible repeat (first | refine blk_drewN ?_ _ | refine blk_drew ?_ | refine blk_alloc ?_ _));exact BK155.out) hb);have n3_:=Aside0.mk (below_step (by repeat (first | (with_reducible first | exact HB.out | apply below_alloc | apply pw_below_drewN | apply below_drew1 | refine below_set ?_ GE155.out) | exact HB.out)) hb);have n4_:=Aside0.mk (hbox);have n5_:=Aside0.mk ((by rw [hg];exact (below_size (by repeat (first | (with_reducible first | exact HB.out | apply below_alloc | apply pw_below_drewN | apply below_drew1 | refine below_set ?_ GE155.out) | exact HB.out))) : w.heap.size ≤ gb157));have n6_:=Aside0.mk ((by rw [hg];exact (below_size (by repeat (first | (with_reducible first | exact HB.out | apply below_alloc | apply pw_below_drewN | apply below_drew1 | refine below_set ?_ GE155.out) | exact HB.out))) : w.heap.size ≤ gb157));have n7_:=Aside0.mk ((by rw [hg];exact Nat.ne_of_lt (blk_lt (g:=gb155) (o:=.cells #[.int .i64 ((rd_T43 l0 x13_2).f0),.int .i64 ((rd_T43 l0 x13_2).f1),.slice A154_2 ((rd_T43 l0 x13_2).f2).length c154_2,.slice A154_3 ((rd_T43 l0 x13_2).f3).length c154_3,.slice A154_4 ((rd_T43 l0 x13_2).f4).length c154_4] 43 (0,0)) (by (with_reducible repeat (first | refine blk_drewN ?_ _ | refine blk_drew ?_ | refine blk_alloc ?_ _));exact BK155.out)) : gb155 ≠ gb157));have n8_:=Aside0.mk ((by rw [hg];exact Nat.ne_of_gt (blk_lt (g:=gb155) (o:=.cells #[.int .i64 ((rd_T43 l0 x13_2).f0),.int .i64 ((rd_T43 l0 x13_2).f1),.slice A154_2 ((rd_T43 l0 x13_2).f2).length c154_2,.slice A154_3 ((rd_T43 l0 x13_2).f3).length c154_3,.slice A154_4 ((rd_T43 l0 x13_2).f4).length c154_4] 43 (0,0)) (by (with_reducible repeat (first | refine blk_drewN ?_ _ | refine blk_drew ?_ | refine blk_alloc ?_ _));exact BK155.out)) : gb157 ≠ gb155));clear HO_3;clear HO_4;clear BK155;clear HB;have HO_3:=n0_;have HO_4:=n1_;have BK155:=n2_;have HB:=n3_;have BK157:=n4_;have GW157:=n5_;have GE157:=n6_;have NB155_157:=n7_;have NB157_155:=n8_;clear n0_ n1_ n2_ n3_ n4_ n5_ n6_ n7_ n8_;clear hb hbox hg;have hnb15:=NB157_155.out;have hnc15:=NB155_157.out;obtain ⟨hcz16_0,hcz16_1,hcz16_2,hcz16_3,hcz16_4⟩:=blkc_5 BK157.out;obtain ⟨hfz16_0,hfz16_1,hfz16_2,hfz16_3⟩:=blkz_4 BK157.out;have hfz16_4:=blk_frozen BK157.out 4))
              have n0_ : Aside0 (Kd.R (Kd.int .i64) 3 (((((w14.setCell ⟨gb157,0,none⟩ (.int .i64 ((rd_T43 l0 x20_3).f0))).setCell ⟨gb157,1,none⟩ (.int .i64 ((rd_T43 l0 x20_3).f1))).setCell ⟨gb157,2,none⟩ (.slice A156_2 ((rd_T43 l0 x20_3).f2).length c156_2)).setCell ⟨gb157,3,none⟩ (.slice A156_3 ((rd_T43 l0 x20_3).f3).length c156_3)).setCell ⟨gb157,4,none⟩ (.slice A156_4 ((rd_T43 l0 x20_3).f4).length c156_4)) w.heap.size (fun _ => True) v152 t151):=⟨by (with_reducible repeat (first | apply Kd.R_alloc | apply Kd.R_drewN | apply Kd.R_drew));exact Kd.R_mono (Kd.R_far (p:=⟨gb157,4,none⟩) (Kd.R_far (p:=⟨gb157,3,none⟩) (Kd.R_far (p:=⟨gb157,2,none⟩) (Kd.R_far (p:=⟨gb157,1,none⟩) (Kd.R_far (p:=⟨gb157,0,none⟩) (Kd.R_types HO_3.out BK157.out (by decide)) (fun _ hk => hk.2) (.int .i64 ((rd_T43 l0 x20_3).f0))) (fun _ hk => hk.2) (.int .i64 ((rd_T43 l0 x20_3).f1))) (fun _ hk => hk.2) (.slice A156_2 ((rd_T43 l0 x20_3).f2).length c156_2)) (fun _ hk => hk.2) (.slice A156_3 ((rd_T43 l0 x20_3).f3).length c156_3)) (fun _ hk => hk.2) (.slice A156_4 ((rd_T43 l0 x20_3).f4).length c156_4)) (fun _ hk => trivial)⟩
              have n1_ : Aside0 (Kd.R k33 33 (((((w14.setCell ⟨gb157,0,none⟩ (.int .i64 ((rd_T43 l0 x20_3).f0))).setCell ⟨gb157,1,none⟩ (.int .i64 ((rd_T43 l0 x20_3).f1))).setCell ⟨gb157,2,none⟩ (.slice A156_2 ((rd_T43 l0 x20_3).f2).length c156_2)).setCell ⟨gb157,3,none⟩ (.slice A156_3 ((rd_T43 l0 x20_3).f3).length c156_3)).setCell ⟨gb157,4,none⟩ (.slice A156_4 ((rd_T43 l0 x20_3).f4).length c156_4)) w.heap.size (fun _ => True) u4 x4_3):=⟨by (with_reducible repeat (first | apply Kd.R_alloc | apply Kd.R_drewN | apply Kd.R_drew));exact Kd.R_mono (Kd.R_far (p:=⟨gb157,4,none⟩) (Kd.R_far (p:=⟨gb157,3,none⟩) (Kd.R_far (p:=⟨gb157,2,none⟩) (Kd.R_far (p:=⟨gb157,1,none⟩) (Kd.R_far (p:=⟨gb157,0,none⟩) (Kd.R_types HO_4.out BK157.out (by decide)) (fun _ hk => hk.2) (.int .i64 ((rd_T43 l0 x20_3).f0))) (fun _ hk => hk.2) (.int .i64 ((rd_T43 l0 x20_3).f1))) (fun _ hk => hk.2) (.slice A156_2 ((rd_T43 l0 x20_3).f2).length c156_2)) (fun _ hk => hk.2) (.slice A156_3 ((rd_T43 l0 x20_3).f3).length c156_3)) (fun _ hk => hk.2) (.slice A156_4 ((rd_T43 l0 x20_3).f4).length c156_4)) (fun _ hk => trivial)⟩
              have n2_ : Aside0 ((((((w14.setCell ⟨gb157,0,none⟩ (.int .i64 ((rd_T43 l0 x20_3).f0))).setCell ⟨gb157,1,none⟩ (.int .i64 ((rd_T43 l0 x20_3).f1))).setCell ⟨gb157,2,none⟩ (.slice A156_2 ((rd_T43 l0 x20_3).f2).length c156_2)).setCell ⟨gb157,3,none⟩ (.slice A156_3 ((rd_T43 l0 x20_3).f3).length c156_3)).setCell ⟨gb157,4,none⟩ (.slice A156_4 ((rd_T43 l0 x20_3).f4).length c156_4)).heap[gb155]? = some (.cells #[.int .i64 ((rd_T43 l0 x13_2).f0),.int .i64 ((rd_T43 l0 x13_2).f1),.slice A154_2 ((rd_T43 l0 x13_2).f2).length c154_2,.slice A154_3 ((rd_T43 l0 x13_2).f3).length c154_3,.slice A154_4 ((rd_T43 l0 x13_2).f4).length c154_4] 43 (0,0))):=⟨by (with_reducible repeat (first | refine blk_drewN ?_ _ | refine blk_drew ?_ | refine blk_alloc ?_ _));refine blk_far ?_ NB155_157.out _;(with_reducible repeat (first | refine blk_drewN ?_ _ | refine blk_drew ?_ | refine blk_alloc ?_ _));refine blk_far ?_ NB155_157.out _;(with_reducible repeat (first | refine blk_drewN ?_ _ | refine blk_drew ?_ | refine blk_alloc ?_ _));refine blk_far ?_ NB155_157.out _;(with_reducible repeat (first | refine blk_drewN ?_ _ | refine blk_drew ?_ | refine blk_alloc ?_ _));refine blk_far ?_ NB155_157.out _;(with_reducible repeat (first | refine blk_drewN ?_ _ | refine blk_drew ?_ | refine blk_alloc ?_ _));refine blk_far ?_ NB155_157.out _;(with_reducible repeat (first | refine blk_drewN ?_ _ | refine blk_drew ?_ | refine blk_alloc ?_ _));exact BK155.out⟩
              have n3_ : Aside0 ((((((w14.setCell ⟨gb157,0,none⟩ (.int .i64 ((rd_T43 l0 x20_3).f0))).setCell ⟨gb157,1,none⟩ (.int .i64 ((rd_T43 l0 x20_3).f1))).setCell ⟨gb157,2,none⟩ (.slice A156_2 ((rd_T43 l0 x20_3).f2).length c156_2)).setCell ⟨gb157,3,none⟩ (.slice A156_3 ((rd_T43 l0 x20_3).f3).length c156_3)).setCell ⟨gb157,4,none⟩ (.slice A156_4 ((rd_T43 l0 x20_3).f4).length c156_4)).heap[gb157]? = some (.cells #[.int .i64 ((rd_T43 l0 x20_3).f0),.int .i64 ((rd_T43 l0 x20_3).f1),.slice A156_2 ((rd_T43 l0 x20_3).f2).length c156_2,.slice A156_3 ((rd_T43 l0 x20_3).f3).length c156_3,.slice A156_4 ((rd_T43 l0 x20_3).f4).length c156_4] 43 (0,0))):=⟨by (with_reducible repeat (first | refine blk_drewN ?_ _ | refine blk_drew ?_ | refine blk_alloc ?_ _));apply blkf_5_0_4;(with_reducible repeat (first | refine blk_drewN ?_ _ | refine blk_drew ?_ | refine blk_alloc ?_ _));exact BK157.out⟩
              have n4_ : Aside0 (Below w.heap.size w (((((w14.setCell ⟨gb157,0,none⟩ (.int .i64 ((rd_T43 l0 x20_3).f0))).setCell ⟨gb157,1,none⟩ (.int .i64 ((rd_T43 l0 x20_3).f1))).setCell ⟨gb157,2,none⟩ (.slice A156_2 ((rd_T43 l0 x20_3).f2).length c156_2)).setCell ⟨gb157,3,none⟩ (.slice A156_3 ((rd_T43 l0 x20_3).f3).length c156_3)).setCell ⟨gb157,4,none⟩ (.slice A156_4 ((rd_T43 l0 x20_3).f4).length c156_4))):=⟨by repeat (first | (with_reducible first | exact HB.out | apply below_alloc | apply pw_below_drewN | apply below_drew1 | refine below_set ?_ GE155.out | refine below_set ?_ GE157.out) | exact HB.out)⟩
              (try clear HO_3)
              (try clear HO_4)
              (try clear BK155)
              (try clear BK157)
              (try clear HB)
              generalize (((((w14.setCell ⟨gb157,0,none⟩ (.int .i64 ((rd_T43 l0 x20_3).f0))).setCell ⟨gb157,1,none⟩ (.int .i64 ((rd_T43 l0 x20_3).f1))).setCell ⟨gb157,2,none⟩ (.slice A156_2 ((rd_T43 l0 x20_3).f2).length c156_2)).setCell ⟨gb157,3,none⟩ (.slice A156_3 ((rd_T43 l0 x20_3).f3).length c156_3)).setCell ⟨gb157,4,none⟩ (.slice A156_4 ((rd_T43 l0 x20_3).f4).length c156_4)) = w17 at n0_ n1_ n2_ n3_ n4_ ⊢
              have HO_3:=n0_
              have HO_4:=n1_
              have BK155:=n2_
              have BK157:=n3_
              have HB:=n4_
              clear n0_ n1_ n2_ n3_ n4_
              have n0_:=Aside0.mk (Kd.R_drew HO_3.out)
              have n1_:=Aside0.mk (Kd.R_drew HO_4.out)
              have n2_:=Aside0.mk (blk_drew BK155.out)
              have n3_:=Aside0.mk (blk_drew BK157.out)
              have n4_:=Aside0.mk (below_drew1 HB.out)
              clear HO_3
              clear HO_4
              clear BK155
              clear BK157
              clear HB
              have HO_3:=n0_
              have HO_4:=n1_
              have BK155:=n2_
              have BK157:=n3_
              have HB:=n4_
              clear n0_ n1_ n2_ n3_ n4_
              refine start_ (n:=16) (S:=fun w' => True) (ds:=[]) #[ff,ff,ff,ff,ff,ff,ff,ff,ff,ff,ff,ff,ff,ff,ff,ff] (by kernel_rfl) rfl rfl trivial (fun hHeld => ?_);refine with_tabW dsg_Edges.tab9 dsg_Edges.bits9 (fun HT_ HW_ => ?_)
              generalize w17.drew = w18 at HO_3 HO_4 BK155 BK157 HB hHeld ⊢
              refine pure_ (i:=0) (N:=some 25) (v:=?_) (a':=?_) #[tt,ff,ff,ff,ff,ff,ff,ff,ff,ff,ff,ff,ff,ff,ff,ff] rfl rfl (any_of HT_.out (by kernel_rfl)) (fun _ _ _ h => h) (Or.inl ⟨by rfl,?_⟩) ?_ ?_
              rotate_left
              ·intro w'
               go_simp
               with_reducible rfl
              rotate_left
              ·simp only [Act.put,q1_,q2_,q3_,i64_w,i32_w]
               rfl
              refine pure_ (i:=1) (N:=some 26) (v:=?_) (a':=?_) #[tt,tt,ff,ff,ff,ff,ff,ff,ff,ff,ff,ff,ff,ff,ff,ff] rfl rfl (any_of HT_.out (by kernel_rfl)) (fun _ _ _ h => h) (Or.inl ⟨by rfl,?_⟩) ?_ ?_
              rotate_left
              ·intro w'
               go_simp
               with_reducible rfl
              rotate_left
              ·simp only [Act.put,q1_,q2_,q3_,i64_w,i32_w]
               rfl
              refine pure_ (i:=2) (N:=some 27) (v:=?_) (a':=?_) #[tt,tt,tt,ff,ff,ff,ff,ff,ff,ff,ff,ff,ff,ff,ff,ff] rfl rfl (any_of HT_.out (by kernel_rfl)) (fun _ _ _ h => h) (Or.inl ⟨by rfl,?_⟩) ?_ ?_
              rotate_left
              ·intro w'
               go_simp
               with_reducible rfl
              rotate_left
              ·simp only [Act.put,q1_,q2_,q3_,i64_w,i32_w]
               rfl
              refine pure_ (i:=3) (N:=some 28) (v:=?_) (a':=?_) #[tt,tt,tt,tt,ff,ff,ff,ff,ff,ff,ff,ff,ff,ff,ff,ff] rfl rfl (any_of HT_.out (by kernel_rfl)) (fun _ _ _ h => h) (Or.inl ⟨by rfl,?_⟩) ?_ ?_
              rotate_left
              ·intro w'
               go_simp
               with_reducible rfl
              rotate_left
              ·simp only [Act.put,q1_,q2_,q3_,i64_w,i32_w]
               rfl
              refine pure_ (i:=4) (N:=some 29) (v:=undef) (a':=?_) #[tt,tt,tt,tt,tt,ff,ff,ff,ff,ff,ff,ff,ff,ff,ff,ff] rfl rfl (any_of HT_.out (by kernel_rfl)) (fun _ _ _ h => h) (Or.inr ⟨by rfl,rfl⟩) ?_ ?_
              rotate_left
              ·simp only [Act.put,q1_,q2_,q3_,i64_w,i32_w]
               rfl
              refine pure_ (i:=5) (N:=some 30) (v:=undef) (a':=?_) #[tt,tt,tt,tt,tt,tt,ff,ff,ff,ff,ff,ff,ff,ff,ff,ff] rfl rfl (any_of HT_.out (by kernel_rfl)) (fun _ _ _ h => h) (Or.inr ⟨by rfl,rfl⟩) ?_ ?_
              rotate_left
              ·simp only [Act.put,q1_,q2_,q3_,i64_w,i32_w]
               rfl
              refine pure_ (i:=6) (N:=some 31) (v:=undef) (a':=?_) #[tt,tt,tt,tt,tt,tt,tt,ff,ff,ff,ff,ff,ff,ff,ff,ff] rfl rfl (any_of HT_.out (by kernel_rfl)) (fun _ _ _ h => h) (Or.inr ⟨by rfl,rfl⟩) ?_ ?_
              rotate_left
              ·simp only [Act.put,q1_,q2_,q3_,i64_w,i32_w]
               rfl
              refine pure_ (i:=7) (N:=some 32) (v:=undef) (a':=?_) #[tt,tt,tt,tt,tt,tt,tt,tt,ff,ff,ff,ff,ff,ff,ff,ff] rfl rfl (any_of HT_.out (by kernel_rfl)) (fun _ _ _ h => h) (Or.inr ⟨by rfl,rfl⟩) ?_ ?_
              rotate_left
              ·simp only [Act.put,q1_,q2_,q3_,i64_w,i32_w]
               rfl
              refine pure_ (i:=8) (N:=some 33) (v:=undef) (a':=?_) #[tt,tt,tt,tt,tt,tt,tt,tt,tt,ff,ff,ff,ff,ff,ff,ff] rfl rfl (any_of HT_.out (by kernel_rfl)) (fun _ _ _ h => h) (Or.inr ⟨by rfl,rfl⟩) ?_ ?_
              rotate_left
              ·simp only [Act.put,q1_,q2_,q3_,i64_w,i32_w]
               rfl
              refine pure_ (i:=9) (N:=some 34) (v:=undef) (a':=?_) #[tt,tt,tt,tt,tt,tt,tt,tt,tt,tt,ff,ff,ff,ff,ff,ff] rfl rfl (any_of HT_.out (by kernel_rfl)) (fun _ _ _ h => h) (Or.inr ⟨by rfl,rfl⟩) ?_ ?_
              rotate_left
              ·simp only [Act.put,q1_,q2_,q3_,i64_w,i32_w]
               rfl
              refine pure_ (i:=10) (N:=some 35) (v:=undef) (a':=?_) #[tt,tt,tt,tt,tt,tt,tt,tt,tt,tt,tt,ff,ff,ff,ff,ff] rfl rfl (any_of HT_.out (by kernel_rfl)) (fun _ _ _ h => h) (Or.inr ⟨by rfl,rfl⟩) ?_ ?_
              rotate_left
              ·simp only [Act.put,q1_,q2_,q3_,i64_w,i32_w]
               rfl
              refine pure_ (i:=11) (N:=some 36) (v:=undef) (a':=?_) #[tt,tt,tt,tt,tt,tt,tt,tt,tt,tt,tt,tt,ff,ff,ff,ff] rfl rfl (any_of HT_.out (by kernel_rfl)) (fun _ _ _ h => h) (Or.inr ⟨by rfl,rfl⟩) ?_ ?_
              rotate_left
              ·simp only [Act.put,q1_,q2_,q3_,i64_w,i32_w]
               rfl
              refine pure_ (i:=12) (N:=some 37) (v:=undef) (a':=?_) #[tt,tt,tt,tt,tt,tt,tt,tt,tt,tt,tt,tt,tt,ff,ff,ff] rfl rfl (any_of HT_.out (by kernel_rfl)) (fun _ _ _ h => h) (Or.inr ⟨by rfl,rfl⟩) ?_ ?_
              rotate_left
              ·simp only [Act.put,q1_,q2_,q3_,i64_w,i32_w]
               rfl
              refine pure_ (i:=13) (N:=some 38) (v:=undef) (a':=?_) #[tt,tt,tt,tt,tt,tt,tt,tt,tt,tt,tt,tt,tt,tt,ff,ff] rfl rfl (any_of HT_.out (by kernel_rfl)) (fun _ _ _ h => h) (Or.inr ⟨by rfl,rfl⟩) ?_ ?_
              rotate_left
              ·simp only [Act.put,q1_,q2_,q3_,i64_w,i32_w]
               rfl
              refine pure_ (i:=14) (N:=some 39) (v:=undef) (a':=?_) #[tt,tt,tt,tt,tt,tt,tt,tt,tt,tt,tt,tt,tt,tt,tt,ff] rfl rfl (any_of HT_.out (by kernel_rfl)) (fun _ _ _ h => h) (Or.inr ⟨by rfl,rfl⟩) ?_ ?_
              rotate_left
              ·simp only [Act.put,q1_,q2_,q3_,i64_w,i32_w]
               rfl
              refine pure_ (i:=15) (N:=some 40) (v:=?_) (a':=?_) #[tt,tt,tt,tt,tt,tt,tt,tt,tt,tt,tt,tt,tt,tt,tt,tt] rfl rfl (any_of HT_.out (by kernel_rfl)) (fun _ _ _ h => h) (Or.inl ⟨by rfl,?_⟩) ?_ ?_
              rotate_left
              ·intro w'
               go_simp
               with_reducible rfl
              rotate_left
              ·simp only [Act.put,q1_,q2_,q3_,i64_w,i32_w]
               rfl
              refine done_ (done_of HT_.out (by kernel_rfl)) ?_
              try go_wp2
              go_roundg k3
              case measure => have:=HJ2.out;have:=HK2.out;have:=HK3.out;omega
              case rel => exact ⟨(x4_3),(wrap64 (x20_3 + 1)),(by first | rfl | (simp;done) | (simp [*];done)),H',⟨by have:=HJ2.out;have:=HK2.out;have:=HK3.out;omega⟩,⟨by (with_reducible repeat (first | apply Kd.R_alloc | apply Kd.R_drewN | apply Kd.R_drew));exact HO_3.out⟩,⟨by (with_reducible repeat (first | apply Kd.R_alloc | apply Kd.R_drewN | apply Kd.R_drew));exact HO_4.out⟩,⟨by (with_reducible repeat (first | refine blk_drewN ?_ _ | refine blk_drew ?_ | refine blk_alloc ?_ _));exact BK155.out⟩,⟨by repeat (first | (with_reducible first | exact HB.out | apply below_alloc | apply pw_below_drewN | apply below_drew1 | refine below_set ?_ GE155.out | refine below_set ?_ GE157.out) | exact HB.out)⟩⟩
             ·rw [if_neg c13] at H
              have c13b0 : (x13_2 == x20_3) = false:=beq_eq_false_iff_ne.mpr c13
              have c13b1 : (x13_2 != x20_3) = true:=bne_iff_ne.mpr c13
              by_cases c19 : 0 ≤ x13_2
              ·rw [if_pos c19] at H
               have c19b0 : decide (0 ≤ x13_2) = true:=decide_eq_true c19
               clear c19
               by_cases c20 : x13_2 < (t151.length : Int)
               ·rw [if_pos c20] at H
                have c20b0 : decide (x13_2 < (t151.length : Int)) = true:=decide_eq_true c20
                clear c20
                by_cases c21 : x20_3 < (t151.length : Int)
                ·rw [if_pos c21] at H
                 have c21b0 : decide (x20_3 < (t151.length : Int)) = true:=decide_eq_true c21
                 clear c21
                 replace H:=Option.bind_eq_some_iff.mp H
                 obtain ⟨t160,A220,H⟩:=H
                 replace H : (if t160 = true then (if x4_3.length < 8796093022208 then (dsg_Edges.j3 k3 l0 t151 (x4_3 ++ [(⟨x13_2,x20_3⟩ : S33)]) x13_2 l0 (l0.length : Int) x13_2 l0 (l0.length : Int) (wrap64 (x20_3 + 1)) ((rd_T43 l0 x13_2).f0) ((rd_T43 l0 x13_2).f1) ((rd_T43 l0 x13_2).f2) ((rd_T43 l0 x13_2).f3) ((rd_T43 l0 x13_2).f4)) else (none)) else (dsg_Edges.l1 k3 l0 t151 x4_3 x13_2 l0 (l0.length : Int) x13_2 l0 (l0.length : Int) (wrap64 (x20_3 + 1)) ((rd_T43 l0 x13_2).f0) ((rd_T43 l0 x13_2).f1) ((rd_T43 l0 x13_2).f2) ((rd_T43 l0 x13_2).f3) ((rd_T43 l0 x13_2).f4))) = some r:=H
                 have A22:=Aside0.mk A220
                 clear A220
                 by_cases c23 : t160 = true
                 ·subst c23
                  have H1 : (if x4_3.length < 8796093022208 then (dsg_Edges.j3 k3 l0 t151 (x4_3 ++ [(⟨x13_2,x20_3⟩ : S33)]) x13_2 l0 (l0.length : Int) x13_2 l0 (l0.length : Int) (wrap64 (x20_3 + 1)) ((rd_T43 l0 x13_2).f0) ((rd_T43 l0 x13_2).f1) ((rd_T43 l0 x13_2).f2) ((rd_T43 l0 x13_2).f3) ((rd_T43 l0 x13_2).f4)) else (none)) = some r:=by rw [if_pos rfl] at H;exact H
                  clear H
                  have H:=H1
                  clear H1
                  by_cases c24 : x4_3.length < 8796093022208
                  ·rw [if_pos c24] at H
                   have LMc24:=Aside0.mk c24
                   clear c24
                   obtain ⟨y161,hy161⟩ : ∃ y_ : List (S33),y_ = (x4_3 ++ [(⟨x13_2,x20_3⟩ : S33)]):=⟨_,rfl⟩
                   replace H : (dsg_Edges.j3 k3 l0 t151 y161 x13_2 l0 (l0.length : Int) x13_2 l0 (l0.length : Int) (wrap64 (x20_3 + 1)) ((rd_T43 l0 x13_2).f0) ((rd_T43 l0 x13_2).f1) ((rd_T43 l0 x13_2).f2) ((rd_T43 l0 x13_2).f3) ((rd_T43 l0 x13_2).f4)) = some r:=by first | (rw [hy161];with_reducible exact H) | (have H2_:=(Option.bind_some _ _).symm.trans H;rw [hy161];with_reducible exact H2_) | (have H2_:=(Option.bind_some _ _).symm.trans H;with_reducible exact H2_) | with_reducible exact H | (rw [hy161];exact H) | exact H
                   have Ny161:=Aside0.mk hy161
                   clear hy161
                   have HC25:=Aside0.mk H
                   clear H
                   have p156 : 0 ≤ (x20_3 : Int):=of_decide_eq_true (by first | (with_reducible assumption) | assumption)
                   have q156 : x20_3 < (l0.length : Int):=of_decide_eq_true (by first | (with_reducible assumption) | assumption)
                   obtain ⟨ad156,A156_2,c156_2,A156_3,c156_3,A156_4,c156_4,e156,hx156_0,hx156_1,hx156_2,hx156_3,hx156_4,hl156_2,hi156_2,hl156_3,hi156_3,hl156_4,hi156_4⟩:=at_T43 HR0.out x20_3 p156 q156
                   obtain rfl : ad154 = ad156:=(by injection e156)
                   replace hx156_0:=(HB.out.cell (World.block_lt_of_cell? w _ hx156_0)).trans hx156_0
                   replace hx156_1:=(HB.out.cell (World.block_lt_of_cell? w _ hx156_1)).trans hx156_1
                   replace hx156_2:=(HB.out.cell (World.block_lt_of_cell? w _ hx156_2)).trans hx156_2
                   replace hx156_3:=(HB.out.cell (World.block_lt_of_cell? w _ hx156_3)).trans hx156_3
                   replace hx156_4:=(HB.out.cell (World.block_lt_of_cell? w _ hx156_4)).trans hx156_4
                   have HR156_2:=Aside0.mk hi156_2
                   have HC156_2:=Aside0.mk hl156_2
                   clear hi156_2 hl156_2
                   have HR156_3:=Aside0.mk hi156_3
                   have HC156_3:=Aside0.mk hl156_3
                   clear hi156_3 hl156_3
                   have HR156_4:=Aside0.mk hi156_4
                   have HC156_4:=Aside0.mk hl156_4
                   clear hi156_4 hl156_4
                   replace p156:=eq_true p156
                   replace q156:=eq_true q156
                   try go_wp2_with (first | ((with_reducible refine gate_dst (N:=8) rfl ?_);refine box_event ?hg (N:=8) ?hd (cs:=#[.int .i64 0,.int .i64 0,.slice none 0 0,.slice none 0 0,.slice none 0 0]) (t:=43) ?hr ?_;(case hd => rfl);(case hg => rfl);(case hr => first | (go_simp;done) | (go_simp;rfl));intro gb157 hg w26 hbox hb;have n0_:=Aside0.mk (Kd.R_below (by (with_reducible repeat (first | apply Kd.R_alloc | apply Kd.R_drewN | apply Kd.R_drew));exact HO_3.out) hb);have n1_:=Aside0.mk (Kd.R_below (by (with_reducible repeat (first | apply Kd.R_alloc | apply Kd.R_drewN | apply Kd.R_drew));exact HO_4.out) hb);have n2_:=Aside0.mk (blk_below (g:=gb155) (o:=.cells #[.int .i64 ((rd_T43 l0 x13_2).f0),.int .i64 ((rd_T43 l0 x13_2).f1),.slice A154_2 ((rd_T43 l0 x13_2).f2).length c154_2,.slice A154_3 ((rd_T43 l0 x13_2).f3).length c154_3,.slice A154_4 ((rd_T43 l0 x13_2).f4).length c154_4] 43 (0,0)) (by (with_reducible repeat (first | refine blk_drewN ?_ _ | refine blk_drew ?_ | refine blk_alloc ?_ _));exact BK155.out) hb);have n3_:=Aside0.mk (below_step (by repeat (first | (with_reducible first | exact HB.out | apply below_alloc | apply pw_below_drewN | apply below_drew1 | refine below_set ?_ GE155.out) | exact HB.out)) hb);have n4_:=Aside0.mk (hbox);have n5_:=Aside0.mk ((by rw [hg];exact (below_size (by repeat (first | (with_reducible first | exact HB.out | apply below_alloc | apply pw_below_drewN | apply below_drew1 | refine below_set ?_ GE155.out) | exact HB.out))) : w.heap.size ≤ gb157));have n6_:=Aside0.mk ((by rw [hg];exact (below_size (by repeat (first | (with_reducible first | exact HB.out | apply below_alloc | apply pw_below_drewN | apply below_drew1 | refine below_set ?_ GE155.out) | exact HB.out))) : w.heap.size ≤ gb157));have n7_:=Aside0.mk ((by rw [hg];exact Nat.ne_of_lt (blk_lt (g:=gb155) (o:=.cells #[.int .i64 ((rd_T43 l0 x13_2).f0),.int .i64 ((rd_T43 l0 x13_2).f1),.slice A154_2 ((rd_T43 l0 x13_2).f2).length c154_2,.slice A154_3 ((rd_T43 l0 x13_2).f3).length c154_3,.slice A154_4 ((rd_T43 l0 x13_2).f4).length c154_4] 43 (0,0)) (by (with_reducible repeat (first | refine blk_drewN ?_ _ | refine blk_drew ?_ | refine blk_alloc ?_ _));exact BK155.out)) : gb155 ≠ gb157));have n8_:=Aside0.mk ((by rw [hg];exact Nat.ne_of_gt (blk_lt (g:=gb155) (o:=.cells #[.int .i64 ((rd_T43 l0 x13_2).f0),.int .i64 ((rd_T43 l0 x13_2).f1),.slice A154_2 ((rd_T43 l0 x13_2).f2).length c154_2,.slice A154_3 ((rd_T43 l0 x13_2).f3).length c154_3,.slice A154_4 ((rd_T43 l0 x13_2).f4).length c154_4] 43 (0,0)) (by (with_reducible repeat (first | refine blk_drewN ?_ _ | refine blk_drew ?_ | refine blk_alloc ?_ _));exact BK155.out)) : gb157 ≠ gb155));clear HO_3;clear HO_4;clear BK155;clear HB;have HO_3:=n0_;have HO_4:=n1_;have BK155:=n2_;have HB:=n3_;have BK157:=n4_;have GW157:=n5_;have GE157:=n6_;have NB155_157:=n7_;have NB157_155:=n8_;clear n0_ n1_ n2_ n3_ n4_ n5_ n6_ n7_ n8_;clear hb hbox hg;have hnb27:=NB157_155.out;have hnc27:=NB155_157.out;obtain ⟨hcz28_0,hcz28_1,hcz28_2,hcz28_3,hcz28_4⟩:=blkc_5 BK157.out;obtain ⟨hfz28_0,hfz28_1,hfz28_2,hfz28_3⟩:=blkz_4 BK157.out;have hfz28_4:=blk_frozen BK157.out 4))
                   have n0_ : Aside0 (Kd.R (Kd.int .i64) 3 (((((w26.setCell ⟨gb157,0,none⟩ (.int .i64 ((rd_T43 l0 x20_3).f0))).setCell ⟨gb157,1,none⟩ (.int .i64 ((rd_T43 l0 x20_3).f1))).setCell ⟨gb157,2,none⟩ (.slice A156_2 ((rd_T43 l0 x20_3).f2).length c156_2)).setCell ⟨gb157,3,none⟩ (.slice A156_3 ((rd_T43 l0 x20_3).f3).length c156_3)).setCell ⟨gb157,4,none⟩ (.slice A156_4 ((rd_T43 l0 x20_3).f4).length c156_4)) w.heap.size (fun _ => True) v152 t151):=⟨by (with_reducible repeat (first | apply Kd.R_alloc | apply Kd.R_drewN | apply Kd.R_drew));exact Kd.R_mono (Kd.R_far (p:=⟨gb157,4,none⟩) (Kd.R_far (p:=⟨gb157,3,none⟩) (Kd.R_far (p:=⟨gb157,2,none⟩) (Kd.R_far (p:=⟨gb157,1,none⟩) (Kd.R_far (p:=⟨gb157,0,none⟩) (Kd.R_types HO_3.out BK157.out (by decide)) (fun _ hk => hk.2) (.int .i64 ((rd_T43 l0 x20_3).f0))) (fun _ hk => hk.2) (.int .i64 ((rd_T43 l0 x20_3).f1))) (fun _ hk => hk.2) (.slice A156_2 ((rd_T43 l0 x20_3).f2).length c156_2)) (fun _ hk => hk.2) (.slice A156_3 ((rd_T43 l0 x20_3).f3).length c156_3)) (fun _ hk => hk.2) (.slice A156_4 ((rd_T43 l0 x20_3).f4).length c156_4)) (fun _ hk => trivial)⟩
                   have n1_ : Aside0 (Kd.R k33 33 (((((w26.setCell ⟨gb157,0,none⟩ (.int .i64 ((rd_T43 l0 x20_3).f0))).setCell ⟨gb157,1,none⟩ (.int .i64 ((rd_T43 l0 x20_3).f1))).setCell ⟨gb157,2,none⟩ (.slice A156_2 ((rd_T43 l0 x20_3).f2).length c156_2)).setCell ⟨gb157,3,none⟩ (.slice A156_3 ((rd_T43 l0 x20_3).f3).length c156_3)).setCell ⟨gb157,4,none⟩ (.slice A156_4 ((rd_T43 l0 x20_3).f4).length c156_4)) w.heap.size (fun _ => True) u4 x4_3):=⟨by (with_reducible repeat (first | apply Kd.R_alloc | apply Kd.R_drewN | apply Kd.R_drew));exact Kd.R_mono (Kd.R_far (p:=⟨gb157,4,none⟩) (Kd.R_far (p:=⟨gb157,3,none⟩) (Kd.R_far (p:=⟨gb157,2,none⟩) (Kd.R_far (p:=⟨gb157,1,none⟩) (Kd.R_far (p:=⟨gb157,0,none⟩) (Kd.R_types HO_4.out BK157.out (by decide)) (fun _ hk => hk.2) (.int .i64 ((rd_T43 l0 x20_3).f0))) (fun _ hk => hk.2) (.int .i64 ((rd_T43 l0 x20_3).f1))) (fun _ hk => hk.2) (.slice A156_2 ((rd_T43 l0 x20_3).f2).length c156_2)) (fun _ hk => hk.2) (.slice A156_3 ((rd_T43 l0 x20_3).f3).length c156_3)) (fun _ hk => hk.2) (.slice A156_4 ((rd_T43 l0 x20_3).f4).length c156_4)) (fun _ hk => trivial)⟩
                   have n2_ : Aside0 ((((((w26.setCell ⟨gb157,0,none⟩ (.int .i64 ((rd_T43 l0 x20_3).f0))).setCell ⟨gb157,1,none⟩ (.int .i64 ((rd_T43 l0 x20_3).f1))).setCell ⟨gb157,2,none⟩ (.slice A156_2 ((rd_T43 l0 x20_3).f2).length c156_2)).setCell ⟨gb157,3,none⟩ (.slice A156_3 ((rd_T43 l0 x20_3).f3).length c156_3)).setCell ⟨gb157,4,none⟩ (.slice A156_4 ((rd_T43 l0 x20_3).f4).length c156_4)).heap[gb155]? = some (.cells #[.int .i64 ((rd_T43 l0 x13_2).f0),.int .i64 ((rd_T43 l0 x13_2).f1),.slice A154_2 ((rd_T43 l0 x13_2).f2).length c154_2,.slice A154_3 ((rd_T43 l0 x13_2).f3).length c154_3,.slice A154_4 ((rd_T43 l0 x13_2).f4).length c154_4] 43 (0,0))):=⟨by (with_reducible repeat (first | refine blk_drewN ?_ _ | refine blk_drew ?_ | refine blk_alloc ?_ _));refine blk_far ?_ NB155_157.out _;(with_reducible repeat (first | refine blk_drewN ?_ _ | refine blk_drew ?_ | refine blk_alloc ?_ _));refine blk_far ?_ NB155_157.out _;(with_reducible repeat (first | refine blk_drewN ?_ _ | refine blk_drew ?_ | refine blk_alloc ?_ _));refine blk_far ?_ NB155_157.out _;(with_reducible repeat (first | refine blk_drewN ?_ _ | refine blk_drew ?_ | refine blk_alloc ?_ _));refine blk_far ?_ NB155_157.out _;(with_reducible repeat (first | refine blk_drewN ?_ _ | refine blk_drew ?_ | refine blk_alloc ?_ _));refine blk_far ?_ NB155_157.out _;(with_reducible repeat (first | refine blk_drewN ?_ _ | refine blk_drew ?_ | refine blk_alloc ?_ _));exact BK155.out⟩
                   have n3_ : Aside0 ((((((w26.setCell ⟨gb157,0,none⟩ (.int .i64 ((rd_T43 l0 x20_3).f0))).setCell ⟨gb157,1,none⟩ (.int .i64 ((rd_T43 l0 x20_3).f1))).setCell ⟨gb157,2,none⟩ (.slice A156_2 ((rd_T43 l0 x20_3).f2).length c156_2)).setCell ⟨gb157,3,none⟩ (.slice A156_3 ((rd_T43 l0 x20_3).f3).length c156_3)).setCell ⟨gb157,4,none⟩ (.slice A156_4 ((rd_T43 l0 x20_3).f4).length c156_4)).heap[gb157]? = some (.cells #[.int .i64 ((rd_T43 l0 x20_3).f0),.int .i64 ((rd_T43 l0 x20_3).f1),.slice A156_2 ((rd_T43 l0 x20_3).f2).length c156_2,.slice A156_3 ((rd_T43 l0 x20_3).f3).length c156_3,.slice A156_4 ((rd_T43 l0 x20_3).f4).length c156_4] 43 (0,0))):=⟨by (with_reducible repeat (first | refine blk_drewN ?_ _ | refine blk_drew ?_ | refine blk_alloc ?_ _));apply blkf_5_0_4;(with_reducible repeat (first | refine blk_drewN ?_ _ | refine blk_drew ?_ | refine blk_alloc ?_ _));exact BK157.out⟩
                   have n4_ : Aside0 (Below w.heap.size w (((((w26.setCell ⟨gb157,0,none⟩ (.int .i64 ((rd_T43 l0 x20_3).f0))).setCell ⟨gb157,1,none⟩ (.int .i64 ((rd_T43 l0 x20_3).f1))).setCell ⟨gb157,2,none⟩ (.slice A156_2 ((rd_T43 l0 x20_3).f2).length c156_2)).setCell ⟨gb157,3,none⟩ (.slice A156_3 ((rd_T43 l0 x20_3).f3).length c156_3)).setCell ⟨gb157,4,none⟩ (.slice A156_4 ((rd_T43 l0 x20_3).f4).length c156_4))):=⟨by repeat (first | (with_reducible first | exact HB.out | apply below_alloc | apply pw_below_drewN | apply below_drew1 | refine below_set ?_ GE155.out | refine below_set ?_ GE157.out) | exact HB.out)⟩
                   (try clear HO_3)
                   (try clear HO_4)
                   (try clear BK155)
                   (try clear BK157)
                   (try clear HB)
                   generalize (((((w26.setCell ⟨gb157,0,none⟩ (.int .i64 ((rd_T43 l0 x20_3).f0))).setCell ⟨gb157,1,none⟩ (.int .i64 ((rd_T43 l0 x20_3).f1))).setCell ⟨gb157,2,none⟩ (.slice A156_2 ((rd_T43 l0 x20_3).f2).length c156_2)).setCell ⟨gb157,3,none⟩ (.slice A156_3 ((rd_T43 l0 x20_3).f3).length c156_3)).setCell ⟨gb157,4,none⟩ (.slice A156_4 ((rd_T43 l0 x20_3).f4).length c156_4)) = w29 at n0_ n1_ n2_ n3_ n4_ ⊢
                   have HO_3:=n0_
                   have HO_4:=n1_
                   have BK155:=n2_
                   have BK157:=n3_
                   have HB:=n4_
                   clear n0_ n1_ n2_ n3_ n4_
                   have n0_:=Aside0.mk (Kd.R_drew HO_3.out)
                   have n1_:=Aside0.mk (Kd.R_drew HO_4.out)
                   have n2_:=Aside0.mk (blk_drew BK155.out)
                   have n3_:=Aside0.mk (blk_drew BK157.out)
                   have n4_:=Aside0.mk (below_drew1 HB.out)
                   clear HO_3
                   clear HO_4
                   clear BK155
                   clear BK157
                   clear HB
                   have HO_3:=n0_
                   have HO_4:=n1_
                   have BK155:=n2_
                   have BK157:=n3_
                   have HB:=n4_
                   clear n0_ n1_ n2_ n3_ n4_
                   obtain ⟨Ao31,co31,eo31⟩:=Kd.R_slice HO_3.out
                   (first | subst eo31 | (injection eo31 with f1_ f2_ f3_;have f4_:=f1_.symm;have f5_:=f3_.symm;clear f1_ f2_ f3_;subst f4_;subst f5_))
                   have p158 : 0 ≤ (x13_2 : Int):=of_decide_eq_true (by first | (with_reducible assumption) | assumption)
                   have q158 : x13_2 < (t151.length : Int):=of_decide_eq_true (by first | (with_reducible assumption) | assumption)
                   obtain ⟨ad158,e158,hx158_0⟩:=Kd.at_int (Kd.R_reads' HO_3.out).2.2 x13_2 p158 q158
                   cases e158
                   replace p158:=eq_true p158
                   replace q158:=eq_true q158
                   have p159 : 0 ≤ (x20_3 : Int):=of_decide_eq_true (by first | (with_reducible assumption) | assumption)
                   have q159 : x20_3 < (t151.length : Int):=of_decide_eq_true (by first | (with_reducible assumption) | assumption)
                   obtain ⟨ad159,e159,hx159_0⟩:=Kd.at_int (Kd.R_reads' HO_3.out).2.2 x20_3 p159 q159
                   obtain rfl : ad158 = ad159:=(by injection e159)
                   replace p159:=eq_true p159
                   replace q159:=eq_true q159
                   refine start_ (n:=16) (S:=fun w' => w'.cell? ⟨gb155,0,none⟩ = some (.int .i64 ((rd_T43 l0 x13_2).f0)) ∧ w'.cell? ⟨gb155,1,none⟩ = some (.int .i64 ((rd_T43 l0 x13_2).f1)) ∧ w'.cell? ⟨gb155,2,none⟩ = some (.slice A154_2 ((rd_T43 l0 x13_2).f2).length c154_2) ∧ w'.cell? ⟨gb155,3,none⟩ = some (.slice A154_3 ((rd_T43 l0 x13_2).f3).length c154_3) ∧ w'.cell? ⟨gb155,4,none⟩ = some (.slice A154_4 ((rd_T43 l0 x13_2).f4).length c154_4) ∧ w'.cell? ⟨gb157,0,none⟩ = some (.int .i64 ((rd_T43 l0 x20_3).f0)) ∧ w'.cell? ⟨gb157,1,none⟩ = some (.int .i64 ((rd_T43 l0 x20_3).f1)) ∧ w'.cell? ⟨gb157,2,none⟩ = some (.slice A156_2 ((rd_T43 l0 x20_3).f2).length c156_2) ∧ w'.cell? ⟨gb157,3,none⟩ = some (.slice A156_3 ((rd_T43 l0 x20_3).f3).length c156_3) ∧ w'.cell? ⟨gb157,4,none⟩ = some (.slice A156_4 ((rd_T43 l0 x20_3).f4).length c156_4) ∧ w'.cell? (ad158.add (x13_2).toNat) = some (.int .i64 (rd t151 x13_2)) ∧ w'.cell? (ad158.add (x20_3).toNat) = some (.int .i64 (rd t151 x20_3))) (ds:=[14]) #[ff,ff,ff,ff,ff,ff,ff,ff,ff,ff,ff,ff,ff,ff,ff,ff] (by kernel_rfl) rfl rfl ⟨(blk_cell BK155.out 0).trans rfl,(blk_cell BK155.out 1).trans rfl,(blk_cell BK155.out 2).trans rfl,(blk_cell BK155.out 3).trans rfl,(blk_cell BK155.out 4).trans rfl,(blk_cell BK157.out 0).trans rfl,(blk_cell BK157.out 1).trans rfl,(blk_cell BK157.out 2).trans rfl,(blk_cell BK157.out 3).trans rfl,(blk_cell BK157.out 4).trans rfl,hx158_0,hx159_0⟩ (fun hHeld => ?_);refine with_tabW dsg_Edges.tab9 dsg_Edges.bits9 (fun HT_ HW_ => ?_)
                   generalize w29.drew = w30 at HO_3 HO_4 BK155 BK157 HB hx158_0 hx159_0 hHeld ⊢
                   refine pure_ (i:=0) (N:=some 25) (v:=?_) (a':=?_) #[tt,ff,ff,ff,ff,ff,ff,ff,ff,ff,ff,ff,ff,ff,ff,ff] rfl rfl (any_of HT_.out (by kernel_rfl)) (fun _ _ _ h => h) (Or.inl ⟨by rfl,?_⟩) ?_ ?_
                   rotate_left
                   ·intro w'
                    go_simp
                    with_reducible rfl
                   rotate_left
                   ·simp only [Act.put,q1_,q2_,q3_,i64_w,i32_w]
                    rfl
                   refine pure_ (i:=1) (N:=some 26) (v:=?_) (a':=?_) #[tt,tt,ff,ff,ff,ff,ff,ff,ff,ff,ff,ff,ff,ff,ff,ff] rfl rfl (any_of HT_.out (by kernel_rfl)) (fun _ _ _ h => h) (Or.inl ⟨by rfl,?_⟩) ?_ ?_
                   rotate_left
                   ·intro w'
                    go_simp
                    with_reducible rfl
                   rotate_left
                   ·simp only [Act.put,q1_,q2_,q3_,i64_w,i32_w]
                    rfl
                   refine pure_ (i:=2) (N:=some 27) (v:=?_) (a':=?_) #[tt,tt,tt,ff,ff,ff,ff,ff,ff,ff,ff,ff,ff,ff,ff,ff] rfl rfl (any_of HT_.out (by kernel_rfl)) (fun _ _ _ h => h) (Or.inl ⟨by rfl,?_⟩) ?_ ?_
                   rotate_left
                   ·intro w'
                    go_simp
                    with_reducible rfl
                   rotate_left
                   ·simp only [Act.put,q1_,q2_,q3_,i64_w,i32_w]
                    rfl
                   refine pure_ (i:=3) (N:=some 28) (v:=?_) (a':=?_) #[tt,tt,tt,tt,ff,ff,ff,ff,ff,ff,ff,ff,ff,ff,ff,ff] rfl rfl (any_of HT_.out (by kernel_rfl)) (fun _ _ _ h => h) (Or.inl ⟨by rfl,?_⟩) ?_ ?_
                   rotate_left
                   ·intro w'
                    go_simp
                    with_reducible rfl
                   rotate_left
                   ·simp only [Act.put,q1_,q2_,q3_,i64_w,i32_w]
                    rfl
                   refine pure_ (i:=6) (N:=some 31) (v:=?_) (a':=?_) #[tt,tt,tt,tt,ff,ff,tt,ff,ff,ff,ff,ff,ff,ff,ff,ff] rfl rfl (any_of HT_.out (by kernel_rfl)) (fun _ _ _ h => h) (Or.inl ⟨by rfl,?_⟩) ?_ ?_
                   rotate_left
                   ·intro w'
                    go_simp
                    with_reducible rfl
                   rotate_left
                   ·simp only [Act.put,q1_,q2_,q3_,i64_w,i32_w]
                    rfl
                   refine pure_ (i:=7) (N:=some 32) (v:=?_) (a':=?_) #[tt,tt,tt,tt,ff,ff,tt,tt,ff,ff,ff,ff,ff,ff,ff,ff] rfl rfl (any_of HT_.out (by kernel_rfl)) (fun _ _ _ h => h) (Or.inl ⟨by rfl,?_⟩) ?_ ?_
                   rotate_left
                   ·intro w'
                    go_simp
                    with_reducible rfl
                   rotate_left
                   ·simp only [Act.put,q1_,q2_,q3_,i64_w,i32_w]
                    rfl
                   refine pure_ (i:=8) (N:=some 33) (v:=?_) (a':=?_) #[tt,tt,tt,tt,ff,ff,tt,tt,tt,ff,ff,ff,ff,ff,ff,ff] rfl rfl (any_of HT_.out (by kernel_rfl)) (fun _ _ _ h => h) (Or.inl ⟨by rfl,?_⟩) ?_ ?_
                   rotate_left
                   ·intro w'
                    go_simp
                    with_reducible rfl
                   rotate_left
                   ·simp only [Act.put,q1_,q2_,q3_,i64_w,i32_w]
                    rfl
                   refine pure_ (i:=10) (N:=some 35) (v:=?_) (a':=?_) #[tt,tt,tt,tt,ff,ff,tt,tt,tt,ff,tt,ff,ff,ff,ff,ff] rfl rfl (any_of HT_.out (by kernel_rfl)) (fun _ _ _ h => h) (Or.inl ⟨by rfl,?_⟩) ?_ ?_
                   rotate_left
                   ·intro w'
                    go_simp
                    with_reducible rfl
                   rotate_left
                   ·simp only [Act.put,q1_,q2_,q3_,i64_w,i32_w]
                    rfl
                   refine pure_ (i:=11) (N:=some 36) (v:=?_) (a':=?_) #[tt,tt,tt,tt,ff,ff,tt,tt,tt,ff,tt,tt,ff,ff,ff,ff] rfl rfl (any_of HT_.out (by kernel_rfl)) (fun _ _ _ h => h) (Or.inl ⟨by rfl,?_⟩) ?_ ?_
                   rotate_left
                   ·intro w'
                    go_simp
                    with_reducible rfl
                   rotate_left
                   ·simp only [Act.put,q1_,q2_,q3_,i64_w,i32_w]
                    rfl
                   refine pure_ (i:=12) (N:=some 37) (v:=?_) (a':=?_) #[tt,tt,tt,tt,ff,ff,tt,tt,tt,ff,tt,tt,tt,ff,ff,ff] rfl rfl (any_of HT_.out (by kernel_rfl)) (fun _ _ _ h => h) (Or.inl ⟨by rfl,?_⟩) ?_ ?_
                   rotate_left
                   ·intro w'
                    go_simp
                    with_reducible rfl
                   rotate_left
                   ·simp only [Act.put,q1_,q2_,q3_,i64_w,i32_w]
                    rfl
                   refine take_ (i:=4) (N:=some 29) (v:=?_) (a':=?_) #[tt,tt,tt,tt,tt,ff,tt,tt,tt,ff,tt,tt,tt,ff,ff,ff] rfl rfl (take_ofW HT_.out HW_.out (by kernel_rfl)) (fun _ _ _ h => h) (Or.inl ⟨by rfl,?_⟩) hHeld ?_ ?_
                   rotate_left
                   ·rintro w' ⟨s0,s1,s2,s3,s4,s5,s6,s7,s8,s9,s10,s11⟩
                    go_simp
                    with_reducible rfl
                   rotate_left
                   ·simp only [Act.put,q1_,q2_,q3_,i64_w,i32_w]
                    rfl
                   refine take_ (i:=5) (N:=some 30) (v:=?_) (a':=?_) #[tt,tt,tt,tt,tt,tt,tt,tt,tt,ff,tt,tt,tt,ff,ff,ff] rfl rfl (take_ofW HT_.out HW_.out (by kernel_rfl)) (fun _ _ _ h => h) (Or.inl ⟨by rfl,?_⟩) hHeld ?_ ?_
                   rotate_left
                   ·rintro w' ⟨s0,s1,s2,s3,s4,s5,s6,s7,s8,s9,s10,s11⟩
                    go_simp
                    with_reducible rfl
                   rotate_left
                   ·simp only [Act.put,q1_,q2_,q3_,i64_w,i32_w]
                    rfl
                   refine take_ (i:=9) (N:=some 34) (v:=?_) (a':=?_) #[tt,tt,tt,tt,tt,tt,tt,tt,tt,tt,tt,tt,tt,ff,ff,ff] rfl rfl (take_ofW HT_.out HW_.out (by kernel_rfl)) (fun _ _ _ h => h) (Or.inl ⟨by rfl,?_⟩) hHeld ?_ ?_
                   rotate_left
                   ·rintro w' ⟨s0,s1,s2,s3,s4,s5,s6,s7,s8,s9,s10,s11⟩
                    go_simp
                    with_reducible rfl
                   rotate_left
                   ·simp only [Act.put,q1_,q2_,q3_,i64_w,i32_w]
                    rfl
                   refine take_ (i:=13) (N:=some 38) (v:=?_) (a':=?_) #[tt,tt,tt,tt,tt,tt,tt,tt,tt,tt,tt,tt,tt,tt,ff,ff] rfl rfl (take_ofW HT_.out HW_.out (by kernel_rfl)) (fun _ _ _ h => h) (Or.inl ⟨by rfl,?_⟩) hHeld ?_ ?_
                   rotate_left
                   ·rintro w' ⟨s0,s1,s2,s3,s4,s5,s6,s7,s8,s9,s10,s11⟩
                    go_simp
                    with_reducible rfl
                   rotate_left
                   ·simp only [Act.put,q1_,q2_,q3_,i64_w,i32_w]
                    rfl
                   refine last_ (i:=14) (N:=some 39) #[tt,tt,tt,tt,tt,tt,tt,tt,tt,tt,tt,tt,tt,tt,tt,ff] rfl rfl (one_of HT_.out (by kernel_rfl)) (by decide) (fun K hK => ?_)
                   refine goes_ Try.func52 (by kernel_rfl) rfl #[.agg #[.int .i64 ((rd_T43 l0 x13_2).f0),.int .i64 ((rd_T43 l0 x13_2).f1),.slice A154_2 ((rd_T43 l0 x13_2).f2).length c154_2,.slice A154_3 ((rd_T43 l0 x13_2).f3).length c154_3,.slice A154_4 ((rd_T43 l0 x13_2).f4).length c154_4],.agg #[.int .i64 ((rd_T43 l0 x20_3).f0),.int .i64 ((rd_T43 l0 x20_3).f1),.slice A156_2 ((rd_T43 l0 x20_3).f2).length c156_2,.slice A156_3 ((rd_T43 l0 x20_3).f3).length c156_3,.slice A156_4 ((rd_T43 l0 x20_3).f4).length c156_4],.int .i64 (rd t151 x13_2),.int .i64 (rd t151 x20_3)] (by rfl) rfl rfl (by (try simp only [List.map_toArray,List.map_cons,List.map_nil]);first | done | rfl | (simp only [List.length_drop,List.length_take];rfl)) ?_
                   with_reducible refine (dsg_ahead.calls ((rd_T43 l0 x13_2).f0) ((rd_T43 l0 x13_2).f1) _ _ ((rd_T43 l0 x13_2).f2) _ _ ((rd_T43 l0 x13_2).f3) _ _ ((rd_T43 l0 x13_2).f4) ((rd_T43 l0 x20_3).f0) ((rd_T43 l0 x20_3).f1) _ _ ((rd_T43 l0 x20_3).f2) _ _ ((rd_T43 l0 x20_3).f3) _ _ ((rd_T43 l0 x20_3).f4) (rd t151 x13_2) (rd t151 x20_3) true _ ?side1 ?side2 ?side3 ?side4 ?side5 ?side6 ?side7 ?side8 ?side9 ?side10 ?side11 ?side12 A22.out).mono ?_
                   (case side1 => repeat (first | exact (Kd.C_below HR154_2.out HB.out) | (with_reducible refine Kd.C_alloc ?_ _) | (with_reducible refine Kd.C_drewN ?_ _) | (with_reducible refine Kd.C_drew ?_)))
                   (case side2 => exact HC154_2.out)
                   (case side3 => repeat (first | exact (Kd.C_below HR154_3.out HB.out) | (with_reducible refine Kd.C_alloc ?_ _) | (with_reducible refine Kd.C_drewN ?_ _) | (with_reducible refine Kd.C_drew ?_)))
                   (case side4 => exact HC154_3.out)
                   (case side5 => repeat (first | exact (Kd.C_below HR154_4.out HB.out) | (with_reducible refine Kd.C_alloc ?_ _) | (with_reducible refine Kd.C_drewN ?_ _) | (with_reducible refine Kd.C_drew ?_)))
                   (case side6 => exact HC154_4.out)
                   (case side7 => repeat (first | exact (Kd.C_below HR156_2.out HB.out) | (with_reducible refine Kd.C_alloc ?_ _) | (with_reducible refine Kd.C_drewN ?_ _) | (with_reducible refine Kd.C_drew ?_)))
                   (case side8 => exact HC156_2.out)
                   (case side9 => repeat (first | exact (Kd.C_below HR156_3.out HB.out) | (with_reducible refine Kd.C_alloc ?_ _) | (with_reducible refine Kd.C_drewN ?_ _) | (with_reducible refine Kd.C_drew ?_)))
                   (case side10 => exact HC156_3.out)
                   (case side11 => repeat (first | exact (Kd.C_below HR156_4.out HB.out) | (with_reducible refine Kd.C_alloc ?_ _) | (with_reducible refine Kd.C_drewN ?_ _) | (with_reducible refine Kd.C_drew ?_)))
                   (case side12 => exact HC156_4.out)
                   rintro e w32 ⟨rfl,hb⟩
                   refine ⟨_,rfl,?_⟩
                   have n0_:=Aside0.mk (Kd.R_below (by (with_reducible repeat (first | apply Kd.R_alloc | apply Kd.R_drewN | apply Kd.R_drew));exact HO_3.out) hb)
                   have n1_:=Aside0.mk (Kd.R_below (by (with_reducible repeat (first | apply Kd.R_alloc | apply Kd.R_drewN | apply Kd.R_drew));exact HO_4.out) hb)
                   have n2_:=Aside0.mk (blk_below (g:=gb155) (o:=.cells #[.int .i64 ((rd_T43 l0 x13_2).f0),.int .i64 ((rd_T43 l0 x13_2).f1),.slice A154_2 ((rd_T43 l0 x13_2).f2).length c154_2,.slice A154_3 ((rd_T43 l0 x13_2).f3).length c154_3,.slice A154_4 ((rd_T43 l0 x13_2).f4).length c154_4] 43 (0,0)) (by (with_reducible repeat (first | refine blk_drewN ?_ _ | refine blk_drew ?_ | refine blk_alloc ?_ _));exact BK155.out) hb)
                   have n3_:=Aside0.mk (blk_below (g:=gb157) (o:=.cells #[.int .i64 ((rd_T43 l0 x20_3).f0),.int .i64 ((rd_T43 l0 x20_3).f1),.slice A156_2 ((rd_T43 l0 x20_3).f2).length c156_2,.slice A156_3 ((rd_T43 l0 x20_3).f3).length c156_3,.slice A156_4 ((rd_T43 l0 x20_3).f4).length c156_4] 43 (0,0)) (by (with_reducible repeat (first | refine blk_drewN ?_ _ | refine blk_drew ?_ | refine blk_alloc ?_ _));exact BK157.out) hb)
                   have n4_:=Aside0.mk (below_step (by repeat (first | (with_reducible first | exact HB.out | apply below_alloc | apply pw_below_drewN | apply below_drew1 | refine below_set ?_ GE155.out | refine below_set ?_ GE157.out) | exact HB.out)) hb)
                   clear HO_3
                   clear HO_4
                   clear BK155
                   clear BK157
                   clear HB
                   have HO_3:=n0_
                   have HO_4:=n1_
                   have BK155:=n2_
                   have BK157:=n3_
                   have HB:=n4_
                   clear n0_ n1_ n2_ n3_ n4_
                   (try clear hb)
                   (try clear hb2)
                   (try clear hk)
                   (try clear hi)
                   refine hK.out _ _ ?_
                   clear hK K
                   refine norm_ (a':=?_) ?_ ?_
                   rotate_left
                   ·show Act.put _ (some 39) _ = _
                    simp only [Act.put,q1_,q2_,q3_,i64_w,i32_w]
                    rfl
                   refine pure_ (i:=15) (N:=some 40) (v:=?_) (a':=?_) #[tt,tt,tt,tt,tt,tt,tt,tt,tt,tt,tt,tt,tt,tt,tt,tt] rfl rfl (any_of HT_.out (by kernel_rfl)) (fun _ _ _ h => h) (Or.inl ⟨by rfl,?_⟩) ?_ ?_
                   rotate_left
                   ·intro w'
                    go_simp
                    with_reducible rfl
                   rotate_left
                   ·simp only [Act.put,q1_,q2_,q3_,i64_w,i32_w]
                    rfl
                   refine done_ (done_of HT_.out (by kernel_rfl)) ?_
                   go_upto_region 11 with (first | ((with_reducible refine gate_builtin (b:=.append) (xs:=#[.tmp 41,.tmp 45]) rfl ?_);at_builtin;refine Kd.R_append k33 (w0:=w) w.heap.size rfl (.tmp 41) (.tmp 45) 22 33 (.agg #[(.int .i64 0),(.int .i64 0)]) 16 rfl Try.underlying22 info33 rfl (by decide) (by omega) u4 x4_3 (⟨x13_2,x20_3⟩ : S33) [.int .i64 x13_2,.int .i64 x20_3] (fun _ => True) (fun _ => False) rfl rfl ?aP (fun _ hk => hk.elim) ?aF ?aO ?aB ?aS ?aL ?_;(case aP => exact k33_mkM _ _ _ (⟨x13_2,x20_3⟩ : S33));(case aB => exact (by repeat (first | (with_reducible first | exact HB.out | apply below_alloc | apply pw_below_drewN | apply below_drew1 | refine below_set ?_ GE155.out | refine below_set ?_ GE157.out) | exact HB.out)));(case aF => exact (fun _ _ => trivial));(case aO => exact (by (with_reducible repeat (first | apply Kd.R_alloc | apply Kd.R_drewN | apply Kd.R_drew));exact HO_4.out));(case aS => exact (below_size (by repeat (first | (with_reducible first | exact HB.out | apply below_alloc | apply pw_below_drewN | apply below_drew1 | refine below_set ?_ GE155.out | refine below_set ?_ GE157.out) | exact HB.out))));(case aL => have:=LMc24.out;omega);intro v162 w33 ho hb hg hat;rw [← Ny161.out] at ho;have n0_:=Aside0.mk (Kd.R_over' (by (with_reducible repeat (first | apply Kd.R_alloc | apply Kd.R_drewN | apply Kd.R_drew));exact HO_3.out) (Kd.R_typed (by (with_reducible repeat (first | apply Kd.R_alloc | apply Kd.R_drewN | apply Kd.R_drew));exact HO_4.out)) (by decide) hg);have n1_:=Aside0.mk (blk_grown (g:=gb155) (o:=.cells #[.int .i64 ((rd_T43 l0 x13_2).f0),.int .i64 ((rd_T43 l0 x13_2).f1),.slice A154_2 ((rd_T43 l0 x13_2).f2).length c154_2,.slice A154_3 ((rd_T43 l0 x13_2).f3).length c154_3,.slice A154_4 ((rd_T43 l0 x13_2).f4).length c154_4] 43 (0,0)) (by (with_reducible repeat (first | refine blk_drewN ?_ _ | refine blk_drew ?_ | refine blk_alloc ?_ _));exact BK155.out) hg (Kd.R_ne HO_4.out BK155.out (by decide)));have n2_:=Aside0.mk (blk_grown (g:=gb157) (o:=.cells #[.int .i64 ((rd_T43 l0 x20_3).f0),.int .i64 ((rd_T43 l0 x20_3).f1),.slice A156_2 ((rd_T43 l0 x20_3).f2).length c156_2,.slice A156_3 ((rd_T43 l0 x20_3).f3).length c156_3,.slice A156_4 ((rd_T43 l0 x20_3).f4).length c156_4] 43 (0,0)) (by (with_reducible repeat (first | refine blk_drewN ?_ _ | refine blk_drew ?_ | refine blk_alloc ?_ _));exact BK157.out) hg (Kd.R_ne HO_4.out BK157.out (by decide)));have n3_:=Aside0.mk (hb);have n4_:=Aside0.mk (ho);clear HO_3;clear BK155;clear BK157;clear HB;clear HO_4;have HO_3:=n0_;have BK155:=n1_;have BK157:=n2_;have HB:=n3_;have HO163:=n4_;clear n0_ n1_ n2_ n3_ n4_;clear ho hb hg hat))
                   (try simp only [Act.put,List.setIfInBounds_toArray,List.set_cons_zero,List.set_cons_succ])
                   go_cut [20] (fun v20 wc => ∃ (kq : Nat) (x20_24 : Int),v20 = .int .i64 x20_24 ∧ Aside0 (dsg_Edges.j3 kq l0 t151 y161 x13_2 l0 (l0.length : Int) x13_2 l0 (l0.length : Int) x20_24 ((rd_T43 l0 x13_2).f0) ((rd_T43 l0 x13_2).f1) ((rd_T43 l0 x13_2).f2) ((rd_T43 l0 x13_2).f3) ((rd_T43 l0 x13_2).f4) = some r) ∧ Aside0 (kq ≤ k3) ∧ Aside0 (Kd.R (Kd.int .i64) 3 wc w.heap.size (fun _ => True) (.slice (some ad158) t151.length co31) t151) ∧ Aside0 (Kd.R k33 33 wc w.heap.size (fun _ => True) v162 y161) ∧ Aside0 (wc.heap[gb155]? = some (.cells #[.int .i64 ((rd_T43 l0 x13_2).f0),.int .i64 ((rd_T43 l0 x13_2).f1),(.slice A154_2 ((rd_T43 l0 x13_2).f2).length c154_2),(.slice A154_3 ((rd_T43 l0 x13_2).f3).length c154_3),(.slice A154_4 ((rd_T43 l0 x13_2).f4).length c154_4)] 43 (0,0))) ∧ Aside0 (wc.heap[gb157]? = some (.cells #[.int .i64 ((rd_T43 l0 x20_3).f0),.int .i64 ((rd_T43 l0 x20_3).f1),(.slice A156_2 ((rd_T43 l0 x20_3).f2).length c156_2),(.slice A156_3 ((rd_T43 l0 x20_3).f3).length c156_3),(.slice A156_4 ((rd_T43 l0 x20_3).f4).length c156_4)] 43 (0,0))) ∧ Aside0 (Below w.heap.size w wc))
                   case first =>
                    have H:=HC25.out
                    clear HC25
                    have H':=Aside0.mk H
                    clear H
                    go_wp2
                    go_meet
                    case rel => exact ⟨_,(wrap64 (x20_3 + 1)),(by first | rfl | (simp;done) | (simp [*];done)),H',⟨by have:=HJ2.out;have:=HK2.out;have:=HK3.out;first | omega | exact Nat.le_refl _⟩,⟨by (with_reducible repeat (first | apply Kd.R_alloc | apply Kd.R_drewN | apply Kd.R_drew));exact HO_3.out⟩,⟨by (with_reducible repeat (first | apply Kd.R_alloc | apply Kd.R_drewN | apply Kd.R_drew));exact HO163.out⟩,⟨by (with_reducible repeat (first | refine blk_drewN ?_ _ | refine blk_drew ?_ | refine blk_alloc ?_ _));exact BK155.out⟩,⟨by (with_reducible repeat (first | refine blk_drewN ?_ _ | refine blk_drew ?_ | refine blk_alloc ?_ _));exact BK157.out⟩,⟨by repeat (first | (with_reducible first | exact HB.out | apply below_alloc | apply pw_below_drewN | apply below_drew1 | refine below_set ?_ GE155.out | refine below_set ?_ GE157.out) | exact HB.out)⟩⟩
                   case rest =>
                    clear HC25
                    try clear c1
                    try clear p1
                    try clear q1
                    try clear hx1
                    try clear c2
                    try clear p2
                    try clear c5
                    try clear c5b0
                    try clear c6
                    try clear c6b0
                    try clear p6
                    try clear c7
                    try clear c7b0
                    try clear c10
                    try clear c10b0
                    try clear c11
                    try clear c11b0
                    try clear c12
                    try clear c12b0
                    try clear c13
                    try clear c13b0
                    try clear c13b1
                    try clear c15
                    try clear p15
                    try clear q15
                    try clear hx15
                    try clear c19
                    try clear c19b0
                    try clear c20
                    try clear c20b0
                    try clear c21
                    try clear c21b0
                    try clear c23
                    try clear c24
                    try clear c27
                    try clear hcz16_0
                    try clear hcz16_1
                    try clear hcz16_2
                    try clear hcz16_3
                    try clear hcz16_4
                    try clear hcz28_0
                    try clear hcz28_1
                    try clear hcz28_2
                    try clear hcz28_3
                    try clear hcz28_4
                    try clear hcz9_0
                    try clear hcz9_1
                    try clear hcz9_2
                    try clear hcz9_3
                    try clear hcz9_4
                    try clear hfz16_0
                    try clear hfz16_1
                    try clear hfz16_2
                    try clear hfz16_3
                    try clear hfz16_4
                    try clear hfz28_0
                    try clear hfz28_1
                    try clear hfz28_2
                    try clear hfz28_3
                    try clear hfz28_4
                    try clear hfz9_0
                    try clear hfz9_1
                    try clear hfz9_2
                    try clear hfz9_3
                    try clear hfz9_4
                    try clear hx154_0
                    try clear hx154_1
                    try clear hx154_2
                    try clear hx154_3
                    try clear hx154_4
                    try clear hx156_0
                    try clear hx156_1
                    try clear hx156_2
                    try clear hx156_3
                    try clear hx156_4
                    try clear hx158_0
                    try clear hx159_0
                    try clear p1
                    try clear p154
                    try clear p156
                    try clear p158
                    try clear p159
                    try clear p2
                    try clear q1
                    try clear q154
                    try clear q156
                    try clear q158
                    try clear q159
                    obtain ⟨kq,x20_24,rfl,HA,HJ24,HO_3,HO_4,BK155,BK157,HB⟩:=hcut
                    cases kq with
                    | zero => exact absurd HA.out (by simp [dsg_Edges.j3])
                    | succ kj24 =>
                     have H:=HA.out
                     clear HA
                     simp only [dsg_Edges.j3] at H
                     have H':=Aside0.mk H
                     clear H
                     go_wp2
                     go_roundg kj24
                     case measure => have:=HJ2.out;have:=HK2.out;have:=HK3.out;have:=HJ24.out;omega
                     case rel => exact ⟨(y161),(x20_24),(by first | rfl | (simp;done) | (simp [*];done)),H',⟨by have:=HJ2.out;have:=HK2.out;have:=HK3.out;have:=HJ24.out;omega⟩,⟨by (with_reducible repeat (first | apply Kd.R_alloc | apply Kd.R_drewN | apply Kd.R_drew));exact HO_3.out⟩,⟨by (with_reducible repeat (first | apply Kd.R_alloc | apply Kd.R_drewN | apply Kd.R_drew));exact HO_4.out⟩,⟨by (with_reducible repeat (first | refine blk_drewN ?_ _ | refine blk_drew ?_ | refine blk_alloc ?_ _));exact BK155.out⟩,⟨by repeat (first | (with_reducible first | exact HB.out | apply below_alloc | apply pw_below_drewN | apply below_drew1 | refine below_set ?_ GE155.out | refine below_set ?_ GE157.out) | exact HB.out)⟩⟩
                  ·rw [if_neg c24] at H
                   exact absurd H (by simp)
                 ·replace c23:=Bool.eq_false_iff.mpr c23
                  subst c23
                  have H1 : (dsg_Edges.l1 k3 l0 t151 x4_3 x13_2 l0 (l0.length : Int) x13_2 l0 (l0.length : Int) (wrap64 (x20_3 + 1)) ((rd_T43 l0 x13_2).f0) ((rd_T43 l0 x13_2).f1) ((rd_T43 l0 x13_2).f2) ((rd_T43 l0 x13_2).f3) ((rd_T43 l0 x13_2).f4)) = some r:=by rw [if_neg (show ¬ (false = true) by decide)] at H;exact H
                  clear H
                  have H:=H1
                  clear H1
                  have H':=Aside0.mk H
                  clear H
                  have p156 : 0 ≤ (x20_3 : Int):=of_decide_eq_true (by first | (with_reducible assumption) | assumption)
                  have q156 : x20_3 < (l0.length : Int):=of_decide_eq_true (by first | (with_reducible assumption) | assumption)
                  obtain ⟨ad156,A156_2,c156_2,A156_3,c156_3,A156_4,c156_4,e156,hx156_0,hx156_1,hx156_2,hx156_3,hx156_4,hl156_2,hi156_2,hl156_3,hi156_3,hl156_4,hi156_4⟩:=at_T43 HR0.out x20_3 p156 q156
                  obtain rfl : ad154 = ad156:=(by injection e156)
                  replace hx156_0:=(HB.out.cell (World.block_lt_of_cell? w _ hx156_0)).trans hx156_0
                  replace hx156_1:=(HB.out.cell (World.block_lt_of_cell? w _ hx156_1)).trans hx156_1
                  replace hx156_2:=(HB.out.cell (World.block_lt_of_cell? w _ hx156_2)).trans hx156_2
                  replace hx156_3:=(HB.out.cell (World.block_lt_of_cell? w _ hx156_3)).trans hx156_3
                  replace hx156_4:=(HB.out.cell (World.block_lt_of_cell? w _ hx156_4)).trans hx156_4
                  have HR156_2:=Aside0.mk hi156_2
                  have HC156_2:=Aside0.mk hl156_2
                  clear hi156_2 hl156_2
                  have HR156_3:=Aside0.mk hi156_3
                  have HC156_3:=Aside0.mk hl156_3
                  clear hi156_3 hl156_3
                  have HR156_4:=Aside0.mk hi156_4
                  have HC156_4:=Aside0.mk hl156_4
                  clear hi156_4 hl156_4
                  replace p156:=eq_true p156
                  replace q156:=eq_true q156
                  try go_wp2_with (first | ((with_reducible refine gate_dst (N:=8) rfl ?_);refine box_event ?hg (N:=8) ?hd (cs:=#[.int .i64 0,.int .i64 0,.slice none 0 0,.slice none 0 0,.slice none 0 0]) (t:=43) ?hr ?_;(case hd => rfl);(case hg => rfl);(case hr => first | (go_simp;done) | (go_simp;rfl));intro gb157 hg w34 hbox hb;have n0_:=Aside0.mk (Kd.R_below (by (with_reducible repeat (first | apply Kd.R_alloc | apply Kd.R_drewN | apply Kd.R_drew));exact HO_3.out) hb);have n1_:=Aside0.mk (Kd.R_below (by (with_reducible repeat (first | apply Kd.R_alloc | apply Kd.R_drewN | apply Kd.R_drew));exact HO_4.out) hb);have n2_:=Aside0.mk (blk_below (g:=gb155) (o:=.cells #[.int .i64 ((rd_T43 l0 x13_2).f0),.int .i64 ((rd_T43 l0 x13_2).f1),.slice A154_2 ((rd_T43 l0 x13_2).f2).length c154_2,.slice A154_3 ((rd_T43 l0 x13_2).f3).length c154_3,.slice A154_4 ((rd_T43 l0 x13_2).f4).length c154_4] 43 (0,0)) (by (with_reducible repeat (first | refine blk_drewN ?_ _ | refine blk_drew ?_ | refine blk_alloc ?_ _));exact BK155.out) hb);have n3_:=Aside0.mk (below_step (by repeat (first | (with_reducible first | exact HB.out | apply below_alloc | apply pw_below_drewN | apply below_drew1 | refine below_set ?_ GE155.out) | exact HB.out)) hb);have n4_:=Aside0.mk (hbox);have n5_:=Aside0.mk ((by rw [hg];exact (below_size (by repeat (first | (with_reducible first | exact HB.out | apply below_alloc | apply pw_below_drewN | apply below_drew1 | refine below_set ?_ GE155.out) | exact HB.out))) : w.heap.size ≤ gb157));have n6_:=Aside0.mk ((by rw [hg];exact (below_size (by repeat (first | (with_reducible first | exact HB.out | apply below_alloc | apply pw_below_drewN | apply below_drew1 | refine below_set ?_ GE155.out) | exact HB.out))) : w.heap.size ≤ gb157));have n7_:=Aside0.mk ((by rw [hg];exact Nat.ne_of_lt (blk_lt (g:=gb155) (o:=.cells #[.int .i64 ((rd_T43 l0 x13_2).f0),.int .i64 ((rd_T43 l0 x13_2).f1),.slice A154_2 ((rd_T43 l0 x13_2).f2).length c154_2,.slice A154_3 ((rd_T43 l0 x13_2).f3).length c154_3,.slice A154_4 ((rd_T43 l0 x13_2).f4).length c154_4] 43 (0,0)) (by (with_reducible repeat (first | refine blk_drewN ?_ _ | refine blk_drew ?_ | refine blk_alloc ?_ _));exact BK155.out)) : gb155 ≠ gb157));have n8_:=Aside0.mk ((by rw [hg];exact Nat.ne_of_gt (blk_lt (g:=gb155) (o:=.cells #[.int .i64 ((rd_T43 l0 x13_2).f0),.int .i64 ((rd_T43 l0 x13_2).f1),.slice A154_2 ((rd_T43 l0 x13_2).f2).length c154_2,.slice A154_3 ((rd_T43 l0 x13_2).f3).length c154_3,.slice A154_4 ((rd_T43 l0 x13_2).f4).length c154_4] 43 (0,0)) (by (with_reducible repeat (first | refine blk_drewN ?_ _ | refine blk_drew ?_ | refine blk_alloc ?_ _));exact BK155.out)) : gb157 ≠ gb155));clear HO_3;clear HO_4;clear BK155;clear HB;have HO_3:=n0_;have HO_4:=n1_;have BK155:=n2_;have HB:=n3_;have BK157:=n4_;have GW157:=n5_;have GE157:=n6_;have NB155_157:=n7_;have NB157_155:=n8_;clear n0_ n1_ n2_ n3_ n4_ n5_ n6_ n7_ n8_;clear hb hbox hg;have hnb35:=NB157_155.out;have hnc35:=NB155_157.out;obtain ⟨hcz36_0,hcz36_1,hcz36_2,hcz36_3,hcz36_4⟩:=blkc_5 BK157.out;obtain ⟨hfz36_0,hfz36_1,hfz36_2,hfz36_3⟩:=blkz_4 BK157.out;have hfz36_4:=blk_frozen BK157.out 4))
                  have n0_ : Aside0 (Kd.R (Kd.int .i64) 3 (((((w34.setCell ⟨gb157,0,none⟩ (.int .i64 ((rd_T43 l0 x20_3).f0))).setCell ⟨gb157,1,none⟩ (.int .i64 ((rd_T43 l0 x20_3).f1))).setCell ⟨gb157,2,none⟩ (.slice A156_2 ((rd_T43 l0 x20_3).f2).length c156_2)).setCell ⟨gb157,3,none⟩ (.slice A156_3 ((rd_T43 l0 x20_3).f3).length c156_3)).setCell ⟨gb157,4,none⟩ (.slice A156_4 ((rd_T43 l0 x20_3).f4).length c156_4)) w.heap.size (fun _ => True) v152 t151):=⟨by (with_reducible repeat (first | apply Kd.R_alloc | apply Kd.R_drewN | apply Kd.R_drew));exact Kd.R_mono (Kd.R_far (p:=⟨gb157,4,none⟩) (Kd.R_far (p:=⟨gb157,3,none⟩) (Kd.R_far (p:=⟨gb157,2,none⟩) (Kd.R_far (p:=⟨gb157,1,none⟩) (Kd.R_far (p:=⟨gb157,0,none⟩) (Kd.R_types HO_3.out BK157.out (by decide)) (fun _ hk => hk.2) (.int .i64 ((rd_T43 l0 x20_3).f0))) (fun _ hk => hk.2) (.int .i64 ((rd_T43 l0 x20_3).f1))) (fun _ hk => hk.2) (.slice A156_2 ((rd_T43 l0 x20_3).f2).length c156_2)) (fun _ hk => hk.2) (.slice A156_3 ((rd_T43 l0 x20_3).f3).length c156_3)) (fun _ hk => hk.2) (.slice A156_4 ((rd_T43 l0 x20_3).f4).length c156_4)) (fun _ hk => trivial)⟩
                  have n1_ : Aside0 (Kd.R k33 33 (((((w34.setCell ⟨gb157,0,none⟩ (.int .i64 ((rd_T43 l0 x20_3).f0))).setCell ⟨gb157,1,none⟩ (.int .i64 ((rd_T43 l0 x20_3).f1))).setCell ⟨gb157,2,none⟩ (.slice A156_2 ((rd_T43 l0 x20_3).f2).length c156_2)).setCell ⟨gb157,3,none⟩ (.slice A156_3 ((rd_T43 l0 x20_3).f3).length c156_3)).setCell ⟨gb157,4,none⟩ (.slice A156_4 ((rd_T43 l0 x20_3).f4).length c156_4)) w.heap.size (fun _ => True) u4 x4_3):=⟨by (with_reducible repeat (first | apply Kd.R_alloc | apply Kd.R_drewN | apply Kd.R_drew));exact Kd.R_mono (Kd.R_far (p:=⟨gb157,4,none⟩) (Kd.R_far (p:=⟨gb157,3,none⟩) (Kd.R_far (p:=⟨gb157,2,none⟩) (Kd.R_far (p:=⟨gb157,1,none⟩) (Kd.R_far (p:=⟨gb157,0,none⟩) (Kd.R_types HO_4.out BK157.out (by decide)) (fun _ hk => hk.2) (.int .i64 ((rd_T43 l0 x20_3).f0))) (fun _ hk => hk.2) (.int .i64 ((rd_T43 l0 x20_3).f1))) (fun _ hk => hk.2) (.slice A156_2 ((rd_T43 l0 x20_3).f2).length c156_2)) (fun _ hk => hk.2) (.slice A156_3 ((rd_T43 l0 x20_3).f3).length c156_3)) (fun _ hk => hk.2) (.slice A156_4 ((rd_T43 l0 x20_3).f4).length c156_4)) (fun _ hk => trivial)⟩
                  have n2_ : Aside0 ((((((w34.setCell ⟨gb157,0,none⟩ (.int .i64 ((rd_T43 l0 x20_3).f0))).setCell ⟨gb157,1,none⟩ (.int .i64 ((rd_T43 l0 x20_3).f1))).setCell ⟨gb157,2,none⟩ (.slice A156_2 ((rd_T43 l0 x20_3).f2).length c156_2)).setCell ⟨gb157,3,none⟩ (.slice A156_3 ((rd_T43 l0 x20_3).f3).length c156_3)).setCell ⟨gb157,4,none⟩ (.slice A156_4 ((rd_T43 l0 x20_3).f4).length c156_4)).heap[gb155]? = some (.cells #[.int .i64 ((rd_T43 l0 x13_2).f0),.int .i64 ((rd_T43 l0 x13_2).f1),.slice A154_2 ((rd_T43 l0 x13_2).f2).length c154_2,.slice A154_3 ((rd_T43 l0 x13_2).f3).length c154_3,.slice A154_4 ((rd_T43 l0 x13_2).f4).length c154_4] 43 (0,0))):=⟨by (with_reducible repeat (first | refine blk_drewN ?_ _ | refine blk_drew ?_ | refine blk_alloc ?_ _));refine blk_far ?_ NB155_157.out _;(with_reducible repeat (first | refine blk_drewN ?_ _ | refine blk_drew ?_ | refine blk_alloc ?_ _));refine blk_far ?_ NB155_157.out _;(with_reducible repeat (first | refine blk_drewN ?_ _ | refine blk_drew ?_ | refine blk_alloc ?_ _));refine blk_far ?_ NB155_157.out _;(with_reducible repeat (first | refine blk_drewN ?_ _ | refine blk_drew ?_ | refine blk_alloc ?_ _));refine blk_far ?_ NB155_157.out _;(with_reducible repeat (first | refine blk_drewN ?_ _ | refine blk_drew ?_ | refine blk_alloc ?_ _));refine blk_far ?_ NB155_157.out _;(with_reducible repeat (first | refine blk_drewN ?_ _ | refine blk_drew ?_ | refine blk_alloc ?_ _));exact BK155.out⟩
                  have n3_ : Aside0 ((((((w34.setCell ⟨gb157,0,none⟩ (.int .i64 ((rd_T43 l0 x20_3).f0))).setCell ⟨gb157,1,none⟩ (.int .i64 ((rd_T43 l0 x20_3).f1))).setCell ⟨gb157,2,none⟩ (.slice A156_2 ((rd_T43 l0 x20_3).f2).length c156_2)).setCell ⟨gb157,3,none⟩ (.slice A156_3 ((rd_T43 l0 x20_3).f3).length c156_3)).setCell ⟨gb157,4,none⟩ (.slice A156_4 ((rd_T43 l0 x20_3).f4).length c156_4)).heap[gb157]? = some (.cells #[.int .i64 ((rd_T43 l0 x20_3).f0),.int .i64 ((rd_T43 l0 x20_3).f1),.slice A156_2 ((rd_T43 l0 x20_3).f2).length c156_2,.slice A156_3 ((rd_T43 l0 x20_3).f3).length c156_3,.slice A156_4 ((rd_T43 l0 x20_3).f4).length c156_4] 43 (0,0))):=⟨by (with_reducible repeat (first | refine blk_drewN ?_ _ | refine blk_drew ?_ | refine blk_alloc ?_ _));apply blkf_5_0_4;(with_reducible repeat (first | refine blk_drewN ?_ _ | refine blk_drew ?_ | refine blk_alloc ?_ _));exact BK157.out⟩
                  have n4_ : Aside0 (Below w.heap.size w (((((w34.setCell ⟨gb157,0,none⟩ (.int .i64 ((rd_T43 l0 x20_3).f0))).setCell ⟨gb157,1,none⟩ (.int .i64 ((rd_T43 l0 x20_3).f1))).setCell ⟨gb157,2,none⟩ (.slice A156_2 ((rd_T43 l0 x20_3).f2).length c156_2)).setCell ⟨gb157,3,none⟩ (.slice A156_3 ((rd_T43 l0 x20_3).f3).length c156_3)).setCell ⟨gb157,4,none⟩ (.slice A156_4 ((rd_T43 l0 x20_3).f4).length c156_4))):=⟨by repeat (first | (with_reducible first | exact HB.out | apply below_alloc | apply pw_below_drewN | apply below_drew1 | refine below_set ?_ GE155.out | refine below_set ?_ GE157.out) | exact HB.out)⟩
                  (try clear HO_3)
                  (try clear HO_4)
                  (try clear BK155)
                  (try clear BK157)
                  (try clear HB)
                  generalize (((((w34.setCell ⟨gb157,0,none⟩ (.int .i64 ((rd_T43 l0 x20_3).f0))).setCell ⟨gb157,1,none⟩ (.int .i64 ((rd_T43 l0 x20_3).f1))).setCell ⟨gb157,2,none⟩ (.slice A156_2 ((rd_T43 l0 x20_3).f2).length c156_2)).setCell ⟨gb157,3,none⟩ (.slice A156_3 ((rd_T43 l0 x20_3).f3).length c156_3)).setCell ⟨gb157,4,none⟩ (.slice A156_4 ((rd_T43 l0 x20_3).f4).length c156_4)) = w37 at n0_ n1_ n2_ n3_ n4_ ⊢
                  have HO_3:=n0_
                  have HO_4:=n1_
                  have BK155:=n2_
                  have BK157:=n3_
                  have HB:=n4_
                  clear n0_ n1_ n2_ n3_ n4_
                  have n0_:=Aside0.mk (Kd.R_drew HO_3.out)
                  have n1_:=Aside0.mk (Kd.R_drew HO_4.out)
                  have n2_:=Aside0.mk (blk_drew BK155.out)
                  have n3_:=Aside0.mk (blk_drew BK157.out)
                  have n4_:=Aside0.mk (below_drew1 HB.out)
                  clear HO_3
                  clear HO_4
                  clear BK155
                  clear BK157
                  clear HB
                  have HO_3:=n0_
                  have HO_4:=n1_
                  have BK155:=n2_
                  have BK157:=n3_
                  have HB:=n4_
                  clear n0_ n1_ n2_ n3_ n4_
                  obtain ⟨Ao39,co39,eo39⟩:=Kd.R_slice HO_3.out
                  (first | subst eo39 | (injection eo39 with f1_ f2_ f3_;have f4_:=f1_.symm;have f5_:=f3_.symm;clear f1_ f2_ f3_;subst f4_;subst f5_))
                  have p158 : 0 ≤ (x13_2 : Int):=of_decide_eq_true (by first | (with_reducible assumption) | assumption)
                  have q158 : x13_2 < (t151.length : Int):=of_decide_eq_true (by first | (with_reducible assumption) | assumption)
                  obtain ⟨ad158,e158,hx158_0⟩:=Kd.at_int (Kd.R_reads' HO_3.out).2.2 x13_2 p158 q158
                  cases e158
                  replace p158:=eq_true p158
                  replace q158:=eq_true q158
                  have p159 : 0 ≤ (x20_3 : Int):=of_decide_eq_true (by first | (with_reducible assumption) | assumption)
                  have q159 : x20_3 < (t151.length : Int):=of_decide_eq_true (by first | (with_reducible assumption) | assumption)
                  obtain ⟨ad159,e159,hx159_0⟩:=Kd.at_int (Kd.R_reads' HO_3.out).2.2 x20_3 p159 q159
                  obtain rfl : ad158 = ad159:=(by injection e159)
                  replace p159:=eq_true p159
                  replace q159:=eq_true q159
                  refine start_ (n:=16) (S:=fun w' => w'.cell? ⟨gb155,0,none⟩ = some (.int .i64 ((rd_T43 l0 x13_2).f0)) ∧ w'.cell? ⟨gb155,1,none⟩ = some (.int .i64 ((rd_T43 l0 x13_2).f1)) ∧ w'.cell? ⟨gb155,2,none⟩ = some (.slice A154_2 ((rd_T43 l0 x13_2).f2).length c154_2) ∧ w'.cell? ⟨gb155,3,none⟩ = some (.slice A154_3 ((rd_T43 l0 x13_2).f3).length c154_3) ∧ w'.cell? ⟨gb155,4,none⟩ = some (.slice A154_4 ((rd_T43 l0 x13_2).f4).length c154_4) ∧ w'.cell? ⟨gb157,0,none⟩ = some (.int .i64 ((rd_T43 l0 x20_3).f0)) ∧ w'.cell? ⟨gb157,1,none⟩ = some (.int .i64 ((rd_T43 l0 x20_3).f1)) ∧ w'.cell? ⟨gb157,2,none⟩ = some (.slice A156_2 ((rd_T43 l0 x20_3).f2).length c156_2) ∧ w'.cell? ⟨gb157,3,none⟩ = some (.slice A156_3 ((rd_T43 l0 x20_3).f3).length c156_3) ∧ w'.cell? ⟨gb157,4,none⟩ = some (.slice A156_4 ((rd_T43 l0 x20_3).f4).length c156_4) ∧ w'.cell? (ad158.add (x13_2).toNat) = some (.int .i64 (rd t151 x13_2)) ∧ w'.cell? (ad158.add (x20_3).toNat) = some (.int .i64 (rd t151 x20_3))) (ds:=[14]) #[ff,ff,ff,ff,ff,ff,ff,ff,ff,ff,ff,ff,ff,ff,ff,ff] (by kernel_rfl) rfl rfl ⟨(blk_cell BK155.out 0).trans rfl,(blk_cell BK155.out 1).trans rfl,(blk_cell BK155.out 2).trans rfl,(blk_cell BK155.out 3).trans rfl,(blk_cell BK155.out 4).trans rfl,(blk_cell BK157.out 0).trans rfl,(blk_cell BK157.out 1).trans rfl,(blk_cell BK157.out 2).trans rfl,(blk_cell BK157.out 3).trans rfl,(blk_cell BK157.out 4).trans rfl,hx158_0,hx159_0⟩ (fun hHeld => ?_);refine with_tabW dsg_Edges.tab9 dsg_Edges.bits9 (fun HT_ HW_ => ?_)
                  generalize w37.drew = w38 at HO_3 HO_4 BK155 BK157 HB hx158_0 hx159_0 hHeld ⊢
                  refine pure_ (i:=0) (N:=some 25) (v:=?_) (a':=?_) #[tt,ff,ff,ff,ff,ff,ff,ff,ff,ff,ff,ff,ff,ff,ff,ff] rfl rfl (any_of HT_.out (by kernel_rfl)) (fun _ _ _ h => h) (Or.inl ⟨by rfl,?_⟩) ?_ ?_
                  rotate_left
                  ·intro w'
                   go_simp
                   with_reducible rfl
                  rotate_left
                  ·simp only [Act.put,q1_,q2_,q3_,i64_w,i32_w]
                   rfl
                  refine pure_ (i:=1) (N:=some 26) (v:=?_) (a':=?_) #[tt,tt,ff,ff,ff,ff,ff,ff,ff,ff,ff,ff,ff,ff,ff,ff] rfl rfl (any_of HT_.out (by kernel_rfl)) (fun _ _ _ h => h) (Or.inl ⟨by rfl,?_⟩) ?_ ?_
                  rotate_left
                  ·intro w'
                   go_simp
                   with_reducible rfl
                  rotate_left
                  ·simp only [Act.put,q1_,q2_,q3_,i64_w,i32_w]
                   rfl
                  refine pure_ (i:=2) (N:=some 27) (v:=?_) (a':=?_) #[tt,tt,tt,ff,ff,ff,ff,ff,ff,ff,ff,ff,ff,ff,ff,ff] rfl rfl (any_of HT_.out (by kernel_rfl)) (fun _ _ _ h => h) (Or.inl ⟨by rfl,?_⟩) ?_ ?_
                  rotate_left
                  ·intro w'
                   go_simp
                   with_reducible rfl
                  rotate_left
                  ·simp only [Act.put,q1_,q2_,q3_,i64_w,i32_w]
                   rfl
                  refine pure_ (i:=3) (N:=some 28) (v:=?_) (a':=?_) #[tt,tt,tt,tt,ff,ff,ff,ff,ff,ff,ff,ff,ff,ff,ff,ff] rfl rfl (any_of HT_.out (by kernel_rfl)) (fun _ _ _ h => h) (Or.inl ⟨by rfl,?_⟩) ?_ ?_
                  rotate_left
                  ·intro w'
                   go_simp
                   with_reducible rfl
                  rotate_left
                  ·simp only [Act.put,q1_,q2_,q3_,i64_w,i32_w]
                   rfl
                  refine pure_ (i:=6) (N:=some 31) (v:=?_) (a':=?_) #[tt,tt,tt,tt,ff,ff,tt,ff,ff,ff,ff,ff,ff,ff,ff,ff] rfl rfl (any_of HT_.out (by kernel_rfl)) (fun _ _ _ h => h) (Or.inl ⟨by rfl,?_⟩) ?_ ?_
                  rotate_left
                  ·intro w'
                   go_simp
                   with_reducible rfl
                  rotate_left
                  ·simp only [Act.put,q1_,q2_,q3_,i64_w,i32_w]
                   rfl
                  refine pure_ (i:=7) (N:=some 32) (v:=?_) (a':=?_) #[tt,tt,tt,tt,ff,ff,tt,tt,ff,ff,ff,ff,ff,ff,ff,ff] rfl rfl (any_of HT_.out (by kernel_rfl)) (fun _ _ _ h => h) (Or.inl ⟨by rfl,?_⟩) ?_ ?_
                  rotate_left
                  ·intro w'
                   go_simp
                   with_reducible rfl
                  rotate_left
                  ·simp only [Act.put,q1_,q2_,q3_,i64_w,i32_w]
                   rfl
                  refine pure_ (i:=8) (N:=some 33) (v:=?_) (a':=?_) #[tt,tt,tt,tt,ff,ff,tt,tt,tt,ff,ff,ff,ff,ff,ff,ff] rfl rfl (any_of HT_.out (by kernel_rfl)) (fun _ _ _ h => h) (Or.inl ⟨by rfl,?_⟩) ?_ ?_
                  rotate_left
                  ·intro w'
                   go_simp
                   with_reducible rfl
                  rotate_left
                  ·simp only [Act.put,q1_,q2_,q3_,i64_w,i32_w]
                   rfl
                  refine pure_ (i:=10) (N:=some 35) (v:=?_) (a':=?_) #[tt,tt,tt,tt,ff,ff,tt,tt,tt,ff,tt,ff,ff,ff,ff,ff] rfl rfl (any_of HT_.out (by kernel_rfl)) (fun _ _ _ h => h) (Or.inl ⟨by rfl,?_⟩) ?_ ?_
                  rotate_left
                  ·intro w'
                   go_simp
                   with_reducible rfl
                  rotate_left
                  ·simp only [Act.put,q1_,q2_,q3_,i64_w,i32_w]
                   rfl
                  refine pure_ (i:=11) (N:=some 36) (v:=?_) (a':=?_) #[tt,tt,tt,tt,ff,ff,tt,tt,tt,ff,tt,tt,ff,ff,ff,ff] rfl rfl (any_of HT_.out (by kernel_rfl)) (fun _ _ _ h => h) (Or.inl ⟨by rfl,?_⟩) ?_ ?_
                  rotate_left
                  ·intro w'
                   go_simp
                   with_reducible rfl
                  rotate_left
                  ·simp only [Act.put,q1_,q2_,q3_,i64_w,i32_w]
                   rfl
                  refine pure_ (i:=12) (N:=some 37) (v:=?_) (a':=?_) #[tt,tt,tt,tt,ff,ff,tt,tt,tt,ff,tt,tt,tt,ff,ff,ff] rfl rfl (any_of HT_.out (by kernel_rfl)) (fun _ _ _ h => h) (Or.inl ⟨by rfl,?_⟩) ?_ ?_
                  rotate_left
                  ·intro w'
                   go_simp
                   with_reducible rfl
                  rotate_left
                  ·simp only [Act.put,q1_,q2_,q3_,i64_w,i32_w]
                   rfl
                  refine take_ (i:=4) (N:=some 29) (v:=?_) (a':=?_) #[tt,tt,tt,tt,tt,ff,tt,tt,tt,ff,tt,tt,tt,ff,ff,ff] rfl rfl (take_ofW HT_.out HW_.out (by kernel_rfl)) (fun _ _ _ h => h) (Or.inl ⟨by rfl,?_⟩) hHeld ?_ ?_
                  rotate_left
                  ·rintro w' ⟨s0,s1,s2,s3,s4,s5,s6,s7,s8,s9,s10,s11⟩
                   go_simp
                   with_reducible rfl
                  rotate_left
                  ·simp only [Act.put,q1_,q2_,q3_,i64_w,i32_w]
                   rfl
                  refine take_ (i:=5) (N:=some 30) (v:=?_) (a':=?_) #[tt,tt,tt,tt,tt,tt,tt,tt,tt,ff,tt,tt,tt,ff,ff,ff] rfl rfl (take_ofW HT_.out HW_.out (by kernel_rfl)) (fun _ _ _ h => h) (Or.inl ⟨by rfl,?_⟩) hHeld ?_ ?_
                  rotate_left
                  ·rintro w' ⟨s0,s1,s2,s3,s4,s5,s6,s7,s8,s9,s10,s11⟩
                   go_simp
                   with_reducible rfl
                  rotate_left
                  ·simp only [Act.put,q1_,q2_,q3_,i64_w,i32_w]
                   rfl
                  refine take_ (i:=9) (N:=some 34) (v:=?_) (a':=?_) #[tt,tt,tt,tt,tt,tt,tt,tt,tt,tt,tt,tt,tt,ff,ff,ff] rfl rfl (take_ofW HT_.out HW_.out (by kernel_rfl)) (fun _ _ _ h => h) (Or.inl ⟨by rfl,?_⟩) hHeld ?_ ?_
                  rotate_left
                  ·rintro w' ⟨s0,s1,s2,s3,s4,s5,s6,s7,s8,s9,s10,s11⟩
                   go_simp
                   with_reducible rfl
                  rotate_left
                  ·simp only [Act.put,q1_,q2_,q3_,i64_w,i32_w]
                   rfl
                  refine take_ (i:=13) (N:=some 38) (v:=?_) (a':=?_) #[tt,tt,tt,tt,tt,tt,tt,tt,tt,tt,tt,tt,tt,tt,ff,ff] rfl rfl (take_ofW HT_.out HW_.out (by kernel_rfl)) (fun _ _ _ h => h) (Or.inl ⟨by rfl,?_⟩) hHeld ?_ ?_
                  rotate_left
                  ·rintro w' ⟨s0,s1,s2,s3,s4,s5,s6,s7,s8,s9,s10,s11⟩
                   go_simp
                   with_reducible rfl
                  rotate_left
                  ·simp only [Act.put,q1_,q2_,q3_,i64_w,i32_w]
                   rfl
                  refine last_ (i:=14) (N:=some 39) #[tt,tt,tt,tt,tt,tt,tt,tt,tt,tt,tt,tt,tt,tt,tt,ff] rfl rfl (one_of HT_.out (by kernel_rfl)) (by decide) (fun K hK => ?_)
                  refine goes_ Try.func52 (by kernel_rfl) rfl #[.agg #[.int .i64 ((rd_T43 l0 x13_2).f0),.int .i64 ((rd_T43 l0 x13_2).f1),.slice A154_2 ((rd_T43 l0 x13_2).f2).length c154_2,.slice A154_3 ((rd_T43 l0 x13_2).f3).length c154_3,.slice A154_4 ((rd_T43 l0 x13_2).f4).length c154_4],.agg #[.int .i64 ((rd_T43 l0 x20_3).f0),.int .i64 ((rd_T43 l0 x20_3).f1),.slice A156_2 ((rd_T43 l0 x20_3).f2).length c156_2,.slice A156_3 ((rd_T43 l0 x20_3).f3).length c156_3,.slice A156_4 ((rd_T43 l0 x20_3).f4).length c156_4],.int .i64 (rd t151 x13_2),.int .i64 (rd t151 x20_3)] (by rfl) rfl rfl (by (try simp only [List.map_toArray,List.map_cons,List.map_nil]);first | done | rfl | (simp only [List.length_drop,List.length_take];rfl)) ?_
                  with_reducible refine (dsg_ahead.calls ((rd_T43 l0 x13_2).f0) ((rd_T43 l0 x13_2).f1) _ _ ((rd_T43 l0 x13_2).f2) _ _ ((rd_T43 l0 x13_2).f3) _ _ ((rd_T43 l0 x13_2).f4) ((rd_T43 l0 x20_3).f0) ((rd_T43 l0 x20_3).f1) _ _ ((rd_T43 l0 x20_3).f2) _ _ ((rd_T43 l0 x20_3).f3) _ _ ((rd_T43 l0 x20_3).f4) (rd t151 x13_2) (rd t151 x20_3) false _ ?side1 ?side2 ?side3 ?side4 ?side5 ?side6 ?side7 ?side8 ?side9 ?side10 ?side11 ?side12 A22.out).mono ?_
                  (case side1 => repeat (first | exact (Kd.C_below HR154_2.out HB.out) | (with_reducible refine Kd.C_alloc ?_ _) | (with_reducible refine Kd.C_drewN ?_ _) | (with_reducible refine Kd.C_drew ?_)))
                  (case side2 => exact HC154_2.out)
                  (case side3 => repeat (first | exact (Kd.C_below HR154_3.out HB.out) | (with_reducible refine Kd.C_alloc ?_ _) | (with_reducible refine Kd.C_drewN ?_ _) | (with_reducible refine Kd.C_drew ?_)))
                  (case side4 => exact HC154_3.out)
                  (case side5 => repeat (first | exact (Kd.C_below HR154_4.out HB.out) | (with_reducible refine Kd.C_alloc ?_ _) | (with_reducible refine Kd.C_drewN ?_ _) | (with_reducible refine Kd.C_drew ?_)))
                  (case side6 => exact HC154_4.out)
                  (case side7 => repeat (first | exact (Kd.C_below HR156_2.out HB.out) | (with_reducible refine Kd.C_alloc ?_ _) | (with_reducible refine Kd.C_drewN ?_ _) | (with_reducible refine Kd.C_drew ?_)))
                  (case side8 => exact HC156_2.out)
                  (case side9 => repeat (first | exact (Kd.C_below HR156_3.out HB.out) | (with_reducible refine Kd.C_alloc ?_ _) | (with_reducible refine Kd.C_drewN ?_ _) | (with_reducible refine Kd.C_drew ?_)))
                  (case side10 => exact HC156_3.out)
                  (case side11 => repeat (first | exact (Kd.C_below HR156_4.out HB.out) | (with_reducible refine Kd.C_alloc ?_ _) | (with_reducible refine Kd.C_drewN ?_ _) | (with_reducible refine Kd.C_drew ?_)))
                  (case side12 => exact HC156_4.out)
                  rintro e w40 ⟨rfl,hb⟩
                  refine ⟨_,rfl,?_⟩
                  have n0_:=Aside0.mk (Kd.R_below (by (with_reducible repeat (first | apply Kd.R_alloc | apply Kd.R_drewN | apply Kd.R_drew));exact HO_3.out) hb)
                  have n1_:=Aside0.mk (Kd.R_below (by (with_reducible repeat (first | apply Kd.R_alloc | apply Kd.R_drewN | apply Kd.R_drew));exact HO_4.out) hb)
                  have n2_:=Aside0.mk (blk_below (g:=gb155) (o:=.cells #[.int .i64 ((rd_T43 l0 x13_2).f0),.int .i64 ((rd_T43 l0 x13_2).f1),.slice A154_2 ((rd_T43 l0 x13_2).f2).length c154_2,.slice A154_3 ((rd_T43 l0 x13_2).f3).length c154_3,.slice A154_4 ((rd_T43 l0 x13_2).f4).length c154_4] 43 (0,0)) (by (with_reducible repeat (first | refine blk_drewN ?_ _ | refine blk_drew ?_ | refine blk_alloc ?_ _));exact BK155.out) hb)
                  have n3_:=Aside0.mk (blk_below (g:=gb157) (o:=.cells #[.int .i64 ((rd_T43 l0 x20_3).f0),.int .i64 ((rd_T43 l0 x20_3).f1),.slice A156_2 ((rd_T43 l0 x20_3).f2).length c156_2,.slice A156_3 ((rd_T43 l0 x20_3).f3).length c156_3,.slice A156_4 ((rd_T43 l0 x20_3).f4).length c156_4] 43 (0,0)) (by (with_reducible repeat (first | refine blk_drewN ?_ _ | refine blk_drew ?_ | refine blk_alloc ?_ _));exact BK157.out) hb)
                  have n4_:=Aside0.mk (below_step (by repeat (first | (with_reducible first | exact HB.out | apply below_alloc | apply pw_below_drewN | apply below_drew1 | refine below_set ?_ GE155.out | refine below_set ?_ GE157.out) | exact HB.out)) hb)
                  clear HO_3
                  clear HO_4
                  clear BK155
                  clear BK157
                  clear HB
                  have HO_3:=n0_
                  have HO_4:=n1_
                  have BK155:=n2_
                  have BK157:=n3_
                  have HB:=n4_
                  clear n0_ n1_ n2_ n3_ n4_
                  (try clear hb)
                  (try clear hb2)
                  (try clear hk)
                  (try clear hi)
                  refine hK.out _ _ ?_
                  clear hK K
                  refine norm_ (a':=?_) ?_ ?_
                  rotate_left
                  ·show Act.put _ (some 39) _ = _
                   simp only [Act.put,q1_,q2_,q3_,i64_w,i32_w]
                   rfl
                  refine pure_ (i:=15) (N:=some 40) (v:=?_) (a':=?_) #[tt,tt,tt,tt,tt,tt,tt,tt,tt,tt,tt,tt,tt,tt,tt,tt] rfl rfl (any_of HT_.out (by kernel_rfl)) (fun _ _ _ h => h) (Or.inl ⟨by rfl,?_⟩) ?_ ?_
                  rotate_left
                  ·intro w'
                   go_simp
                   with_reducible rfl
                  rotate_left
                  ·simp only [Act.put,q1_,q2_,q3_,i64_w,i32_w]
                   rfl
                  refine done_ (done_of HT_.out (by kernel_rfl)) ?_
                  try go_wp2
                  go_roundg k3
                  case measure => have:=HJ2.out;have:=HK2.out;have:=HK3.out;omega
                  case rel => exact ⟨(x4_3),(wrap64 (x20_3 + 1)),(by first | rfl | (simp;done) | (simp [*];done)),H',⟨by have:=HJ2.out;have:=HK2.out;have:=HK3.out;omega⟩,⟨by (with_reducible repeat (first | apply Kd.R_alloc | apply Kd.R_drewN | apply Kd.R_drew));exact HO_3.out⟩,⟨by (with_reducible repeat (first | apply Kd.R_alloc | apply Kd.R_drewN | apply Kd.R_drew));exact HO_4.out⟩,⟨by (with_reducible repeat (first | refine blk_drewN ?_ _ | refine blk_drew ?_ | refine blk_alloc ?_ _));exact BK155.out⟩,⟨by repeat (first | (with_reducible first | exact HB.out | apply below_alloc | apply pw_below_drewN | apply below_drew1 | refine below_set ?_ GE155.out | refine below_set ?_ GE157.out) | exact HB.out)⟩⟩
                ·rw [if_neg c21] at H
                 exact absurd H (by simp)
               ·rw [if_neg c20] at H
                exact absurd H (by simp)
              ·rw [if_neg c19] at H
               exact absurd H (by simp)
            ·rw [if_neg c12] at H
             exact absurd H (by simp)
           ·rw [if_neg c11] at H
            exact absurd H (by simp)
          ·rw [if_neg c10] at H
           have c10b0 : decide (x20_3 < (l0.length : Int)) = false:=decide_eq_false c10
           clear c10
           have H':=Aside0.mk H
           clear H
           go_wp2
           go_roundg k3
           case measure => have:=HJ2.out;have:=HK2.out;have:=HK3.out;omega
           case rel => exact ⟨(x4_3),(wrap64 (x13_2 + 1)),(by first | rfl | (simp;done) | (simp [*];done)),H',⟨by have:=HJ2.out;have:=HK2.out;have:=HK3.out;omega⟩,⟨by (with_reducible repeat (first | apply Kd.R_alloc | apply Kd.R_drewN | apply Kd.R_drew));exact HO_3.out⟩,⟨by (with_reducible repeat (first | apply Kd.R_alloc | apply Kd.R_drewN | apply Kd.R_drew));exact HO_4.out⟩,⟨by repeat (first | (with_reducible first | exact HB.out | apply below_alloc | apply pw_below_drewN | apply below_drew1 | refine below_set ?_ GE155.out) | exact HB.out)⟩⟩
       ·rw [if_neg c7] at H
        exact absurd H (by simp)
      ·rw [if_neg c6] at H
       exact absurd H (by simp)
     ·rw [if_neg c5] at H
      have c5b0 : decide (x13_2 < (l0.length : Int)) = false:=decide_eq_false c5
      clear c5
      obtain rfl:=Option.some.inj H
      go_wp2
      go_ret
      exact ⟨_,by first | rfl | (simp [errW_none,errW_some] <;> rfl) | (simp [*,errW_none,errW_some] <;> rfl),by (with_reducible repeat (first | apply Kd.R_alloc | apply Kd.R_drewN | apply Kd.R_drew));exact HO_4.out,by repeat (first | (with_reducible first | exact HB.out | apply below_alloc | apply pw_below_drewN | apply below_drew1) | exact HB.out)⟩
end Go.Proofs.Ytbmcbhpkefjhbaa.P
set_option linter.unusedVariables false
set_option linter.unusedSimpArgs false
namespace Go.Proofs.Ytbmcbhpkefjhbaa.P
open Go.RowKit Go.Proofs.Ytbmcbhpkefjhbaa Go.Proofs.Ytbmcbhpkefjhbaa.Mem Go.Proofs.YtbmcbhpkefjhbaaW.PrintWords Go.Proofs.YtbmcbhpkefjhbaaW.PrintLast Go.Proofs.YtbmcbhpkefjhbaaW.PrintMore
abbrev SSt := S43
abbrev rdS (l : List SSt) (i : Int) : SSt := rd_T43 l i
theorem wsucc {i : Nat} (h : i ≤ 4611686018427387904) : wrap64 ((i : Int) + 1) = ((i + 1 : Nat) : Int) := by unfold wrap64; omega
theorem rdS_at {l : List SSt} {i : Nat} (h : i < l.length) : l[i]? = some (rdS l (i : Int)) := by
  unfold rdS rd_T43
  rw [Int.toNat_natCast, List.getD_eq_getElem?_getD, List.getElem?_eq_getElem h]; rfl
theorem rdS_mem {l : List SSt} {i : Nat} (h : i < l.length) : rdS l (i : Int) ∈ l := List.mem_of_getElem? (rdS_at h)
def cntW (l : List SSt) : Nat := (l.filter fun s => decide (0 < s.f3.length)).length
def plc (l : List SSt) (i : Nat) : Int := if (rdS l (i : Int)).f3.length = 0 then -1 else (cntW (l.take i) : Int)
theorem cntW_succ {l : List SSt} {i : Nat} (h : i < l.length) : cntW (l.take (i + 1)) = cntW (l.take i) + (if (rdS l (i : Int)).f3.length = 0 then 0 else 1) := by
  have hg := rdS_at h
  rw [List.getElem?_eq_getElem h] at hg
  injection hg with hg
  unfold cntW
  rw [List.take_succ_eq_append_getElem h, List.filter_append, List.length_append, hg]
  congr 1
  by_cases h0 : (rdS l (i : Int)).f3.length = 0
  · rw [if_pos h0, List.filter_cons, if_neg (by simp only [decide_eq_true_eq]; omega)]; rfl
  · rw [if_neg h0, List.filter_cons, if_pos (by simp only [decide_eq_true_eq]; omega)]; rfl
theorem cntW_le (l : List SSt) : cntW l ≤ l.length := List.length_filter_le _ _
theorem places_l0 {l : List SSt} (hl : l.length ≤ 1000) : ∀ (d i k : Nat), i + d = l.length → d + 1 ≤ k → dsg_places.l0 k ((List.range i).map (plc l)) (cntW (l.take i) : Int) l (l.length : Int) (i : Int) = some ((List.range l.length).map (plc l)) := by
  intro d
  induction d with
  | zero =>
    intro i k hi hk
    obtain ⟨k, rfl⟩ : ∃ m, k = m + 1 := ⟨k - 1, by omega⟩
    have h0 : i = l.length := by omega
    rw [dsg_places.l0, if_neg (by omega), h0]
  | succ d ih =>
    intro i k hi hk
    obtain ⟨k, rfl⟩ : ∃ m, k = m + 1 := ⟨k - 1, by omega⟩
    have hlt : i < l.length := by omega
    have hc := cntW_succ hlt
    have hle := cntW_le (l.take i)
    rw [List.length_take] at hle
    have ih' := ih (i + 1) k (by omega) (by omega)
    rw [List.range_succ, List.map_append, List.map_singleton, hc] at ih'
    have hxl : ((List.range i).map (plc l)).length < 17592186044416 := by rw [List.length_map, List.length_range]; omega
    rw [dsg_places.l0, if_pos (by omega), if_pos (by omega), if_pos (by omega), wsucc (by omega)]
    by_cases h0 : (rdS l (i : Int)).f3.length = 0
    · rw [if_pos (show ((rdS l (i : Int)).f3.length : Int) = 0 by omega), if_pos hxl]
      rw [if_pos h0, Nat.add_zero, show plc l i = -1 from by unfold plc; rw [if_pos h0]] at ih'
      exact ih'
    · rw [if_neg (show ¬ ((rdS l (i : Int)).f3.length : Int) = 0 by omega), if_pos hxl, wsucc (by omega)]
      rw [if_neg h0, show plc l i = (cntW (l.take i) : Int) from by unfold plc; rw [if_neg h0]] at ih'
      exact ih'
theorem places_ev {k : Nat} {l : List SSt} (hl : l.length ≤ 1000) (hk : 1001 ≤ k) : dsg_places.f k l = some ((List.range l.length).map (plc l)) := by
  unfold dsg_places.f
  exact places_l0 hl l.length 0 k (by omega) (by omega)
theorem rd_places {l : List SSt} {i : Nat} (h : i < l.length) : rd ((List.range l.length).map (plc l)) (i : Int) = plc l i := by
  unfold rd
  rw [Int.toNat_natCast, List.getD_eq_getElem?_getD, List.getElem?_map, List.getElem?_range h]; rfl
end Go.Proofs.Ytbmcbhpkefjhbaa.P
set_option linter.unusedVariables false
set_option linter.unusedSimpArgs false
namespace Go.Proofs.Ytbmcbhpkefjhbaa.P
open Go.RowKit Go.Proofs.Ytbmcbhpkefjhbaa Go.Proofs.Ytbmcbhpkefjhbaa.Mem Go.Proofs.YtbmcbhpkefjhbaaW.PrintWords Go.Proofs.YtbmcbhpkefjhbaaW.PrintLast Go.Proofs.YtbmcbhpkefjhbaaW.PrintMore
structure LightL (l : List SSt) : Prop where
  len : l.length ≤ 15
  ev : ∀ s ∈ l, s.f2.length ≤ 20
  wr : ∀ s ∈ l, s.f3.length ≤ 20
  oe : ∀ s ∈ l, okEv s.f2
  ow : ∀ s ∈ l, okRo s.f3
def AH (l : List SSt) (i j : Nat) : Bool := aheadB (rdS l (i : Int)).f1 (rdS l (i : Int)).f2 (rdS l (i : Int)).f3 (rdS l (j : Int)).f1 (rdS l (j : Int)).f2 (rdS l (j : Int)).f3 (plc l i) (plc l j)
theorem pAhead_ev {l : List SSt} (hL : LightL l) {i j : Nat} (hi : i < l.length) (hj : j < l.length) : dsg_ahead.f (rdS l (i : Int)).f0 (rdS l (i : Int)).f1 (rdS l (i : Int)).f2 (rdS l (i : Int)).f3 (rdS l (i : Int)).f4 (rdS l (j : Int)).f0 (rdS l (j : Int)).f1 (rdS l (j : Int)).f2 (rdS l (j : Int)).f3 (rdS l (j : Int)).f4 (plc l i) (plc l j) = some (AH l i j) := by
  have mi := rdS_mem hi
  have mj := rdS_mem hj
  have e1 := hL.ev _ mi
  have e2 := hL.ev _ mj
  have w1 := hL.wr _ mi
  have w2 := hL.wr _ mj
  unfold dsg_ahead.f
  rw [if_pos ⟨⟨by omega, okEvB_iff.2 (hL.oe _ mi), by omega, okRoB_iff.2 (hL.ow _ mi)⟩, by omega, okEvB_iff.2 (hL.oe _ mj), by omega, okRoB_iff.2 (hL.ow _ mj)⟩]
  rfl
def inn (l : List SSt) (i : Nat) : Nat → Nat → List SPr → List SPr
  | _, 0, acc => acc
  | j, d + 1, acc => inn l i (j + 1) d (if i = j then acc else if AH l i j = true then acc ++ [⟨(i : Int), (j : Int)⟩] else acc)
def outP (l : List SSt) : Nat → Nat → List SPr → List SPr
  | _, 0, acc => acc
  | i, d + 1, acc => outP l (i + 1) d (inn l i 0 l.length acc)
theorem inn_len (l : List SSt) (i : Nat) : ∀ (d j : Nat) (acc : List SPr), (inn l i j d acc).length ≤ acc.length + d := by
  intro d
  induction d with
  | zero => intro j acc; exact Nat.le_refl _
  | succ d ih =>
    intro j acc
    rw [inn]
    refine Nat.le_trans (ih _ _) ?_
    split
    · omega
    · split
      · rw [List.length_append, List.length_singleton]; omega
      · omega
theorem outP_len (l : List SSt) : ∀ (d i : Nat) (acc : List SPr), (outP l i d acc).length ≤ acc.length + d * l.length := by
  intro d
  induction d with
  | zero => intro i acc; rw [Nat.zero_mul]; exact Nat.le_refl _
  | succ d ih =>
    intro i acc
    rw [outP]
    have h1 := ih (i + 1) (inn l i 0 l.length acc)
    have h2 := inn_len l i l.length 0 acc
    rw [Nat.succ_mul]
    omega
theorem pE_l0 {l : List SSt} (hL : LightL l) : ∀ (d i k : Nat) (acc : List SPr), i + d = l.length → 40 * d + 1 ≤ k → acc.length + 15 * d ≤ 700 → dsg_Edges.l0 k l ((List.range l.length).map (plc l)) acc l (l.length : Int) (i : Int) = some (outP l i d acc) := by
  have hl := hL.len
  intro d
  induction d with
  | zero =>
    intro i k acc hi hk ha
    obtain ⟨k, rfl⟩ : ∃ m, k = m + 1 := ⟨k - 1, by omega⟩
    rw [dsg_Edges.l0, if_neg (by omega)]; rfl
  | succ d ih =>
    intro i k acc hi hk ha
    obtain ⟨k, rfl⟩ : ∃ m, k = m + 1 := ⟨k - 1, by omega⟩
    have hlt : i < l.length := by omega
    rw [dsg_Edges.l0, if_pos (by omega), if_pos (by omega), if_pos (by omega), outP]
    have key : ∀ (d2 j k : Nat) (acc2 : List SPr), j + d2 = l.length → 40 * d + 1 + 2 * d2 + 1 ≤ k → acc2.length + d2 + 15 * d ≤ 700 → dsg_Edges.l1 k l ((List.range l.length).map (plc l)) acc2 (i : Int) l (l.length : Int) (i : Int) l (l.length : Int) (j : Int) (rdS l (i : Int)).f0 (rdS l (i : Int)).f1 (rdS l (i : Int)).f2 (rdS l (i : Int)).f3 (rdS l (i : Int)).f4 = some (outP l (i + 1) d (inn l i j d2 acc2)) := by
      have hPl : ((List.range l.length).map (plc l)).length = l.length := by rw [List.length_map, List.length_range]
      intro d2
      induction d2 with
      | zero =>
        intro j k acc2 hj hk2 ha2
        obtain ⟨k, rfl⟩ : ∃ m, k = m + 1 := ⟨k - 1, by omega⟩
        rw [dsg_Edges.l1, if_neg (by omega), wsucc (by omega)]
        exact ih (i + 1) k acc2 (by omega) (by omega) (by omega)
      | succ d2 ih2 =>
        intro j k acc2 hj hk2 ha2
        obtain ⟨k, rfl⟩ : ∃ m, k = m + 1 + 1 := ⟨k - 2, by omega⟩
        have hltj : j < l.length := by omega
        rw [dsg_Edges.l1, if_pos (by omega), if_pos (by omega), if_pos (by omega), wsucc (by omega), inn]
        by_cases hij : i = j
        · rw [if_pos (by omega), if_pos hij]
          exact ih2 (j + 1) (k + 1) acc2 (by omega) (by omega) (by omega)
        · rw [if_neg (by omega), if_neg hij, if_pos (by omega), if_pos (by omega), if_pos (by omega), rd_places hlt, rd_places hltj]
          refine (congrArg (fun o => Option.bind o _) (pAhead_ev hL hlt hltj)).trans ?_
          rw [Option.bind_some]
          cases AH l i j with
          | true =>
            rw [if_pos rfl, if_pos (by omega), dsg_Edges.j3, if_pos rfl]
            exact ih2 (j + 1) k _ (by omega) (by omega) (by rw [List.length_append, List.length_singleton]; omega)
          | false =>
            rw [if_neg (by decide), if_neg (by decide)]
            exact ih2 (j + 1) (k + 1) acc2 (by omega) (by omega) (by omega)
    exact key l.length 0 k acc (by omega) (by omega) (by omega)
theorem pEdges_ev {l : List SSt} (hL : LightL l) {k : Nat} (hk : 2000 ≤ k) : dsg_Edges.f k l = some (outP l 0 l.length []) := by
  have hl := hL.len
  unfold dsg_Edges.f
  rw [places_ev (by omega) (by omega), Option.bind_some]
  obtain ⟨k, rfl⟩ : ∃ m, k = m + 1 := ⟨k - 1, by omega⟩
  rw [dsg_Edges.j0]
  exact pE_l0 hL l.length 0 k [] (by omega) (by omega) (by simp; omega)
end Go.Proofs.Ytbmcbhpkefjhbaa.P
namespace Go.Proofs.Ytbmcbhpkefjhbaa.P
open Go.RowKit Go.Proofs.YtbmcbhpkefjhbaaW.PrintWords Go.Proofs.YtbmcbhpkefjhbaaW.PrintLast Go.Proofs.YtbmcbhpkefjhbaaW.PrintMore
attribute [local go_sem] max2_int min2_int max_two min_two max_three min_three max_four min_four   -- for this text's walks alone
attribute [local go_sem] run_store_float
set_option linter.unusedVariables false
set_option linter.unusedSimpArgs false
def slices_Index_int_int.l0 : Nat → List Int → Int → Int → Int → Option (Int)
 | 0,_,_,_,_ => none
 | k + 1,x0,x1,x7,x8 => if x8 < x7 then (if 0 ≤ x8 then (if x8 < (x0.length : Int) then (if x1 = (rd x0 x8) then (some x8) else (slices_Index_int_int.l0 k x0 x1 x7 (wrap64 (x8 + 1)))) else (none)) else (none)) else (some (-1))
def slices_Index_int_int.f (k : Nat) (l0 : List Int) (a1 : Int) : Option (Int):=slices_Index_int_int.l0 k l0 a1 (l0.length : Int) 0
theorem slices_Index_int_int.mono_l : ∀ k,(∀ y0 y1 y2 y3,LeO (slices_Index_int_int.l0 k y0 y1 y2 y3) (slices_Index_int_int.l0 (k + 1) y0 y1 y2 y3))
 | 0 => fun _ _ _ _ r h => by simp [slices_Index_int_int.l0] at h
 | k + 1 => by
  have ih0:=slices_Index_int_int.mono_l k
  ·intro y0 y1 y2 y3
   unfold slices_Index_int_int.l0
   repeat' first
   | (with_reducible exact ih0 _ _ _ _)
   | (with_reducible exact LeO.refl _)
   | (with_reducible exact LeO.none _)
   | (with_reducible refine LeO.ite ?_ ?_)
   | (with_reducible refine LeO.bind ?_ (fun _ => ?_))
   | exact ih0 _ _ _ _
   | exact LeO.none _
   | refine LeO.ite ?_ ?_
   | refine LeO.bind ?_ (fun _ => ?_)
theorem slices_Index_int_int.mono : ∀ a0 a1 k,LeO (slices_Index_int_int.f k a0 a1) (slices_Index_int_int.f (k + 1) a0 a1):=by
 intro a0 a1 k
 have ih0:=slices_Index_int_int.mono_l k
 unfold slices_Index_int_int.f
 repeat' first
   | (with_reducible exact ih0 _ _ _ _)
   | (with_reducible exact LeO.refl _)
   | (with_reducible exact LeO.none _)
   | (with_reducible refine LeO.ite ?_ ?_)
   | (with_reducible refine LeO.bind ?_ (fun _ => ?_))
   | exact ih0 _ _ _ _
   | exact LeO.none _
   | refine LeO.ite ?_ ?_
   | refine LeO.bind ?_ (fun _ => ?_)
set_option maxHeartbeats 8000000 in
set_option maxRecDepth 100000 in
theorem slices_Index_int_int.calls (k : Nat) (A0 : Option Addr) (c0 : Nat) (l0 : List Int) (a1 : Int) (r : Int) (w : World) (hr0 : Kd.C (Kd.int .i64) w A0 l0.length l0) (hc0 : l0.length ≤ c0) (h : slices_Index_int_int.f k l0 a1 = some r) :
  Calls Try.prog 44 #[.slice A0 l0.length c0,.int .i64 a1] w fun e w' => e = .returned (.int .i64 r) ∧ Drawn0 w w':=by
 have HR0:=Aside0.mk hr0
 have HC0:=Aside0.mk hc0
 clear hr0 hc0
 have H : (slices_Index_int_int.l0 k l0 a1 (l0.length : Int) 0) = some r:=h
 clear h
 have H':=Aside0.mk H
 clear H
 go_enter Try.func44,Try.ntmps44
 go_wp2
 go_loopg [8] k (fun kq v8 w' => ∃ (x8_1 : Int),v8 = .int .i64 x8_1 ∧ Aside0 (slices_Index_int_int.l0 kq l0 a1 (l0.length : Int) x8_1 = some r) ∧ Aside0 (kq ≤ k) ∧ Drawn0 w w')
 case atStart => exact ⟨(0),(by first | rfl | (simp;done) | (simp [*];done)),H',⟨Nat.le_refl _⟩,by repeat (first | exact Drawn0.refl _ | apply Drawn0.step)⟩
 case round =>
  clear H'
  try clear p2
  obtain ⟨x8_1,rfl,HA,HK1,⟨m1,rfl⟩⟩:=hrel
  cases gk with
  | zero => exact absurd HA.out (by simp [slices_Index_int_int.l0])
  | succ k1 =>
   have H:=HA.out
   clear HA
   simp only [slices_Index_int_int.l0] at H
   by_cases c3 : x8_1 < (l0.length : Int)
   ·rw [if_pos c3] at H
    have c3b0 : decide (x8_1 < (l0.length : Int)) = true:=decide_eq_true c3
    clear c3
    by_cases c4 : 0 ≤ x8_1
    ·rw [if_pos c4] at H
     have c4b0 : decide (0 ≤ x8_1) = true:=decide_eq_true c4
     clear c4
     by_cases c5 : x8_1 < (l0.length : Int)
     ·rw [if_pos c5] at H
      have c5b0 : decide (x8_1 < (l0.length : Int)) = true:=decide_eq_true c5
      clear c5
      by_cases c6 : a1 = (rd l0 x8_1)
      ·rw [if_pos c6] at H
       have c6b0 : (a1 == (rd l0 x8_1)) = true:=beq_iff_eq.mpr c6
       have c6b1 : (a1 != (rd l0 x8_1)) = false:=bne_eq_false_iff_eq.mpr c6
       clear c6
       obtain rfl:=Option.some.inj H
       have p101 : 0 ≤ (x8_1 : Int):=of_decide_eq_true (by first | (with_reducible assumption) | assumption)
       have q101 : x8_1 < (l0.length : Int):=of_decide_eq_true (by first | (with_reducible assumption) | assumption)
       obtain ⟨ad101,e101,hx101_0⟩:=Kd.at_int HR0.out x8_1 p101 q101
       cases e101
       replace p101:=eq_true p101
       replace q101:=eq_true q101
       go_wp2
       go_ret
       exact ⟨by first | rfl | (simp;done) | (simp [*];done),by repeat (first | exact Drawn0.refl _ | apply Drawn0.step)⟩
      ·rw [if_neg c6] at H
       have c6b0 : (a1 == (rd l0 x8_1)) = false:=beq_eq_false_iff_ne.mpr c6
       have c6b1 : (a1 != (rd l0 x8_1)) = true:=bne_iff_ne.mpr c6
       have H':=Aside0.mk H
       clear H
       have p101 : 0 ≤ (x8_1 : Int):=of_decide_eq_true (by first | (with_reducible assumption) | assumption)
       have q101 : x8_1 < (l0.length : Int):=of_decide_eq_true (by first | (with_reducible assumption) | assumption)
       obtain ⟨ad101,e101,hx101_0⟩:=Kd.at_int HR0.out x8_1 p101 q101
       cases e101
       replace p101:=eq_true p101
       replace q101:=eq_true q101
       go_wp2
       go_roundg k1
       case measure => have:=HK1.out;omega
       case rel => exact ⟨(wrap64 (x8_1 + 1)),(by first | rfl | (simp;done) | (simp [*];done)),H',⟨by have:=HK1.out;omega⟩,by repeat (first | exact Drawn0.refl _ | apply Drawn0.step)⟩
     ·rw [if_neg c5] at H
      exact absurd H (by simp)
    ·rw [if_neg c4] at H
     exact absurd H (by simp)
   ·rw [if_neg c3] at H
    have c3b0 : decide (x8_1 < (l0.length : Int)) = false:=decide_eq_false c3
    clear c3
    obtain rfl:=Option.some.inj H
    go_wp2
    go_ret
    exact ⟨by first | rfl | (simp;done) | (simp [*];done),by repeat (first | exact Drawn0.refl _ | apply Drawn0.step)⟩
end Go.Proofs.Ytbmcbhpkefjhbaa.P
namespace Go.Proofs.Ytbmcbhpkefjhbaa.P
open Go.RowKit Go.Proofs.YtbmcbhpkefjhbaaW.PrintWords Go.Proofs.YtbmcbhpkefjhbaaW.PrintLast Go.Proofs.YtbmcbhpkefjhbaaW.PrintMore
attribute [local go_sem] max2_int min2_int max_two min_two max_three min_three max_four min_four   -- for this text's walks alone
attribute [local go_sem] run_store_float
set_option linter.unusedVariables false
set_option linter.unusedSimpArgs false
mutual
def dsg_Order.j0 : Nat → Int → List (S33) → Bool → Option (List Int × Bool)
 | 0,_,_,_ => none
 | k + 1,x0,x1,x18 => if x18 = true then (some (([] : List Int),false)) else (if 0 ≤ x0 then (if (x0 : Int).toNat ≤ 35184372088832 then (dsg_Order.l0 k x0 x1 (List.replicate (x0 : Int).toNat 0) x1 (x1.length : Int) 0) else (none)) else (none))
def dsg_Order.l0 : Nat → Int → List (S33) → List Int → List (S33) → Int → Int → Option (List Int × Bool)
 | 0,_,_,_,_,_,_ => none
 | k + 1,x0,x1,x6,x21,x22,x23 => if x23 < x22 then (if 0 ≤ x23 then (if x23 < (x21.length : Int) then (if ((rd_T33 x21 x23).f0) < 0 then (some (([] : List Int),false)) else (if ((rd_T33 x21 x23).f0) ≥ x0 then (some (([] : List Int),false)) else (if ((rd_T33 x21 x23).f1) < 0 then (some (([] : List Int),false)) else (if ((rd_T33 x21 x23).f1) ≥ x0 then (some (([] : List Int),false)) else (if ((rd_T33 x21 x23).f0) = ((rd_T33 x21 x23).f1) then (some (([] : List Int),false)) else (if 0 ≤ ((rd_T33 x21 x23).f1) then (if ((rd_T33 x21 x23).f1) < (x6.length : Int) then (dsg_Order.l0 k x0 x1 (x6.set (((rd_T33 x21 x23).f1) : Int).toNat (wrap64 ((rd x6 ((rd_T33 x21 x23).f1)) + 1))) x21 x22 (wrap64 (x23 + 1))) else (none)) else (none))))))) else (none)) else (none)) else (dsg_Order.l1 k x1 x6 ([] : List Int) x0 0)
def dsg_Order.l1 : Nat → List (S33) → List Int → List Int → Int → Int → Option (List Int × Bool)
 | 0,_,_,_,_,_ => none
 | k + 1,x1,x6,x9,x62,x63 => if x63 < x62 then ((slices_Index_int_int.f k x6 0).bind fun t109 => (dsg_Order.j3 k x1 x6 x9 t109 x62 x63 (decide (t109 < 0)))) else (some (x9,true))
def dsg_Order.j3 : Nat → List (S33) → List Int → List Int → Int → Int → Int → Bool → Option (List Int × Bool)
 | 0,_,_,_,_,_,_,_ => none
 | k + 1,x1,x6,x9,x10,x62,x63,x68 => if x68 = true then (some (([] : List Int),false)) else (if 0 ≤ x10 then (if x10 < (x6.length : Int) then (dsg_Order.l2 k x1 (x6.set (x10 : Int).toNat (-1)) x9 x10 x62 x63 x1 (x1.length : Int) 0) else (none)) else (none))
def dsg_Order.l2 : Nat → List (S33) → List Int → List Int → Int → Int → Int → List (S33) → Int → Int → Option (List Int × Bool)
 | 0,_,_,_,_,_,_,_,_,_ => none
 | k + 1,x1,x6,x9,x10,x62,x63,x72,x73,x74 => if x74 < x73 then (if 0 ≤ x74 then (if x74 < (x72.length : Int) then (if ((rd_T33 x72 x74).f0) = x10 then (if 0 ≤ ((rd_T33 x72 x74).f1) then (if ((rd_T33 x72 x74).f1) < (x6.length : Int) then (dsg_Order.l2 k x1 (x6.set (((rd_T33 x72 x74).f1) : Int).toNat (wrap64 ((rd x6 ((rd_T33 x72 x74).f1)) - 1))) x9 x10 x62 x63 x72 x73 (wrap64 (x74 + 1))) else (none)) else (none)) else (dsg_Order.l2 k x1 x6 x9 x10 x62 x63 x72 x73 (wrap64 (x74 + 1)))) else (none)) else (none)) else (if x9.length < 17592186044416 then (dsg_Order.l1 k x1 x6 (x9 ++ [x10]) x62 (wrap64 (x63 + 1))) else (none))
end
def dsg_Order.f (k : Nat) (a0 : Int) (l1 : List (S33)) : Option (List Int × Bool):=if a0 < 0 then (dsg_Order.j0 k a0 l1 true) else (dsg_Order.j0 k a0 l1 (decide (a0 > 200)))
theorem dsg_Order.mono_l : ∀ k,(∀ y0 y1 y2,LeO (dsg_Order.j0 k y0 y1 y2) (dsg_Order.j0 (k + 1) y0 y1 y2)) ∧ (∀ y0 y1 y2 y3 y4 y5,LeO (dsg_Order.l0 k y0 y1 y2 y3 y4 y5) (dsg_Order.l0 (k + 1) y0 y1 y2 y3 y4 y5)) ∧ (∀ y0 y1 y2 y3 y4,LeO (dsg_Order.l1 k y0 y1 y2 y3 y4) (dsg_Order.l1 (k + 1) y0 y1 y2 y3 y4)) ∧ (∀ y0 y1 y2 y3 y4 y5 y6,LeO (dsg_Order.j3 k y0 y1 y2 y3 y4 y5 y6) (dsg_Order.j3 (k + 1) y0 y1 y2 y3 y4 y5 y6)) ∧ (∀ y0 y1 y2 y3 y4 y5 y6 y7 y8,LeO (dsg_Order.l2 k y0 y1 y2 y3 y4 y5 y6 y7 y8) (dsg_Order.l2 (k + 1) y0 y1 y2 y3 y4 y5 y6 y7 y8))
 | 0 => ⟨fun _ _ _ r h => by simp [dsg_Order.j0] at h,fun _ _ _ _ _ _ r h => by simp [dsg_Order.l0] at h,fun _ _ _ _ _ r h => by simp [dsg_Order.l1] at h,fun _ _ _ _ _ _ _ r h => by simp [dsg_Order.j3] at h,fun _ _ _ _ _ _ _ _ _ r h => by simp [dsg_Order.l2] at h⟩
 | k + 1 => by
  obtain ⟨ih0,ih1,ih2,ih3,ih4⟩:=dsg_Order.mono_l k
  refine ⟨?_,?_,?_,?_,?_⟩
  ·intro y0 y1 y2
   unfold dsg_Order.j0
   repeat' first
   | (with_reducible exact ih0 _ _ _)
   | (with_reducible exact ih1 _ _ _ _ _ _)
   | (with_reducible exact ih2 _ _ _ _ _)
   | (with_reducible exact ih3 _ _ _ _ _ _ _)
   | (with_reducible exact ih4 _ _ _ _ _ _ _ _ _)
   | (with_reducible exact slices_Index_int_int.mono _ _ _)
   | (with_reducible exact LeO.refl _)
   | (with_reducible exact LeO.none _)
   | (with_reducible refine LeO.ite ?_ ?_)
   | (with_reducible refine LeO.bind ?_ (fun _ => ?_))
   | exact ih0 _ _ _
   | exact ih1 _ _ _ _ _ _
   | exact ih2 _ _ _ _ _
   | exact ih3 _ _ _ _ _ _ _
   | exact ih4 _ _ _ _ _ _ _ _ _
   | exact slices_Index_int_int.mono _ _ _
   | exact LeO.none _
   | refine LeO.ite ?_ ?_
   | refine LeO.bind ?_ (fun _ => ?_)
  ·intro y0 y1 y2 y3 y4 y5
   unfold dsg_Order.l0
   repeat' first
   | (with_reducible exact ih0 _ _ _)
   | (with_reducible exact ih1 _ _ _ _ _ _)
   | (with_reducible exact ih2 _ _ _ _ _)
   | (with_reducible exact ih3 _ _ _ _ _ _ _)
   | (with_reducible exact ih4 _ _ _ _ _ _ _ _ _)
   | (with_reducible exact slices_Index_int_int.mono _ _ _)
   | (with_reducible exact LeO.refl _)
   | (with_reducible exact LeO.none _)
   | (with_reducible refine LeO.ite ?_ ?_)
   | (with_reducible refine LeO.bind ?_ (fun _ => ?_))
   | exact ih0 _ _ _
   | exact ih1 _ _ _ _ _ _
   | exact ih2 _ _ _ _ _
   | exact ih3 _ _ _ _ _ _ _
   | exact ih4 _ _ _ _ _ _ _ _ _
   | exact slices_Index_int_int.mono _ _ _
   | exact LeO.none _
   | refine LeO.ite ?_ ?_
   | refine LeO.bind ?_ (fun _ => ?_)
  ·intro y0 y1 y2 y3 y4
   unfold dsg_Order.l1
   repeat' first
   | (with_reducible exact ih0 _ _ _)
   | (with_reducible exact ih1 _ _ _ _ _ _)
   | (with_reducible exact ih2 _ _ _ _ _)
   | (with_reducible exact ih3 _ _ _ _ _ _ _)
   | (with_reducible exact ih4 _ _ _ _ _ _ _ _ _)
   | (with_reducible exact slices_Index_int_int.mono _ _ _)
   | (with_reducible exact LeO.refl _)
   | (with_reducible exact LeO.none _)
   | (with_reducible refine LeO.ite ?_ ?_)
   | (with_reducible refine LeO.bind ?_ (fun _ => ?_))
   | exact ih0 _ _ _
   | exact ih1 _ _ _ _ _ _
   | exact ih2 _ _ _ _ _
   | exact ih3 _ _ _ _ _ _ _
   | exact ih4 _ _ _ _ _ _ _ _ _
   | exact slices_Index_int_int.mono _ _ _
   | exact LeO.none _
   | refine LeO.ite ?_ ?_
   | refine LeO.bind ?_ (fun _ => ?_)
  ·intro y0 y1 y2 y3 y4 y5 y6
   unfold dsg_Order.j3
   repeat' first
   | (with_reducible exact ih0 _ _ _)
   | (with_reducible exact ih1 _ _ _ _ _ _)
   | (with_reducible exact ih2 _ _ _ _ _)
   | (with_reducible exact ih3 _ _ _ _ _ _ _)
   | (with_reducible exact ih4 _ _ _ _ _ _ _ _ _)
   | (with_reducible exact slices_Index_int_int.mono _ _ _)
   | (with_reducible exact LeO.refl _)
   | (with_reducible exact LeO.none _)
   | (with_reducible refine LeO.ite ?_ ?_)
   | (with_reducible refine LeO.bind ?_ (fun _ => ?_))
   | exact ih0 _ _ _
   | exact ih1 _ _ _ _ _ _
   | exact ih2 _ _ _ _ _
   | exact ih3 _ _ _ _ _ _ _
   | exact ih4 _ _ _ _ _ _ _ _ _
   | exact slices_Index_int_int.mono _ _ _
   | exact LeO.none _
   | refine LeO.ite ?_ ?_
   | refine LeO.bind ?_ (fun _ => ?_)
  ·intro y0 y1 y2 y3 y4 y5 y6 y7 y8
   unfold dsg_Order.l2
   repeat' first
   | (with_reducible exact ih0 _ _ _)
   | (with_reducible exact ih1 _ _ _ _ _ _)
   | (with_reducible exact ih2 _ _ _ _ _)
   | (with_reducible exact ih3 _ _ _ _ _ _ _)
   | (with_reducible exact ih4 _ _ _ _ _ _ _ _ _)
   | (with_reducible exact slices_Index_int_int.mono _ _ _)
   | (with_reducible exact LeO.refl _)
   | (with_reducible exact LeO.none _)
   | (with_reducible refine LeO.ite ?_ ?_)
   | (with_reducible refine LeO.bind ?_ (fun _ => ?_))
   | exact ih0 _ _ _
   | exact ih1 _ _ _ _ _ _
   | exact ih2 _ _ _ _ _
   | exact ih3 _ _ _ _ _ _ _
   | exact ih4 _ _ _ _ _ _ _ _ _
   | exact slices_Index_int_int.mono _ _ _
   | exact LeO.none _
   | refine LeO.ite ?_ ?_
   | refine LeO.bind ?_ (fun _ => ?_)
theorem dsg_Order.mono : ∀ a0 a1 k,LeO (dsg_Order.f k a0 a1) (dsg_Order.f (k + 1) a0 a1):=by
 intro a0 a1 k
 obtain ⟨ih0,ih1,ih2,ih3,ih4⟩:=dsg_Order.mono_l k
 unfold dsg_Order.f
 repeat' first
   | (with_reducible exact ih0 _ _ _)
   | (with_reducible exact ih1 _ _ _ _ _ _)
   | (with_reducible exact ih2 _ _ _ _ _)
   | (with_reducible exact ih3 _ _ _ _ _ _ _)
   | (with_reducible exact ih4 _ _ _ _ _ _ _ _ _)
   | (with_reducible exact slices_Index_int_int.mono _ _ _)
   | (with_reducible exact LeO.refl _)
   | (with_reducible exact LeO.none _)
   | (with_reducible refine LeO.ite ?_ ?_)
   | (with_reducible refine LeO.bind ?_ (fun _ => ?_))
   | exact ih0 _ _ _
   | exact ih1 _ _ _ _ _ _
   | exact ih2 _ _ _ _ _
   | exact ih3 _ _ _ _ _ _ _
   | exact ih4 _ _ _ _ _ _ _ _ _
   | exact slices_Index_int_int.mono _ _ _
   | exact LeO.none _
   | refine LeO.ite ?_ ?_
   | refine LeO.bind ?_ (fun _ => ?_)
set_option maxHeartbeats 8000000 in
set_option maxRecDepth 100000 in
theorem dsg_Order.calls (k : Nat) (a0 : Int) (A1 : Option Addr) (c1 : Nat) (l1 : List (S33)) (r1 : List Int) (r2 : Bool) (w : World) (hr1 : Kd.C k33 w A1 l1.length l1) (hc1 : l1.length ≤ c1) (h : dsg_Order.f k a0 l1 = some (r1,r2)) :
  Calls Try.prog 14 #[.int .i64 a0,.slice A1 l1.length c1] w fun e w' => ∃ v0_ : Value,e = .returned (.tuple #[v0_,.bool r2]) ∧ Kd.R (Kd.int .i64) 3 w' w.heap.size (fun _ => True) v0_ r1 ∧ Below w.heap.size w w':=by
 have hu33:=Try.underlying33
 have HR1:=Aside0.mk hr1
 have HC1:=Aside0.mk hc1
 clear hr1 hc1
 have HB:=Aside0.mk (Below.refl w.heap.size w)
 have H : (if a0 < 0 then (dsg_Order.j0 k a0 l1 true) else (dsg_Order.j0 k a0 l1 (decide (a0 > 200)))) = some (r1,r2):=h
 clear h
 have HC3:=Aside0.mk H
 clear H
 go_enter Try.func14,Try.ntmps14
 go_upto_region 1 with (fail)
 go_cut [18] (fun v18 wc => ∃ (kq : Nat) (x18_2 : Bool),v18 = .bool x18_2 ∧ Aside0 (dsg_Order.j0 kq a0 l1 x18_2 = some (r1,r2)) ∧ Aside0 (kq ≤ k) ∧ Aside0 (Below w.heap.size w wc))
 case first =>
  have H:=HC3.out
  clear HC3
  by_cases c4 : a0 < 0
  ·rw [if_pos c4] at H
   have c4b0 : decide (a0 < 0) = true:=decide_eq_true c4
   clear c4
   (first | rw [c4b0] | (simp only [i64_w,i32_w];rw [c4b0]) | skip)
   have H':=Aside0.mk H
   clear H
   go_wp2
   go_meet
   case rel => exact ⟨_,(true),(by first | rfl | (simp;done) | (simp [*];done)),H',⟨by first | omega | exact Nat.le_refl _⟩,⟨by repeat (first | (with_reducible first | exact HB.out | apply below_alloc | apply pw_below_drewN | apply below_drew1) | exact HB.out)⟩⟩
  ·rw [if_neg c4] at H
   have c4b0 : decide (a0 < 0) = false:=decide_eq_false c4
   clear c4
   (first | rw [c4b0] | (simp only [i64_w,i32_w];rw [c4b0]) | skip)
   have H':=Aside0.mk H
   clear H
   go_wp2
   go_meet
   case rel => exact ⟨_,(decide (a0 > 200)),(by first | rfl | (simp;done) | (simp [*];done)),H',⟨by first | omega | exact Nat.le_refl _⟩,⟨by repeat (first | (with_reducible first | exact HB.out | apply below_alloc | apply pw_below_drewN | apply below_drew1) | exact HB.out)⟩⟩
 case rest =>
  clear HC3
  try clear c1
  try clear p2
  try clear c4
  try clear c4b0
  obtain ⟨kq,x18_2,rfl,HA,HJ2,HB⟩:=hcut
  cases kq with
  | zero => exact absurd HA.out (by simp [dsg_Order.j0])
  | succ kj2 =>
   have H:=HA.out
   clear HA
   simp only [dsg_Order.j0] at H
   by_cases c5 : x18_2 = true
   ·subst c5
    have H1 : (some (([] : List Int),false)) = some (r1,r2):=by rw [if_pos rfl] at H;exact H
    clear H
    have H:=H1
    clear H1
    simp only [Option.some.injEq,Prod.mk.injEq] at H
    obtain ⟨rfl,rfl⟩:=H
    go_wp2
    go_ret2
    exact ⟨_,by first | rfl | (simp [errW_none,errW_some] <;> rfl) | (simp [*,errW_none,errW_some] <;> rfl),by first | exact Kd.R_nil _ _ _ _ _ | exact Kd.N_nil _ _ _ _ _ | exact Kd.V_nil _ _ _ _ _ | exact Kd.Q_nil _ _ _ _ _ | exact Kd.S_nil _ _ _ _ _,by repeat (first | (with_reducible first | exact HB.out | apply below_alloc | apply pw_below_drewN | apply below_drew1) | exact HB.out)⟩
   ·replace c5:=Bool.eq_false_iff.mpr c5
    subst c5
    have H1 : (if 0 ≤ a0 then (if (a0 : Int).toNat ≤ 35184372088832 then (dsg_Order.l0 kj2 a0 l1 (List.replicate (a0 : Int).toNat 0) l1 (l1.length : Int) 0) else (none)) else (none)) = some (r1,r2):=by rw [if_neg (show ¬ (false = true) by decide)] at H;exact H
    clear H
    have H:=H1
    clear H1
    by_cases c6 : 0 ≤ a0
    ·rw [if_pos c6] at H
     have c6b0:=eq_true c6
     have c6b1 : decide (0 ≤ a0) = true:=decide_eq_true c6
     clear c6
     by_cases c7 : (a0 : Int).toNat ≤ 35184372088832
     ·rw [if_pos c7] at H
      have c7b0:=eq_true c7
      have c7b1 : decide ((a0 : Int).toNat ≤ 35184372088832) = true:=decide_eq_true c7
      clear c7
      obtain ⟨y102,hy102⟩ : ∃ y_ : List Int,y_ = (List.replicate (a0 : Int).toNat 0):=⟨_,rfl⟩
      replace H : (dsg_Order.l0 kj2 a0 l1 y102 l1 (l1.length : Int) 0) = some (r1,r2):=by first | (rw [hy102];with_reducible exact H) | (have H2_:=(Option.bind_some _ _).symm.trans H;rw [hy102];with_reducible exact H2_) | (have H2_:=(Option.bind_some _ _).symm.trans H;with_reducible exact H2_) | with_reducible exact H | (rw [hy102];exact H) | exact H
      have Ny102:=Aside0.mk hy102
      clear hy102
      have H':=Aside0.mk H
      clear H
      go_wp2_with (first | ((with_reducible refine gate_dst (N:=20) rfl ?_);refine Kd.R_make (Kd.int .i64) _ 3 rfl (N:=20) rfl 24 _ _ rfl a0 rfl rfl Try.underlying24 (.int .i64 0) 8 info3 rfl (by decide) (by omega) 0 (ok:=fun _ => True) (okp:=fun _ => True) rfl (fun _ hk => hk) trivial (of_decide_eq_true (by first | (with_reducible assumption) | assumption)) (Nat.le_trans (Nat.mul_le_mul_right _ (of_decide_eq_true (by first | (with_reducible assumption) | assumption) : a0.toNat ≤ 35184372088832)) (by omega)) (Below.refl _ _) (Nat.le_refl _) ?_;intro v103 w8 ho9 hb hg_ hnew_;clear hg_ hnew_;(first | rw [← Ny102.out] at ho9 | (simp only [Int.reduceToNat] at ho9;rw [← Ny102.out] at ho9));have n0_:=Aside0.mk (Kd.R_lower ho9 (below_size (by repeat (first | (with_reducible first | exact HB.out | apply below_alloc | apply pw_below_drewN | apply below_drew1) | exact HB.out))));have n1_:=Aside0.mk (below_step (by repeat (first | (with_reducible first | exact HB.out | apply below_alloc | apply pw_below_drewN | apply below_drew1) | exact HB.out)) hb);clear HB;have HO104:=n0_;have HB:=n1_;clear n0_ n1_;clear hb ho9))
      go_loopg [23] kj2 (fun kq v23 w' => ∃ (x6_2 : List Int) (x23_2 : Int),v23 = .int .i64 x23_2 ∧ Aside0 (dsg_Order.l0 kq a0 l1 x6_2 l1 (l1.length : Int) x23_2 = some (r1,r2)) ∧ Aside0 (kq ≤ kj2) ∧ Aside0 (Kd.R (Kd.int .i64) 3 w' w.heap.size (fun _ => True) v103 x6_2) ∧ Aside0 (Below w.heap.size w w'))
      case atStart => exact ⟨(y102),(0),(by first | rfl | (simp;done) | (simp [*];done)),H',⟨Nat.le_refl _⟩,⟨by (with_reducible repeat (first | apply Kd.R_alloc | apply Kd.R_drewN | apply Kd.R_drew));exact HO104.out⟩,⟨by repeat (first | (with_reducible first | exact HB.out | apply below_alloc | apply pw_below_drewN | apply below_drew1) | exact HB.out)⟩⟩
      case round =>
       clear H'
       try clear c1
       try clear p2
       try clear c4
       try clear c4b0
       try clear c5
       try clear c6
       try clear c6b0
       try clear c6b1
       try clear c7
       try clear c7b0
       try clear c7b1
       try clear p2
       obtain ⟨x6_2,x23_2,rfl,HA,HK2,HO_6,HB⟩:=hrel
       cases gk with
       | zero => exact absurd HA.out (by simp [dsg_Order.l0])
       | succ k2 =>
        have H:=HA.out
        clear HA
        simp only [dsg_Order.l0] at H
        by_cases c10 : x23_2 < (l1.length : Int)
        ·rw [if_pos c10] at H
         have c10b0 : decide (x23_2 < (l1.length : Int)) = true:=decide_eq_true c10
         clear c10
         by_cases c11 : 0 ≤ x23_2
         ·rw [if_pos c11] at H
          have c11b0 : decide (0 ≤ x23_2) = true:=decide_eq_true c11
          clear c11
          by_cases c12 : x23_2 < (l1.length : Int)
          ·rw [if_pos c12] at H
           have c12b0 : decide (x23_2 < (l1.length : Int)) = true:=decide_eq_true c12
           clear c12
           by_cases c13 : ((rd_T33 l1 x23_2).f0) < 0
           ·rw [if_pos c13] at H
            have c13b0 : decide (((rd_T33 l1 x23_2).f0) < 0) = true:=decide_eq_true c13
            clear c13
            simp only [Option.some.injEq,Prod.mk.injEq] at H
            obtain ⟨rfl,rfl⟩:=H
            have p105 : 0 ≤ (x23_2 : Int):=of_decide_eq_true (by first | (with_reducible assumption) | assumption)
            have q105 : x23_2 < (l1.length : Int):=of_decide_eq_true (by first | (with_reducible assumption) | assumption)
            obtain ⟨ad105,e105,hx105_0,hx105_1⟩:=at_T33 HR1.out x23_2 p105 q105
            cases e105
            replace hx105_0:=(HB.out.cell (World.block_lt_of_cell? w _ hx105_0)).trans hx105_0
            replace hx105_1:=(HB.out.cell (World.block_lt_of_cell? w _ hx105_1)).trans hx105_1
            replace p105:=eq_true p105
            replace q105:=eq_true q105
            go_wp2_with (first | ((with_reducible refine gate_dst (N:=8) rfl ?_);refine box_event ?hg (N:=8) ?hd (cs:=#[.int .i64 0,.int .i64 0]) (t:=33) ?hr ?_;(case hd => rfl);(case hg => rfl);(case hr => first | (go_simp;done) | (go_simp;rfl));intro gb106 hg w14 hbox hb;have n0_:=Aside0.mk (Kd.R_below (by (with_reducible repeat (first | apply Kd.R_alloc | apply Kd.R_drewN | apply Kd.R_drew));exact HO_6.out) hb);have n1_:=Aside0.mk (below_step (by repeat (first | (with_reducible first | exact HB.out | apply below_alloc | apply pw_below_drewN | apply below_drew1) | exact HB.out)) hb);have n2_:=Aside0.mk (hbox);have n3_:=Aside0.mk ((by rw [hg];exact (below_size (by repeat (first | (with_reducible first | exact HB.out | apply below_alloc | apply pw_below_drewN | apply below_drew1) | exact HB.out))) : w.heap.size ≤ gb106));have n4_:=Aside0.mk ((by rw [hg];exact (below_size (by repeat (first | (with_reducible first | exact HB.out | apply below_alloc | apply pw_below_drewN | apply below_drew1) | exact HB.out))) : w.heap.size ≤ gb106));clear HO_6;clear HB;have HO_6:=n0_;have HB:=n1_;have BK106:=n2_;have GW106:=n3_;have GE106:=n4_;clear n0_ n1_ n2_ n3_ n4_;clear hb hbox hg;have hcz15_0 : w14.cell? ⟨gb106,0,none⟩ = some (.int .i64 0):=(blk_cell BK106.out 0).trans rfl;have hcz15_1 : w14.cell? ⟨gb106,1,none⟩ = some (.int .i64 0):=(blk_cell BK106.out 1).trans rfl;have hfz15_0:=blk_frozen BK106.out 0;have hfz15_1:=blk_frozen BK106.out 1))
            go_ret2
            exact ⟨_,by first | rfl | (simp [errW_none,errW_some] <;> rfl) | (simp [*,errW_none,errW_some] <;> rfl),by first | exact Kd.R_nil _ _ _ _ _ | exact Kd.N_nil _ _ _ _ _ | exact Kd.V_nil _ _ _ _ _ | exact Kd.Q_nil _ _ _ _ _ | exact Kd.S_nil _ _ _ _ _,by repeat (first | (with_reducible first | exact HB.out | apply below_alloc | apply pw_below_drewN | apply below_drew1 | refine below_set ?_ GE106.out) | exact HB.out)⟩
           ·rw [if_neg c13] at H
            have c13b0 : decide (((rd_T33 l1 x23_2).f0) < 0) = false:=decide_eq_false c13
            clear c13
            by_cases c16 : ((rd_T33 l1 x23_2).f0) ≥ a0
            ·rw [if_pos c16] at H
             have c16b0 : decide (a0 ≤ ((rd_T33 l1 x23_2).f0)) = true:=decide_eq_true c16
             clear c16
             simp only [Option.some.injEq,Prod.mk.injEq] at H
             obtain ⟨rfl,rfl⟩:=H
             have p105 : 0 ≤ (x23_2 : Int):=of_decide_eq_true (by first | (with_reducible assumption) | assumption)
             have q105 : x23_2 < (l1.length : Int):=of_decide_eq_true (by first | (with_reducible assumption) | assumption)
             obtain ⟨ad105,e105,hx105_0,hx105_1⟩:=at_T33 HR1.out x23_2 p105 q105
             cases e105
             replace hx105_0:=(HB.out.cell (World.block_lt_of_cell? w _ hx105_0)).trans hx105_0
             replace hx105_1:=(HB.out.cell (World.block_lt_of_cell? w _ hx105_1)).trans hx105_1
             replace p105:=eq_true p105
             replace q105:=eq_true q105
             go_wp2_with (first | ((with_reducible refine gate_dst (N:=8) rfl ?_);refine box_event ?hg (N:=8) ?hd (cs:=#[.int .i64 0,.int .i64 0]) (t:=33) ?hr ?_;(case hd => rfl);(case hg => rfl);(case hr => first | (go_simp;done) | (go_simp;rfl));intro gb106 hg w17 hbox hb;have n0_:=Aside0.mk (Kd.R_below (by (with_reducible repeat (first | apply Kd.R_alloc | apply Kd.R_drewN | apply Kd.R_drew));exact HO_6.out) hb);have n1_:=Aside0.mk (below_step (by repeat (first | (with_reducible first | exact HB.out | apply below_alloc | apply pw_below_drewN | apply below_drew1) | exact HB.out)) hb);have n2_:=Aside0.mk (hbox);have n3_:=Aside0.mk ((by rw [hg];exact (below_size (by repeat (first | (with_reducible first | exact HB.out | apply below_alloc | apply pw_below_drewN | apply below_drew1) | exact HB.out))) : w.heap.size ≤ gb106));have n4_:=Aside0.mk ((by rw [hg];exact (below_size (by repeat (first | (with_reducible first | exact HB.out | apply below_alloc | apply pw_below_drewN | apply below_drew1) | exact HB.out))) : w.heap.size ≤ gb106));clear HO_6;clear HB;have HO_6:=n0_;have HB:=n1_;have BK106:=n2_;have GW106:=n3_;have GE106:=n4_;clear n0_ n1_ n2_ n3_ n4_;clear hb hbox hg;have hcz18_0 : w17.cell? ⟨gb106,0,none⟩ = some (.int .i64 0):=(blk_cell BK106.out 0).trans rfl;have hcz18_1 : w17.cell? ⟨gb106,1,none⟩ = some (.int .i64 0):=(blk_cell BK106.out 1).trans rfl;have hfz18_0:=blk_frozen BK106.out 0;have hfz18_1:=blk_frozen BK106.out 1))
             go_ret2
             exact ⟨_,by first | rfl | (simp [errW_none,errW_some] <;> rfl) | (simp [*,errW_none,errW_some] <;> rfl),by first | exact Kd.R_nil _ _ _ _ _ | exact Kd.N_nil _ _ _ _ _ | exact Kd.V_nil _ _ _ _ _ | exact Kd.Q_nil _ _ _ _ _ | exact Kd.S_nil _ _ _ _ _,by repeat (first | (with_reducible first | exact HB.out | apply below_alloc | apply pw_below_drewN | apply below_drew1 | refine below_set ?_ GE106.out) | exact HB.out)⟩
            ·rw [if_neg c16] at H
             have c16b0 : decide (a0 ≤ ((rd_T33 l1 x23_2).f0)) = false:=decide_eq_false c16
             clear c16
             by_cases c19 : ((rd_T33 l1 x23_2).f1) < 0
             ·rw [if_pos c19] at H
              have c19b0 : decide (((rd_T33 l1 x23_2).f1) < 0) = true:=decide_eq_true c19
              clear c19
              simp only [Option.some.injEq,Prod.mk.injEq] at H
              obtain ⟨rfl,rfl⟩:=H
              have p105 : 0 ≤ (x23_2 : Int):=of_decide_eq_true (by first | (with_reducible assumption) | assumption)
              have q105 : x23_2 < (l1.length : Int):=of_decide_eq_true (by first | (with_reducible assumption) | assumption)
              obtain ⟨ad105,e105,hx105_0,hx105_1⟩:=at_T33 HR1.out x23_2 p105 q105
              cases e105
              replace hx105_0:=(HB.out.cell (World.block_lt_of_cell? w _ hx105_0)).trans hx105_0
              replace hx105_1:=(HB.out.cell (World.block_lt_of_cell? w _ hx105_1)).trans hx105_1
              replace p105:=eq_true p105
              replace q105:=eq_true q105
              go_wp2_with (first | ((with_reducible refine gate_dst (N:=8) rfl ?_);refine box_event ?hg (N:=8) ?hd (cs:=#[.int .i64 0,.int .i64 0]) (t:=33) ?hr ?_;(case hd => rfl);(case hg => rfl);(case hr => first | (go_simp;done) | (go_simp;rfl));intro gb106 hg w20 hbox hb;have n0_:=Aside0.mk (Kd.R_below (by (with_reducible repeat (first | apply Kd.R_alloc | apply Kd.R_drewN | apply Kd.R_drew));exact HO_6.out) hb);have n1_:=Aside0.mk (below_step (by repeat (first | (with_reducible first | exact HB.out | apply below_alloc | apply pw_below_drewN | apply below_drew1) | exact HB.out)) hb);have n2_:=Aside0.mk (hbox);have n3_:=Aside0.mk ((by rw [hg];exact (below_size (by repeat (first | (with_reducible first | exact HB.out | apply below_alloc | apply pw_below_drewN | apply below_drew1) | exact HB.out))) : w.heap.size ≤ gb106));have n4_:=Aside0.mk ((by rw [hg];exact (below_size (by repeat (first | (with_reducible first | exact HB.out | apply below_alloc | apply pw_below_drewN | apply below_drew1) | exact HB.out))) : w.heap.size ≤ gb106));clear HO_6;clear HB;have HO_6:=n0_;have HB:=n1_;have BK106:=n2_;have GW106:=n3_;have GE106:=n4_;clear n0_ n1_ n2_ n3_ n4_;clear hb hbox hg;have hcz21_0 : w20.cell? ⟨gb106,0,none⟩ = some (.int .i64 0):=(blk_cell BK106.out 0).trans rfl;have hcz21_1 : w20.cell? ⟨gb106,1,none⟩ = some (.int .i64 0):=(blk_cell BK106.out 1).trans rfl;have hfz21_0:=blk_frozen BK106.out 0;have hfz21_1:=blk_frozen BK106.out 1))
              go_ret2
              exact ⟨_,by first | rfl | (simp [errW_none,errW_some] <;> rfl) | (simp [*,errW_none,errW_some] <;> rfl),by first | exact Kd.R_nil _ _ _ _ _ | exact Kd.N_nil _ _ _ _ _ | exact Kd.V_nil _ _ _ _ _ | exact Kd.Q_nil _ _ _ _ _ | exact Kd.S_nil _ _ _ _ _,by repeat (first | (with_reducible first | exact HB.out | apply below_alloc | apply pw_below_drewN | apply below_drew1 | refine below_set ?_ GE106.out) | exact HB.out)⟩
             ·rw [if_neg c19] at H
              have c19b0 : decide (((rd_T33 l1 x23_2).f1) < 0) = false:=decide_eq_false c19
              clear c19
              by_cases c22 : ((rd_T33 l1 x23_2).f1) ≥ a0
              ·rw [if_pos c22] at H
               have c22b0 : decide (a0 ≤ ((rd_T33 l1 x23_2).f1)) = true:=decide_eq_true c22
               clear c22
               simp only [Option.some.injEq,Prod.mk.injEq] at H
               obtain ⟨rfl,rfl⟩:=H
               have p105 : 0 ≤ (x23_2 : Int):=of_decide_eq_true (by first | (with_reducible assumption) | assumption)
               have q105 : x23_2 < (l1.length : Int):=of_decide_eq_true (by first | (with_reducible assumption) | assumption)
               obtain ⟨ad105,e105,hx105_0,hx105_1⟩:=at_T33 HR1.out x23_2 p105 q105
               cases e105
               replace hx105_0:=(HB.out.cell (World.block_lt_of_cell? w _ hx105_0)).trans hx105_0
               replace hx105_1:=(HB.out.cell (World.block_lt_of_cell? w _ hx105_1)).trans hx105_1
               replace p105:=eq_true p105
               replace q105:=eq_true q105
               go_wp2_with (first | ((with_reducible refine gate_dst (N:=8) rfl ?_);refine box_event ?hg (N:=8) ?hd (cs:=#[.int .i64 0,.int .i64 0]) (t:=33) ?hr ?_;(case hd => rfl);(case hg => rfl);(case hr => first | (go_simp;done) | (go_simp;rfl));intro gb106 hg w23 hbox hb;have n0_:=Aside0.mk (Kd.R_below (by (with_reducible repeat (first | apply Kd.R_alloc | apply Kd.R_drewN | apply Kd.R_drew));exact HO_6.out) hb);have n1_:=Aside0.mk (below_step (by repeat (first | (with_reducible first | exact HB.out | apply below_alloc | apply pw_below_drewN | apply below_drew1) | exact HB.out)) hb);have n2_:=Aside0.mk (hbox);have n3_:=Aside0.mk ((by rw [hg];exact (below_size (by repeat (first | (with_reducible first | exact HB.out | apply below_alloc | apply pw_below_drewN | apply below_drew1) | exact HB.out))) : w.heap.size ≤ gb106));have n4_:=Aside0.mk ((by rw [hg];exact (below_size (by repeat (first | (with_reducible first | exact HB.out | apply below_alloc | apply pw_below_drewN | apply below_drew1) | exact HB.out))) : w.heap.size ≤ gb106));clear HO_6;clear HB;have HO_6:=n0_;have HB:=n1_;have BK106:=n2_;have GW106:=n3_;have GE106:=n4_;clear n0_ n1_ n2_ n3_ n4_;clear hb hbox hg;have hcz24_0 : w23.cell? ⟨gb106,0,none⟩ = some (.int .i64 0):=(blk_cell BK106.out 0).trans rfl;have hcz24_1 : w23.cell? ⟨gb106,1,none⟩ = some (.int .i64 0):=(blk_cell BK106.out 1).trans rfl;have hfz24_0:=blk_frozen BK106.out 0;have hfz24_1:=blk_frozen BK106.out 1))
               go_ret2
               exact ⟨_,by first | rfl | (simp [errW_none,errW_some] <;> rfl) | (simp [*,errW_none,errW_some] <;> rfl),by first | exact Kd.R_nil _ _ _ _ _ | exact Kd.N_nil _ _ _ _ _ | exact Kd.V_nil _ _ _ _ _ | exact Kd.Q_nil _ _ _ _ _ | exact Kd.S_nil _ _ _ _ _,by repeat (first | (with_reducible first | exact HB.out | apply below_alloc | apply pw_below_drewN | apply below_drew1 | refine below_set ?_ GE106.out) | exact HB.out)⟩
              ·rw [if_neg c22] at H
               have c22b0 : decide (a0 ≤ ((rd_T33 l1 x23_2).f1)) = false:=decide_eq_false c22
               clear c22
               by_cases c25 : ((rd_T33 l1 x23_2).f0) = ((rd_T33 l1 x23_2).f1)
               ·rw [if_pos c25] at H
                have c25b0 : (((rd_T33 l1 x23_2).f0) == ((rd_T33 l1 x23_2).f1)) = true:=beq_iff_eq.mpr c25
                have c25b1 : (((rd_T33 l1 x23_2).f0) != ((rd_T33 l1 x23_2).f1)) = false:=bne_eq_false_iff_eq.mpr c25
                clear c25
                simp only [Option.some.injEq,Prod.mk.injEq] at H
                obtain ⟨rfl,rfl⟩:=H
                have p105 : 0 ≤ (x23_2 : Int):=of_decide_eq_true (by first | (with_reducible assumption) | assumption)
                have q105 : x23_2 < (l1.length : Int):=of_decide_eq_true (by first | (with_reducible assumption) | assumption)
                obtain ⟨ad105,e105,hx105_0,hx105_1⟩:=at_T33 HR1.out x23_2 p105 q105
                cases e105
                replace hx105_0:=(HB.out.cell (World.block_lt_of_cell? w _ hx105_0)).trans hx105_0
                replace hx105_1:=(HB.out.cell (World.block_lt_of_cell? w _ hx105_1)).trans hx105_1
                replace p105:=eq_true p105
                replace q105:=eq_true q105
                go_wp2_with (first | ((with_reducible refine gate_dst (N:=8) rfl ?_);refine box_event ?hg (N:=8) ?hd (cs:=#[.int .i64 0,.int .i64 0]) (t:=33) ?hr ?_;(case hd => rfl);(case hg => rfl);(case hr => first | (go_simp;done) | (go_simp;rfl));intro gb106 hg w26 hbox hb;have n0_:=Aside0.mk (Kd.R_below (by (with_reducible repeat (first | apply Kd.R_alloc | apply Kd.R_drewN | apply Kd.R_drew));exact HO_6.out) hb);have n1_:=Aside0.mk (below_step (by repeat (first | (with_reducible first | exact HB.out | apply below_alloc | apply pw_below_drewN | apply below_drew1) | exact HB.out)) hb);have n2_:=Aside0.mk (hbox);have n3_:=Aside0.mk ((by rw [hg];exact (below_size (by repeat (first | (with_reducible first | exact HB.out | apply below_alloc | apply pw_below_drewN | apply below_drew1) | exact HB.out))) : w.heap.size ≤ gb106));have n4_:=Aside0.mk ((by rw [hg];exact (below_size (by repeat (first | (with_reducible first | exact HB.out | apply below_alloc | apply pw_below_drewN | apply below_drew1) | exact HB.out))) : w.heap.size ≤ gb106));clear HO_6;clear HB;have HO_6:=n0_;have HB:=n1_;have BK106:=n2_;have GW106:=n3_;have GE106:=n4_;clear n0_ n1_ n2_ n3_ n4_;clear hb hbox hg;have hcz27_0 : w26.cell? ⟨gb106,0,none⟩ = some (.int .i64 0):=(blk_cell BK106.out 0).trans rfl;have hcz27_1 : w26.cell? ⟨gb106,1,none⟩ = some (.int .i64 0):=(blk_cell BK106.out 1).trans rfl;have hfz27_0:=blk_frozen BK106.out 0;have hfz27_1:=blk_frozen BK106.out 1))
                go_ret2
                exact ⟨_,by first | rfl | (simp [errW_none,errW_some] <;> rfl) | (simp [*,errW_none,errW_some] <;> rfl),by first | exact Kd.R_nil _ _ _ _ _ | exact Kd.N_nil _ _ _ _ _ | exact Kd.V_nil _ _ _ _ _ | exact Kd.Q_nil _ _ _ _ _ | exact Kd.S_nil _ _ _ _ _,by repeat (first | (with_reducible first | exact HB.out | apply below_alloc | apply pw_below_drewN | apply below_drew1 | refine below_set ?_ GE106.out) | exact HB.out)⟩
               ·rw [if_neg c25] at H
                have c25b0 : (((rd_T33 l1 x23_2).f0) == ((rd_T33 l1 x23_2).f1)) = false:=beq_eq_false_iff_ne.mpr c25
                have c25b1 : (((rd_T33 l1 x23_2).f0) != ((rd_T33 l1 x23_2).f1)) = true:=bne_iff_ne.mpr c25
                by_cases c28 : 0 ≤ ((rd_T33 l1 x23_2).f1)
                ·rw [if_pos c28] at H
                 have c28b0 : decide (0 ≤ ((rd_T33 l1 x23_2).f1)) = true:=decide_eq_true c28
                 clear c28
                 by_cases c29 : ((rd_T33 l1 x23_2).f1) < (x6_2.length : Int)
                 ·rw [if_pos c29] at H
                  have c29b0 : decide (((rd_T33 l1 x23_2).f1) < (x6_2.length : Int)) = true:=decide_eq_true c29
                  clear c29
                  obtain ⟨y108,hy108⟩ : ∃ y_ : List Int,y_ = (x6_2.set (((rd_T33 l1 x23_2).f1) : Int).toNat (wrap64 ((rd x6_2 ((rd_T33 l1 x23_2).f1)) + 1))):=⟨_,rfl⟩
                  replace H : (dsg_Order.l0 k2 a0 l1 y108 l1 (l1.length : Int) (wrap64 (x23_2 + 1))) = some (r1,r2):=by first | (rw [hy108];with_reducible exact H) | (have H2_:=(Option.bind_some _ _).symm.trans H;rw [hy108];with_reducible exact H2_) | (have H2_:=(Option.bind_some _ _).symm.trans H;with_reducible exact H2_) | with_reducible exact H | (rw [hy108];exact H) | exact H
                  have Ny108:=Aside0.mk hy108
                  clear hy108
                  have H':=Aside0.mk H
                  clear H
                  have p105 : 0 ≤ (x23_2 : Int):=of_decide_eq_true (by first | (with_reducible assumption) | assumption)
                  have q105 : x23_2 < (l1.length : Int):=of_decide_eq_true (by first | (with_reducible assumption) | assumption)
                  obtain ⟨ad105,e105,hx105_0,hx105_1⟩:=at_T33 HR1.out x23_2 p105 q105
                  cases e105
                  replace hx105_0:=(HB.out.cell (World.block_lt_of_cell? w _ hx105_0)).trans hx105_0
                  replace hx105_1:=(HB.out.cell (World.block_lt_of_cell? w _ hx105_1)).trans hx105_1
                  replace p105:=eq_true p105
                  replace q105:=eq_true q105
                  go_wp2_with (first | ((with_reducible refine gate_dst (N:=8) rfl ?_);refine box_event ?hg (N:=8) ?hd (cs:=#[.int .i64 0,.int .i64 0]) (t:=33) ?hr ?_;(case hd => rfl);(case hg => rfl);(case hr => first | (go_simp;done) | (go_simp;rfl));intro gb106 hg w31 hbox hb;have n0_:=Aside0.mk (Kd.R_below (by (with_reducible repeat (first | apply Kd.R_alloc | apply Kd.R_drewN | apply Kd.R_drew));exact HO_6.out) hb);have n1_:=Aside0.mk (below_step (by repeat (first | (with_reducible first | exact HB.out | apply below_alloc | apply pw_below_drewN | apply below_drew1) | exact HB.out)) hb);have n2_:=Aside0.mk (hbox);have n3_:=Aside0.mk ((by rw [hg];exact (below_size (by repeat (first | (with_reducible first | exact HB.out | apply below_alloc | apply pw_below_drewN | apply below_drew1) | exact HB.out))) : w.heap.size ≤ gb106));have n4_:=Aside0.mk ((by rw [hg];exact (below_size (by repeat (first | (with_reducible first | exact HB.out | apply below_alloc | apply pw_below_drewN | apply below_drew1) | exact HB.out))) : w.heap.size ≤ gb106));clear HO_6;clear HB;have HO_6:=n0_;have HB:=n1_;have BK106:=n2_;have GW106:=n3_;have GE106:=n4_;clear n0_ n1_ n2_ n3_ n4_;clear hb hbox hg;have hcz32_0 : w31.cell? ⟨gb106,0,none⟩ = some (.int .i64 0):=(blk_cell BK106.out 0).trans rfl;have hcz32_1 : w31.cell? ⟨gb106,1,none⟩ = some (.int .i64 0):=(blk_cell BK106.out 1).trans rfl;have hfz32_0:=blk_frozen BK106.out 0;have hfz32_1:=blk_frozen BK106.out 1) | ((with_reducible refine gate_store (t:=33) (p:=8) rfl ?_);refine store_event (t:=33) (p:=8) (v:=?vo_w33) (w1:=((w31.setCell ⟨gb106,0,none⟩ (.int .i64 ((rd_T33 l1 x23_2).f0))).setCell ⟨gb106,1,none⟩ (.int .i64 ((rd_T33 l1 x23_2).f1)))) ?hg ?ho ?hn ?hr ?_;(case ho => rfl);(case hg => rfl);(case hn => rfl);(case hr => first | (go_simp;done) | (go_simp;rfl));intro w33 hw;have n0_ : Aside0 (Kd.R (Kd.int .i64) 3 w33 w.heap.size (fun _ => True) v103 x6_2):=⟨(by rw [hw];exact (by (with_reducible repeat (first | apply Kd.R_alloc | apply Kd.R_drewN | apply Kd.R_drew));exact Kd.R_mono (Kd.R_far (p:=⟨gb106,1,none⟩) (Kd.R_far (p:=⟨gb106,0,none⟩) (Kd.R_types HO_6.out BK106.out (by decide)) (fun _ hk => hk.2) (.int .i64 ((rd_T33 l1 x23_2).f0))) (fun _ hk => hk.2) (.int .i64 ((rd_T33 l1 x23_2).f1))) (fun _ hk => trivial)))⟩;have n1_ : Aside0 (w33.heap[gb106]? = some (.cells #[.int .i64 ((rd_T33 l1 x23_2).f0),.int .i64 ((rd_T33 l1 x23_2).f1)] 33 (0,0))):=⟨(by rw [hw];exact (by (with_reducible repeat (first | refine blk_drewN ?_ _ | refine blk_drew ?_ | refine blk_alloc ?_ _));refine blk_put (cs:=#[.int .i64 ((rd_T33 l1 x23_2).f0),.int .i64 0]) ?_ 1 _ rfl;(with_reducible repeat (first | refine blk_drewN ?_ _ | refine blk_drew ?_ | refine blk_alloc ?_ _));refine blk_put (cs:=#[.int .i64 0,.int .i64 0]) ?_ 0 _ rfl;(with_reducible repeat (first | refine blk_drewN ?_ _ | refine blk_drew ?_ | refine blk_alloc ?_ _));exact BK106.out))⟩;have n2_ : Aside0 (Below w.heap.size w w33):=⟨(by rw [hw];exact (by repeat (first | (with_reducible first | exact HB.out | apply below_alloc | apply pw_below_drewN | apply below_drew1 | refine below_set ?_ GE106.out) | exact HB.out)))⟩;clear hw;clear HO_6;clear BK106;clear HB;have HO_6:=n0_;have BK106:=n1_;have HB:=n2_;clear n0_ n1_ n2_;have hcz34_0 : w33.cell? ⟨gb106,0,none⟩ = some (.int .i64 ((rd_T33 l1 x23_2).f0)):=(blk_cell BK106.out 0).trans rfl;have hcz34_1 : w33.cell? ⟨gb106,1,none⟩ = some (.int .i64 ((rd_T33 l1 x23_2).f1)):=(blk_cell BK106.out 1).trans rfl;have hfz34_0:=blk_frozen BK106.out 0;have hfz34_1:=blk_frozen BK106.out 1;obtain ⟨Ao35,co35,eo35⟩:=Kd.R_slice HO_6.out;subst eo35;have p107 : 0 ≤ (((rd_T33 l1 x23_2).f1) : Int):=of_decide_eq_true (by first | (with_reducible assumption) | assumption);have q107 : ((rd_T33 l1 x23_2).f1) < (x6_2.length : Int):=of_decide_eq_true (by first | (with_reducible assumption) | assumption);obtain ⟨ad107,e107,hx107_0⟩:=Kd.at_int (Kd.R_reads' HO_6.out).2.2 ((rd_T33 l1 x23_2).f1) p107 q107;cases e107;replace p107:=eq_true p107;replace q107:=eq_true q107;have p30 : 0 ≤ (((rd_T33 l1 x23_2).f1) : Int):=of_decide_eq_true (by first | (with_reducible assumption) | assumption);have q30 : (((rd_T33 l1 x23_2).f1) : Int) < ((x6_2.length : Int) : Int):=of_decide_eq_true (by first | (with_reducible assumption) | assumption);obtain ⟨go30,co30,eo30,gb30,gl30,cl30,HG30⟩:=Kd.R_form HO_6.out (by omega);(first | cases eo30 | (injection eo30 with ea_ en_ ec_;(first | subst ea_ | (injection ea_ with ea_;subst ea_));subst ec_;clear en_));have GB30:=Aside0.mk gb30;have GG30:=Aside0.mk HG30;clear gb30 gl30 HG30;(first | simp only [add_plain] at hx107_0 | skip);obtain ⟨hx30_0,hf30_0⟩:=Kd.R_celln 0 HO_6.out (((rd_T33 l1 x23_2).f1) : Int) p30 q30;replace p30:=eq_true p30;replace q30:=eq_true q30;obtain ⟨hy36_,hz36_⟩:=Kd.R_celln 0 HO_6.out (((rd_T33 l1 x23_2).f1) : Int) (of_decide_eq_true (by first | (with_reducible assumption) | assumption)) (of_decide_eq_true (by first | (with_reducible assumption) | assumption));have HP36:=Kd.R_putg HO_6.out (((rd_T33 l1 x23_2).f1) : Int) (wrap64 ((rd x6_2 ((rd_T33 l1 x23_2).f1)) + 1))) | ((with_reducible refine gate_store (t:=3) (p:=60) rfl ?_);refine store_event (t:=3) (p:=60) (v:=?vo_w37) (w1:=(w33.setCell ⟨go30,(((rd_T33 l1 x23_2).f1) : Int).toNat,none⟩ (.int .i64 (wrap64 ((rd x6_2 ((rd_T33 l1 x23_2).f1)) + 1))))) ?hg ?ho ?hn ?hr ?_;(case ho => rfl);(case hg => rfl);(case hn => rfl);(case hr => first | (go_simp;done) | (go_simp;rfl));intro w37 hw;have hg : w33.grownBy w37 (some go30):=(by rw [hw];exact HP36.2);have hp_ : Kd.R (Kd.int .i64) 3 w37 w.heap.size (fun _ => True) (.slice (some ⟨go30,0,none⟩) x6_2.length co35) y108:=(by rw [hw,Ny108.out];exact HP36.1);clear HP36;have n0_:=Aside0.mk (hp_);have n1_:=Aside0.mk (blk_grown (g:=gb106) (o:=.cells #[.int .i64 ((rd_T33 l1 x23_2).f0),.int .i64 ((rd_T33 l1 x23_2).f1)] 33 (0,0)) (by (with_reducible repeat (first | refine blk_drewN ?_ _ | refine blk_drew ?_ | refine blk_alloc ?_ _));exact BK106.out) hg (Kd.R_ne HO_6.out BK106.out (by decide)));have n2_:=Aside0.mk ((by rw [hw];exact below_set (HB.out) GB30.out : Below w.heap.size w w37));clear HO_6;clear BK106;clear HB;have HO_6:=n0_;have BK106:=n1_;have HB:=n2_;clear n0_ n1_ n2_;clear hg hw hp_))
                  go_roundg k2
                  case measure => have:=HJ2.out;have:=HK2.out;omega
                  case rel => exact ⟨(y108),(wrap64 (x23_2 + 1)),(by first | rfl | (simp;done) | (simp [*];done)),H',⟨by have:=HJ2.out;have:=HK2.out;omega⟩,⟨by (with_reducible repeat (first | apply Kd.R_alloc | apply Kd.R_drewN | apply Kd.R_drew));exact HO_6.out⟩,⟨by repeat (first | (with_reducible first | exact HB.out | apply below_alloc | apply pw_below_drewN | apply below_drew1 | refine below_set ?_ GE106.out) | exact HB.out)⟩⟩
                 ·rw [if_neg c29] at H
                  exact absurd H (by simp)
                ·rw [if_neg c28] at H
                 exact absurd H (by simp)
          ·rw [if_neg c12] at H
           exact absurd H (by simp)
         ·rw [if_neg c11] at H
          exact absurd H (by simp)
        ·rw [if_neg c10] at H
         have c10b0 : decide (x23_2 < (l1.length : Int)) = false:=decide_eq_false c10
         clear c10
         have H':=Aside0.mk H
         clear H
         go_wp2
         go_loopg [9,63] k2 (fun kq v9 v63 w' => ∃ (x6_3 : List Int) (x9_3 : List Int) (x63_3 : Int),v63 = .int .i64 x63_3 ∧ Aside0 (dsg_Order.l1 kq l1 x6_3 x9_3 a0 x63_3 = some (r1,r2)) ∧ Aside0 (kq ≤ k2) ∧ Aside0 (Kd.R (Kd.int .i64) 3 w' w.heap.size (fun k_ => some k_ ≠ (v9 : Value).ownBlock) v103 x6_3) ∧ Aside0 (Kd.R (Kd.int .i64) 3 w' w.heap.size (fun k_ => some k_ ≠ (v103 : Value).ownBlock) v9 x9_3) ∧ Aside0 (Below w.heap.size w w'))
         case atStart => exact ⟨(x6_2),(([] : List Int)),(0),(by first | rfl | (simp;done) | (simp [*];done)),H',⟨Nat.le_refl _⟩,⟨by (with_reducible repeat (first | apply Kd.R_alloc | apply Kd.R_drewN | apply Kd.R_drew));exact Kd.R_mono HO_6.out (fun _ hk => (by simp [Value.ownBlock]))⟩,⟨by first | exact Kd.R_nil _ _ _ _ _ | exact Kd.N_nil _ _ _ _ _ | exact Kd.V_nil _ _ _ _ _ | exact Kd.Q_nil _ _ _ _ _ | exact Kd.S_nil _ _ _ _ _⟩,⟨by repeat (first | (with_reducible first | exact HB.out | apply below_alloc | apply pw_below_drewN | apply below_drew1) | exact HB.out)⟩⟩
         case round =>
          clear H'
          try clear c1
          try clear p1
          try clear q1
          try clear hx1
          try clear c2
          try clear p2
          try clear p3
          try clear q3
          try clear hx3
          try clear hf3
          try clear c4
          try clear c4b0
          try clear c5
          try clear c6
          try clear c6b0
          try clear c6b1
          try clear p6
          try clear c7
          try clear c7b0
          try clear c7b1
          try clear c10
          try clear c10b0
          try clear p10
          try clear q10
          try clear hx10
          try clear c11
          try clear c11b0
          try clear c12
          try clear c12b0
          try clear c13
          try clear c13b0
          try clear c14
          try clear c16
          try clear c16b0
          try clear c19
          try clear c19b0
          try clear c22
          try clear c22b0
          try clear c25
          try clear c25b0
          try clear c25b1
          try clear c28
          try clear c28b0
          try clear c29
          try clear c29b0
          try clear p30
          try clear q30
          try clear hx30
          try clear hf30
          try clear hcz15_0
          try clear hcz15_1
          try clear hcz18_0
          try clear hcz18_1
          try clear hcz21_0
          try clear hcz21_1
          try clear hcz24_0
          try clear hcz24_1
          try clear hcz27_0
          try clear hcz27_1
          try clear hcz32_0
          try clear hcz32_1
          try clear hcz34_0
          try clear hcz34_1
          try clear hfz15_0
          try clear hfz15_1
          try clear hfz18_0
          try clear hfz18_1
          try clear hfz21_0
          try clear hfz21_1
          try clear hfz24_0
          try clear hfz24_1
          try clear hfz27_0
          try clear hfz27_1
          try clear hfz32_0
          try clear hfz32_1
          try clear hfz34_0
          try clear hfz34_1
          try clear hx105_0
          try clear hx105_1
          try clear hx107_0
          try clear hx30_0
          try clear p105
          try clear p107
          try clear p2
          try clear p30
          try clear q105
          try clear q107
          try clear q30
          obtain ⟨x6_3,x9_3,x63_3,rfl,HA,HK3,HO_6,HO_9,HB⟩:=hrel
          cases gk with
          | zero => exact absurd HA.out (by simp [dsg_Order.l1])
          | succ k3 =>
           have H:=HA.out
           clear HA
           simp only [dsg_Order.l1] at H
           by_cases c38 : x63_3 < a0
           ·rw [if_pos c38] at H
            have c38b0 : decide (x63_3 < a0) = true:=decide_eq_true c38
            clear c38
            replace H:=Option.bind_eq_some_iff.mp H
            obtain ⟨t109,A390,H⟩:=H
            replace H : (dsg_Order.j3 k3 l1 x6_3 x9_3 t109 a0 x63_3 (decide (t109 < 0))) = some (r1,r2):=H
            have A39:=Aside0.mk A390
            clear A390
            have HC40:=Aside0.mk H
            clear H
            obtain ⟨Ao41,co41,eo41⟩:=Kd.R_slice HO_6.out
            subst eo41
            go_upto_region 15 with (first | ((with_reducible refine gate_callee (f:=44) rfl ?_);refine goesL_ (some 66) rfl rfl Try.func44 (by kernel_rfl) rfl #[.slice Ao41 x6_3.length co41,.int .i64 0] rfl (by (try simp only [List.map_toArray,List.map_cons,List.map_nil]);first | done | rfl | (simp only [List.length_drop,List.length_take];rfl)) ?_;(with_reducible refine (slices_Index_int_int.calls k3 _ _ x6_3 0 t109 _ ?side1 ?side2 A39.out).mono ?_);(case side1 => repeat (first | exact (Kd.R_reads' HO_6.out).2.2 | (with_reducible refine Kd.C_alloc ?_ _) | (with_reducible refine Kd.C_drewN ?_ _) | (with_reducible refine Kd.C_drew ?_)));(case side2 => exact (Kd.R_reads' HO_6.out).2.1);rintro e w' ⟨rfl,⟨nd,rfl⟩⟩;refine ⟨_,rfl,?_⟩))
            (try simp only [Act.put,List.setIfInBounds_toArray,List.set_cons_zero,List.set_cons_succ])
            go_cut [68] (fun v68 wc => ∃ (kq : Nat) (x68_39 : Bool),v68 = .bool x68_39 ∧ Aside0 (dsg_Order.j3 kq l1 x6_3 x9_3 t109 a0 x63_3 x68_39 = some (r1,r2)) ∧ Aside0 (kq ≤ k3) ∧ Aside0 (Kd.R (Kd.int .i64) 3 wc w.heap.size (fun k_ => some k_ ≠ (u9 : Value).ownBlock) (.slice Ao41 x6_3.length co41) x6_3) ∧ Aside0 (Kd.R (Kd.int .i64) 3 wc w.heap.size (fun k_ => some k_ ≠ ((.slice Ao41 x6_3.length co41) : Value).ownBlock) u9 x9_3) ∧ Aside0 (Below w.heap.size w wc))
            case first =>
             have H:=HC40.out
             clear HC40
             have H':=Aside0.mk H
             clear H
             go_wp2
             go_meet
             case rel => exact ⟨_,(decide (t109 < 0)),(by first | rfl | (simp;done) | (simp [*];done)),H',⟨by have:=HJ2.out;have:=HK2.out;have:=HK3.out;first | omega | exact Nat.le_refl _⟩,⟨by (with_reducible repeat (first | apply Kd.R_alloc | apply Kd.R_drewN | apply Kd.R_drew));exact HO_6.out⟩,⟨by (with_reducible repeat (first | apply Kd.R_alloc | apply Kd.R_drewN | apply Kd.R_drew));exact HO_9.out⟩,⟨by repeat (first | (with_reducible first | exact HB.out | apply below_alloc | apply pw_below_drewN | apply below_drew1) | exact HB.out)⟩⟩
            case rest =>
             clear HC40
             try clear c1
             try clear p1
             try clear q1
             try clear hx1
             try clear c2
             try clear p2
             try clear c3
             try clear p3
             try clear q3
             try clear hx3
             try clear hf3
             try clear c4
             try clear c4b0
             try clear c5
             try clear c6
             try clear c6b0
             try clear c6b1
             try clear p6
             try clear c7
             try clear c7b0
             try clear c7b1
             try clear c10
             try clear c10b0
             try clear p10
             try clear q10
             try clear hx10
             try clear c11
             try clear c11b0
             try clear c12
             try clear c12b0
             try clear c13
             try clear c13b0
             try clear c14
             try clear c16
             try clear c16b0
             try clear c19
             try clear c19b0
             try clear c22
             try clear c22b0
             try clear c25
             try clear c25b0
             try clear c25b1
             try clear c28
             try clear c28b0
             try clear c29
             try clear c29b0
             try clear p30
             try clear q30
             try clear hx30
             try clear hf30
             try clear c38
             try clear c38b0
             try clear hcz15_0
             try clear hcz15_1
             try clear hcz18_0
             try clear hcz18_1
             try clear hcz21_0
             try clear hcz21_1
             try clear hcz24_0
             try clear hcz24_1
             try clear hcz27_0
             try clear hcz27_1
             try clear hcz32_0
             try clear hcz32_1
             try clear hcz34_0
             try clear hcz34_1
             try clear hfz15_0
             try clear hfz15_1
             try clear hfz18_0
             try clear hfz18_1
             try clear hfz21_0
             try clear hfz21_1
             try clear hfz24_0
             try clear hfz24_1
             try clear hfz27_0
             try clear hfz27_1
             try clear hfz32_0
             try clear hfz32_1
             try clear hfz34_0
             try clear hfz34_1
             try clear hx105_0
             try clear hx105_1
             try clear hx107_0
             try clear hx30_0
             try clear p1
             try clear p10
             try clear p105
             try clear p107
             try clear p2
             try clear p3
             try clear p30
             try clear p6
             try clear q1
             try clear q10
             try clear q105
             try clear q107
             try clear q3
             try clear q30
             obtain ⟨kq,x68_39,rfl,HA,HJ39,HO_6,HO_9,HB⟩:=hcut
             cases kq with
             | zero => exact absurd HA.out (by simp [dsg_Order.j3])
             | succ kj39 =>
              have H:=HA.out
              clear HA
              simp only [dsg_Order.j3] at H
              by_cases c42 : x68_39 = true
              ·subst c42
               have H1 : (some (([] : List Int),false)) = some (r1,r2):=by rw [if_pos rfl] at H;exact H
               clear H
               have H:=H1
               clear H1
               simp only [Option.some.injEq,Prod.mk.injEq] at H
               obtain ⟨rfl,rfl⟩:=H
               go_wp2
               go_ret2
               exact ⟨_,by first | rfl | (simp [errW_none,errW_some] <;> rfl) | (simp [*,errW_none,errW_some] <;> rfl),by first | exact Kd.R_nil _ _ _ _ _ | exact Kd.N_nil _ _ _ _ _ | exact Kd.V_nil _ _ _ _ _ | exact Kd.Q_nil _ _ _ _ _ | exact Kd.S_nil _ _ _ _ _,by repeat (first | (with_reducible first | exact HB.out | apply below_alloc | apply pw_below_drewN | apply below_drew1) | exact HB.out)⟩
              ·replace c42:=Bool.eq_false_iff.mpr c42
               subst c42
               have H1 : (if 0 ≤ t109 then (if t109 < (x6_3.length : Int) then (dsg_Order.l2 kj39 l1 (x6_3.set (t109 : Int).toNat (-1)) x9_3 t109 a0 x63_3 l1 (l1.length : Int) 0) else (none)) else (none)) = some (r1,r2):=by rw [if_neg (show ¬ (false = true) by decide)] at H;exact H
               clear H
               have H:=H1
               clear H1
               by_cases c43 : 0 ≤ t109
               ·rw [if_pos c43] at H
                have c43b0 : decide (0 ≤ t109) = true:=decide_eq_true c43
                clear c43
                by_cases c44 : t109 < (x6_3.length : Int)
                ·rw [if_pos c44] at H
                 have c44b0 : decide (t109 < (x6_3.length : Int)) = true:=decide_eq_true c44
                 clear c44
                 obtain ⟨y110,hy110⟩ : ∃ y_ : List Int,y_ = (x6_3.set (t109 : Int).toNat (-1)):=⟨_,rfl⟩
                 replace H : (dsg_Order.l2 kj39 l1 y110 x9_3 t109 a0 x63_3 l1 (l1.length : Int) 0) = some (r1,r2):=by first | (rw [hy110];with_reducible exact H) | (have H2_:=(Option.bind_some _ _).symm.trans H;rw [hy110];with_reducible exact H2_) | (have H2_:=(Option.bind_some _ _).symm.trans H;with_reducible exact H2_) | with_reducible exact H | (rw [hy110];exact H) | exact H
                 have Ny110:=Aside0.mk hy110
                 clear hy110
                 have H':=Aside0.mk H
                 clear H
                 have p45 : 0 ≤ (t109 : Int):=of_decide_eq_true (by first | (with_reducible assumption) | assumption)
                 have q45 : (t109 : Int) < ((x6_3.length : Int) : Int):=of_decide_eq_true (by first | (with_reducible assumption) | assumption)
                 obtain ⟨go45,co45,eo45,gb45,gl45,cl45,HG45⟩:=Kd.R_form HO_6.out (by omega)
                 (first | cases eo45 | (injection eo45 with ea_ en_ ec_;(first | subst ea_ | (injection ea_ with ea_;subst ea_));subst ec_;clear en_))
                 have GB45:=Aside0.mk gb45
                 have GG45:=Aside0.mk HG45
                 clear gb45 gl45 HG45
                 obtain ⟨hx45_0,hf45_0⟩:=Kd.R_celln 0 HO_6.out (t109 : Int) p45 q45
                 replace p45:=eq_true p45
                 replace q45:=eq_true q45
                 have HP46:=Kd.R_putg HO_6.out (t109 : Int) (-1)
                 go_wp2_with (first | ((with_reducible refine gate_store (t:=3) (p:=71) rfl ?_);refine store_event (t:=3) (p:=71) (v:=?vo_w47) (w1:=(wc.setCell ⟨go45,(t109 : Int).toNat,none⟩ (.int .i64 (-1)))) ?hg ?ho ?hn ?hr ?_;(case ho => rfl);(case hg => rfl);(case hn => rfl);(case hr => first | (go_simp;done) | (go_simp;rfl));intro w47 hw;have hg : wc.grownBy w47 (some go45):=(by rw [hw];exact HP46.2);have hp_ : Kd.R (Kd.int .i64) 3 w47 w.heap.size (fun k_ => some k_ ≠ (u9 : Value).ownBlock) (.slice (some ⟨go45,0,none⟩) x6_3.length co41) y110:=(by rw [hw,Ny110.out];exact HP46.1);clear HP46;have n0_:=Aside0.mk (hp_);have n1_:=Aside0.mk (Kd.R_after (v:=(.slice (some ⟨go45,0,none⟩) x6_3.length co41)) (v1:=(.slice (some ⟨go45,0,none⟩) x6_3.length co41)) (ok:=(fun _ => True)) (by (with_reducible repeat (first | apply Kd.R_alloc | apply Kd.R_drewN | apply Kd.R_drew));exact Kd.R_mono HO_9.out (fun _ hk => ⟨trivial,hk⟩)) hg (.inl rfl));have n2_:=Aside0.mk ((by rw [hw];exact below_set (HB.out) GB45.out : Below w.heap.size w w47));clear HO_6;clear HO_9;clear HB;have HO_6:=n0_;have HO_9:=n1_;have HB:=n2_;clear n0_ n1_ n2_;clear hg hw hp_))
                 go_loopg [74] kj39 (fun kq v74 w' => ∃ (x6_5 : List Int) (x74_5 : Int),v74 = .int .i64 x74_5 ∧ Aside0 (dsg_Order.l2 kq l1 x6_5 x9_3 t109 a0 x63_3 l1 (l1.length : Int) x74_5 = some (r1,r2)) ∧ Aside0 (kq ≤ kj39) ∧ Aside0 (Kd.R (Kd.int .i64) 3 w' w.heap.size (fun k_ => some k_ ≠ (u9 : Value).ownBlock) (.slice (some ⟨go45,0,none⟩) x6_3.length co41) x6_5) ∧ Aside0 (Kd.R (Kd.int .i64) 3 w' w.heap.size (fun k_ => some k_ ≠ ((.slice (some ⟨go45,0,none⟩) x6_3.length co41) : Value).ownBlock) u9 x9_3) ∧ Aside0 (Below w.heap.size w w'))
                 case atStart => exact ⟨(y110),(0),(by first | rfl | (simp;done) | (simp [*];done)),H',⟨Nat.le_refl _⟩,⟨by (with_reducible repeat (first | apply Kd.R_alloc | apply Kd.R_drewN | apply Kd.R_drew));exact HO_6.out⟩,⟨by (with_reducible repeat (first | apply Kd.R_alloc | apply Kd.R_drewN | apply Kd.R_drew));exact Kd.R_mono HO_9.out (fun _ hk => hk.2)⟩,⟨by repeat (first | (with_reducible first | exact HB.out | apply below_alloc | apply pw_below_drewN | apply below_drew1) | exact HB.out)⟩⟩
                 case round =>
                  clear H'
                  try clear c1
                  try clear p1
                  try clear q1
                  try clear hx1
                  try clear c2
                  try clear p2
                  try clear c3
                  try clear p3
                  try clear q3
                  try clear hx3
                  try clear hf3
                  try clear c4
                  try clear c4b0
                  try clear p4
                  try clear q4
                  try clear hx4
                  try clear hf4
                  try clear c5
                  try clear c6
                  try clear c6b0
                  try clear c6b1
                  try clear p6
                  try clear c7
                  try clear c7b0
                  try clear c7b1
                  try clear c10
                  try clear c10b0
                  try clear p10
                  try clear q10
                  try clear hx10
                  try clear c11
                  try clear c11b0
                  try clear c12
                  try clear c12b0
                  try clear c13
                  try clear c13b0
                  try clear c14
                  try clear c16
                  try clear c16b0
                  try clear c19
                  try clear c19b0
                  try clear c22
                  try clear c22b0
                  try clear c25
                  try clear c25b0
                  try clear c25b1
                  try clear c28
                  try clear c28b0
                  try clear c29
                  try clear c29b0
                  try clear p30
                  try clear q30
                  try clear hx30
                  try clear hf30
                  try clear c38
                  try clear c38b0
                  try clear c42
                  try clear c43
                  try clear c43b0
                  try clear c44
                  try clear c44b0
                  try clear p45
                  try clear q45
                  try clear hx45
                  try clear hf45
                  try clear hcz15_0
                  try clear hcz15_1
                  try clear hcz18_0
                  try clear hcz18_1
                  try clear hcz21_0
                  try clear hcz21_1
                  try clear hcz24_0
                  try clear hcz24_1
                  try clear hcz27_0
                  try clear hcz27_1
                  try clear hcz32_0
                  try clear hcz32_1
                  try clear hcz34_0
                  try clear hcz34_1
                  try clear hfz15_0
                  try clear hfz15_1
                  try clear hfz18_0
                  try clear hfz18_1
                  try clear hfz21_0
                  try clear hfz21_1
                  try clear hfz24_0
                  try clear hfz24_1
                  try clear hfz27_0
                  try clear hfz27_1
                  try clear hfz32_0
                  try clear hfz32_1
                  try clear hfz34_0
                  try clear hfz34_1
                  try clear hx105_0
                  try clear hx105_1
                  try clear hx107_0
                  try clear hx30_0
                  try clear hx45_0
                  try clear p1
                  try clear p10
                  try clear p105
                  try clear p107
                  try clear p2
                  try clear p3
                  try clear p30
                  try clear p45
                  try clear p6
                  try clear q1
                  try clear q10
                  try clear q105
                  try clear q107
                  try clear q3
                  try clear q30
                  try clear q45
                  obtain ⟨x6_5,x74_5,rfl,HA,HK5,HO_6,HO_9,HB⟩:=hrel
                  have hl6_5:=(Kd.R_reads' HO_6.out).1
                  rw [hl6_5] at HO_6
                  (try simp only [hl6_5])
                  (try simp only [hl6_5] at HO_9)
                  cases gk with
                  | zero => exact absurd HA.out (by simp [dsg_Order.l2])
                  | succ k5 =>
                   have H:=HA.out
                   clear HA
                   simp only [dsg_Order.l2] at H
                   by_cases c48 : x74_5 < (l1.length : Int)
                   ·rw [if_pos c48] at H
                    have c48b0 : decide (x74_5 < (l1.length : Int)) = true:=decide_eq_true c48
                    (try (have c48b0h := c48b0; simp only [hl6_5] at c48b0h))
                    clear c48
                    by_cases c49 : 0 ≤ x74_5
                    ·rw [if_pos c49] at H
                     have c49b0 : decide (0 ≤ x74_5) = true:=decide_eq_true c49
                     clear c49
                     by_cases c50 : x74_5 < (l1.length : Int)
                     ·rw [if_pos c50] at H
                      have c50b0 : decide (x74_5 < (l1.length : Int)) = true:=decide_eq_true c50
                      (try (have c50b0h := c50b0; simp only [hl6_5] at c50b0h))
                      clear c50
                      by_cases c51 : ((rd_T33 l1 x74_5).f0) = t109
                      ·rw [if_pos c51] at H
                       have c51b0 : (((rd_T33 l1 x74_5).f0) == t109) = true:=beq_iff_eq.mpr c51
                       have c51b1 : (((rd_T33 l1 x74_5).f0) != t109) = false:=bne_eq_false_iff_eq.mpr c51
                       clear c51
                       by_cases c52 : 0 ≤ ((rd_T33 l1 x74_5).f1)
                       ·rw [if_pos c52] at H
                        have c52b0 : decide (0 ≤ ((rd_T33 l1 x74_5).f1)) = true:=decide_eq_true c52
                        clear c52
                        by_cases c53 : ((rd_T33 l1 x74_5).f1) < (x6_5.length : Int)
                        ·rw [if_pos c53] at H
                         have c53b0 : decide (((rd_T33 l1 x74_5).f1) < (x6_5.length : Int)) = true:=decide_eq_true c53
                         (try (have c53b0h := c53b0; simp only [hl6_5] at c53b0h))
                         clear c53
                         obtain ⟨y114,hy114⟩ : ∃ y_ : List Int,y_ = (x6_5.set (((rd_T33 l1 x74_5).f1) : Int).toNat (wrap64 ((rd x6_5 ((rd_T33 l1 x74_5).f1)) - 1))):=⟨_,rfl⟩
                         replace H : (dsg_Order.l2 k5 l1 y114 x9_3 t109 a0 x63_3 l1 (l1.length : Int) (wrap64 (x74_5 + 1))) = some (r1,r2):=by first | (rw [hy114];with_reducible exact H) | (have H2_:=(Option.bind_some _ _).symm.trans H;rw [hy114];with_reducible exact H2_) | (have H2_:=(Option.bind_some _ _).symm.trans H;with_reducible exact H2_) | with_reducible exact H | (rw [hy114];exact H) | exact H
                         have Ny114:=Aside0.mk hy114
                         clear hy114
                         have H':=Aside0.mk H
                         clear H
                         have p111 : 0 ≤ (x74_5 : Int):=of_decide_eq_true (by first | (with_reducible assumption) | assumption)
                         have q111 : x74_5 < (l1.length : Int):=of_decide_eq_true (by first | (with_reducible assumption) | assumption)
                         obtain ⟨ad111,e111,hx111_0,hx111_1⟩:=at_T33 HR1.out x74_5 p111 q111
                         cases e111
                         replace hx111_0:=(HB.out.cell (World.block_lt_of_cell? w _ hx111_0)).trans hx111_0
                         replace hx111_1:=(HB.out.cell (World.block_lt_of_cell? w _ hx111_1)).trans hx111_1
                         replace p111:=eq_true p111
                         replace q111:=eq_true q111
                         go_wp2_with (first | ((with_reducible refine gate_dst (N:=12) rfl ?_);refine box_event ?hg (N:=12) ?hd (cs:=#[.int .i64 0,.int .i64 0]) (t:=33) ?hr ?_;(case hd => rfl);(case hg => rfl);(case hr => first | (go_simp;done) | (go_simp;rfl));intro gb112 hg w55 hbox hb;have n0_:=Aside0.mk (Kd.R_below (by (with_reducible repeat (first | apply Kd.R_alloc | apply Kd.R_drewN | apply Kd.R_drew));exact HO_6.out) hb);have n1_:=Aside0.mk (Kd.R_below (by (with_reducible repeat (first | apply Kd.R_alloc | apply Kd.R_drewN | apply Kd.R_drew));exact HO_9.out) hb);have n2_:=Aside0.mk (below_step (by repeat (first | (with_reducible first | exact HB.out | apply below_alloc | apply pw_below_drewN | apply below_drew1) | exact HB.out)) hb);have n3_:=Aside0.mk (hbox);have n4_:=Aside0.mk ((by rw [hg];exact (below_size (by repeat (first | (with_reducible first | exact HB.out | apply below_alloc | apply pw_below_drewN | apply below_drew1) | exact HB.out))) : w.heap.size ≤ gb112));have n5_:=Aside0.mk ((by rw [hg];exact (below_size (by repeat (first | (with_reducible first | exact HB.out | apply below_alloc | apply pw_below_drewN | apply below_drew1) | exact HB.out))) : w.heap.size ≤ gb112));clear HO_6;clear HO_9;clear HB;have HO_6:=n0_;have HO_9:=n1_;have HB:=n2_;have BK112:=n3_;have GW112:=n4_;have GE112:=n5_;clear n0_ n1_ n2_ n3_ n4_ n5_;clear hb hbox hg;have hcz56_0 : w55.cell? ⟨gb112,0,none⟩ = some (.int .i64 0):=(blk_cell BK112.out 0).trans rfl;have hcz56_1 : w55.cell? ⟨gb112,1,none⟩ = some (.int .i64 0):=(blk_cell BK112.out 1).trans rfl;have hfz56_0:=blk_frozen BK112.out 0;have hfz56_1:=blk_frozen BK112.out 1) | ((with_reducible refine gate_store (t:=33) (p:=12) rfl ?_);refine store_event (t:=33) (p:=12) (v:=?vo_w57) (w1:=((w55.setCell ⟨gb112,0,none⟩ (.int .i64 ((rd_T33 l1 x74_5).f0))).setCell ⟨gb112,1,none⟩ (.int .i64 ((rd_T33 l1 x74_5).f1)))) ?hg ?ho ?hn ?hr ?_;(case ho => rfl);(case hg => rfl);(case hn => rfl);(case hr => first | (go_simp;done) | (go_simp;rfl));intro w57 hw;have n0_ : Aside0 (Kd.R (Kd.int .i64) 3 w57 w.heap.size (fun k_ => some k_ ≠ (u9 : Value).ownBlock) (.slice (some ⟨go45,0,none⟩) x6_5.length co41) x6_5):=⟨(by rw [hw];exact (by (with_reducible repeat (first | apply Kd.R_alloc | apply Kd.R_drewN | apply Kd.R_drew));exact Kd.R_mono (Kd.R_far (p:=⟨gb112,1,none⟩) (Kd.R_far (p:=⟨gb112,0,none⟩) (Kd.R_types HO_6.out BK112.out (by decide)) (fun _ hk => hk.2) (.int .i64 ((rd_T33 l1 x74_5).f0))) (fun _ hk => hk.2) (.int .i64 ((rd_T33 l1 x74_5).f1))) (fun _ hk => hk.1)))⟩;have n1_ : Aside0 (Kd.R (Kd.int .i64) 3 w57 w.heap.size (fun k_ => some k_ ≠ (.slice (some ⟨go45,0,none⟩) x6_5.length co41 : Value).ownBlock) u9 x9_3):=⟨(by rw [hw];exact (by (with_reducible repeat (first | apply Kd.R_alloc | apply Kd.R_drewN | apply Kd.R_drew));exact Kd.R_mono (Kd.R_far (p:=⟨gb112,1,none⟩) (Kd.R_far (p:=⟨gb112,0,none⟩) (Kd.R_types HO_9.out BK112.out (by decide)) (fun _ hk => hk.2) (.int .i64 ((rd_T33 l1 x74_5).f0))) (fun _ hk => hk.2) (.int .i64 ((rd_T33 l1 x74_5).f1))) (fun _ hk => hk.1)))⟩;have n2_ : Aside0 (w57.heap[gb112]? = some (.cells #[.int .i64 ((rd_T33 l1 x74_5).f0),.int .i64 ((rd_T33 l1 x74_5).f1)] 33 (0,0))):=⟨(by rw [hw];exact (by (with_reducible repeat (first | refine blk_drewN ?_ _ | refine blk_drew ?_ | refine blk_alloc ?_ _));refine blk_put (cs:=#[.int .i64 ((rd_T33 l1 x74_5).f0),.int .i64 0]) ?_ 1 _ rfl;(with_reducible repeat (first | refine blk_drewN ?_ _ | refine blk_drew ?_ | refine blk_alloc ?_ _));refine blk_put (cs:=#[.int .i64 0,.int .i64 0]) ?_ 0 _ rfl;(with_reducible repeat (first | refine blk_drewN ?_ _ | refine blk_drew ?_ | refine blk_alloc ?_ _));exact BK112.out))⟩;have n3_ : Aside0 (Below w.heap.size w w57):=⟨(by rw [hw];exact (by repeat (first | (with_reducible first | exact HB.out | apply below_alloc | apply pw_below_drewN | apply below_drew1 | refine below_set ?_ GE112.out) | exact HB.out)))⟩;clear hw;clear HO_6;clear HO_9;clear BK112;clear HB;have HO_6:=n0_;have HO_9:=n1_;have BK112:=n2_;have HB:=n3_;clear n0_ n1_ n2_ n3_;have hcz58_0 : w57.cell? ⟨gb112,0,none⟩ = some (.int .i64 ((rd_T33 l1 x74_5).f0)):=(blk_cell BK112.out 0).trans rfl;have hcz58_1 : w57.cell? ⟨gb112,1,none⟩ = some (.int .i64 ((rd_T33 l1 x74_5).f1)):=(blk_cell BK112.out 1).trans rfl;have hfz58_0:=blk_frozen BK112.out 0;have hfz58_1:=blk_frozen BK112.out 1;have p113 : 0 ≤ (((rd_T33 l1 x74_5).f1) : Int):=of_decide_eq_true (by first | (with_reducible assumption) | assumption);have q113 : ((rd_T33 l1 x74_5).f1) < (x6_5.length : Int):=of_decide_eq_true (by first | (with_reducible assumption) | assumption);obtain ⟨ad113,e113,hx113_0⟩:=Kd.at_int (Kd.R_reads' HO_6.out).2.2 ((rd_T33 l1 x74_5).f1) p113 q113;obtain rfl : (⟨go45,0,none⟩ : Addr) = ad113:=(by injection e113);(first | simp only [add_plain] at hx113_0 | simp only [add_at] at hx113_0 | simp only [Addr.add,Nat.zero_add] at hx113_0 | skip);replace p113:=eq_true p113;replace q113:=eq_true q113;have p54 : 0 ≤ (((rd_T33 l1 x74_5).f1) : Int):=of_decide_eq_true (by first | (with_reducible assumption) | assumption);have q54 : (((rd_T33 l1 x74_5).f1) : Int) < ((x6_5.length : Int) : Int):=of_decide_eq_true (by first | (with_reducible assumption) | assumption);obtain ⟨hx54_0,hf54_0⟩:=Kd.R_celln 0 HO_6.out (((rd_T33 l1 x74_5).f1) : Int) p54 q54;replace p54:=eq_true p54;replace q54:=eq_true q54;obtain ⟨hy59_,hz59_⟩:=Kd.R_celln 0 HO_6.out (((rd_T33 l1 x74_5).f1) : Int) (of_decide_eq_true (by first | (with_reducible assumption) | assumption)) (of_decide_eq_true (by first | (with_reducible assumption) | assumption));have HP59:=Kd.R_putg HO_6.out (((rd_T33 l1 x74_5).f1) : Int) (wrap64 ((rd x6_5 ((rd_T33 l1 x74_5).f1)) - 1))) | ((with_reducible refine gate_store (t:=3) (p:=88) rfl ?_);refine store_event (t:=3) (p:=88) (v:=?vo_w60) (w1:=(w57.setCell ⟨go45,(((rd_T33 l1 x74_5).f1) : Int).toNat,none⟩ (.int .i64 (wrap64 ((rd x6_5 ((rd_T33 l1 x74_5).f1)) - 1))))) ?hg ?ho ?hn ?hr ?_;(case ho => rfl);(case hg => rfl);(case hn => rfl);(case hr => first | (go_simp;done) | (go_simp;rfl));intro w60 hw;have hg : w57.grownBy w60 (some go45):=(by rw [hw];exact HP59.2);have hp_ : Kd.R (Kd.int .i64) 3 w60 w.heap.size (fun k_ => some k_ ≠ (u9 : Value).ownBlock) (.slice (some ⟨go45,0,none⟩) x6_5.length co41) y114:=(by rw [hw,Ny114.out];exact HP59.1);clear HP59;have n0_:=Aside0.mk (hp_);have n1_:=Aside0.mk (Kd.R_after (v:=(.slice (some ⟨go45,0,none⟩) x6_5.length co41)) (v1:=(.slice (some ⟨go45,0,none⟩) x6_5.length co41)) (ok:=(fun _ => True)) (by (with_reducible repeat (first | apply Kd.R_alloc | apply Kd.R_drewN | apply Kd.R_drew));exact Kd.R_mono HO_9.out (fun _ hk => ⟨trivial,hk⟩)) hg (.inl rfl));have n2_:=Aside0.mk (blk_grown (g:=gb112) (o:=.cells #[.int .i64 ((rd_T33 l1 x74_5).f0),.int .i64 ((rd_T33 l1 x74_5).f1)] 33 (0,0)) (by (with_reducible repeat (first | refine blk_drewN ?_ _ | refine blk_drew ?_ | refine blk_alloc ?_ _));exact BK112.out) hg (Kd.R_ne HO_6.out BK112.out (by decide)));have n3_:=Aside0.mk ((by rw [hw];exact below_set (HB.out) GB45.out : Below w.heap.size w w60));clear HO_6;clear HO_9;clear BK112;clear HB;have HO_6:=n0_;have HO_9:=n1_;have BK112:=n2_;have HB:=n3_;clear n0_ n1_ n2_ n3_;clear hg hw hp_))
                         (try simp only [← hl6_5])
                         go_roundg k5
                         case measure => have:=HJ2.out;have:=HK2.out;have:=HK3.out;have:=HJ39.out;have:=HK5.out;omega
                         case rel => exact ⟨(y114),(wrap64 (x74_5 + 1)),(by first | rfl | (simp;done) | (simp [*];done)),H',⟨by have:=HJ2.out;have:=HK2.out;have:=HK3.out;have:=HJ39.out;have:=HK5.out;omega⟩,⟨by (try simp only [hl6_5]);(with_reducible repeat (first | apply Kd.R_alloc | apply Kd.R_drewN | apply Kd.R_drew));exact HO_6.out⟩,⟨by (try simp only [hl6_5]);(with_reducible repeat (first | apply Kd.R_alloc | apply Kd.R_drewN | apply Kd.R_drew));exact Kd.R_mono HO_9.out (fun _ hk => hk.2)⟩,⟨by repeat (first | (with_reducible first | exact HB.out | apply below_alloc | apply pw_below_drewN | apply below_drew1 | refine below_set ?_ GE112.out) | exact HB.out)⟩⟩
                        ·rw [if_neg c53] at H
                         exact absurd H (by simp)
                       ·rw [if_neg c52] at H
                        exact absurd H (by simp)
                      ·rw [if_neg c51] at H
                       have c51b0 : (((rd_T33 l1 x74_5).f0) == t109) = false:=beq_eq_false_iff_ne.mpr c51
                       have c51b1 : (((rd_T33 l1 x74_5).f0) != t109) = true:=bne_iff_ne.mpr c51
                       have H':=Aside0.mk H
                       clear H
                       have p111 : 0 ≤ (x74_5 : Int):=of_decide_eq_true (by first | (with_reducible assumption) | assumption)
                       have q111 : x74_5 < (l1.length : Int):=of_decide_eq_true (by first | (with_reducible assumption) | assumption)
                       obtain ⟨ad111,e111,hx111_0,hx111_1⟩:=at_T33 HR1.out x74_5 p111 q111
                       cases e111
                       replace hx111_0:=(HB.out.cell (World.block_lt_of_cell? w _ hx111_0)).trans hx111_0
                       replace hx111_1:=(HB.out.cell (World.block_lt_of_cell? w _ hx111_1)).trans hx111_1
                       replace p111:=eq_true p111
                       replace q111:=eq_true q111
                       go_wp2_with (first | ((with_reducible refine gate_dst (N:=12) rfl ?_);refine box_event ?hg (N:=12) ?hd (cs:=#[.int .i64 0,.int .i64 0]) (t:=33) ?hr ?_;(case hd => rfl);(case hg => rfl);(case hr => first | (go_simp;done) | (go_simp;rfl));intro gb112 hg w61 hbox hb;have n0_:=Aside0.mk (Kd.R_below (by (with_reducible repeat (first | apply Kd.R_alloc | apply Kd.R_drewN | apply Kd.R_drew));exact HO_6.out) hb);have n1_:=Aside0.mk (Kd.R_below (by (with_reducible repeat (first | apply Kd.R_alloc | apply Kd.R_drewN | apply Kd.R_drew));exact HO_9.out) hb);have n2_:=Aside0.mk (below_step (by repeat (first | (with_reducible first | exact HB.out | apply below_alloc | apply pw_below_drewN | apply below_drew1) | exact HB.out)) hb);have n3_:=Aside0.mk (hbox);have n4_:=Aside0.mk ((by rw [hg];exact (below_size (by repeat (first | (with_reducible first | exact HB.out | apply below_alloc | apply pw_below_drewN | apply below_drew1) | exact HB.out))) : w.heap.size ≤ gb112));have n5_:=Aside0.mk ((by rw [hg];exact (below_size (by repeat (first | (with_reducible first | exact HB.out | apply below_alloc | apply pw_below_drewN | apply below_drew1) | exact HB.out))) : w.heap.size ≤ gb112));clear HO_6;clear HO_9;clear HB;have HO_6:=n0_;have HO_9:=n1_;have HB:=n2_;have BK112:=n3_;have GW112:=n4_;have GE112:=n5_;clear n0_ n1_ n2_ n3_ n4_ n5_;clear hb hbox hg;have hcz62_0 : w61.cell? ⟨gb112,0,none⟩ = some (.int .i64 0):=(blk_cell BK112.out 0).trans rfl;have hcz62_1 : w61.cell? ⟨gb112,1,none⟩ = some (.int .i64 0):=(blk_cell BK112.out 1).trans rfl;have hfz62_0:=blk_frozen BK112.out 0;have hfz62_1:=blk_frozen BK112.out 1))
                       (try simp only [← hl6_5])
                       go_roundg k5
                       case measure => have:=HJ2.out;have:=HK2.out;have:=HK3.out;have:=HJ39.out;have:=HK5.out;omega
                       case rel => exact ⟨(x6_5),(wrap64 (x74_5 + 1)),(by first | rfl | (simp;done) | (simp [*];done)),H',⟨by have:=HJ2.out;have:=HK2.out;have:=HK3.out;have:=HJ39.out;have:=HK5.out;omega⟩,⟨by (try simp only [hl6_5]);(with_reducible repeat (first | apply Kd.R_alloc | apply Kd.R_drewN | apply Kd.R_drew));exact Kd.R_mono (Kd.R_far (p:=⟨gb112,1,none⟩) (Kd.R_far (p:=⟨gb112,0,none⟩) (Kd.R_types HO_6.out BK112.out (by decide)) (fun _ hk => hk.2) (.int .i64 ((rd_T33 l1 x74_5).f0))) (fun _ hk => hk.2) (.int .i64 ((rd_T33 l1 x74_5).f1))) (fun _ hk => hk.1)⟩,⟨by (try simp only [hl6_5]);(with_reducible repeat (first | apply Kd.R_alloc | apply Kd.R_drewN | apply Kd.R_drew));exact Kd.R_mono (Kd.R_far (p:=⟨gb112,1,none⟩) (Kd.R_far (p:=⟨gb112,0,none⟩) (Kd.R_types HO_9.out BK112.out (by decide)) (fun _ hk => hk.2) (.int .i64 ((rd_T33 l1 x74_5).f0))) (fun _ hk => hk.2) (.int .i64 ((rd_T33 l1 x74_5).f1))) (fun _ hk => hk.1)⟩,⟨by repeat (first | (with_reducible first | exact HB.out | apply below_alloc | apply pw_below_drewN | apply below_drew1 | refine below_set ?_ GE112.out) | exact HB.out)⟩⟩
                     ·rw [if_neg c50] at H
                      exact absurd H (by simp)
                    ·rw [if_neg c49] at H
                     exact absurd H (by simp)
                   ·rw [if_neg c48] at H
                    have c48b0 : decide (x74_5 < (l1.length : Int)) = false:=decide_eq_false c48
                    (try (have c48b0h := c48b0; simp only [hl6_5] at c48b0h))
                    clear c48
                    by_cases c63 : x9_3.length < 17592186044416
                    ·rw [if_pos c63] at H
                     have LMc63:=Aside0.mk c63
                     clear c63
                     obtain ⟨y115,hy115⟩ : ∃ y_ : List Int,y_ = (x9_3 ++ [t109]):=⟨_,rfl⟩
                     replace H : (dsg_Order.l1 k5 l1 x6_5 y115 a0 (wrap64 (x63_3 + 1))) = some (r1,r2):=by first | (rw [hy115];with_reducible exact H) | (have H2_:=(Option.bind_some _ _).symm.trans H;rw [hy115];with_reducible exact H2_) | (have H2_:=(Option.bind_some _ _).symm.trans H;with_reducible exact H2_) | with_reducible exact H | (rw [hy115];exact H) | exact H
                     have Ny115:=Aside0.mk hy115
                     clear hy115
                     have H':=Aside0.mk H
                     clear H
                     go_wp2_with (first | ((with_reducible refine gate_builtin (b:=.append) (xs:=#[.tmp 90,.tmp 92]) rfl ?_);at_builtin;refine Kd.R_append (Kd.int .i64) (w0:=w) w.heap.size rfl (.tmp 90) (.tmp 92) 24 3 (.int .i64 0) 8 rfl Try.underlying24 info3 rfl (by decide) (by omega) u9 x9_3 t109 [.int .i64 t109] (fun k_ => some k_ ≠ (.slice (some ⟨go45,0,none⟩) x6_5.length co41 : Value).ownBlock) (fun _ => False) rfl rfl ?aP (fun _ hk => hk.elim) ?aF ?aO ?aB ?aS ?aL ?_;(case aP => exact rfl);(case aB => exact (by repeat (first | (with_reducible first | exact HB.out | apply below_alloc | apply pw_below_drewN | apply below_drew1) | exact HB.out)));(case aF => exact (fun k_ hk => Kd.fresh' (Kd.R_lt (by (with_reducible repeat (first | apply Kd.R_alloc | apply Kd.R_drewN | apply Kd.R_drew));exact HO_6.out)) k_ hk));(case aO => exact (by (with_reducible repeat (first | apply Kd.R_alloc | apply Kd.R_drewN | apply Kd.R_drew));exact HO_9.out));(case aS => exact (below_size (by repeat (first | (with_reducible first | exact HB.out | apply below_alloc | apply pw_below_drewN | apply below_drew1) | exact HB.out))));(case aL => have:=LMc63.out;omega);intro v116 w64 ho hb hg hat;rw [← Ny115.out] at ho;have n0_:=Aside0.mk (Kd.R_after (ok:=(fun _ => True)) (by (with_reducible repeat (first | apply Kd.R_alloc | apply Kd.R_drewN | apply Kd.R_drew));exact Kd.R_mono HO_6.out (fun _ hk => ⟨trivial,hk⟩)) hg hat);have n1_:=Aside0.mk (hb);have n2_:=Aside0.mk (ho);clear HO_6;clear HB;clear HO_9;have HO_6:=n0_;have HB:=n1_;have HO117:=n2_;clear n0_ n1_ n2_;clear ho hb hg hat))
                     (try simp only [← hl6_5])
                     go_roundg k5
                     case measure => have:=HJ2.out;have:=HK2.out;have:=HK3.out;have:=HJ39.out;have:=HK5.out;omega
                     case rel => exact ⟨(x6_5),(y115),(wrap64 (x63_3 + 1)),(by first | rfl | (simp;done) | (simp [*];done)),H',⟨by have:=HJ2.out;have:=HK2.out;have:=HK3.out;have:=HJ39.out;have:=HK5.out;omega⟩,⟨by (try simp only [hl6_5]);(with_reducible repeat (first | apply Kd.R_alloc | apply Kd.R_drewN | apply Kd.R_drew));exact Kd.R_mono HO_6.out (fun _ hk => hk.2)⟩,⟨by (try simp only [hl6_5]);(with_reducible repeat (first | apply Kd.R_alloc | apply Kd.R_drewN | apply Kd.R_drew));exact HO117.out⟩,⟨by repeat (first | (with_reducible first | exact HB.out | apply below_alloc | apply pw_below_drewN | apply below_drew1) | exact HB.out)⟩⟩
                    ·rw [if_neg c63] at H
                     exact absurd H (by simp)
                ·rw [if_neg c44] at H
                 exact absurd H (by simp)
               ·rw [if_neg c43] at H
                exact absurd H (by simp)
           ·rw [if_neg c38] at H
            have c38b0 : decide (x63_3 < a0) = false:=decide_eq_false c38
            clear c38
            simp only [Option.some.injEq,Prod.mk.injEq] at H
            obtain ⟨rfl,rfl⟩:=H
            go_wp2
            go_ret2
            exact ⟨_,by first | rfl | (simp [errW_none,errW_some] <;> rfl) | (simp [*,errW_none,errW_some] <;> rfl),by (with_reducible repeat (first | apply Kd.R_alloc | apply Kd.R_drewN | apply Kd.R_drew));exact Kd.R_mono HO_9.out (fun _ hk => trivial),by repeat (first | (with_reducible first | exact HB.out | apply below_alloc | apply pw_below_drewN | apply below_drew1) | exact HB.out)⟩
     ·rw [if_neg c7] at H
      exact absurd H (by simp)
    ·rw [if_neg c6] at H
     exact absurd H (by simp)
end Go.Proofs.Ytbmcbhpkefjhbaa.P
set_option linter.unusedVariables false
set_option linter.unusedSimpArgs false
namespace Go.Proofs.Ytbmcbhpkefjhbaa.P
open Go.RowKit Go.Proofs.Ytbmcbhpkefjhbaa Go.Proofs.Ytbmcbhpkefjhbaa.Mem Go.Proofs.YtbmcbhpkefjhbaaW.PrintWords Go.Proofs.YtbmcbhpkefjhbaaW.PrintLast Go.Proofs.YtbmcbhpkefjhbaaW.PrintMore
def pin (r j : Nat) (e : SPr) : Bool := decide (e.f1 = (j : Int)) && decide ((r : Int) ≤ e.f0)
def peq (r j : Nat) (e : SPr) : Bool := decide (e.f1 = (j : Int)) && decide (e.f0 = (r : Int))
theorem pin_split (r j : Nat) : ∀ E : List SPr, E.countP (pin r j) = E.countP (pin (r + 1) j) + E.countP (peq r j)
  | [] => rfl
  | e :: E => by
    have ih := pin_split r j E
    rw [List.countP_cons, List.countP_cons, List.countP_cons, ih]
    have h : (if pin r j e = true then 1 else 0) = (if pin (r + 1) j e = true then 1 else 0) + (if peq r j e = true then 1 else 0) := by
      unfold pin peq
      by_cases h1 : e.f1 = (j : Int)
      · rw [decide_eq_true h1]
        simp only [Bool.true_and, decide_eq_true_eq]
        split <;> split <;> split <;> omega
      · rw [decide_eq_false h1]; rfl
    rw [h]; omega
def Fwd (n : Nat) (E : List SPr) : Prop := ∀ e ∈ E, 0 ≤ e.f0 ∧ e.f0 < e.f1 ∧ e.f1 < (n : Int)
theorem pin_zero {n : Nat} {E : List SPr} (h : Fwd n E) (r : Nat) : E.countP (pin r r) = 0 := by
  rw [List.countP_eq_zero]
  intro e he
  have := h e he
  unfold pin
  rw [Bool.and_eq_true, decide_eq_true_eq, decide_eq_true_eq]
  omega
theorem rdP_mem {l : List SPr} {i : Nat} (h : i < l.length) : rd_T33 l (i : Int) ∈ l := by
  have := rdP_drop h
  exact List.mem_of_mem_drop (i := i) (by rw [this]; exact List.mem_cons_self ..)
def row (n : Nat) (g : Nat → Int) : List Int := (List.range n).map g
theorem row_len (n : Nat) (g : Nat → Int) : (row n g).length = n := by unfold row; rw [List.length_map, List.length_range]
theorem row_rd {n : Nat} (g : Nat → Int) {j : Nat} (h : j < n) : rd (row n g) (j : Int) = g j := by
  unfold rd row
  rw [Int.toNat_natCast, List.getD_eq_getElem?_getD, List.getElem?_map, List.getElem?_range h]; rfl
theorem row_ext {n : Nat} {g g' : Nat → Int} (h : ∀ j, j < n → g j = g' j) : row n g = row n g' := by
  unfold row
  exact List.map_congr_left (fun j hj => h j (List.mem_range.1 hj))
theorem row_set {n : Nat} (g g' : Nat → Int) {t : Nat} {v : Int} (ht : t < n) (hv : g' t = v) (hg : ∀ j, j < n → j ≠ t → g' j = g j) : (row n g).set t v = row n g' := by
  apply List.ext_getElem?
  intro j
  unfold row
  by_cases hj : j < n
  · rw [List.getElem?_map, List.getElem?_range hj]
    by_cases e : j = t
    · subst e
      rw [List.getElem?_set_self (by rw [List.length_map, List.length_range]; exact hj), Option.map_some, hv]
    · rw [List.getElem?_set_ne (fun h => e h.symm), List.getElem?_map, List.getElem?_range hj, Option.map_some, Option.map_some, hg j hj e]
  · rw [List.getElem?_eq_none (by rw [List.length_set, List.length_map, List.length_range]; omega), List.getElem?_eq_none (by rw [List.length_map, List.length_range]; omega)]
theorem Ix_l0 {n : Nat} (g : Nat → Int) {r : Nat} (hr : r < n) (hn : n ≤ 1000) (h0 : g r = 0) (h1 : ∀ j, j < r → g j = -1) : ∀ (d i k : Nat), i + d = r → d + 1 ≤ k → slices_Index_int_int.l0 k (row n g) 0 (n : Int) (i : Int) = some (r : Int) := by
  have hl := row_len n g
  intro d
  induction d with
  | zero =>
    intro i k hi hk
    obtain ⟨k, rfl⟩ : ∃ m, k = m + 1 := ⟨k - 1, by omega⟩
    have e : i = r := by omega
    rw [slices_Index_int_int.l0, if_pos (by omega), if_pos (by omega), if_pos (by omega), row_rd g (by omega), e, h0, if_pos rfl]
  | succ d ih =>
    intro i k hi hk
    obtain ⟨k, rfl⟩ : ∃ m, k = m + 1 := ⟨k - 1, by omega⟩
    rw [slices_Index_int_int.l0, if_pos (by omega), if_pos (by omega), if_pos (by omega), row_rd g (by omega), h1 i (by omega), if_neg (by decide), wsucc (by omega)]
    exact ih (i + 1) k (by omega) (by omega)
def gS (E : List SPr) (r j : Nat) : Int := if j < r then -1 else (E.countP (pin r j) : Int)
def gT (E : List SPr) (r i j : Nat) : Int := if j ≤ r then -1 else ((E.countP (pin (r + 1) j) : Nat) : Int) + (((E.drop i).countP (peq r j) : Nat) : Int)
theorem ord_l2 {n : Nat} (hn : n ≤ 15) {E : List SPr} (hF : Fwd n E) (hE : E.length ≤ 300) {r : Nat} (hr : r < n) (x9 : List Int) (h9 : x9.length ≤ 1000) (B : Nat) (H : ∀ k x9, B ≤ k → x9.length ≤ r + 1 + 500 → dsg_Order.l1 k E (row n (gS E (r + 1))) x9 (n : Int) ((r + 1 : Nat) : Int) = some (x9 ++ [], true) ∨ ∃ o, dsg_Order.l1 k E (row n (gS E (r + 1))) x9 (n : Int) ((r + 1 : Nat) : Int) = some (o, true)) (h92 : x9.length ≤ r + 500) :
    ∀ (d i k : Nat), i + d = E.length → B + d + 1 ≤ k → ∃ o, dsg_Order.l2 k E (row n (gT E r i)) x9 (r : Int) (n : Int) (r : Int) E (E.length : Int) (i : Int) = some (o, true) := by
  intro d
  induction d with
  | zero =>
    intro i k hi hk
    obtain ⟨k, rfl⟩ : ∃ m, k = m + 1 := ⟨k - 1, by omega⟩
    have e : row n (gT E r i) = row n (gS E (r + 1)) := by
      refine row_ext (fun j hj => ?_)
      unfold gT gS
      rw [List.drop_eq_nil_of_le (by omega), List.countP_nil]
      by_cases hjr : j ≤ r
      · rw [if_pos hjr, if_pos (by omega)]
      · rw [if_neg hjr, if_neg (by omega)]; simp
    rw [dsg_Order.l2, if_neg (by omega), if_pos (by omega), wsucc (by omega), e]
    rcases H k (x9 ++ [(r : Int)]) (by omega) (by rw [List.length_append, List.length_singleton]; omega) with h | ⟨o, h⟩
    · exact ⟨_, h⟩
    · exact ⟨o, h⟩
  | succ d ih =>
    intro i k hi hk
    obtain ⟨k, rfl⟩ : ∃ m, k = m + 1 := ⟨k - 1, by omega⟩
    have hlt : i < E.length := by omega
    have hf := hF _ (rdP_mem hlt)
    have hl := row_len n (gT E r i)
    have hd := rdP_drop hlt
    rw [dsg_Order.l2, if_pos (by omega), if_pos (by omega), if_pos (by omega), wsucc (by omega)]
    generalize rd_T33 E (i : Int) = e at *
    obtain ⟨t, ht⟩ : ∃ t : Nat, e.f1 = (t : Int) := ⟨e.f1.toNat, by omega⟩
    have ih' := ih (i + 1) k (by omega) (by omega)
    by_cases h0 : e.f0 = (r : Int)
    · rw [if_pos h0, if_pos (by omega), if_pos (by omega), ht, row_rd _ (by omega), Int.toNat_natCast]
      have hcb : (E.drop (i + 1)).countP (peq r t) ≤ 300 := Nat.le_trans List.countP_le_length (by rw [List.length_drop]; omega)
      have hcb2 : E.countP (pin (r + 1) t) ≤ 300 := Nat.le_trans List.countP_le_length hE
      have hset : (row n (gT E r i)).set t (wrap64 (gT E r i t - 1)) = row n (gT E r (i + 1)) := by
        refine row_set _ _ (by omega) ?_ (fun j hj hjt => ?_)
        · unfold gT
          rw [if_neg (by omega), if_neg (by omega), hd, List.countP_cons, if_pos (by unfold peq; rw [decide_eq_true ht, decide_eq_true h0]; rfl)]
          unfold wrap64
          omega
        · unfold gT
          by_cases hjr : j ≤ r
          · rw [if_pos hjr, if_pos hjr]
          · rw [if_neg hjr, if_neg hjr, hd, List.countP_cons, if_neg (by unfold peq; rw [decide_eq_false (by omega), Bool.false_and]; exact Bool.false_ne_true)]; rfl
      rw [hset]
      exact ih'
    · rw [if_neg h0]
      have e2 : row n (gT E r i) = row n (gT E r (i + 1)) := by
        refine row_ext (fun j hj => ?_)
        unfold gT
        by_cases hjr : j ≤ r
        · rw [if_pos hjr, if_pos hjr]
        · rw [if_neg hjr, if_neg hjr, hd, List.countP_cons, if_neg (by unfold peq; rw [decide_eq_false h0, Bool.and_false]; decide)]; rfl
      rw [e2]
      exact ih'
theorem ord_l1 {n : Nat} (hn : n ≤ 15) {E : List SPr} (hF : Fwd n E) (hE : E.length ≤ 300) : ∀ (d r k : Nat) (x9 : List Int), r + d = n → 400 * d + 1 ≤ k → x9.length ≤ r + 500 → ∃ o, dsg_Order.l1 k E (row n (gS E r)) x9 (n : Int) (r : Int) = some (o, true) := by
  intro d
  induction d with
  | zero =>
    intro r k x9 hr hk h9
    obtain ⟨k, rfl⟩ : ∃ m, k = m + 1 := ⟨k - 1, by omega⟩
    rw [dsg_Order.l1, if_neg (by omega)]
    exact ⟨_, rfl⟩
  | succ d ih =>
    intro r k x9 hr hk h9
    obtain ⟨k, rfl⟩ : ∃ m, k = m + 1 + 1 := ⟨k - 2, by omega⟩
    have hl := row_len n (gS E r)
    have hI : slices_Index_int_int.f (k + 1) (row n (gS E r)) 0 = some (r : Int) := by
      unfold slices_Index_int_int.f
      rw [hl]
      refine Ix_l0 (gS E r) (by omega) (by omega) ?_ (fun j hj => by unfold gS; rw [if_pos hj]) r 0 (k + 1) (by omega) (by omega)
      unfold gS
      rw [if_neg (Nat.lt_irrefl r), pin_zero hF]; rfl
    rw [dsg_Order.l1, if_pos (by omega), hI, Option.bind_some, decide_eq_false (by omega), dsg_Order.j3, if_neg (by decide), if_pos (by omega), if_pos (by omega), Int.toNat_natCast]
    have hset : (row n (gS E r)).set r (-1) = row n (gT E r 0) := by
      refine row_set _ _ (by omega) ?_ (fun j hj hjr => ?_)
      · unfold gT; rw [if_pos (Nat.le_refl r)]
      · unfold gT gS
        rw [List.drop_zero]
        by_cases hlt : j < r
        · rw [if_pos hlt, if_pos (by omega)]
        · rw [if_neg hlt, if_neg (by omega), pin_split r j E]; omega
    rw [hset]
    exact ord_l2 hn hF hE (by omega) x9 (by omega) (400 * d + 1) (fun k x9 hk h => .inr (ih (r + 1) k x9 (by omega) hk (by omega))) h9 E.length 0 k (by omega) (by omega)
def gA (E : List SPr) (i j : Nat) : Int := ((E.countP (pin 0 j) : Nat) : Int) - (((E.drop i).countP (pin 0 j) : Nat) : Int)
theorem ord_l0 {n : Nat} (hn : n ≤ 15) {E : List SPr} (hF : Fwd n E) (hE : E.length ≤ 300) : ∀ (d i k : Nat), i + d = E.length → 400 * n + d + 2 ≤ k → ∃ o, dsg_Order.l0 k (n : Int) E (row n (gA E i)) E (E.length : Int) (i : Int) = some (o, true) := by
  intro d
  induction d with
  | zero =>
    intro i k hi hk
    obtain ⟨k, rfl⟩ : ∃ m, k = m + 1 := ⟨k - 1, by omega⟩
    have e : row n (gA E i) = row n (gS E 0) := by
      refine row_ext (fun j hj => ?_)
      unfold gA gS
      rw [List.drop_eq_nil_of_le (by omega), List.countP_nil, if_neg (by omega)]; simp
    rw [dsg_Order.l0, if_neg (by omega), e]
    exact ord_l1 hn hF hE n 0 k [] (by omega) (by omega) (by simp)
  | succ d ih =>
    intro i k hi hk
    obtain ⟨k, rfl⟩ : ∃ m, k = m + 1 := ⟨k - 1, by omega⟩
    have hlt : i < E.length := by omega
    have hf := hF _ (rdP_mem hlt)
    have hl := row_len n (gA E i)
    have hd := rdP_drop hlt
    rw [dsg_Order.l0, if_pos (by omega), if_pos (by omega), if_pos (by omega), wsucc (by omega)]
    generalize rd_T33 E (i : Int) = e at *
    obtain ⟨t, ht⟩ : ∃ t : Nat, e.f1 = (t : Int) := ⟨e.f1.toNat, by omega⟩
    rw [if_neg (by omega), if_neg (by omega), if_neg (by omega), if_neg (by omega), if_neg (by omega), if_pos (by omega), if_pos (by omega), ht, row_rd _ (by omega), Int.toNat_natCast]
    have hcb : E.countP (pin 0 t) ≤ 300 := Nat.le_trans List.countP_le_length hE
    have hcb2 : (E.drop (i + 1)).countP (pin 0 t) ≤ 300 := Nat.le_trans List.countP_le_length (by rw [List.length_drop]; omega)
    have hset : (row n (gA E i)).set t (wrap64 (gA E i t + 1)) = row n (gA E (i + 1)) := by
      refine row_set _ _ (by omega) ?_ (fun j hj hjt => ?_)
      · unfold gA
        rw [hd, List.countP_cons, if_pos (by unfold pin; rw [decide_eq_true ht, decide_eq_true (by omega)]; rfl)]
        unfold wrap64
        omega
      · unfold gA
        rw [hd, List.countP_cons, if_neg (by unfold pin; rw [decide_eq_false (by omega), Bool.false_and]; exact Bool.false_ne_true)]; rfl
    rw [hset]
    exact ih (i + 1) k (by omega) (by omega)
theorem Order_fwd {n : Nat} (hn : n ≤ 15) {E : List SPr} (hF : Fwd n E) (hE : E.length ≤ 300) {k : Nat} (hk : 8000 ≤ k) : ∃ o, dsg_Order.f k (n : Int) E = some (o, true) := by
  obtain ⟨k, rfl⟩ : ∃ m, k = m + 1 := ⟨k - 1, by omega⟩
  unfold dsg_Order.f
  rw [if_neg (by omega), decide_eq_false (by omega), dsg_Order.j0, if_neg (by decide), if_pos (by omega), Int.toNat_natCast, if_pos (by omega)]
  have e : List.replicate n (0 : Int) = row n (gA E 0) := by
    unfold row
    rw [List.map_congr_left (g := fun _ => (0 : Int)) (fun j _ => by unfold gA; rw [List.drop_zero]; omega), List.map_const', List.length_range]
  rw [e]
  exact ord_l0 hn hF hE E.length 0 k (by omega) (by omega)
end Go.Proofs.Ytbmcbhpkefjhbaa.P
