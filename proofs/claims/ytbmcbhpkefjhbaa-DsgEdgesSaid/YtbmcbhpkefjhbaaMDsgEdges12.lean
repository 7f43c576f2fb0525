/- Put together by wip/prune.py out of this claim's texts. -/
import Derived.Test.YtbmcbhpkefjhbaaMDsgEdges4
import Derived.Test.YtbmcbhpkefjhbaaMDsgEdges9
import Derived.Test.YtbmcbhpkefjhbaaMDsgEdges10
import Derived.Test.YtbmcbhpkefjhbaaMDsgEdges11
namespace Go.Proofs.Ytbmcbhpkefjhbaa.P
open Go.RowKit Go.Proofs.YtbmcbhpkefjhbaaW.PrintWords Go.Proofs.YtbmcbhpkefjhbaaW.PrintLast Go.Proofs.YtbmcbhpkefjhbaaW.PrintMore
attribute [local go_sem] max2_int min2_int max_two min_two max_three min_three max_four min_four   -- for this text's walks alone
attribute [local go_sem] run_store_float
set_option linter.unusedVariables false
set_option linter.unusedSimpArgs false
mutual
def dsg_Edges.j0 : Nat → List (S43) → List Int → List (S33) → Option ((List (S33)))
 | 0,_,_,_ => none
 | k + 1,x0,x3,x4 => dsg_Edges.l0 k x0 x3 x4 x0 (x0.length : Int) 0
def dsg_Edges.l0 : Nat → List (S43) → List Int → List (S33) → List (S43) → Int → Int → Option ((List (S33)))
 | 0,_,_,_,_,_,_ => none
 | k + 1,x0,x3,x4,x11,x12,x13 => if x13 < x12 then (if 0 ≤ x13 then (if x13 < (x11.length : Int) then (dsg_Edges.l1 k x0 x3 x4 x13 x11 x12 x13 x0 (x0.length : Int) 0 ((rd_T43 x11 x13).f0) ((rd_T43 x11 x13).f1) ((rd_T43 x11 x13).f2) ((rd_T43 x11 x13).f3) ((rd_T43 x11 x13).f4)) else (none)) else (none)) else (some x4)
def dsg_Edges.l1 : Nat → List (S43) → List Int → List (S33) → Int → List (S43) → Int → Int → List (S43) → Int → Int → Int → Int → List (S89) → List (S124) → List Int → Option ((List (S33)))
 | 0,_,_,_,_,_,_,_,_,_,_,_,_,_,_,_ => none
 | k + 1,x0,x3,x4,x5,x11,x12,x13,x18,x19,x20,x156000,x156001,x156002,x156003,x156004 => if x20 < x19 then (if 0 ≤ x20 then (if x20 < (x18.length : Int) then (if x5 = x20 then (dsg_Edges.l1 k x0 x3 x4 x5 x11 x12 x13 x18 x19 (wrap64 (x20 + 1)) x156000 x156001 x156002 x156003 x156004) else (if 0 ≤ x5 then (if x5 < (x3.length : Int) then (if x20 < (x3.length : Int) then ((dsg_ahead.f x156000 x156001 x156002 x156003 x156004 ((rd_T43 x18 x20).f0) ((rd_T43 x18 x20).f1) ((rd_T43 x18 x20).f2) ((rd_T43 x18 x20).f3) ((rd_T43 x18 x20).f4) (rd x3 x5) (rd x3 x20)).bind fun t160 => (if t160 = true then (if x4.length < 8796093022208 then (dsg_Edges.j3 k x0 x3 (x4 ++ [(⟨x5,x20⟩ : S33)]) x5 x11 x12 x13 x18 x19 (wrap64 (x20 + 1)) x156000 x156001 x156002 x156003 x156004) else (none)) else (dsg_Edges.l1 k x0 x3 x4 x5 x11 x12 x13 x18 x19 (wrap64 (x20 + 1)) x156000 x156001 x156002 x156003 x156004))) else (none)) else (none)) else (none))) else (none)) else (none)) else (dsg_Edges.l0 k x0 x3 x4 x11 x12 (wrap64 (x13 + 1)))
def dsg_Edges.j3 : Nat → List (S43) → List Int → List (S33) → Int → List (S43) → Int → Int → List (S43) → Int → Int → Int → Int → List (S89) → List (S124) → List Int → Option ((List (S33)))
 | 0,_,_,_,_,_,_,_,_,_,_,_,_,_,_,_ => none
 | k + 1,x0,x3,x4,x5,x11,x12,x13,x18,x19,x20,x156000,x156001,x156002,x156003,x156004 => dsg_Edges.l1 k x0 x3 x4 x5 x11 x12 x13 x18 x19 x20 x156000 x156001 x156002 x156003 x156004
end
def dsg_Edges.f (k : Nat) (l0 : List (S43)) : Option ((List (S33))):=(dsg_places.f k l0).bind fun t151 => (dsg_Edges.j0 k l0 t151 ([] : List (S33)))
def dsg_Edges.T9 : Bool × List (List Nat × List Nat):=(true,[([],[]),([],[]),([0,1],[0,1]),([2],[2]),([3],[3]),([3],[3]),([3],[3]),([3],[3]),([6,7,3],[3,6,7]),([8,3],[3,8]),([3],[3]),([3],[3]),([10,11,3],[3,10,11]),([12,3],[3,12]),([4,5,9,13,3,3],[3,4,5,9,13]),([3,14],[3,14])])
def dsg_Edges.B9 : List Nat:=[0,0,3,7,15,15,15,15,207,463,15,15,3087,7183,16383,32767]
theorem dsg_Edges.tab9 : rtab .any (opsOf Try.f21 9) = dsg_Edges.T9:=by kernel_rfl
theorem dsg_Edges.bits9 : waitsOk dsg_Edges.T9.2 dsg_Edges.B9 = true:=by kernel_rfl
set_option maxHeartbeats 8000000 in
set_option maxRecDepth 100000 in
theorem dsg_Edges.calls (k : Nat) (A0 : Option Addr) (c0 : Nat) (l0 : List (S43)) (r : List (S33)) (w : World) (hr0 : Kd.C k43 w A0 l0.length l0) (hc0 : l0.length ≤ c0) (h : dsg_Edges.f k l0 = some r) :
  Calls Try.prog 21 #[.slice A0 l0.length c0] w fun e w' => ∃ v0_ : Value,e = .returned (v0_) ∧ Kd.R k33 33 w' w.heap.size (fun _ => True) v0_ r ∧ Below w.heap.size w w':=by
 have hu43:=Try.underlying43
 have hu33:=Try.underlying33
 have HR0:=Aside0.mk hr0
 have HC0:=Aside0.mk hc0
 clear hr0 hc0
 have HB:=Aside0.mk (Below.refl w.heap.size w)
 have H : ((dsg_places.f k l0).bind fun t151 => (dsg_Edges.j0 k l0 t151 ([] : List (S33)))) = some r:=h
 clear h
 replace H:=Option.bind_eq_some_iff.mp H
 obtain ⟨t151,A20,H⟩:=H
 replace H : (dsg_Edges.j0 k l0 t151 ([] : List (S33))) = some r:=H
 have A2:=Aside0.mk A20
 clear A20
 have HC3:=Aside0.mk H
 clear H
 go_enter Try.func21,Try.ntmps21
 go_upto_region 2 with (first | ((with_reducible refine gate_callee (f:=51) rfl ?_);refine goesL_ (some 10) rfl rfl Try.func51 (by kernel_rfl) rfl #[.slice A0 l0.length c0] rfl (by (try simp only [List.map_toArray,List.map_cons,List.map_nil]);first | done | rfl | (simp only [List.length_drop,List.length_take];rfl)) ?_;(with_reducible refine (dsg_places.calls k _ _ l0 t151 _ ?side1 ?side2 A2.out).mono ?_);(case side1 => repeat (first | exact HR0.out | (with_reducible refine Kd.C_alloc ?_ _) | (with_reducible refine Kd.C_drewN ?_ _) | (with_reducible refine Kd.C_drew ?_)));(case side2 => exact HC0.out);rintro e w4 ⟨v152,rfl,ho0,hb⟩;refine ⟨_,rfl,?_⟩;have n0_:=Aside0.mk (Kd.R_lower ho0 (below_size (by repeat (first | (with_reducible first | exact HB.out | apply below_alloc | apply pw_below_drewN | apply below_drew1) | exact HB.out))));have n1_:=Aside0.mk (below_step (by repeat (first | (with_reducible first | exact HB.out | apply below_alloc | apply pw_below_drewN | apply below_drew1) | exact HB.out)) hb);clear HB;have HO153:=n0_;have HB:=n1_;clear n0_ n1_;(try clear hb);(try clear hb2);(try clear hk);(try clear hi);(try clear ho0)))
 (try simp only [Act.put,List.setIfInBounds_toArray,List.set_cons_zero,List.set_cons_succ])
 go_cut [4] (fun v4 wc => ∃ (kq : Nat) (x4_2 : List (S33)),Aside0 (dsg_Edges.j0 kq l0 t151 x4_2 = some r) ∧ Aside0 (kq ≤ k) ∧ Aside0 (Kd.R (Kd.int .i64) 3 wc w.heap.size (fun _ => True) v152 t151) ∧ Aside0 (Kd.R k33 33 wc w.heap.size (fun _ => True) v4 x4_2) ∧ Aside0 (Below w.heap.size w wc))
 case first =>
  have H:=HC3.out
  clear HC3
  have H':=Aside0.mk H
  clear H
  go_wp2
  go_meet
  case rel => exact ⟨_,(([] : List (S33))),H',⟨by first | omega | exact Nat.le_refl _⟩,⟨by (with_reducible repeat (first | apply Kd.R_alloc | apply Kd.R_drewN | apply Kd.R_drew));exact HO153.out⟩,⟨by first | exact Kd.R_nil _ _ _ _ _ | exact Kd.N_nil _ _ _ _ _ | exact Kd.V_nil _ _ _ _ _ | exact Kd.Q_nil _ _ _ _ _ | exact Kd.S_nil _ _ _ _ _⟩,⟨by repeat (first | (with_reducible first | exact HB.out | apply below_alloc | apply pw_below_drewN | apply below_drew1) | exact HB.out)⟩⟩
 case rest =>
  clear HC3
  try clear c2
  try clear p2
  obtain ⟨kq,x4_2,HA,HJ2,HO_3,HO_4,HB⟩:=hcut
  cases kq with
  | zero => exact absurd HA.out (by simp [dsg_Edges.j0])
  | succ kj2 =>
   have H:=HA.out
   clear HA
   simp only [dsg_Edges.j0] at H
   have H':=Aside0.mk H
   clear H
   go_wp2
   go_loopg [4,13] kj2 (fun kq v4 v13 w' => ∃ (x4_2 : List (S33)) (x13_2 : Int),v13 = .int .i64 x13_2 ∧ Aside0 (dsg_Edges.l0 kq l0 t151 x4_2 l0 (l0.length : Int) x13_2 = some r) ∧ Aside0 (kq ≤ kj2) ∧ Aside0 (Kd.R (Kd.int .i64) 3 w' w.heap.size (fun _ => True) v152 t151) ∧ Aside0 (Kd.R k33 33 w' w.heap.size (fun _ => True) v4 x4_2) ∧ Aside0 (Below w.heap.size w w'))
   case atStart => exact ⟨(x4_2),(0),(by first | rfl | (simp;done) | (simp [*];done)),H',⟨Nat.le_refl _⟩,⟨by (with_reducible repeat (first | apply Kd.R_alloc | apply Kd.R_drewN | apply Kd.R_drew));exact HO_3.out⟩,⟨by (with_reducible repeat (first | apply Kd.R_alloc | apply Kd.R_drewN | apply Kd.R_drew));exact HO_4.out⟩,⟨by repeat (first | (with_reducible first | exact HB.out | apply below_alloc | apply pw_below_drewN | apply below_drew1) | exact HB.out)⟩⟩
   case round =>
    clear H'
    try clear c2
    try clear p2
    try clear p2
    obtain ⟨x4_2,x13_2,rfl,HA,HK2,HO_3,HO_4,HB⟩:=hrel
    cases gk with
    | zero => exact absurd HA.out (by simp [dsg_Edges.l0])
    | succ k2 =>
     have H:=HA.out
     clear HA
     simp only [dsg_Edges.l0] at H
     by_cases c5 : x13_2 < (l0.length : Int)
     ·rw [if_pos c5] at H
      have c5b0 : decide (x13_2 < (l0.length : Int)) = true:=decide_eq_true c5
      clear c5
      by_cases c6 : 0 ≤ x13_2
      ·rw [if_pos c6] at H
       have c6b0 : decide (0 ≤ x13_2) = true:=decide_eq_true c6
       clear c6
       by_cases c7 : x13_2 < (l0.length : Int)
       ·rw [if_pos c7] at H
        have c7b0 : decide (x13_2 < (l0.length : Int)) = true:=decide_eq_true c7
        clear c7
        have H':=Aside0.mk H
        clear H
        have p154 : 0 ≤ (x13_2 : Int):=of_decide_eq_true (by first | (with_reducible assumption) | assumption)
        have q154 : x13_2 < (l0.length : Int):=of_decide_eq_true (by first | (with_reducible assumption) | assumption)
        obtain ⟨ad154,A154_2,c154_2,A154_3,c154_3,A154_4,c154_4,e154,hx154_0,hx154_1,hx154_2,hx154_3,hx154_4,hl154_2,hi154_2,hl154_3,hi154_3,hl154_4,hi154_4⟩:=at_T43 HR0.out x13_2 p154 q154
        cases e154
        replace hx154_0:=(HB.out.cell (World.block_lt_of_cell? w _ hx154_0)).trans hx154_0
        replace hx154_1:=(HB.out.cell (World.block_lt_of_cell? w _ hx154_1)).trans hx154_1
        replace hx154_2:=(HB.out.cell (World.block_lt_of_cell? w _ hx154_2)).trans hx154_2
        replace hx154_3:=(HB.out.cell (World.block_lt_of_cell? w _ hx154_3)).trans hx154_3
        replace hx154_4:=(HB.out.cell (World.block_lt_of_cell? w _ hx154_4)).trans hx154_4
        have HR154_2:=Aside0.mk hi154_2
        have HC154_2:=Aside0.mk hl154_2
        clear hi154_2 hl154_2
        have HR154_3:=Aside0.mk hi154_3
        have HC154_3:=Aside0.mk hl154_3
        clear hi154_3 hl154_3
        have HR154_4:=Aside0.mk hi154_4
        have HC154_4:=Aside0.mk hl154_4
        clear hi154_4 hl154_4
        replace p154:=eq_true p154
        replace q154:=eq_true q154
        go_wp2_with (first | ((with_reducible refine gate_dst (N:=6) rfl ?_);refine box_event ?hg (N:=6) ?hd (cs:=#[.int .i64 0,.int .i64 0,.slice none 0 0,.slice none 0 0,.slice none 0 0]) (t:=43) ?hr ?_;(case hd => rfl);(case hg => rfl);(case hr => first | (go_simp;done) | (go_simp;rfl));intro gb155 hg w8 hbox hb;have n0_:=Aside0.mk (Kd.R_below (by (with_reducible repeat (first | apply Kd.R_alloc | apply Kd.R_drewN | apply Kd.R_drew));exact HO_3.out) hb);have n1_:=Aside0.mk (Kd.R_below (by (with_reducible repeat (first | apply Kd.R_alloc | apply Kd.R_drewN | apply Kd.R_drew));exact HO_4.out) hb);have n2_:=Aside0.mk (below_step (by repeat (first | (with_reducible first | exact HB.out | apply below_alloc | apply pw_below_drewN | apply below_drew1) | exact HB.out)) hb);have n3_:=Aside0.mk (hbox);have n4_:=Aside0.mk ((by rw [hg];exact (below_size (by repeat (first | (with_reducible first | exact HB.out | apply below_alloc | apply pw_below_drewN | apply below_drew1) | exact HB.out))) : w.heap.size ≤ gb155));have n5_:=Aside0.mk ((by rw [hg];exact (below_size (by repeat (first | (with_reducible first | exact HB.out | apply below_alloc | apply pw_below_drewN | apply below_drew1) | exact HB.out))) : w.heap.size ≤ gb155));clear HO_3;clear HO_4;clear HB;have HO_3:=n0_;have HO_4:=n1_;have HB:=n2_;have BK155:=n3_;have GW155:=n4_;have GE155:=n5_;clear n0_ n1_ n2_ n3_ n4_ n5_;clear hb hbox hg;obtain ⟨hcz9_0,hcz9_1,hcz9_2,hcz9_3,hcz9_4⟩:=blkc_5 BK155.out;obtain ⟨hfz9_0,hfz9_1,hfz9_2,hfz9_3⟩:=blkz_4 BK155.out;have hfz9_4:=blk_frozen BK155.out 4))
        go_loopg [4,20] k2 (fun kq v4 v20 w' => ∃ (x4_3 : List (S33)) (x20_3 : Int),v20 = .int .i64 x20_3 ∧ Aside0 (dsg_Edges.l1 kq l0 t151 x4_3 x13_2 l0 (l0.length : Int) x13_2 l0 (l0.length : Int) x20_3 ((rd_T43 l0 x13_2).f0) ((rd_T43 l0 x13_2).f1) ((rd_T43 l0 x13_2).f2) ((rd_T43 l0 x13_2).f3) ((rd_T43 l0 x13_2).f4) = some r) ∧ Aside0 (kq ≤ k2) ∧ Aside0 (Kd.R (Kd.int .i64) 3 w' w.heap.size (fun _ => True) v152 t151) ∧ Aside0 (Kd.R k33 33 w' w.heap.size (fun _ => True) v4 x4_3) ∧ Aside0 (w'.heap[gb155]? = some (.cells #[.int .i64 ((rd_T43 l0 x13_2).f0),.int .i64 ((rd_T43 l0 x13_2).f1),(.slice A154_2 ((rd_T43 l0 x13_2).f2).length c154_2),(.slice A154_3 ((rd_T43 l0 x13_2).f3).length c154_3),(.slice A154_4 ((rd_T43 l0 x13_2).f4).length c154_4)] 43 (0,0))) ∧ Aside0 (Below w.heap.size w w'))
        case atStart => exact ⟨(x4_2),(0),(by first | rfl | (simp;done) | (simp [*];done)),H',⟨Nat.le_refl _⟩,⟨by (with_reducible repeat (first | apply Kd.R_alloc | apply Kd.R_drewN | apply Kd.R_drew));exact Kd.R_mono (Kd.R_far (p:=⟨gb155,4,none⟩) (Kd.R_far (p:=⟨gb155,3,none⟩) (Kd.R_far (p:=⟨gb155,2,none⟩) (Kd.R_far (p:=⟨gb155,1,none⟩) (Kd.R_far (p:=⟨gb155,0,none⟩) (Kd.R_types HO_3.out BK155.out (by decide)) (fun _ hk => hk.2) (.int .i64 ((rd_T43 l0 x13_2).f0))) (fun _ hk => hk.2) (.int .i64 ((rd_T43 l0 x13_2).f1))) (fun _ hk => hk.2) (.slice A154_2 ((rd_T43 l0 x13_2).f2).length c154_2)) (fun _ hk => hk.2) (.slice A154_3 ((rd_T43 l0 x13_2).f3).length c154_3)) (fun _ hk => hk.2) (.slice A154_4 ((rd_T43 l0 x13_2).f4).length c154_4)) (fun _ hk => trivial)⟩,⟨by (with_reducible repeat (first | apply Kd.R_alloc | apply Kd.R_drewN | apply Kd.R_drew));exact Kd.R_mono (Kd.R_far (p:=⟨gb155,4,none⟩) (Kd.R_far (p:=⟨gb155,3,none⟩) (Kd.R_far (p:=⟨gb155,2,none⟩) (Kd.R_far (p:=⟨gb155,1,none⟩) (Kd.R_far (p:=⟨gb155,0,none⟩) (Kd.R_types HO_4.out BK155.out (by decide)) (fun _ hk => hk.2) (.int .i64 ((rd_T43 l0 x13_2).f0))) (fun _ hk => hk.2) (.int .i64 ((rd_T43 l0 x13_2).f1))) (fun _ hk => hk.2) (.slice A154_2 ((rd_T43 l0 x13_2).f2).length c154_2)) (fun _ hk => hk.2) (.slice A154_3 ((rd_T43 l0 x13_2).f3).length c154_3)) (fun _ hk => hk.2) (.slice A154_4 ((rd_T43 l0 x13_2).f4).length c154_4)) (fun _ hk => trivial)⟩,⟨by (with_reducible repeat (first | refine blk_drewN ?_ _ | refine blk_drew ?_ | refine blk_alloc ?_ _));apply blkf_5_0_4;(with_reducible repeat (first | refine blk_drewN ?_ _ | refine blk_drew ?_ | refine blk_alloc ?_ _));exact BK155.out⟩,⟨by repeat (first | (with_reducible first | exact HB.out | apply below_alloc | apply pw_below_drewN | apply below_drew1 | refine below_set ?_ GE155.out) | exact HB.out)⟩⟩
        case round =>
         clear H'
         try clear c1
         try clear p1
         try clear q1
         try clear hx1
         try clear c2
         try clear p2
         try clear c5
         try clear c5b0
         try clear c6
         try clear c6b0
         try clear c7
         try clear c7b0
         try clear hcz9_0
         try clear hcz9_1
         try clear hcz9_2
         try clear hcz9_3
         try clear hcz9_4
         try clear hfz9_0
         try clear hfz9_1
         try clear hfz9_2
         try clear hfz9_3
         try clear hfz9_4
         try clear hx154_0
         try clear hx154_1
         try clear hx154_2
         try clear hx154_3
         try clear hx154_4
         try clear p154
         try clear p2
         try clear q154
         obtain ⟨x4_3,x20_3,rfl,HA,HK3,HO_3,HO_4,BK155,HB⟩:=hrel
         cases gk with
         | zero => exact absurd HA.out (by simp [dsg_Edges.l1])
         | succ k3 =>
          have H:=HA.out
          clear HA
          simp only [dsg_Edges.l1] at H
          by_cases c10 : x20_3 < (l0.length : Int)
          ·rw [if_pos c10] at H
           have c10b0 : decide (x20_3 < (l0.length : Int)) = true:=decide_eq_true c10
           clear c10
           by_cases c11 : 0 ≤ x20_3
           ·rw [if_pos c11] at H
            have c11b0 : decide (0 ≤ x20_3) = true:=decide_eq_true c11
            clear c11
            by_cases c12 : x20_3 < (l0.length : Int)
            ·rw [if_pos c12] at H
             have c12b0 : decide (x20_3 < (l0.length : Int)) = true:=decide_eq_true c12
             clear c12
             by_cases c13 : x13_2 = x20_3
             ·rw [if_pos c13] at H
              have c13b0 : (x13_2 == x20_3) = true:=beq_iff_eq.mpr c13
              have c13b1 : (x13_2 != x20_3) = false:=bne_eq_false_iff_eq.mpr c13
              clear c13
              have H':=Aside0.mk H
              clear H
              have p156 : 0 ≤ (x20_3 : Int):=of_decide_eq_true (by first | (with_reducible assumption) | assumption)
              have q156 : x20_3 < (l0.length : Int):=of_decide_eq_true (by first | (with_reducible assumption) | assumption)
              obtain ⟨ad156,A156_2,c156_2,A156_3,c156_3,A156_4,c156_4,e156,hx156_0,hx156_1,hx156_2,hx156_3,hx156_4,hl156_2,hi156_2,hl156_3,hi156_3,hl156_4,hi156_4⟩:=at_T43 HR0.out x20_3 p156 q156
              obtain rfl : ad154 = ad156:=(by injection e156)
              replace hx156_0:=(HB.out.cell (World.block_lt_of_cell? w _ hx156_0)).trans hx156_0
              replace hx156_1:=(HB.out.cell (World.block_lt_of_cell? w _ hx156_1)).trans hx156_1
              replace hx156_2:=(HB.out.cell (World.block_lt_of_cell? w _ hx156_2)).trans hx156_2
              replace hx156_3:=(HB.out.cell (World.block_lt_of_cell? w _ hx156_3)).trans hx156_3
              replace hx156_4:=(HB.out.cell (World.block_lt_of_cell? w _ hx156_4)).trans hx156_4
              have HR156_2:=Aside0.mk hi156_2
              have HC156_2:=Aside0.mk hl156_2
              clear hi156_2 hl156_2
              have HR156_3:=Aside0.mk hi156_3
              have HC156_3:=Aside0.mk hl156_3
              clear hi156_3 hl156_3
              have HR156_4:=Aside0.mk hi156_4
              have HC156_4:=Aside0.mk hl156_4
              clear hi156_4 hl156_4
              replace p156:=eq_true p156
              replace q156:=eq_true q156
              try go_wp2_with (first | ((with_reducible refine gate_dst (N:=8) rfl ?_);refine box_event ?hg (N:=8) ?hd (cs:=#[.int .i64 0,.int .i64 0,.slice none 0 0,.slice none 0 0,.slice none 0 0]) (t:=43) ?hr ?_;(case hd => rfl);(case hg => rfl);(case hr => first | (go_simp;done) | (go_simp;rfl));intro gb157 hg w14 hbox hb;have n0_:=Aside0.mk (Kd.R_below (by (with_reducible repeat (first | apply Kd.R_alloc | apply Kd.R_drewN | apply Kd.R_drew));exact HO_3.out) hb);have n1_:=Aside0.mk (Kd.R_below (by (with_reducible repeat (first | apply Kd.R_alloc | apply Kd.R_drewN | apply Kd.R_drew));exact HO_4.out) hb);have n2_:=Aside0.mk (blk_below (g:=gb155) (o:=.cells #[.int .i64 ((rd_T43 l0 x13_2).f0),.int .i64 ((rd_T43 l0 x13_2).f1),.slice A154_2 ((rd_T43 l0 x13_2).f2).length c154_2,.slice A154_3 ((rd_T43 l0 x13_2).f3).length c154_3,.slice A154_4 ((rd_T43 l0 x13_2).f4).length c154_4] 43 (0,0)) (by (with_reducible repeat (first | refine blk_drewN ?_ _ | refine blk_drew ?_ | refine blk_alloc ?_ _));exact BK155.out) hb);have n3_:=Aside0.mk (below_step (by repeat (first | (with_reducible first | exact HB.out | apply below_alloc | apply pw_below_drewN | apply below_drew1 | refine below_set ?_ GE155.out) | exact HB.out)) hb);have n4_:=Aside0.mk (hbox);have n5_:=Aside0.mk ((by rw [hg];exact (below_size (by repeat (first | (with_reducible first | exact HB.out | apply below_alloc | apply pw_below_drewN | apply below_drew1 | refine below_set ?_ GE155.out) | exact HB.out))) : w.heap.size ≤ gb157));have n6_:=Aside0.mk ((by rw [hg];exact (below_size (by repeat (first | (with_reducible first | exact HB.out | apply below_alloc | apply pw_below_drewN | apply below_drew1 | refine below_set ?_ GE155.out) | exact HB.out))) : w.heap.size ≤ gb157));have n7_:=Aside0.mk ((by rw [hg];exact Nat.ne_of_lt (blk_lt (g:=gb155) (o:=.cells #[.int .i64 ((rd_T43 l0 x13_2).f0),.int .i64 ((rd_T43 l0 x13_2).f1),.slice A154_2 ((rd_T43 l0 x13_2).f2).length c154_2,.slice A154_3 ((rd_T43 l0 x13_2).f3).length c154_3,.slice A154_4 ((rd_T43 l0 x13_2).f4).length c154_4] 43 (0,0)) (by (with_reducible repeat (first | refine blk_drewN ?_ _ | refine blk_drew ?_ | refine blk_alloc ?_ _));exact BK155.out)) : gb155 ≠ gb157));have n8_:=Aside0.mk ((by rw [hg];exact Nat.ne_of_gt (blk_lt (g:=gb155) (o:=.cells #[.int .i64 ((rd_T43 l0 x13_2).f0),.int .i64 ((rd_T43 l0 x13_2).f1),.slice A154_2 ((rd_T43 l0 x13_2).f2).length c154_2,.slice A154_3 ((rd_T43 l0 x13_2).f3).length c154_3,.slice A154_4 ((rd_T43 l0 x13_2).f4).length c154_4] 43 (0,0)) (by (with_reducible repeat (first | refine blk_drewN ?_ _ | refine blk_drew ?_ | refine blk_alloc ?_ _));exact BK155.out)) : gb157 ≠ gb155));clear HO_3;clear HO_4;clear BK155;clear HB;have HO_3:=n0_;have HO_4:=n1_;have BK155:=n2_;have HB:=n3_;have BK157:=n4_;have GW157:=n5_;have GE157:=n6_;have NB155_157:=n7_;have NB157_155:=n8_;clear n0_ n1_ n2_ n3_ n4_ n5_ n6_ n7_ n8_;clear hb hbox hg;have hnb15:=NB157_155.out;have hnc15:=NB155_157.out;obtain ⟨hcz16_0,hcz16_1,hcz16_2,hcz16_3,hcz16_4⟩:=blkc_5 BK157.out;obtain ⟨hfz16_0,hfz16_1,hfz16_2,hfz16_3⟩:=blkz_4 BK157.out;have hfz16_4:=blk_frozen BK157.out 4))
              have n0_ : Aside0 (Kd.R (Kd.int .i64) 3 (((((w14.setCell ⟨gb157,0,none⟩ (.int .i64 ((rd_T43 l0 x20_3).f0))).setCell ⟨gb157,1,none⟩ (.int .i64 ((rd_T43 l0 x20_3).f1))).setCell ⟨gb157,2,none⟩ (.slice A156_2 ((rd_T43 l0 x20_3).f2).length c156_2)).setCell ⟨gb157,3,none⟩ (.slice A156_3 ((rd_T43 l0 x20_3).f3).length c156_3)).setCell ⟨gb157,4,none⟩ (.slice A156_4 ((rd_T43 l0 x20_3).f4).length c156_4)) w.heap.size (fun _ => True) v152 t151):=⟨by (with_reducible repeat (first | apply Kd.R_alloc | apply Kd.R_drewN | apply Kd.R_drew));exact Kd.R_mono (Kd.R_far (p:=⟨gb157,4,none⟩) (Kd.R_far (p:=⟨gb157,3,none⟩) (Kd.R_far (p:=⟨gb157,2,none⟩) (Kd.R_far (p:=⟨gb157,1,none⟩) (Kd.R_far (p:=⟨gb157,0,none⟩) (Kd.R_types HO_3.out BK157.out (by decide)) (fun _ hk => hk.2) (.int .i64 ((rd_T43 l0 x20_3).f0))) (fun _ hk => hk.2) (.int .i64 ((rd_T43 l0 x20_3).f1))) (fun _ hk => hk.2) (.slice A156_2 ((rd_T43 l0 x20_3).f2).length c156_2)) (fun _ hk => hk.2) (.slice A156_3 ((rd_T43 l0 x20_3).f3).length c156_3)) (fun _ hk => hk.2) (.slice A156_4 ((rd_T43 l0 x20_3).f4).length c156_4)) (fun _ hk => trivial)⟩
              have n1_ : Aside0 (Kd.R k33 33 (((((w14.setCell ⟨gb157,0,none⟩ (.int .i64 ((rd_T43 l0 x20_3).f0))).setCell ⟨gb157,1,none⟩ (.int .i64 ((rd_T43 l0 x20_3).f1))).setCell ⟨gb157,2,none⟩ (.slice A156_2 ((rd_T43 l0 x20_3).f2).length c156_2)).setCell ⟨gb157,3,none⟩ (.slice A156_3 ((rd_T43 l0 x20_3).f3).length c156_3)).setCell ⟨gb157,4,none⟩ (.slice A156_4 ((rd_T43 l0 x20_3).f4).length c156_4)) w.heap.size (fun _ => True) u4 x4_3):=⟨by (with_reducible repeat (first | apply Kd.R_alloc | apply Kd.R_drewN | apply Kd.R_drew));exact Kd.R_mono (Kd.R_far (p:=⟨gb157,4,none⟩) (Kd.R_far (p:=⟨gb157,3,none⟩) (Kd.R_far (p:=⟨gb157,2,none⟩) (Kd.R_far (p:=⟨gb157,1,none⟩) (Kd.R_far (p:=⟨gb157,0,none⟩) (Kd.R_types HO_4.out BK157.out (by decide)) (fun _ hk => hk.2) (.int .i64 ((rd_T43 l0 x20_3).f0))) (fun _ hk => hk.2) (.int .i64 ((rd_T43 l0 x20_3).f1))) (fun _ hk => hk.2) (.slice A156_2 ((rd_T43 l0 x20_3).f2).length c156_2)) (fun _ hk => hk.2) (.slice A156_3 ((rd_T43 l0 x20_3).f3).length c156_3)) (fun _ hk => hk.2) (.slice A156_4 ((rd_T43 l0 x20_3).f4).length c156_4)) (fun _ hk => trivial)⟩
              have n2_ : Aside0 ((((((w14.setCell ⟨gb157,0,none⟩ (.int .i64 ((rd_T43 l0 x20_3).f0))).setCell ⟨gb157,1,none⟩ (.int .i64 ((rd_T43 l0 x20_3).f1))).setCell ⟨gb157,2,none⟩ (.slice A156_2 ((rd_T43 l0 x20_3).f2).length c156_2)).setCell ⟨gb157,3,none⟩ (.slice A156_3 ((rd_T43 l0 x20_3).f3).length c156_3)).setCell ⟨gb157,4,none⟩ (.slice A156_4 ((rd_T43 l0 x20_3).f4).length c156_4)).heap[gb155]? = some (.cells #[.int .i64 ((rd_T43 l0 x13_2).f0),.int .i64 ((rd_T43 l0 x13_2).f1),.slice A154_2 ((rd_T43 l0 x13_2).f2).length c154_2,.slice A154_3 ((rd_T43 l0 x13_2).f3).length c154_3,.slice A154_4 ((rd_T43 l0 x13_2).f4).length c154_4] 43 (0,0))):=⟨by (with_reducible repeat (first | refine blk_drewN ?_ _ | refine blk_drew ?_ | refine blk_alloc ?_ _));refine blk_far ?_ NB155_157.out _;(with_reducible repeat (first | refine blk_drewN ?_ _ | refine blk_drew ?_ | refine blk_alloc ?_ _));refine blk_far ?_ NB155_157.out _;(with_reducible repeat (first | refine blk_drewN ?_ _ | refine blk_drew ?_ | refine blk_alloc ?_ _));refine blk_far ?_ NB155_157.out _;(with_reducible repeat (first | refine blk_drewN ?_ _ | refine blk_drew ?_ | refine blk_alloc ?_ _));refine blk_far ?_ NB155_157.out _;(with_reducible repeat (first | refine blk_drewN ?_ _ | refine blk_drew ?_ | refine blk_alloc ?_ _));refine blk_far ?_ NB155_157.out _;(with_reducible repeat (first | refine blk_drewN ?_ _ | refine blk_drew ?_ | refine blk_alloc ?_ _));exact BK155.out⟩
              have n3_ : Aside0 ((((((w14.setCell ⟨gb157,0,none⟩ (.int .i64 ((rd_T43 l0 x20_3).f0))).setCell ⟨gb157,1,none⟩ (.int .i64 ((rd_T43 l0 x20_3).f1))).setCell ⟨gb157,2,none⟩ (.slice A156_2 ((rd_T43 l0 x20_3).f2).length c156_2)).setCell ⟨gb157,3,none⟩ (.slice A156_3 ((rd_T43 l0 x20_3).f3).length c156_3)).setCell ⟨gb157,4,none⟩ (.slice A156_4 ((rd_T43 l0 x20_3).f4).length c156_4)).heap[gb157]? = some (.cells #[.int .i64 ((rd_T43 l0 x20_3).f0),.int .i64 ((rd_T43 l0 x20_3).f1),.slice A156_2 ((rd_T43 l0 x20_3).f2).length c156_2,.slice A156_3 ((rd_T43 l0 x20_3).f3).length c156_3,.slice A156_4 ((rd_T43 l0 x20_3).f4).length c156_4] 43 (0,0))):=⟨by (with_reducible repeat (first | refine blk_drewN ?_ _ | refine blk_drew ?_ | refine blk_alloc ?_ _));apply blkf_5_0_4;(with_reducible repeat (first | refine blk_drewN ?_ _ | refine blk_drew ?_ | refine blk_alloc ?_ _));exact BK157.out⟩
              have n4_ : Aside0 (Below w.heap.size w (((((w14.setCell ⟨gb157,0,none⟩ (.int .i64 ((rd_T43 l0 x20_3).f0))).setCell ⟨gb157,1,none⟩ (.int .i64 ((rd_T43 l0 x20_3).f1))).setCell ⟨gb157,2,none⟩ (.slice A156_2 ((rd_T43 l0 x20_3).f2).length c156_2)).setCell ⟨gb157,3,none⟩ (.slice A156_3 ((rd_T43 l0 x20_3).f3).length c156_3)).setCell ⟨gb157,4,none⟩ (.slice A156_4 ((rd_T43 l0 x20_3).f4).length c156_4))):=⟨by repeat (first | (with_reducible first | exact HB.out | apply below_alloc | apply pw_below_drewN | apply below_drew1 | refine below_set ?_ GE155.out | refine below_set ?_ GE157.out) | exact HB.out)⟩
              (try clear HO_3)
              (try clear HO_4)
              (try clear BK155)
              (try clear BK157)
              (try clear HB)
              generalize (((((w14.setCell ⟨gb157,0,none⟩ (.int .i64 ((rd_T43 l0 x20_3).f0))).setCell ⟨gb157,1,none⟩ (.int .i64 ((rd_T43 l0 x20_3).f1))).setCell ⟨gb157,2,none⟩ (.slice A156_2 ((rd_T43 l0 x20_3).f2).length c156_2)).setCell ⟨gb157,3,none⟩ (.slice A156_3 ((rd_T43 l0 x20_3).f3).length c156_3)).setCell ⟨gb157,4,none⟩ (.slice A156_4 ((rd_T43 l0 x20_3).f4).length c156_4)) = w17 at n0_ n1_ n2_ n3_ n4_ ⊢
              have HO_3:=n0_
              have HO_4:=n1_
              have BK155:=n2_
              have BK157:=n3_
              have HB:=n4_
              clear n0_ n1_ n2_ n3_ n4_
              have n0_:=Aside0.mk (Kd.R_drew HO_3.out)
              have n1_:=Aside0.mk (Kd.R_drew HO_4.out)
              have n2_:=Aside0.mk (blk_drew BK155.out)
              have n3_:=Aside0.mk (blk_drew BK157.out)
              have n4_:=Aside0.mk (below_drew1 HB.out)
              clear HO_3
              clear HO_4
              clear BK155
              clear BK157
              clear HB
              have HO_3:=n0_
              have HO_4:=n1_
              have BK155:=n2_
              have BK157:=n3_
              have HB:=n4_
              clear n0_ n1_ n2_ n3_ n4_
              refine start_ (n:=16) (S:=fun w' => True) (ds:=[]) #[ff,ff,ff,ff,ff,ff,ff,ff,ff,ff,ff,ff,ff,ff,ff,ff] (by kernel_rfl) rfl rfl trivial (fun hHeld => ?_);refine with_tabW dsg_Edges.tab9 dsg_Edges.bits9 (fun HT_ HW_ => ?_)
              generalize w17.drew = w18 at HO_3 HO_4 BK155 BK157 HB hHeld ⊢
              refine pure_ (i:=0) (N:=some 25) (v:=?_) (a':=?_) #[tt,ff,ff,ff,ff,ff,ff,ff,ff,ff,ff,ff,ff,ff,ff,ff] rfl rfl (any_of HT_.out (by kernel_rfl)) (fun _ _ _ h => h) (Or.inl ⟨by rfl,?_⟩) ?_ ?_
              rotate_left
              ·intro w'
               go_simp
               with_reducible rfl
              rotate_left
              ·simp only [Act.put,q1_,q2_,q3_,i64_w,i32_w]
               rfl
              refine pure_ (i:=1) (N:=some 26) (v:=?_) (a':=?_) #[tt,tt,ff,ff,ff,ff,ff,ff,ff,ff,ff,ff,ff,ff,ff,ff] rfl rfl (any_of HT_.out (by kernel_rfl)) (fun _ _ _ h => h) (Or.inl ⟨by rfl,?_⟩) ?_ ?_
              rotate_left
              ·intro w'
               go_simp
               with_reducible rfl
              rotate_left
              ·simp only [Act.put,q1_,q2_,q3_,i64_w,i32_w]
               rfl
              refine pure_ (i:=2) (N:=some 27) (v:=?_) (a':=?_) #[tt,tt,tt,ff,ff,ff,ff,ff,ff,ff,ff,ff,ff,ff,ff,ff] rfl rfl (any_of HT_.out (by kernel_rfl)) (fun _ _ _ h => h) (Or.inl ⟨by rfl,?_⟩) ?_ ?_
              rotate_left
              ·intro w'
               go_simp
               with_reducible rfl
              rotate_left
              ·simp only [Act.put,q1_,q2_,q3_,i64_w,i32_w]
               rfl
              refine pure_ (i:=3) (N:=some 28) (v:=?_) (a':=?_) #[tt,tt,tt,tt,ff,ff,ff,ff,ff,ff,ff,ff,ff,ff,ff,ff] rfl rfl (any_of HT_.out (by kernel_rfl)) (fun _ _ _ h => h) (Or.inl ⟨by rfl,?_⟩) ?_ ?_
              rotate_left
              ·intro w'
               go_simp
               with_reducible rfl
              rotate_left
              ·simp only [Act.put,q1_,q2_,q3_,i64_w,i32_w]
               rfl
              refine pure_ (i:=4) (N:=some 29) (v:=undef) (a':=?_) #[tt,tt,tt,tt,tt,ff,ff,ff,ff,ff,ff,ff,ff,ff,ff,ff] rfl rfl (any_of HT_.out (by kernel_rfl)) (fun _ _ _ h => h) (Or.inr ⟨by rfl,rfl⟩) ?_ ?_
              rotate_left
              ·simp only [Act.put,q1_,q2_,q3_,i64_w,i32_w]
               rfl
              refine pure_ (i:=5) (N:=some 30) (v:=undef) (a':=?_) #[tt,tt,tt,tt,tt,tt,ff,ff,ff,ff,ff,ff,ff,ff,ff,ff] rfl rfl (any_of HT_.out (by kernel_rfl)) (fun _ _ _ h => h) (Or.inr ⟨by rfl,rfl⟩) ?_ ?_
              rotate_left
              ·simp only [Act.put,q1_,q2_,q3_,i64_w,i32_w]
               rfl
              refine pure_ (i:=6) (N:=some 31) (v:=undef) (a':=?_) #[tt,tt,tt,tt,tt,tt,tt,ff,ff,ff,ff,ff,ff,ff,ff,ff] rfl rfl (any_of HT_.out (by kernel_rfl)) (fun _ _ _ h => h) (Or.inr ⟨by rfl,rfl⟩) ?_ ?_
              rotate_left
              ·simp only [Act.put,q1_,q2_,q3_,i64_w,i32_w]
               rfl
              refine pure_ (i:=7) (N:=some 32) (v:=undef) (a':=?_) #[tt,tt,tt,tt,tt,tt,tt,tt,ff,ff,ff,ff,ff,ff,ff,ff] rfl rfl (any_of HT_.out (by kernel_rfl)) (fun _ _ _ h => h) (Or.inr ⟨by rfl,rfl⟩) ?_ ?_
              rotate_left
              ·simp only [Act.put,q1_,q2_,q3_,i64_w,i32_w]
               rfl
              refine pure_ (i:=8) (N:=some 33) (v:=undef) (a':=?_) #[tt,tt,tt,tt,tt,tt,tt,tt,tt,ff,ff,ff,ff,ff,ff,ff] rfl rfl (any_of HT_.out (by kernel_rfl)) (fun _ _ _ h => h) (Or.inr ⟨by rfl,rfl⟩) ?_ ?_
              rotate_left
              ·simp only [Act.put,q1_,q2_,q3_,i64_w,i32_w]
               rfl
              refine pure_ (i:=9) (N:=some 34) (v:=undef) (a':=?_) #[tt,tt,tt,tt,tt,tt,tt,tt,tt,tt,ff,ff,ff,ff,ff,ff] rfl rfl (any_of HT_.out (by kernel_rfl)) (fun _ _ _ h => h) (Or.inr ⟨by rfl,rfl⟩) ?_ ?_
              rotate_left
              ·simp only [Act.put,q1_,q2_,q3_,i64_w,i32_w]
               rfl
              refine pure_ (i:=10) (N:=some 35) (v:=undef) (a':=?_) #[tt,tt,tt,tt,tt,tt,tt,tt,tt,tt,tt,ff,ff,ff,ff,ff] rfl rfl (any_of HT_.out (by kernel_rfl)) (fun _ _ _ h => h) (Or.inr ⟨by rfl,rfl⟩) ?_ ?_
              rotate_left
              ·simp only [Act.put,q1_,q2_,q3_,i64_w,i32_w]
               rfl
              refine pure_ (i:=11) (N:=some 36) (v:=undef) (a':=?_) #[tt,tt,tt,tt,tt,tt,tt,tt,tt,tt,tt,tt,ff,ff,ff,ff] rfl rfl (any_of HT_.out (by kernel_rfl)) (fun _ _ _ h => h) (Or.inr ⟨by rfl,rfl⟩) ?_ ?_
              rotate_left
              ·simp only [Act.put,q1_,q2_,q3_,i64_w,i32_w]
               rfl
              refine pure_ (i:=12) (N:=some 37) (v:=undef) (a':=?_) #[tt,tt,tt,tt,tt,tt,tt,tt,tt,tt,tt,tt,tt,ff,ff,ff] rfl rfl (any_of HT_.out (by kernel_rfl)) (fun _ _ _ h => h) (Or.inr ⟨by rfl,rfl⟩) ?_ ?_
              rotate_left
              ·simp only [Act.put,q1_,q2_,q3_,i64_w,i32_w]
               rfl
              refine pure_ (i:=13) (N:=some 38) (v:=undef) (a':=?_) #[tt,tt,tt,tt,tt,tt,tt,tt,tt,tt,tt,tt,tt,tt,ff,ff] rfl rfl (any_of HT_.out (by kernel_rfl)) (fun _ _ _ h => h) (Or.inr ⟨by rfl,rfl⟩) ?_ ?_
              rotate_left
              ·simp only [Act.put,q1_,q2_,q3_,i64_w,i32_w]
               rfl
              refine pure_ (i:=14) (N:=some 39) (v:=undef) (a':=?_) #[tt,tt,tt,tt,tt,tt,tt,tt,tt,tt,tt,tt,tt,tt,tt,ff] rfl rfl (any_of HT_.out (by kernel_rfl)) (fun _ _ _ h => h) (Or.inr ⟨by rfl,rfl⟩) ?_ ?_
              rotate_left
              ·simp only [Act.put,q1_,q2_,q3_,i64_w,i32_w]
               rfl
              refine pure_ (i:=15) (N:=some 40) (v:=?_) (a':=?_) #[tt,tt,tt,tt,tt,tt,tt,tt,tt,tt,tt,tt,tt,tt,tt,tt] rfl rfl (any_of HT_.out (by kernel_rfl)) (fun _ _ _ h => h) (Or.inl ⟨by rfl,?_⟩) ?_ ?_
              rotate_left
              ·intro w'
               go_simp
               with_reducible rfl
              rotate_left
              ·simp only [Act.put,q1_,q2_,q3_,i64_w,i32_w]
               rfl
              refine done_ (done_of HT_.out (by kernel_rfl)) ?_
              try go_wp2
              go_roundg k3
              case measure => have:=HJ2.out;have:=HK2.out;have:=HK3.out;omega
              case rel => exact ⟨(x4_3),(wrap64 (x20_3 + 1)),(by first | rfl | (simp;done) | (simp [*];done)),H',⟨by have:=HJ2.out;have:=HK2.out;have:=HK3.out;omega⟩,⟨by (with_reducible repeat (first | apply Kd.R_alloc | apply Kd.R_drewN | apply Kd.R_drew));exact HO_3.out⟩,⟨by (with_reducible repeat (first | apply Kd.R_alloc | apply Kd.R_drewN | apply Kd.R_drew));exact HO_4.out⟩,⟨by (with_reducible repeat (first | refine blk_drewN ?_ _ | refine blk_drew ?_ | refine blk_alloc ?_ _));exact BK155.out⟩,⟨by repeat (first | (with_reducible first | exact HB.out | apply below_alloc | apply pw_below_drewN | apply below_drew1 | refine below_set ?_ GE155.out | refine below_set ?_ GE157.out) | exact HB.out)⟩⟩
             ·rw [if_neg c13] at H
              have c13b0 : (x13_2 == x20_3) = false:=beq_eq_false_iff_ne.mpr c13
              have c13b1 : (x13_2 != x20_3) = true:=bne_iff_ne.mpr c13
              by_cases c19 : 0 ≤ x13_2
              ·rw [if_pos c19] at H
               have c19b0 : decide (0 ≤ x13_2) = true:=decide_eq_true c19
               clear c19
               by_cases c20 : x13_2 < (t151.length : Int)
               ·rw [if_pos c20] at H
                have c20b0 : decide (x13_2 < (t151.length : Int)) = true:=decide_eq_true c20
                clear c20
                by_cases c21 : x20_3 < (t151.length : Int)
                ·rw [if_pos c21] at H
                 have c21b0 : decide (x20_3 < (t151.length : Int)) = true:=decide_eq_true c21
                 clear c21
                 replace H:=Option.bind_eq_some_iff.mp H
                 obtain ⟨t160,A220,H⟩:=H
                 replace H : (if t160 = true then (if x4_3.length < 8796093022208 then (dsg_Edges.j3 k3 l0 t151 (x4_3 ++ [(⟨x13_2,x20_3⟩ : S33)]) x13_2 l0 (l0.length : Int) x13_2 l0 (l0.length : Int) (wrap64 (x20_3 + 1)) ((rd_T43 l0 x13_2).f0) ((rd_T43 l0 x13_2).f1) ((rd_T43 l0 x13_2).f2) ((rd_T43 l0 x13_2).f3) ((rd_T43 l0 x13_2).f4)) else (none)) else (dsg_Edges.l1 k3 l0 t151 x4_3 x13_2 l0 (l0.length : Int) x13_2 l0 (l0.length : Int) (wrap64 (x20_3 + 1)) ((rd_T43 l0 x13_2).f0) ((rd_T43 l0 x13_2).f1) ((rd_T43 l0 x13_2).f2) ((rd_T43 l0 x13_2).f3) ((rd_T43 l0 x13_2).f4))) = some r:=H
                 have A22:=Aside0.mk A220
                 clear A220
                 by_cases c23 : t160 = true
                 ·subst c23
                  have H1 : (if x4_3.length < 8796093022208 then (dsg_Edges.j3 k3 l0 t151 (x4_3 ++ [(⟨x13_2,x20_3⟩ : S33)]) x13_2 l0 (l0.length : Int) x13_2 l0 (l0.length : Int) (wrap64 (x20_3 + 1)) ((rd_T43 l0 x13_2).f0) ((rd_T43 l0 x13_2).f1) ((rd_T43 l0 x13_2).f2) ((rd_T43 l0 x13_2).f3) ((rd_T43 l0 x13_2).f4)) else (none)) = some r:=by rw [if_pos rfl] at H;exact H
                  clear H
                  have H:=H1
                  clear H1
                  by_cases c24 : x4_3.length < 8796093022208
                  ·rw [if_pos c24] at H
                   have LMc24:=Aside0.mk c24
                   clear c24
                   obtain ⟨y161,hy161⟩ : ∃ y_ : List (S33),y_ = (x4_3 ++ [(⟨x13_2,x20_3⟩ : S33)]):=⟨_,rfl⟩
                   replace H : (dsg_Edges.j3 k3 l0 t151 y161 x13_2 l0 (l0.length : Int) x13_2 l0 (l0.length : Int) (wrap64 (x20_3 + 1)) ((rd_T43 l0 x13_2).f0) ((rd_T43 l0 x13_2).f1) ((rd_T43 l0 x13_2).f2) ((rd_T43 l0 x13_2).f3) ((rd_T43 l0 x13_2).f4)) = some r:=by first | (rw [hy161];with_reducible exact H) | (have H2_:=(Option.bind_some _ _).symm.trans H;rw [hy161];with_reducible exact H2_) | (have H2_:=(Option.bind_some _ _).symm.trans H;with_reducible exact H2_) | with_reducible exact H | (rw [hy161];exact H) | exact H
                   have Ny161:=Aside0.mk hy161
                   clear hy161
                   have HC25:=Aside0.mk H
                   clear H
                   have p156 : 0 ≤ (x20_3 : Int):=of_decide_eq_true (by first | (with_reducible assumption) | assumption)
                   have q156 : x20_3 < (l0.length : Int):=of_decide_eq_true (by first | (with_reducible assumption) | assumption)
                   obtain ⟨ad156,A156_2,c156_2,A156_3,c156_3,A156_4,c156_4,e156,hx156_0,hx156_1,hx156_2,hx156_3,hx156_4,hl156_2,hi156_2,hl156_3,hi156_3,hl156_4,hi156_4⟩:=at_T43 HR0.out x20_3 p156 q156
                   obtain rfl : ad154 = ad156:=(by injection e156)
                   replace hx156_0:=(HB.out.cell (World.block_lt_of_cell? w _ hx156_0)).trans hx156_0
                   replace hx156_1:=(HB.out.cell (World.block_lt_of_cell? w _ hx156_1)).trans hx156_1
                   replace hx156_2:=(HB.out.cell (World.block_lt_of_cell? w _ hx156_2)).trans hx156_2
                   replace hx156_3:=(HB.out.cell (World.block_lt_of_cell? w _ hx156_3)).trans hx156_3
                   replace hx156_4:=(HB.out.cell (World.block_lt_of_cell? w _ hx156_4)).trans hx156_4
                   have HR156_2:=Aside0.mk hi156_2
                   have HC156_2:=Aside0.mk hl156_2
                   clear hi156_2 hl156_2
                   have HR156_3:=Aside0.mk hi156_3
                   have HC156_3:=Aside0.mk hl156_3
                   clear hi156_3 hl156_3
                   have HR156_4:=Aside0.mk hi156_4
                   have HC156_4:=Aside0.mk hl156_4
                   clear hi156_4 hl156_4
                   replace p156:=eq_true p156
                   replace q156:=eq_true q156
                   try go_wp2_with (first | ((with_reducible refine gate_dst (N:=8) rfl ?_);refine box_event ?hg (N:=8) ?hd (cs:=#[.int .i64 0,.int .i64 0,.slice none 0 0,.slice none 0 0,.slice none 0 0]) (t:=43) ?hr ?_;(case hd => rfl);(case hg => rfl);(case hr => first | (go_simp;done) | (go_simp;rfl));intro gb157 hg w26 hbox hb;have n0_:=Aside0.mk (Kd.R_below (by (with_reducible repeat (first | apply Kd.R_alloc | apply Kd.R_drewN | apply Kd.R_drew));exact HO_3.out) hb);have n1_:=Aside0.mk (Kd.R_below (by (with_reducible repeat (first | apply Kd.R_alloc | apply Kd.R_drewN | apply Kd.R_drew));exact HO_4.out) hb);have n2_:=Aside0.mk (blk_below (g:=gb155) (o:=.cells #[.int .i64 ((rd_T43 l0 x13_2).f0),.int .i64 ((rd_T43 l0 x13_2).f1),.slice A154_2 ((rd_T43 l0 x13_2).f2).length c154_2,.slice A154_3 ((rd_T43 l0 x13_2).f3).length c154_3,.slice A154_4 ((rd_T43 l0 x13_2).f4).length c154_4] 43 (0,0)) (by (with_reducible repeat (first | refine blk_drewN ?_ _ | refine blk_drew ?_ | refine blk_alloc ?_ _));exact BK155.out) hb);have n3_:=Aside0.mk (below_step (by repeat (first | (with_reducible first | exact HB.out | apply below_alloc | apply pw_below_drewN | apply below_drew1 | refine below_set ?_ GE155.out) | exact HB.out)) hb);have n4_:=Aside0.mk (hbox);have n5_:=Aside0.mk ((by rw [hg];exact (below_size (by repeat (first | (with_reducible first | exact HB.out | apply below_alloc | apply pw_below_drewN | apply below_drew1 | refine below_set ?_ GE155.out) | exact HB.out))) : w.heap.size ≤ gb157));have n6_:=Aside0.mk ((by rw [hg];exact (below_size (by repeat (first | (with_reducible first | exact HB.out | apply below_alloc | apply pw_below_drewN | apply below_drew1 | refine below_set ?_ GE155.out) | exact HB.out))) : w.heap.size ≤ gb157));have n7_:=Aside0.mk ((by rw [hg];exact Nat.ne_of_lt (blk_lt (g:=gb155) (o:=.cells #[.int .i64 ((rd_T43 l0 x13_2).f0),.int .i64 ((rd_T43 l0 x13_2).f1),.slice A154_2 ((rd_T43 l0 x13_2).f2).length c154_2,.slice A154_3 ((rd_T43 l0 x13_2).f3).length c154_3,.slice A154_4 ((rd_T43 l0 x13_2).f4).length c154_4] 43 (0,0)) (by (with_reducible repeat (first | refine blk_drewN ?_ _ | refine blk_drew ?_ | refine blk_alloc ?_ _));exact BK155.out)) : gb155 ≠ gb157));have n8_:=Aside0.mk ((by rw [hg];exact Nat.ne_of_gt (blk_lt (g:=gb155) (o:=.cells #[.int .i64 ((rd_T43 l0 x13_2).f0),.int .i64 ((rd_T43 l0 x13_2).f1),.slice A154_2 ((rd_T43 l0 x13_2).f2).length c154_2,.slice A154_3 ((rd_T43 l0 x13_2).f3).length c154_3,.slice A154_4 ((rd_T43 l0 x13_2).f4).length c154_4] 43 (0,0)) (by (with_reducible repeat (first | refine blk_drewN ?_ _ | refine blk_drew ?_ | refine blk_alloc ?_ _));exact BK155.out)) : gb157 ≠ gb155));clear HO_3;clear HO_4;clear BK155;clear HB;have HO_3:=n0_;have HO_4:=n1_;have BK155:=n2_;have HB:=n3_;have BK157:=n4_;have GW157:=n5_;have GE157:=n6_;have NB155_157:=n7_;have NB157_155:=n8_;clear n0_ n1_ n2_ n3_ n4_ n5_ n6_ n7_ n8_;clear hb hbox hg;have hnb27:=NB157_155.out;have hnc27:=NB155_157.out;obtain ⟨hcz28_0,hcz28_1,hcz28_2,hcz28_3,hcz28_4⟩:=blkc_5 BK157.out;obtain ⟨hfz28_0,hfz28_1,hfz28_2,hfz28_3⟩:=blkz_4 BK157.out;have hfz28_4:=blk_frozen BK157.out 4))
                   have n0_ : Aside0 (Kd.R (Kd.int .i64) 3 (((((w26.setCell ⟨gb157,0,none⟩ (.int .i64 ((rd_T43 l0 x20_3).f0))).setCell ⟨gb157,1,none⟩ (.int .i64 ((rd_T43 l0 x20_3).f1))).setCell ⟨gb157,2,none⟩ (.slice A156_2 ((rd_T43 l0 x20_3).f2).length c156_2)).setCell ⟨gb157,3,none⟩ (.slice A156_3 ((rd_T43 l0 x20_3).f3).length c156_3)).setCell ⟨gb157,4,none⟩ (.slice A156_4 ((rd_T43 l0 x20_3).f4).length c156_4)) w.heap.size (fun _ => True) v152 t151):=⟨by (with_reducible repeat (first | apply Kd.R_alloc | apply Kd.R_drewN | apply Kd.R_drew));exact Kd.R_mono (Kd.R_far (p:=⟨gb157,4,none⟩) (Kd.R_far (p:=⟨gb157,3,none⟩) (Kd.R_far (p:=⟨gb157,2,none⟩) (Kd.R_far (p:=⟨gb157,1,none⟩) (Kd.R_far (p:=⟨gb157,0,none⟩) (Kd.R_types HO_3.out BK157.out (by decide)) (fun _ hk => hk.2) (.int .i64 ((rd_T43 l0 x20_3).f0))) (fun _ hk => hk.2) (.int .i64 ((rd_T43 l0 x20_3).f1))) (fun _ hk => hk.2) (.slice A156_2 ((rd_T43 l0 x20_3).f2).length c156_2)) (fun _ hk => hk.2) (.slice A156_3 ((rd_T43 l0 x20_3).f3).length c156_3)) (fun _ hk => hk.2) (.slice A156_4 ((rd_T43 l0 x20_3).f4).length c156_4)) (fun _ hk => trivial)⟩
                   have n1_ : Aside0 (Kd.R k33 33 (((((w26.setCell ⟨gb157,0,none⟩ (.int .i64 ((rd_T43 l0 x20_3).f0))).setCell ⟨gb157,1,none⟩ (.int .i64 ((rd_T43 l0 x20_3).f1))).setCell ⟨gb157,2,none⟩ (.slice A156_2 ((rd_T43 l0 x20_3).f2).length c156_2)).setCell ⟨gb157,3,none⟩ (.slice A156_3 ((rd_T43 l0 x20_3).f3).length c156_3)).setCell ⟨gb157,4,none⟩ (.slice A156_4 ((rd_T43 l0 x20_3).f4).length c156_4)) w.heap.size (fun _ => True) u4 x4_3):=⟨by (with_reducible repeat (first | apply Kd.R_alloc | apply Kd.R_drewN | apply Kd.R_drew));exact Kd.R_mono (Kd.R_far (p:=⟨gb157,4,none⟩) (Kd.R_far (p:=⟨gb157,3,none⟩) (Kd.R_far (p:=⟨gb157,2,none⟩) (Kd.R_far (p:=⟨gb157,1,none⟩) (Kd.R_far (p:=⟨gb157,0,none⟩) (Kd.R_types HO_4.out BK157.out (by decide)) (fun _ hk => hk.2) (.int .i64 ((rd_T43 l0 x20_3).f0))) (fun _ hk => hk.2) (.int .i64 ((rd_T43 l0 x20_3).f1))) (fun _ hk => hk.2) (.slice A156_2 ((rd_T43 l0 x20_3).f2).length c156_2)) (fun _ hk => hk.2) (.slice A156_3 ((rd_T43 l0 x20_3).f3).length c156_3)) (fun _ hk => hk.2) (.slice A156_4 ((rd_T43 l0 x20_3).f4).length c156_4)) (fun _ hk => trivial)⟩
                   have n2_ : Aside0 ((((((w26.setCell ⟨gb157,0,none⟩ (.int .i64 ((rd_T43 l0 x20_3).f0))).setCell ⟨gb157,1,none⟩ (.int .i64 ((rd_T43 l0 x20_3).f1))).setCell ⟨gb157,2,none⟩ (.slice A156_2 ((rd_T43 l0 x20_3).f2).length c156_2)).setCell ⟨gb157,3,none⟩ (.slice A156_3 ((rd_T43 l0 x20_3).f3).length c156_3)).setCell ⟨gb157,4,none⟩ (.slice A156_4 ((rd_T43 l0 x20_3).f4).length c156_4)).heap[gb155]? = some (.cells #[.int .i64 ((rd_T43 l0 x13_2).f0),.int .i64 ((rd_T43 l0 x13_2).f1),.slice A154_2 ((rd_T43 l0 x13_2).f2).length c154_2,.slice A154_3 ((rd_T43 l0 x13_2).f3).length c154_3,.slice A154_4 ((rd_T43 l0 x13_2).f4).length c154_4] 43 (0,0))):=⟨by (with_reducible repeat (first | refine blk_drewN ?_ _ | refine blk_drew ?_ | refine blk_alloc ?_ _));refine blk_far ?_ NB155_157.out _;(with_reducible repeat (first | refine blk_drewN ?_ _ | refine blk_drew ?_ | refine blk_alloc ?_ _));refine blk_far ?_ NB155_157.out _;(with_reducible repeat (first | refine blk_drewN ?_ _ | refine blk_drew ?_ | refine blk_alloc ?_ _));refine blk_far ?_ NB155_157.out _;(with_reducible repeat (first | refine blk_drewN ?_ _ | refine blk_drew ?_ | refine blk_alloc ?_ _));refine blk_far ?_ NB155_157.out _;(with_reducible repeat (first | refine blk_drewN ?_ _ | refine blk_drew ?_ | refine blk_alloc ?_ _));refine blk_far ?_ NB155_157.out _;(with_reducible repeat (first | refine blk_drewN ?_ _ | refine blk_drew ?_ | refine blk_alloc ?_ _));exact BK155.out⟩
                   have n3_ : Aside0 ((((((w26.setCell ⟨gb157,0,none⟩ (.int .i64 ((rd_T43 l0 x20_3).f0))).setCell ⟨gb157,1,none⟩ (.int .i64 ((rd_T43 l0 x20_3).f1))).setCell ⟨gb157,2,none⟩ (.slice A156_2 ((rd_T43 l0 x20_3).f2).length c156_2)).setCell ⟨gb157,3,none⟩ (.slice A156_3 ((rd_T43 l0 x20_3).f3).length c156_3)).setCell ⟨gb157,4,none⟩ (.slice A156_4 ((rd_T43 l0 x20_3).f4).length c156_4)).heap[gb157]? = some (.cells #[.int .i64 ((rd_T43 l0 x20_3).f0),.int .i64 ((rd_T43 l0 x20_3).f1),.slice A156_2 ((rd_T43 l0 x20_3).f2).length c156_2,.slice A156_3 ((rd_T43 l0 x20_3).f3).length c156_3,.slice A156_4 ((rd_T43 l0 x20_3).f4).length c156_4] 43 (0,0))):=⟨by (with_reducible repeat (first | refine blk_drewN ?_ _ | refine blk_drew ?_ | refine blk_alloc ?_ _));apply blkf_5_0_4;(with_reducible repeat (first | refine blk_drewN ?_ _ | refine blk_drew ?_ | refine blk_alloc ?_ _));exact BK157.out⟩
                   have n4_ : Aside0 (Below w.heap.size w (((((w26.setCell ⟨gb157,0,none⟩ (.int .i64 ((rd_T43 l0 x20_3).f0))).setCell ⟨gb157,1,none⟩ (.int .i64 ((rd_T43 l0 x20_3).f1))).setCell ⟨gb157,2,none⟩ (.slice A156_2 ((rd_T43 l0 x20_3).f2).length c156_2)).setCell ⟨gb157,3,none⟩ (.slice A156_3 ((rd_T43 l0 x20_3).f3).length c156_3)).setCell ⟨gb157,4,none⟩ (.slice A156_4 ((rd_T43 l0 x20_3).f4).length c156_4))):=⟨by repeat (first | (with_reducible first | exact HB.out | apply below_alloc | apply pw_below_drewN | apply below_drew1 | refine below_set ?_ GE155.out | refine below_set ?_ GE157.out) | exact HB.out)⟩
                   (try clear HO_3)
                   (try clear HO_4)
                   (try clear BK155)
                   (try clear BK157)
                   (try clear HB)
                   generalize (((((w26.setCell ⟨gb157,0,none⟩ (.int .i64 ((rd_T43 l0 x20_3).f0))).setCell ⟨gb157,1,none⟩ (.int .i64 ((rd_T43 l0 x20_3).f1))).setCell ⟨gb157,2,none⟩ (.slice A156_2 ((rd_T43 l0 x20_3).f2).length c156_2)).setCell ⟨gb157,3,none⟩ (.slice A156_3 ((rd_T43 l0 x20_3).f3).length c156_3)).setCell ⟨gb157,4,none⟩ (.slice A156_4 ((rd_T43 l0 x20_3).f4).length c156_4)) = w29 at n0_ n1_ n2_ n3_ n4_ ⊢
                   have HO_3:=n0_
                   have HO_4:=n1_
                   have BK155:=n2_
                   have BK157:=n3_
                   have HB:=n4_
                   clear n0_ n1_ n2_ n3_ n4_
                   have n0_:=Aside0.mk (Kd.R_drew HO_3.out)
                   have n1_:=Aside0.mk (Kd.R_drew HO_4.out)
                   have n2_:=Aside0.mk (blk_drew BK155.out)
                   have n3_:=Aside0.mk (blk_drew BK157.out)
                   have n4_:=Aside0.mk (below_drew1 HB.out)
                   clear HO_3
                   clear HO_4
                   clear BK155
                   clear BK157
                   clear HB
                   have HO_3:=n0_
                   have HO_4:=n1_
                   have BK155:=n2_
                   have BK157:=n3_
                   have HB:=n4_
                   clear n0_ n1_ n2_ n3_ n4_
                   obtain ⟨Ao31,co31,eo31⟩:=Kd.R_slice HO_3.out
                   (first | subst eo31 | (injection eo31 with f1_ f2_ f3_;have f4_:=f1_.symm;have f5_:=f3_.symm;clear f1_ f2_ f3_;subst f4_;subst f5_))
                   have p158 : 0 ≤ (x13_2 : Int):=of_decide_eq_true (by first | (with_reducible assumption) | assumption)
                   have q158 : x13_2 < (t151.length : Int):=of_decide_eq_true (by first | (with_reducible assumption) | assumption)
                   obtain ⟨ad158,e158,hx158_0⟩:=Kd.at_int (Kd.R_reads' HO_3.out).2.2 x13_2 p158 q158
                   cases e158
                   replace p158:=eq_true p158
                   replace q158:=eq_true q158
                   have p159 : 0 ≤ (x20_3 : Int):=of_decide_eq_true (by first | (with_reducible assumption) | assumption)
                   have q159 : x20_3 < (t151.length : Int):=of_decide_eq_true (by first | (with_reducible assumption) | assumption)
                   obtain ⟨ad159,e159,hx159_0⟩:=Kd.at_int (Kd.R_reads' HO_3.out).2.2 x20_3 p159 q159
                   obtain rfl : ad158 = ad159:=(by injection e159)
                   replace p159:=eq_true p159
                   replace q159:=eq_true q159
                   refine start_ (n:=16) (S:=fun w' => w'.cell? ⟨gb155,0,none⟩ = some (.int .i64 ((rd_T43 l0 x13_2).f0)) ∧ w'.cell? ⟨gb155,1,none⟩ = some (.int .i64 ((rd_T43 l0 x13_2).f1)) ∧ w'.cell? ⟨gb155,2,none⟩ = some (.slice A154_2 ((rd_T43 l0 x13_2).f2).length c154_2) ∧ w'.cell? ⟨gb155,3,none⟩ = some (.slice A154_3 ((rd_T43 l0 x13_2).f3).length c154_3) ∧ w'.cell? ⟨gb155,4,none⟩ = some (.slice A154_4 ((rd_T43 l0 x13_2).f4).length c154_4) ∧ w'.cell? ⟨gb157,0,none⟩ = some (.int .i64 ((rd_T43 l0 x20_3).f0)) ∧ w'.cell? ⟨gb157,1,none⟩ = some (.int .i64 ((rd_T43 l0 x20_3).f1)) ∧ w'.cell? ⟨gb157,2,none⟩ = some (.slice A156_2 ((rd_T43 l0 x20_3).f2).length c156_2) ∧ w'.cell? ⟨gb157,3,none⟩ = some (.slice A156_3 ((rd_T43 l0 x20_3).f3).length c156_3) ∧ w'.cell? ⟨gb157,4,none⟩ = some (.slice A156_4 ((rd_T43 l0 x20_3).f4).length c156_4) ∧ w'.cell? (ad158.add (x13_2).toNat) = some (.int .i64 (rd t151 x13_2)) ∧ w'.cell? (ad158.add (x20_3).toNat) = some (.int .i64 (rd t151 x20_3))) (ds:=[14]) #[ff,ff,ff,ff,ff,ff,ff,ff,ff,ff,ff,ff,ff,ff,ff,ff] (by kernel_rfl) rfl rfl ⟨(blk_cell BK155.out 0).trans rfl,(blk_cell BK155.out 1).trans rfl,(blk_cell BK155.out 2).trans rfl,(blk_cell BK155.out 3).trans rfl,(blk_cell BK155.out 4).trans rfl,(blk_cell BK157.out 0).trans rfl,(blk_cell BK157.out 1).trans rfl,(blk_cell BK157.out 2).trans rfl,(blk_cell BK157.out 3).trans rfl,(blk_cell BK157.out 4).trans rfl,hx158_0,hx159_0⟩ (fun hHeld => ?_);refine with_tabW dsg_Edges.tab9 dsg_Edges.bits9 (fun HT_ HW_ => ?_)
                   generalize w29.drew = w30 at HO_3 HO_4 BK155 BK157 HB hx158_0 hx159_0 hHeld ⊢
                   refine pure_ (i:=0) (N:=some 25) (v:=?_) (a':=?_) #[tt,ff,ff,ff,ff,ff,ff,ff,ff,ff,ff,ff,ff,ff,ff,ff] rfl rfl (any_of HT_.out (by kernel_rfl)) (fun _ _ _ h => h) (Or.inl ⟨by rfl,?_⟩) ?_ ?_
                   rotate_left
                   ·intro w'
                    go_simp
                    with_reducible rfl
                   rotate_left
                   ·simp only [Act.put,q1_,q2_,q3_,i64_w,i32_w]
                    rfl
                   refine pure_ (i:=1) (N:=some 26) (v:=?_) (a':=?_) #[tt,tt,ff,ff,ff,ff,ff,ff,ff,ff,ff,ff,ff,ff,ff,ff] rfl rfl (any_of HT_.out (by kernel_rfl)) (fun _ _ _ h => h) (Or.inl ⟨by rfl,?_⟩) ?_ ?_
                   rotate_left
                   ·intro w'
                    go_simp
                    with_reducible rfl
                   rotate_left
                   ·simp only [Act.put,q1_,q2_,q3_,i64_w,i32_w]
                    rfl
                   refine pure_ (i:=2) (N:=some 27) (v:=?_) (a':=?_) #[tt,tt,tt,ff,ff,ff,ff,ff,ff,ff,ff,ff,ff,ff,ff,ff] rfl rfl (any_of HT_.out (by kernel_rfl)) (fun _ _ _ h => h) (Or.inl ⟨by rfl,?_⟩) ?_ ?_
                   rotate_left
                   ·intro w'
                    go_simp
                    with_reducible rfl
                   rotate_left
                   ·simp only [Act.put,q1_,q2_,q3_,i64_w,i32_w]
                    rfl
                   refine pure_ (i:=3) (N:=some 28) (v:=?_) (a':=?_) #[tt,tt,tt,tt,ff,ff,ff,ff,ff,ff,ff,ff,ff,ff,ff,ff] rfl rfl (any_of HT_.out (by kernel_rfl)) (fun _ _ _ h => h) (Or.inl ⟨by rfl,?_⟩) ?_ ?_
                   rotate_left
                   ·intro w'
                    go_simp
                    with_reducible rfl
                   rotate_left
                   ·simp only [Act.put,q1_,q2_,q3_,i64_w,i32_w]
                    rfl
                   refine pure_ (i:=6) (N:=some 31) (v:=?_) (a':=?_) #[tt,tt,tt,tt,ff,ff,tt,ff,ff,ff,ff,ff,ff,ff,ff,ff] rfl rfl (any_of HT_.out (by kernel_rfl)) (fun _ _ _ h => h) (Or.inl ⟨by rfl,?_⟩) ?_ ?_
                   rotate_left
                   ·intro w'
                    go_simp
                    with_reducible rfl
                   rotate_left
                   ·simp only [Act.put,q1_,q2_,q3_,i64_w,i32_w]
                    rfl
                   refine pure_ (i:=7) (N:=some 32) (v:=?_) (a':=?_) #[tt,tt,tt,tt,ff,ff,tt,tt,ff,ff,ff,ff,ff,ff,ff,ff] rfl rfl (any_of HT_.out (by kernel_rfl)) (fun _ _ _ h => h) (Or.inl ⟨by rfl,?_⟩) ?_ ?_
                   rotate_left
                   ·intro w'
                    go_simp
                    with_reducible rfl
                   rotate_left
                   ·simp only [Act.put,q1_,q2_,q3_,i64_w,i32_w]
                    rfl
                   refine pure_ (i:=8) (N:=some 33) (v:=?_) (a':=?_) #[tt,tt,tt,tt,ff,ff,tt,tt,tt,ff,ff,ff,ff,ff,ff,ff] rfl rfl (any_of HT_.out (by kernel_rfl)) (fun _ _ _ h => h) (Or.inl ⟨by rfl,?_⟩) ?_ ?_
                   rotate_left
                   ·intro w'
                    go_simp
                    with_reducible rfl
                   rotate_left
                   ·simp only [Act.put,q1_,q2_,q3_,i64_w,i32_w]
                    rfl
                   refine pure_ (i:=10) (N:=some 35) (v:=?_) (a':=?_) #[tt,tt,tt,tt,ff,ff,tt,tt,tt,ff,tt,ff,ff,ff,ff,ff] rfl rfl (any_of HT_.out (by kernel_rfl)) (fun _ _ _ h => h) (Or.inl ⟨by rfl,?_⟩) ?_ ?_
                   rotate_left
                   ·intro w'
                    go_simp
                    with_reducible rfl
                   rotate_left
                   ·simp only [Act.put,q1_,q2_,q3_,i64_w,i32_w]
                    rfl
                   refine pure_ (i:=11) (N:=some 36) (v:=?_) (a':=?_) #[tt,tt,tt,tt,ff,ff,tt,tt,tt,ff,tt,tt,ff,ff,ff,ff] rfl rfl (any_of HT_.out (by kernel_rfl)) (fun _ _ _ h => h) (Or.inl ⟨by rfl,?_⟩) ?_ ?_
                   rotate_left
                   ·intro w'
                    go_simp
                    with_reducible rfl
                   rotate_left
                   ·simp only [Act.put,q1_,q2_,q3_,i64_w,i32_w]
                    rfl
                   refine pure_ (i:=12) (N:=some 37) (v:=?_) (a':=?_) #[tt,tt,tt,tt,ff,ff,tt,tt,tt,ff,tt,tt,tt,ff,ff,ff] rfl rfl (any_of HT_.out (by kernel_rfl)) (fun _ _ _ h => h) (Or.inl ⟨by rfl,?_⟩) ?_ ?_
                   rotate_left
                   ·intro w'
                    go_simp
                    with_reducible rfl
                   rotate_left
                   ·simp only [Act.put,q1_,q2_,q3_,i64_w,i32_w]
                    rfl
                   refine take_ (i:=4) (N:=some 29) (v:=?_) (a':=?_) #[tt,tt,tt,tt,tt,ff,tt,tt,tt,ff,tt,tt,tt,ff,ff,ff] rfl rfl (take_ofW HT_.out HW_.out (by kernel_rfl)) (fun _ _ _ h => h) (Or.inl ⟨by rfl,?_⟩) hHeld ?_ ?_
                   rotate_left
                   ·rintro w' ⟨s0,s1,s2,s3,s4,s5,s6,s7,s8,s9,s10,s11⟩
                    go_simp
                    with_reducible rfl
                   rotate_left
                   ·simp only [Act.put,q1_,q2_,q3_,i64_w,i32_w]
                    rfl
                   refine take_ (i:=5) (N:=some 30) (v:=?_) (a':=?_) #[tt,tt,tt,tt,tt,tt,tt,tt,tt,ff,tt,tt,tt,ff,ff,ff] rfl rfl (take_ofW HT_.out HW_.out (by kernel_rfl)) (fun _ _ _ h => h) (Or.inl ⟨by rfl,?_⟩) hHeld ?_ ?_
                   rotate_left
                   ·rintro w' ⟨s0,s1,s2,s3,s4,s5,s6,s7,s8,s9,s10,s11⟩
                    go_simp
                    with_reducible rfl
                   rotate_left
                   ·simp only [Act.put,q1_,q2_,q3_,i64_w,i32_w]
                    rfl
                   refine take_ (i:=9) (N:=some 34) (v:=?_) (a':=?_) #[tt,tt,tt,tt,tt,tt,tt,tt,tt,tt,tt,tt,tt,ff,ff,ff] rfl rfl (take_ofW HT_.out HW_.out (by kernel_rfl)) (fun _ _ _ h => h) (Or.inl ⟨by rfl,?_⟩) hHeld ?_ ?_
                   rotate_left
                   ·rintro w' ⟨s0,s1,s2,s3,s4,s5,s6,s7,s8,s9,s10,s11⟩
                    go_simp
                    with_reducible rfl
                   rotate_left
                   ·simp only [Act.put,q1_,q2_,q3_,i64_w,i32_w]
                    rfl
                   refine take_ (i:=13) (N:=some 38) (v:=?_) (a':=?_) #[tt,tt,tt,tt,tt,tt,tt,tt,tt,tt,tt,tt,tt,tt,ff,ff] rfl rfl (take_ofW HT_.out HW_.out (by kernel_rfl)) (fun _ _ _ h => h) (Or.inl ⟨by rfl,?_⟩) hHeld ?_ ?_
                   rotate_left
                   ·rintro w' ⟨s0,s1,s2,s3,s4,s5,s6,s7,s8,s9,s10,s11⟩
                    go_simp
                    with_reducible rfl
                   rotate_left
                   ·simp only [Act.put,q1_,q2_,q3_,i64_w,i32_w]
                    rfl
                   refine last_ (i:=14) (N:=some 39) #[tt,tt,tt,tt,tt,tt,tt,tt,tt,tt,tt,tt,tt,tt,tt,ff] rfl rfl (one_of HT_.out (by kernel_rfl)) (by decide) (fun K hK => ?_)
                   refine goes_ Try.func52 (by kernel_rfl) rfl #[.agg #[.int .i64 ((rd_T43 l0 x13_2).f0),.int .i64 ((rd_T43 l0 x13_2).f1),.slice A154_2 ((rd_T43 l0 x13_2).f2).length c154_2,.slice A154_3 ((rd_T43 l0 x13_2).f3).length c154_3,.slice A154_4 ((rd_T43 l0 x13_2).f4).length c154_4],.agg #[.int .i64 ((rd_T43 l0 x20_3).f0),.int .i64 ((rd_T43 l0 x20_3).f1),.slice A156_2 ((rd_T43 l0 x20_3).f2).length c156_2,.slice A156_3 ((rd_T43 l0 x20_3).f3).length c156_3,.slice A156_4 ((rd_T43 l0 x20_3).f4).length c156_4],.int .i64 (rd t151 x13_2),.int .i64 (rd t151 x20_3)] (by rfl) rfl rfl (by (try simp only [List.map_toArray,List.map_cons,List.map_nil]);first | done | rfl | (simp only [List.length_drop,List.length_take];rfl)) ?_
                   with_reducible refine (dsg_ahead.calls ((rd_T43 l0 x13_2).f0) ((rd_T43 l0 x13_2).f1) _ _ ((rd_T43 l0 x13_2).f2) _ _ ((rd_T43 l0 x13_2).f3) _ _ ((rd_T43 l0 x13_2).f4) ((rd_T43 l0 x20_3).f0) ((rd_T43 l0 x20_3).f1) _ _ ((rd_T43 l0 x20_3).f2) _ _ ((rd_T43 l0 x20_3).f3) _ _ ((rd_T43 l0 x20_3).f4) (rd t151 x13_2) (rd t151 x20_3) true _ ?side1 ?side2 ?side3 ?side4 ?side5 ?side6 ?side7 ?side8 ?side9 ?side10 ?side11 ?side12 A22.out).mono ?_
                   (case side1 => repeat (first | exact (Kd.C_below HR154_2.out HB.out) | (with_reducible refine Kd.C_alloc ?_ _) | (with_reducible refine Kd.C_drewN ?_ _) | (with_reducible refine Kd.C_drew ?_)))
                   (case side2 => exact HC154_2.out)
                   (case side3 => repeat (first | exact (Kd.C_below HR154_3.out HB.out) | (with_reducible refine Kd.C_alloc ?_ _) | (with_reducible refine Kd.C_drewN ?_ _) | (with_reducible refine Kd.C_drew ?_)))
                   (case side4 => exact HC154_3.out)
                   (case side5 => repeat (first | exact (Kd.C_below HR154_4.out HB.out) | (with_reducible refine Kd.C_alloc ?_ _) | (with_reducible refine Kd.C_drewN ?_ _) | (with_reducible refine Kd.C_drew ?_)))
                   (case side6 => exact HC154_4.out)
                   (case side7 => repeat (first | exact (Kd.C_below HR156_2.out HB.out) | (with_reducible refine Kd.C_alloc ?_ _) | (with_reducible refine Kd.C_drewN ?_ _) | (with_reducible refine Kd.C_drew ?_)))
                   (case side8 => exact HC156_2.out)
                   (case side9 => repeat (first | exact (Kd.C_below HR156_3.out HB.out) | (with_reducible refine Kd.C_alloc ?_ _) | (with_reducible refine Kd.C_drewN ?_ _) | (with_reducible refine Kd.C_drew ?_)))
                   (case side10 => exact HC156_3.out)
                   (case side11 => repeat (first | exact (Kd.C_below HR156_4.out HB.out) | (with_reducible refine Kd.C_alloc ?_ _) | (with_reducible refine Kd.C_drewN ?_ _) | (with_reducible refine Kd.C_drew ?_)))
                   (case side12 => exact HC156_4.out)
                   rintro e w32 ⟨rfl,hb⟩
                   refine ⟨_,rfl,?_⟩
                   have n0_:=Aside0.mk (Kd.R_below (by (with_reducible repeat (first | apply Kd.R_alloc | apply Kd.R_drewN | apply Kd.R_drew));exact HO_3.out) hb)
                   have n1_:=Aside0.mk (Kd.R_below (by (with_reducible repeat (first | apply Kd.R_alloc | apply Kd.R_drewN | apply Kd.R_drew));exact HO_4.out) hb)
                   have n2_:=Aside0.mk (blk_below (g:=gb155) (o:=.cells #[.int .i64 ((rd_T43 l0 x13_2).f0),.int .i64 ((rd_T43 l0 x13_2).f1),.slice A154_2 ((rd_T43 l0 x13_2).f2).length c154_2,.slice A154_3 ((rd_T43 l0 x13_2).f3).length c154_3,.slice A154_4 ((rd_T43 l0 x13_2).f4).length c154_4] 43 (0,0)) (by (with_reducible repeat (first | refine blk_drewN ?_ _ | refine blk_drew ?_ | refine blk_alloc ?_ _));exact BK155.out) hb)
                   have n3_:=Aside0.mk (blk_below (g:=gb157) (o:=.cells #[.int .i64 ((rd_T43 l0 x20_3).f0),.int .i64 ((rd_T43 l0 x20_3).f1),.slice A156_2 ((rd_T43 l0 x20_3).f2).length c156_2,.slice A156_3 ((rd_T43 l0 x20_3).f3).length c156_3,.slice A156_4 ((rd_T43 l0 x20_3).f4).length c156_4] 43 (0,0)) (by (with_reducible repeat (first | refine blk_drewN ?_ _ | refine blk_drew ?_ | refine blk_alloc ?_ _));exact BK157.out) hb)
                   have n4_:=Aside0.mk (below_step (by repeat (first | (with_reducible first | exact HB.out | apply below_alloc | apply pw_below_drewN | apply below_drew1 | refine below_set ?_ GE155.out | refine below_set ?_ GE157.out) | exact HB.out)) hb)
                   clear HO_3
                   clear HO_4
                   clear BK155
                   clear BK157
                   clear HB
                   have HO_3:=n0_
                   have HO_4:=n1_
                   have BK155:=n2_
                   have BK157:=n3_
                   have HB:=n4_
                   clear n0_ n1_ n2_ n3_ n4_
                   (try clear hb)
                   (try clear hb2)
                   (try clear hk)
                   (try clear hi)
                   refine hK.out _ _ ?_
                   clear hK K
                   refine norm_ (a':=?_) ?_ ?_
                   rotate_left
                   ·show Act.put _ (some 39) _ = _
                    simp only [Act.put,q1_,q2_,q3_,i64_w,i32_w]
                    rfl
                   refine pure_ (i:=15) (N:=some 40) (v:=?_) (a':=?_) #[tt,tt,tt,tt,tt,tt,tt,tt,tt,tt,tt,tt,tt,tt,tt,tt] rfl rfl (any_of HT_.out (by kernel_rfl)) (fun _ _ _ h => h) (Or.inl ⟨by rfl,?_⟩) ?_ ?_
                   rotate_left
                   ·intro w'
                    go_simp
                    with_reducible rfl
                   rotate_left
                   ·simp only [Act.put,q1_,q2_,q3_,i64_w,i32_w]
                    rfl
                   refine done_ (done_of HT_.out (by kernel_rfl)) ?_
                   go_upto_region 11 with (first | ((with_reducible refine gate_builtin (b:=.append) (xs:=#[.tmp 41,.tmp 45]) rfl ?_);at_builtin;refine Kd.R_append k33 (w0:=w) w.heap.size rfl (.tmp 41) (.tmp 45) 22 33 (.agg #[(.int .i64 0),(.int .i64 0)]) 16 rfl Try.underlying22 info33 rfl (by decide) (by omega) u4 x4_3 (⟨x13_2,x20_3⟩ : S33) [.int .i64 x13_2,.int .i64 x20_3] (fun _ => True) (fun _ => False) rfl rfl ?aP (fun _ hk => hk.elim) ?aF ?aO ?aB ?aS ?aL ?_;(case aP => exact k33_mkM _ _ _ (⟨x13_2,x20_3⟩ : S33));(case aB => exact (by repeat (first | (with_reducible first | exact HB.out | apply below_alloc | apply pw_below_drewN | apply below_drew1 | refine below_set ?_ GE155.out | refine below_set ?_ GE157.out) | exact HB.out)));(case aF => exact (fun _ _ => trivial));(case aO => exact (by (with_reducible repeat (first | apply Kd.R_alloc | apply Kd.R_drewN | apply Kd.R_drew));exact HO_4.out));(case aS => exact (below_size (by repeat (first | (with_reducible first | exact HB.out | apply below_alloc | apply pw_below_drewN | apply below_drew1 | refine below_set ?_ GE155.out | refine below_set ?_ GE157.out) | exact HB.out))));(case aL => have:=LMc24.out;omega);intro v162 w33 ho hb hg hat;rw [← Ny161.out] at ho;have n0_:=Aside0.mk (Kd.R_over' (by (with_reducible repeat (first | apply Kd.R_alloc | apply Kd.R_drewN | apply Kd.R_drew));exact HO_3.out) (Kd.R_typed (by (with_reducible repeat (first | apply Kd.R_alloc | apply Kd.R_drewN | apply Kd.R_drew));exact HO_4.out)) (by decide) hg);have n1_:=Aside0.mk (blk_grown (g:=gb155) (o:=.cells #[.int .i64 ((rd_T43 l0 x13_2).f0),.int .i64 ((rd_T43 l0 x13_2).f1),.slice A154_2 ((rd_T43 l0 x13_2).f2).length c154_2,.slice A154_3 ((rd_T43 l0 x13_2).f3).length c154_3,.slice A154_4 ((rd_T43 l0 x13_2).f4).length c154_4] 43 (0,0)) (by (with_reducible repeat (first | refine blk_drewN ?_ _ | refine blk_drew ?_ | refine blk_alloc ?_ _));exact BK155.out) hg (Kd.R_ne HO_4.out BK155.out (by decide)));have n2_:=Aside0.mk (blk_grown (g:=gb157) (o:=.cells #[.int .i64 ((rd_T43 l0 x20_3).f0),.int .i64 ((rd_T43 l0 x20_3).f1),.slice A156_2 ((rd_T43 l0 x20_3).f2).length c156_2,.slice A156_3 ((rd_T43 l0 x20_3).f3).length c156_3,.slice A156_4 ((rd_T43 l0 x20_3).f4).length c156_4] 43 (0,0)) (by (with_reducible repeat (first | refine blk_drewN ?_ _ | refine blk_drew ?_ | refine blk_alloc ?_ _));exact BK157.out) hg (Kd.R_ne HO_4.out BK157.out (by decide)));have n3_:=Aside0.mk (hb);have n4_:=Aside0.mk (ho);clear HO_3;clear BK155;clear BK157;clear HB;clear HO_4;have HO_3:=n0_;have BK155:=n1_;have BK157:=n2_;have HB:=n3_;have HO163:=n4_;clear n0_ n1_ n2_ n3_ n4_;clear ho hb hg hat))
                   (try simp only [Act.put,List.setIfInBounds_toArray,List.set_cons_zero,List.set_cons_succ])
                   go_cut [20] (fun v20 wc => ∃ (kq : Nat) (x20_24 : Int),v20 = .int .i64 x20_24 ∧ Aside0 (dsg_Edges.j3 kq l0 t151 y161 x13_2 l0 (l0.length : Int) x13_2 l0 (l0.length : Int) x20_24 ((rd_T43 l0 x13_2).f0) ((rd_T43 l0 x13_2).f1) ((rd_T43 l0 x13_2).f2) ((rd_T43 l0 x13_2).f3) ((rd_T43 l0 x13_2).f4) = some r) ∧ Aside0 (kq ≤ k3) ∧ Aside0 (Kd.R (Kd.int .i64) 3 wc w.heap.size (fun _ => True) (.slice (some ad158) t151.length co31) t151) ∧ Aside0 (Kd.R k33 33 wc w.heap.size (fun _ => True) v162 y161) ∧ Aside0 (wc.heap[gb155]? = some (.cells #[.int .i64 ((rd_T43 l0 x13_2).f0),.int .i64 ((rd_T43 l0 x13_2).f1),(.slice A154_2 ((rd_T43 l0 x13_2).f2).length c154_2),(.slice A154_3 ((rd_T43 l0 x13_2).f3).length c154_3),(.slice A154_4 ((rd_T43 l0 x13_2).f4).length c154_4)] 43 (0,0))) ∧ Aside0 (wc.heap[gb157]? = some (.cells #[.int .i64 ((rd_T43 l0 x20_3).f0),.int .i64 ((rd_T43 l0 x20_3).f1),(.slice A156_2 ((rd_T43 l0 x20_3).f2).length c156_2),(.slice A156_3 ((rd_T43 l0 x20_3).f3).length c156_3),(.slice A156_4 ((rd_T43 l0 x20_3).f4).length c156_4)] 43 (0,0))) ∧ Aside0 (Below w.heap.size w wc))
                   case first =>
                    have H:=HC25.out
                    clear HC25
                    have H':=Aside0.mk H
                    clear H
                    go_wp2
                    go_meet
                    case rel => exact ⟨_,(wrap64 (x20_3 + 1)),(by first | rfl | (simp;done) | (simp [*];done)),H',⟨by have:=HJ2.out;have:=HK2.out;have:=HK3.out;first | omega | exact Nat.le_refl _⟩,⟨by (with_reducible repeat (first | apply Kd.R_alloc | apply Kd.R_drewN | apply Kd.R_drew));exact HO_3.out⟩,⟨by (with_reducible repeat (first | apply Kd.R_alloc | apply Kd.R_drewN | apply Kd.R_drew));exact HO163.out⟩,⟨by (with_reducible repeat (first | refine blk_drewN ?_ _ | refine blk_drew ?_ | refine blk_alloc ?_ _));exact BK155.out⟩,⟨by (with_reducible repeat (first | refine blk_drewN ?_ _ | refine blk_drew ?_ | refine blk_alloc ?_ _));exact BK157.out⟩,⟨by repeat (first | (with_reducible first | exact HB.out | apply below_alloc | apply pw_below_drewN | apply below_drew1 | refine below_set ?_ GE155.out | refine below_set ?_ GE157.out) | exact HB.out)⟩⟩
                   case rest =>
                    clear HC25
                    try clear c1
                    try clear p1
                    try clear q1
                    try clear hx1
                    try clear c2
                    try clear p2
                    try clear c5
                    try clear c5b0
                    try clear c6
                    try clear c6b0
                    try clear p6
                    try clear c7
                    try clear c7b0
                    try clear c10
                    try clear c10b0
                    try clear c11
                    try clear c11b0
                    try clear c12
                    try clear c12b0
                    try clear c13
                    try clear c13b0
                    try clear c13b1
                    try clear c15
                    try clear p15
                    try clear q15
                    try clear hx15
                    try clear c19
                    try clear c19b0
                    try clear c20
                    try clear c20b0
                    try clear c21
                    try clear c21b0
                    try clear c23
                    try clear c24
                    try clear c27
                    try clear hcz16_0
                    try clear hcz16_1
                    try clear hcz16_2
                    try clear hcz16_3
                    try clear hcz16_4
                    try clear hcz28_0
                    try clear hcz28_1
                    try clear hcz28_2
                    try clear hcz28_3
                    try clear hcz28_4
                    try clear hcz9_0
                    try clear hcz9_1
                    try clear hcz9_2
                    try clear hcz9_3
                    try clear hcz9_4
                    try clear hfz16_0
                    try clear hfz16_1
                    try clear hfz16_2
                    try clear hfz16_3
                    try clear hfz16_4
                    try clear hfz28_0
                    try clear hfz28_1
                    try clear hfz28_2
                    try clear hfz28_3
                    try clear hfz28_4
                    try clear hfz9_0
                    try clear hfz9_1
                    try clear hfz9_2
                    try clear hfz9_3
                    try clear hfz9_4
                    try clear hx154_0
                    try clear hx154_1
                    try clear hx154_2
                    try clear hx154_3
                    try clear hx154_4
                    try clear hx156_0
                    try clear hx156_1
                    try clear hx156_2
                    try clear hx156_3
                    try clear hx156_4
                    try clear hx158_0
                    try clear hx159_0
                    try clear p1
                    try clear p154
                    try clear p156
                    try clear p158
                    try clear p159
                    try clear p2
                    try clear q1
                    try clear q154
                    try clear q156
                    try clear q158
                    try clear q159
                    obtain ⟨kq,x20_24,rfl,HA,HJ24,HO_3,HO_4,BK155,BK157,HB⟩:=hcut
                    cases kq with
                    | zero => exact absurd HA.out (by simp [dsg_Edges.j3])
                    | succ kj24 =>
                     have H:=HA.out
                     clear HA
                     simp only [dsg_Edges.j3] at H
                     have H':=Aside0.mk H
                     clear H
                     go_wp2
                     go_roundg kj24
                     case measure => have:=HJ2.out;have:=HK2.out;have:=HK3.out;have:=HJ24.out;omega
                     case rel => exact ⟨(y161),(x20_24),(by first | rfl | (simp;done) | (simp [*];done)),H',⟨by have:=HJ2.out;have:=HK2.out;have:=HK3.out;have:=HJ24.out;omega⟩,⟨by (with_reducible repeat (first | apply Kd.R_alloc | apply Kd.R_drewN | apply Kd.R_drew));exact HO_3.out⟩,⟨by (with_reducible repeat (first | apply Kd.R_alloc | apply Kd.R_drewN | apply Kd.R_drew));exact HO_4.out⟩,⟨by (with_reducible repeat (first | refine blk_drewN ?_ _ | refine blk_drew ?_ | refine blk_alloc ?_ _));exact BK155.out⟩,⟨by repeat (first | (with_reducible first | exact HB.out | apply below_alloc | apply pw_below_drewN | apply below_drew1 | refine below_set ?_ GE155.out | refine below_set ?_ GE157.out) | exact HB.out)⟩⟩
                  ·rw [if_neg c24] at H
                   exact absurd H (by simp)
                 ·replace c23:=Bool.eq_false_iff.mpr c23
                  subst c23
                  have H1 : (dsg_Edges.l1 k3 l0 t151 x4_3 x13_2 l0 (l0.length : Int) x13_2 l0 (l0.length : Int) (wrap64 (x20_3 + 1)) ((rd_T43 l0 x13_2).f0) ((rd_T43 l0 x13_2).f1) ((rd_T43 l0 x13_2).f2) ((rd_T43 l0 x13_2).f3) ((rd_T43 l0 x13_2).f4)) = some r:=by rw [if_neg (show ¬ (false = true) by decide)] at H;exact H
                  clear H
                  have H:=H1
                  clear H1
                  have H':=Aside0.mk H
                  clear H
                  have p156 : 0 ≤ (x20_3 : Int):=of_decide_eq_true (by first | (with_reducible assumption) | assumption)
                  have q156 : x20_3 < (l0.length : Int):=of_decide_eq_true (by first | (with_reducible assumption) | assumption)
                  obtain ⟨ad156,A156_2,c156_2,A156_3,c156_3,A156_4,c156_4,e156,hx156_0,hx156_1,hx156_2,hx156_3,hx156_4,hl156_2,hi156_2,hl156_3,hi156_3,hl156_4,hi156_4⟩:=at_T43 HR0.out x20_3 p156 q156
                  obtain rfl : ad154 = ad156:=(by injection e156)
                  replace hx156_0:=(HB.out.cell (World.block_lt_of_cell? w _ hx156_0)).trans hx156_0
                  replace hx156_1:=(HB.out.cell (World.block_lt_of_cell? w _ hx156_1)).trans hx156_1
                  replace hx156_2:=(HB.out.cell (World.block_lt_of_cell? w _ hx156_2)).trans hx156_2
                  replace hx156_3:=(HB.out.cell (World.block_lt_of_cell? w _ hx156_3)).trans hx156_3
                  replace hx156_4:=(HB.out.cell (World.block_lt_of_cell? w _ hx156_4)).trans hx156_4
                  have HR156_2:=Aside0.mk hi156_2
                  have HC156_2:=Aside0.mk hl156_2
                  clear hi156_2 hl156_2
                  have HR156_3:=Aside0.mk hi156_3
                  have HC156_3:=Aside0.mk hl156_3
                  clear hi156_3 hl156_3
                  have HR156_4:=Aside0.mk hi156_4
                  have HC156_4:=Aside0.mk hl156_4
                  clear hi156_4 hl156_4
                  replace p156:=eq_true p156
                  replace q156:=eq_true q156
                  try go_wp2_with (first | ((with_reducible refine gate_dst (N:=8) rfl ?_);refine box_event ?hg (N:=8) ?hd (cs:=#[.int .i64 0,.int .i64 0,.slice none 0 0,.slice none 0 0,.slice none 0 0]) (t:=43) ?hr ?_;(case hd => rfl);(case hg => rfl);(case hr => first | (go_simp;done) | (go_simp;rfl));intro gb157 hg w34 hbox hb;have n0_:=Aside0.mk (Kd.R_below (by (with_reducible repeat (first | apply Kd.R_alloc | apply Kd.R_drewN | apply Kd.R_drew));exact HO_3.out) hb);have n1_:=Aside0.mk (Kd.R_below (by (with_reducible repeat (first | apply Kd.R_alloc | apply Kd.R_drewN | apply Kd.R_drew));exact HO_4.out) hb);have n2_:=Aside0.mk (blk_below (g:=gb155) (o:=.cells #[.int .i64 ((rd_T43 l0 x13_2).f0),.int .i64 ((rd_T43 l0 x13_2).f1),.slice A154_2 ((rd_T43 l0 x13_2).f2).length c154_2,.slice A154_3 ((rd_T43 l0 x13_2).f3).length c154_3,.slice A154_4 ((rd_T43 l0 x13_2).f4).length c154_4] 43 (0,0)) (by (with_reducible repeat (first | refine blk_drewN ?_ _ | refine blk_drew ?_ | refine blk_alloc ?_ _));exact BK155.out) hb);have n3_:=Aside0.mk (below_step (by repeat (first | (with_reducible first | exact HB.out | apply below_alloc | apply pw_below_drewN | apply below_drew1 | refine below_set ?_ GE155.out) | exact HB.out)) hb);have n4_:=Aside0.mk (hbox);have n5_:=Aside0.mk ((by rw [hg];exact (below_size (by repeat (first | (with_reducible first | exact HB.out | apply below_alloc | apply pw_below_drewN | apply below_drew1 | refine below_set ?_ GE155.out) | exact HB.out))) : w.heap.size ≤ gb157));have n6_:=Aside0.mk ((by rw [hg];exact (below_size (by repeat (first | (with_reducible first | exact HB.out | apply below_alloc | apply pw_below_drewN | apply below_drew1 | refine below_set ?_ GE155.out) | exact HB.out))) : w.heap.size ≤ gb157));have n7_:=Aside0.mk ((by rw [hg];exact Nat.ne_of_lt (blk_lt (g:=gb155) (o:=.cells #[.int .i64 ((rd_T43 l0 x13_2).f0),.int .i64 ((rd_T43 l0 x13_2).f1),.slice A154_2 ((rd_T43 l0 x13_2).f2).length c154_2,.slice A154_3 ((rd_T43 l0 x13_2).f3).length c154_3,.slice A154_4 ((rd_T43 l0 x13_2).f4).length c154_4] 43 (0,0)) (by (with_reducible repeat (first | refine blk_drewN ?_ _ | refine blk_drew ?_ | refine blk_alloc ?_ _));exact BK155.out)) : gb155 ≠ gb157));have n8_:=Aside0.mk ((by rw [hg];exact Nat.ne_of_gt (blk_lt (g:=gb155) (o:=.cells #[.int .i64 ((rd_T43 l0 x13_2).f0),.int .i64 ((rd_T43 l0 x13_2).f1),.slice A154_2 ((rd_T43 l0 x13_2).f2).length c154_2,.slice A154_3 ((rd_T43 l0 x13_2).f3).length c154_3,.slice A154_4 ((rd_T43 l0 x13_2).f4).length c154_4] 43 (0,0)) (by (with_reducible repeat (first | refine blk_drewN ?_ _ | refine blk_drew ?_ | refine blk_alloc ?_ _));exact BK155.out)) : gb157 ≠ gb155));clear HO_3;clear HO_4;clear BK155;clear HB;have HO_3:=n0_;have HO_4:=n1_;have BK155:=n2_;have HB:=n3_;have BK157:=n4_;have GW157:=n5_;have GE157:=n6_;have NB155_157:=n7_;have NB157_155:=n8_;clear n0_ n1_ n2_ n3_ n4_ n5_ n6_ n7_ n8_;clear hb hbox hg;have hnb35:=NB157_155.out;have hnc35:=NB155_157.out;obtain ⟨hcz36_0,hcz36_1,hcz36_2,hcz36_3,hcz36_4⟩:=blkc_5 BK157.out;obtain ⟨hfz36_0,hfz36_1,hfz36_2,hfz36_3⟩:=blkz_4 BK157.out;have hfz36_4:=blk_frozen BK157.out 4))
                  have n0_ : Aside0 (Kd.R (Kd.int .i64) 3 (((((w34.setCell ⟨gb157,0,none⟩ (.int .i64 ((rd_T43 l0 x20_3).f0))).setCell ⟨gb157,1,none⟩ (.int .i64 ((rd_T43 l0 x20_3).f1))).setCell ⟨gb157,2,none⟩ (.slice A156_2 ((rd_T43 l0 x20_3).f2).length c156_2)).setCell ⟨gb157,3,none⟩ (.slice A156_3 ((rd_T43 l0 x20_3).f3).length c156_3)).setCell ⟨gb157,4,none⟩ (.slice A156_4 ((rd_T43 l0 x20_3).f4).length c156_4)) w.heap.size (fun _ => True) v152 t151):=⟨by (with_reducible repeat (first | apply Kd.R_alloc | apply Kd.R_drewN | apply Kd.R_drew));exact Kd.R_mono (Kd.R_far (p:=⟨gb157,4,none⟩) (Kd.R_far (p:=⟨gb157,3,none⟩) (Kd.R_far (p:=⟨gb157,2,none⟩) (Kd.R_far (p:=⟨gb157,1,none⟩) (Kd.R_far (p:=⟨gb157,0,none⟩) (Kd.R_types HO_3.out BK157.out (by decide)) (fun _ hk => hk.2) (.int .i64 ((rd_T43 l0 x20_3).f0))) (fun _ hk => hk.2) (.int .i64 ((rd_T43 l0 x20_3).f1))) (fun _ hk => hk.2) (.slice A156_2 ((rd_T43 l0 x20_3).f2).length c156_2)) (fun _ hk => hk.2) (.slice A156_3 ((rd_T43 l0 x20_3).f3).length c156_3)) (fun _ hk => hk.2) (.slice A156_4 ((rd_T43 l0 x20_3).f4).length c156_4)) (fun _ hk => trivial)⟩
                  have n1_ : Aside0 (Kd.R k33 33 (((((w34.setCell ⟨gb157,0,none⟩ (.int .i64 ((rd_T43 l0 x20_3).f0))).setCell ⟨gb157,1,none⟩ (.int .i64 ((rd_T43 l0 x20_3).f1))).setCell ⟨gb157,2,none⟩ (.slice A156_2 ((rd_T43 l0 x20_3).f2).length c156_2)).setCell ⟨gb157,3,none⟩ (.slice A156_3 ((rd_T43 l0 x20_3).f3).length c156_3)).setCell ⟨gb157,4,none⟩ (.slice A156_4 ((rd_T43 l0 x20_3).f4).length c156_4)) w.heap.size (fun _ => True) u4 x4_3):=⟨by (with_reducible repeat (first | apply Kd.R_alloc | apply Kd.R_drewN | apply Kd.R_drew));exact Kd.R_mono (Kd.R_far (p:=⟨gb157,4,none⟩) (Kd.R_far (p:=⟨gb157,3,none⟩) (Kd.R_far (p:=⟨gb157,2,none⟩) (Kd.R_far (p:=⟨gb157,1,none⟩) (Kd.R_far (p:=⟨gb157,0,none⟩) (Kd.R_types HO_4.out BK157.out (by decide)) (fun _ hk => hk.2) (.int .i64 ((rd_T43 l0 x20_3).f0))) (fun _ hk => hk.2) (.int .i64 ((rd_T43 l0 x20_3).f1))) (fun _ hk => hk.2) (.slice A156_2 ((rd_T43 l0 x20_3).f2).length c156_2)) (fun _ hk => hk.2) (.slice A156_3 ((rd_T43 l0 x20_3).f3).length c156_3)) (fun _ hk => hk.2) (.slice A156_4 ((rd_T43 l0 x20_3).f4).length c156_4)) (fun _ hk => trivial)⟩
                  have n2_ : Aside0 ((((((w34.setCell ⟨gb157,0,none⟩ (.int .i64 ((rd_T43 l0 x20_3).f0))).setCell ⟨gb157,1,none⟩ (.int .i64 ((rd_T43 l0 x20_3).f1))).setCell ⟨gb157,2,none⟩ (.slice A156_2 ((rd_T43 l0 x20_3).f2).length c156_2)).setCell ⟨gb157,3,none⟩ (.slice A156_3 ((rd_T43 l0 x20_3).f3).length c156_3)).setCell ⟨gb157,4,none⟩ (.slice A156_4 ((rd_T43 l0 x20_3).f4).length c156_4)).heap[gb155]? = some (.cells #[.int .i64 ((rd_T43 l0 x13_2).f0),.int .i64 ((rd_T43 l0 x13_2).f1),.slice A154_2 ((rd_T43 l0 x13_2).f2).length c154_2,.slice A154_3 ((rd_T43 l0 x13_2).f3).length c154_3,.slice A154_4 ((rd_T43 l0 x13_2).f4).length c154_4] 43 (0,0))):=⟨by (with_reducible repeat (first | refine blk_drewN ?_ _ | refine blk_drew ?_ | refine blk_alloc ?_ _));refine blk_far ?_ NB155_157.out _;(with_reducible repeat (first | refine blk_drewN ?_ _ | refine blk_drew ?_ | refine blk_alloc ?_ _));refine blk_far ?_ NB155_157.out _;(with_reducible repeat (first | refine blk_drewN ?_ _ | refine blk_drew ?_ | refine blk_alloc ?_ _));refine blk_far ?_ NB155_157.out _;(with_reducible repeat (first | refine blk_drewN ?_ _ | refine blk_drew ?_ | refine blk_alloc ?_ _));refine blk_far ?_ NB155_157.out _;(with_reducible repeat (first | refine blk_drewN ?_ _ | refine blk_drew ?_ | refine blk_alloc ?_ _));refine blk_far ?_ NB155_157.out _;(with_reducible repeat (first | refine blk_drewN ?_ _ | refine blk_drew ?_ | refine blk_alloc ?_ _));exact BK155.out⟩
                  have n3_ : Aside0 ((((((w34.setCell ⟨gb157,0,none⟩ (.int .i64 ((rd_T43 l0 x20_3).f0))).setCell ⟨gb157,1,none⟩ (.int .i64 ((rd_T43 l0 x20_3).f1))).setCell ⟨gb157,2,none⟩ (.slice A156_2 ((rd_T43 l0 x20_3).f2).length c156_2)).setCell ⟨gb157,3,none⟩ (.slice A156_3 ((rd_T43 l0 x20_3).f3).length c156_3)).setCell ⟨gb157,4,none⟩ (.slice A156_4 ((rd_T43 l0 x20_3).f4).length c156_4)).heap[gb157]? = some (.cells #[.int .i64 ((rd_T43 l0 x20_3).f0),.int .i64 ((rd_T43 l0 x20_3).f1),.slice A156_2 ((rd_T43 l0 x20_3).f2).length c156_2,.slice A156_3 ((rd_T43 l0 x20_3).f3).length c156_3,.slice A156_4 ((rd_T43 l0 x20_3).f4).length c156_4] 43 (0,0))):=⟨by (with_reducible repeat (first | refine blk_drewN ?_ _ | refine blk_drew ?_ | refine blk_alloc ?_ _));apply blkf_5_0_4;(with_reducible repeat (first | refine blk_drewN ?_ _ | refine blk_drew ?_ | refine blk_alloc ?_ _));exact BK157.out⟩
                  have n4_ : Aside0 (Below w.heap.size w (((((w34.setCell ⟨gb157,0,none⟩ (.int .i64 ((rd_T43 l0 x20_3).f0))).setCell ⟨gb157,1,none⟩ (.int .i64 ((rd_T43 l0 x20_3).f1))).setCell ⟨gb157,2,none⟩ (.slice A156_2 ((rd_T43 l0 x20_3).f2).length c156_2)).setCell ⟨gb157,3,none⟩ (.slice A156_3 ((rd_T43 l0 x20_3).f3).length c156_3)).setCell ⟨gb157,4,none⟩ (.slice A156_4 ((rd_T43 l0 x20_3).f4).length c156_4))):=⟨by repeat (first | (with_reducible first | exact HB.out | apply below_alloc | apply pw_below_drewN | apply below_drew1 | refine below_set ?_ GE155.out | refine below_set ?_ GE157.out) | exact HB.out)⟩
                  (try clear HO_3)
                  (try clear HO_4)
                  (try clear BK155)
                  (try clear BK157)
                  (try clear HB)
                  generalize (((((w34.setCell ⟨gb157,0,none⟩ (.int .i64 ((rd_T43 l0 x20_3).f0))).setCell ⟨gb157,1,none⟩ (.int .i64 ((rd_T43 l0 x20_3).f1))).setCell ⟨gb157,2,none⟩ (.slice A156_2 ((rd_T43 l0 x20_3).f2).length c156_2)).setCell ⟨gb157,3,none⟩ (.slice A156_3 ((rd_T43 l0 x20_3).f3).length c156_3)).setCell ⟨gb157,4,none⟩ (.slice A156_4 ((rd_T43 l0 x20_3).f4).length c156_4)) = w37 at n0_ n1_ n2_ n3_ n4_ ⊢
                  have HO_3:=n0_
                  have HO_4:=n1_
                  have BK155:=n2_
                  have BK157:=n3_
                  have HB:=n4_
                  clear n0_ n1_ n2_ n3_ n4_
                  have n0_:=Aside0.mk (Kd.R_drew HO_3.out)
                  have n1_:=Aside0.mk (Kd.R_drew HO_4.out)
                  have n2_:=Aside0.mk (blk_drew BK155.out)
                  have n3_:=Aside0.mk (blk_drew BK157.out)
                  have n4_:=Aside0.mk (below_drew1 HB.out)
                  clear HO_3
                  clear HO_4
                  clear BK155
                  clear BK157
                  clear HB
                  have HO_3:=n0_
                  have HO_4:=n1_
                  have BK155:=n2_
                  have BK157:=n3_
                  have HB:=n4_
                  clear n0_ n1_ n2_ n3_ n4_
                  obtain ⟨Ao39,co39,eo39⟩:=Kd.R_slice HO_3.out
                  (first | subst eo39 | (injection eo39 with f1_ f2_ f3_;have f4_:=f1_.symm;have f5_:=f3_.symm;clear f1_ f2_ f3_;subst f4_;subst f5_))
                  have p158 : 0 ≤ (x13_2 : Int):=of_decide_eq_true (by first | (with_reducible assumption) | assumption)
                  have q158 : x13_2 < (t151.length : Int):=of_decide_eq_true (by first | (with_reducible assumption) | assumption)
                  obtain ⟨ad158,e158,hx158_0⟩:=Kd.at_int (Kd.R_reads' HO_3.out).2.2 x13_2 p158 q158
                  cases e158
                  replace p158:=eq_true p158
                  replace q158:=eq_true q158
                  have p159 : 0 ≤ (x20_3 : Int):=of_decide_eq_true (by first | (with_reducible assumption) | assumption)
                  have q159 : x20_3 < (t151.length : Int):=of_decide_eq_true (by first | (with_reducible assumption) | assumption)
                  obtain ⟨ad159,e159,hx159_0⟩:=Kd.at_int (Kd.R_reads' HO_3.out).2.2 x20_3 p159 q159
                  obtain rfl : ad158 = ad159:=(by injection e159)
                  replace p159:=eq_true p159
                  replace q159:=eq_true q159
                  refine start_ (n:=16) (S:=fun w' => w'.cell? ⟨gb155,0,none⟩ = some (.int .i64 ((rd_T43 l0 x13_2).f0)) ∧ w'.cell? ⟨gb155,1,none⟩ = some (.int .i64 ((rd_T43 l0 x13_2).f1)) ∧ w'.cell? ⟨gb155,2,none⟩ = some (.slice A154_2 ((rd_T43 l0 x13_2).f2).length c154_2) ∧ w'.cell? ⟨gb155,3,none⟩ = some (.slice A154_3 ((rd_T43 l0 x13_2).f3).length c154_3) ∧ w'.cell? ⟨gb155,4,none⟩ = some (.slice A154_4 ((rd_T43 l0 x13_2).f4).length c154_4) ∧ w'.cell? ⟨gb157,0,none⟩ = some (.int .i64 ((rd_T43 l0 x20_3).f0)) ∧ w'.cell? ⟨gb157,1,none⟩ = some (.int .i64 ((rd_T43 l0 x20_3).f1)) ∧ w'.cell? ⟨gb157,2,none⟩ = some (.slice A156_2 ((rd_T43 l0 x20_3).f2).length c156_2) ∧ w'.cell? ⟨gb157,3,none⟩ = some (.slice A156_3 ((rd_T43 l0 x20_3).f3).length c156_3) ∧ w'.cell? ⟨gb157,4,none⟩ = some (.slice A156_4 ((rd_T43 l0 x20_3).f4).length c156_4) ∧ w'.cell? (ad158.add (x13_2).toNat) = some (.int .i64 (rd t151 x13_2)) ∧ w'.cell? (ad158.add (x20_3).toNat) = some (.int .i64 (rd t151 x20_3))) (ds:=[14]) #[ff,ff,ff,ff,ff,ff,ff,ff,ff,ff,ff,ff,ff,ff,ff,ff] (by kernel_rfl) rfl rfl ⟨(blk_cell BK155.out 0).trans rfl,(blk_cell BK155.out 1).trans rfl,(blk_cell BK155.out 2).trans rfl,(blk_cell BK155.out 3).trans rfl,(blk_cell BK155.out 4).trans rfl,(blk_cell BK157.out 0).trans rfl,(blk_cell BK157.out 1).trans rfl,(blk_cell BK157.out 2).trans rfl,(blk_cell BK157.out 3).trans rfl,(blk_cell BK157.out 4).trans rfl,hx158_0,hx159_0⟩ (fun hHeld => ?_);refine with_tabW dsg_Edges.tab9 dsg_Edges.bits9 (fun HT_ HW_ => ?_)
                  generalize w37.drew = w38 at HO_3 HO_4 BK155 BK157 HB hx158_0 hx159_0 hHeld ⊢
                  refine pure_ (i:=0) (N:=some 25) (v:=?_) (a':=?_) #[tt,ff,ff,ff,ff,ff,ff,ff,ff,ff,ff,ff,ff,ff,ff,ff] rfl rfl (any_of HT_.out (by kernel_rfl)) (fun _ _ _ h => h) (Or.inl ⟨by rfl,?_⟩) ?_ ?_
                  rotate_left
                  ·intro w'
                   go_simp
                   with_reducible rfl
                  rotate_left
                  ·simp only [Act.put,q1_,q2_,q3_,i64_w,i32_w]
                   rfl
                  refine pure_ (i:=1) (N:=some 26) (v:=?_) (a':=?_) #[tt,tt,ff,ff,ff,ff,ff,ff,ff,ff,ff,ff,ff,ff,ff,ff] rfl rfl (any_of HT_.out (by kernel_rfl)) (fun _ _ _ h => h) (Or.inl ⟨by rfl,?_⟩) ?_ ?_
                  rotate_left
                  ·intro w'
                   go_simp
                   with_reducible rfl
                  rotate_left
                  ·simp only [Act.put,q1_,q2_,q3_,i64_w,i32_w]
                   rfl
                  refine pure_ (i:=2) (N:=some 27) (v:=?_) (a':=?_) #[tt,tt,tt,ff,ff,ff,ff,ff,ff,ff,ff,ff,ff,ff,ff,ff] rfl rfl (any_of HT_.out (by kernel_rfl)) (fun _ _ _ h => h) (Or.inl ⟨by rfl,?_⟩) ?_ ?_
                  rotate_left
                  ·intro w'
                   go_simp
                   with_reducible rfl
                  rotate_left
                  ·simp only [Act.put,q1_,q2_,q3_,i64_w,i32_w]
                   rfl
                  refine pure_ (i:=3) (N:=some 28) (v:=?_) (a':=?_) #[tt,tt,tt,tt,ff,ff,ff,ff,ff,ff,ff,ff,ff,ff,ff,ff] rfl rfl (any_of HT_.out (by kernel_rfl)) (fun _ _ _ h => h) (Or.inl ⟨by rfl,?_⟩) ?_ ?_
                  rotate_left
                  ·intro w'
                   go_simp
                   with_reducible rfl
                  rotate_left
                  ·simp only [Act.put,q1_,q2_,q3_,i64_w,i32_w]
                   rfl
                  refine pure_ (i:=6) (N:=some 31) (v:=?_) (a':=?_) #[tt,tt,tt,tt,ff,ff,tt,ff,ff,ff,ff,ff,ff,ff,ff,ff] rfl rfl (any_of HT_.out (by kernel_rfl)) (fun _ _ _ h => h) (Or.inl ⟨by rfl,?_⟩) ?_ ?_
                  rotate_left
                  ·intro w'
                   go_simp
                   with_reducible rfl
                  rotate_left
                  ·simp only [Act.put,q1_,q2_,q3_,i64_w,i32_w]
                   rfl
                  refine pure_ (i:=7) (N:=some 32) (v:=?_) (a':=?_) #[tt,tt,tt,tt,ff,ff,tt,tt,ff,ff,ff,ff,ff,ff,ff,ff] rfl rfl (any_of HT_.out (by kernel_rfl)) (fun _ _ _ h => h) (Or.inl ⟨by rfl,?_⟩) ?_ ?_
                  rotate_left
                  ·intro w'
                   go_simp
                   with_reducible rfl
                  rotate_left
                  ·simp only [Act.put,q1_,q2_,q3_,i64_w,i32_w]
                   rfl
                  refine pure_ (i:=8) (N:=some 33) (v:=?_) (a':=?_) #[tt,tt,tt,tt,ff,ff,tt,tt,tt,ff,ff,ff,ff,ff,ff,ff] rfl rfl (any_of HT_.out (by kernel_rfl)) (fun _ _ _ h => h) (Or.inl ⟨by rfl,?_⟩) ?_ ?_
                  rotate_left
                  ·intro w'
                   go_simp
                   with_reducible rfl
                  rotate_left
                  ·simp only [Act.put,q1_,q2_,q3_,i64_w,i32_w]
                   rfl
                  refine pure_ (i:=10) (N:=some 35) (v:=?_) (a':=?_) #[tt,tt,tt,tt,ff,ff,tt,tt,tt,ff,tt,ff,ff,ff,ff,ff] rfl rfl (any_of HT_.out (by kernel_rfl)) (fun _ _ _ h => h) (Or.inl ⟨by rfl,?_⟩) ?_ ?_
                  rotate_left
                  ·intro w'
                   go_simp
                   with_reducible rfl
                  rotate_left
                  ·simp only [Act.put,q1_,q2_,q3_,i64_w,i32_w]
                   rfl
                  refine pure_ (i:=11) (N:=some 36) (v:=?_) (a':=?_) #[tt,tt,tt,tt,ff,ff,tt,tt,tt,ff,tt,tt,ff,ff,ff,ff] rfl rfl (any_of HT_.out (by kernel_rfl)) (fun _ _ _ h => h) (Or.inl ⟨by rfl,?_⟩) ?_ ?_
                  rotate_left
                  ·intro w'
                   go_simp
                   with_reducible rfl
                  rotate_left
                  ·simp only [Act.put,q1_,q2_,q3_,i64_w,i32_w]
                   rfl
                  refine pure_ (i:=12) (N:=some 37) (v:=?_) (a':=?_) #[tt,tt,tt,tt,ff,ff,tt,tt,tt,ff,tt,tt,tt,ff,ff,ff] rfl rfl (any_of HT_.out (by kernel_rfl)) (fun _ _ _ h => h) (Or.inl ⟨by rfl,?_⟩) ?_ ?_
                  rotate_left
                  ·intro w'
                   go_simp
                   with_reducible rfl
                  rotate_left
                  ·simp only [Act.put,q1_,q2_,q3_,i64_w,i32_w]
                   rfl
                  refine take_ (i:=4) (N:=some 29) (v:=?_) (a':=?_) #[tt,tt,tt,tt,tt,ff,tt,tt,tt,ff,tt,tt,tt,ff,ff,ff] rfl rfl (take_ofW HT_.out HW_.out (by kernel_rfl)) (fun _ _ _ h => h) (Or.inl ⟨by rfl,?_⟩) hHeld ?_ ?_
                  rotate_left
                  ·rintro w' ⟨s0,s1,s2,s3,s4,s5,s6,s7,s8,s9,s10,s11⟩
                   go_simp
                   with_reducible rfl
                  rotate_left
                  ·simp only [Act.put,q1_,q2_,q3_,i64_w,i32_w]
                   rfl
                  refine take_ (i:=5) (N:=some 30) (v:=?_) (a':=?_) #[tt,tt,tt,tt,tt,tt,tt,tt,tt,ff,tt,tt,tt,ff,ff,ff] rfl rfl (take_ofW HT_.out HW_.out (by kernel_rfl)) (fun _ _ _ h => h) (Or.inl ⟨by rfl,?_⟩) hHeld ?_ ?_
                  rotate_left
                  ·rintro w' ⟨s0,s1,s2,s3,s4,s5,s6,s7,s8,s9,s10,s11⟩
                   go_simp
                   with_reducible rfl
                  rotate_left
                  ·simp only [Act.put,q1_,q2_,q3_,i64_w,i32_w]
                   rfl
                  refine take_ (i:=9) (N:=some 34) (v:=?_) (a':=?_) #[tt,tt,tt,tt,tt,tt,tt,tt,tt,tt,tt,tt,tt,ff,ff,ff] rfl rfl (take_ofW HT_.out HW_.out (by kernel_rfl)) (fun _ _ _ h => h) (Or.inl ⟨by rfl,?_⟩) hHeld ?_ ?_
                  rotate_left
                  ·rintro w' ⟨s0,s1,s2,s3,s4,s5,s6,s7,s8,s9,s10,s11⟩
                   go_simp
                   with_reducible rfl
                  rotate_left
                  ·simp only [Act.put,q1_,q2_,q3_,i64_w,i32_w]
                   rfl
                  refine take_ (i:=13) (N:=some 38) (v:=?_) (a':=?_) #[tt,tt,tt,tt,tt,tt,tt,tt,tt,tt,tt,tt,tt,tt,ff,ff] rfl rfl (take_ofW HT_.out HW_.out (by kernel_rfl)) (fun _ _ _ h => h) (Or.inl ⟨by rfl,?_⟩) hHeld ?_ ?_
                  rotate_left
                  ·rintro w' ⟨s0,s1,s2,s3,s4,s5,s6,s7,s8,s9,s10,s11⟩
                   go_simp
                   with_reducible rfl
                  rotate_left
                  ·simp only [Act.put,q1_,q2_,q3_,i64_w,i32_w]
                   rfl
                  refine last_ (i:=14) (N:=some 39) #[tt,tt,tt,tt,tt,tt,tt,tt,tt,tt,tt,tt,tt,tt,tt,ff] rfl rfl (one_of HT_.out (by kernel_rfl)) (by decide) (fun K hK => ?_)
                  refine goes_ Try.func52 (by kernel_rfl) rfl #[.agg #[.int .i64 ((rd_T43 l0 x13_2).f0),.int .i64 ((rd_T43 l0 x13_2).f1),.slice A154_2 ((rd_T43 l0 x13_2).f2).length c154_2,.slice A154_3 ((rd_T43 l0 x13_2).f3).length c154_3,.slice A154_4 ((rd_T43 l0 x13_2).f4).length c154_4],.agg #[.int .i64 ((rd_T43 l0 x20_3).f0),.int .i64 ((rd_T43 l0 x20_3).f1),.slice A156_2 ((rd_T43 l0 x20_3).f2).length c156_2,.slice A156_3 ((rd_T43 l0 x20_3).f3).length c156_3,.slice A156_4 ((rd_T43 l0 x20_3).f4).length c156_4],.int .i64 (rd t151 x13_2),.int .i64 (rd t151 x20_3)] (by rfl) rfl rfl (by (try simp only [List.map_toArray,List.map_cons,List.map_nil]);first | done | rfl | (simp only [List.length_drop,List.length_take];rfl)) ?_
                  with_reducible refine (dsg_ahead.calls ((rd_T43 l0 x13_2).f0) ((rd_T43 l0 x13_2).f1) _ _ ((rd_T43 l0 x13_2).f2) _ _ ((rd_T43 l0 x13_2).f3) _ _ ((rd_T43 l0 x13_2).f4) ((rd_T43 l0 x20_3).f0) ((rd_T43 l0 x20_3).f1) _ _ ((rd_T43 l0 x20_3).f2) _ _ ((rd_T43 l0 x20_3).f3) _ _ ((rd_T43 l0 x20_3).f4) (rd t151 x13_2) (rd t151 x20_3) false _ ?side1 ?side2 ?side3 ?side4 ?side5 ?side6 ?side7 ?side8 ?side9 ?side10 ?side11 ?side12 A22.out).mono ?_
                  (case side1 => repeat (first | exact (Kd.C_below HR154_2.out HB.out) | (with_reducible refine Kd.C_alloc ?_ _) | (with_reducible refine Kd.C_drewN ?_ _) | (with_reducible refine Kd.C_drew ?_)))
                  (case side2 => exact HC154_2.out)
                  (case side3 => repeat (first | exact (Kd.C_below HR154_3.out HB.out) | (with_reducible refine Kd.C_alloc ?_ _) | (with_reducible refine Kd.C_drewN ?_ _) | (with_reducible refine Kd.C_drew ?_)))
                  (case side4 => exact HC154_3.out)
                  (case side5 => repeat (first | exact (Kd.C_below HR154_4.out HB.out) | (with_reducible refine Kd.C_alloc ?_ _) | (with_reducible refine Kd.C_drewN ?_ _) | (with_reducible refine Kd.C_drew ?_)))
                  (case side6 => exact HC154_4.out)
                  (case side7 => repeat (first | exact (Kd.C_below HR156_2.out HB.out) | (with_reducible refine Kd.C_alloc ?_ _) | (with_reducible refine Kd.C_drewN ?_ _) | (with_reducible refine Kd.C_drew ?_)))
                  (case side8 => exact HC156_2.out)
                  (case side9 => repeat (first | exact (Kd.C_below HR156_3.out HB.out) | (with_reducible refine Kd.C_alloc ?_ _) | (with_reducible refine Kd.C_drewN ?_ _) | (with_reducible refine Kd.C_drew ?_)))
                  (case side10 => exact HC156_3.out)
                  (case side11 => repeat (first | exact (Kd.C_below HR156_4.out HB.out) | (with_reducible refine Kd.C_alloc ?_ _) | (with_reducible refine Kd.C_drewN ?_ _) | (with_reducible refine Kd.C_drew ?_)))
                  (case side12 => exact HC156_4.out)
                  rintro e w40 ⟨rfl,hb⟩
                  refine ⟨_,rfl,?_⟩
                  have n0_:=Aside0.mk (Kd.R_below (by (with_reducible repeat (first | apply Kd.R_alloc | apply Kd.R_drewN | apply Kd.R_drew));exact HO_3.out) hb)
                  have n1_:=Aside0.mk (Kd.R_below (by (with_reducible repeat (first | apply Kd.R_alloc | apply Kd.R_drewN | apply Kd.R_drew));exact HO_4.out) hb)
                  have n2_:=Aside0.mk (blk_below (g:=gb155) (o:=.cells #[.int .i64 ((rd_T43 l0 x13_2).f0),.int .i64 ((rd_T43 l0 x13_2).f1),.slice A154_2 ((rd_T43 l0 x13_2).f2).length c154_2,.slice A154_3 ((rd_T43 l0 x13_2).f3).length c154_3,.slice A154_4 ((rd_T43 l0 x13_2).f4).length c154_4] 43 (0,0)) (by (with_reducible repeat (first | refine blk_drewN ?_ _ | refine blk_drew ?_ | refine blk_alloc ?_ _));exact BK155.out) hb)
                  have n3_:=Aside0.mk (blk_below (g:=gb157) (o:=.cells #[.int .i64 ((rd_T43 l0 x20_3).f0),.int .i64 ((rd_T43 l0 x20_3).f1),.slice A156_2 ((rd_T43 l0 x20_3).f2).length c156_2,.slice A156_3 ((rd_T43 l0 x20_3).f3).length c156_3,.slice A156_4 ((rd_T43 l0 x20_3).f4).length c156_4] 43 (0,0)) (by (with_reducible repeat (first | refine blk_drewN ?_ _ | refine blk_drew ?_ | refine blk_alloc ?_ _));exact BK157.out) hb)
                  have n4_:=Aside0.mk (below_step (by repeat (first | (with_reducible first | exact HB.out | apply below_alloc | apply pw_below_drewN | apply below_drew1 | refine below_set ?_ GE155.out | refine below_set ?_ GE157.out) | exact HB.out)) hb)
                  clear HO_3
                  clear HO_4
                  clear BK155
                  clear BK157
                  clear HB
                  have HO_3:=n0_
                  have HO_4:=n1_
                  have BK155:=n2_
                  have BK157:=n3_
                  have HB:=n4_
                  clear n0_ n1_ n2_ n3_ n4_
                  (try clear hb)
                  (try clear hb2)
                  (try clear hk)
                  (try clear hi)
                  refine hK.out _ _ ?_
                  clear hK K
                  refine norm_ (a':=?_) ?_ ?_
                  rotate_left
                  ·show Act.put _ (some 39) _ = _
                   simp only [Act.put,q1_,q2_,q3_,i64_w,i32_w]
                   rfl
                  refine pure_ (i:=15) (N:=some 40) (v:=?_) (a':=?_) #[tt,tt,tt,tt,tt,tt,tt,tt,tt,tt,tt,tt,tt,tt,tt,tt] rfl rfl (any_of HT_.out (by kernel_rfl)) (fun _ _ _ h => h) (Or.inl ⟨by rfl,?_⟩) ?_ ?_
                  rotate_left
                  ·intro w'
                   go_simp
                   with_reducible rfl
                  rotate_left
                  ·simp only [Act.put,q1_,q2_,q3_,i64_w,i32_w]
                   rfl
                  refine done_ (done_of HT_.out (by kernel_rfl)) ?_
                  try go_wp2
                  go_roundg k3
                  case measure => have:=HJ2.out;have:=HK2.out;have:=HK3.out;omega
                  case rel => exact ⟨(x4_3),(wrap64 (x20_3 + 1)),(by first | rfl | (simp;done) | (simp [*];done)),H',⟨by have:=HJ2.out;have:=HK2.out;have:=HK3.out;omega⟩,⟨by (with_reducible repeat (first | apply Kd.R_alloc | apply Kd.R_drewN | apply Kd.R_drew));exact HO_3.out⟩,⟨by (with_reducible repeat (first | apply Kd.R_alloc | apply Kd.R_drewN | apply Kd.R_drew));exact HO_4.out⟩,⟨by (with_reducible repeat (first | refine blk_drewN ?_ _ | refine blk_drew ?_ | refine blk_alloc ?_ _));exact BK155.out⟩,⟨by repeat (first | (with_reducible first | exact HB.out | apply below_alloc | apply pw_below_drewN | apply below_drew1 | refine below_set ?_ GE155.out | refine below_set ?_ GE157.out) | exact HB.out)⟩⟩
                ·rw [if_neg c21] at H
                 exact absurd H (by simp)
               ·rw [if_neg c20] at H
                exact absurd H (by simp)
              ·rw [if_neg c19] at H
               exact absurd H (by simp)
            ·rw [if_neg c12] at H
             exact absurd H (by simp)
           ·rw [if_neg c11] at H
            exact absurd H (by simp)
          ·rw [if_neg c10] at H
           have c10b0 : decide (x20_3 < (l0.length : Int)) = false:=decide_eq_false c10
           clear c10
           have H':=Aside0.mk H
           clear H
           go_wp2
           go_roundg k3
           case measure => have:=HJ2.out;have:=HK2.out;have:=HK3.out;omega
           case rel => exact ⟨(x4_3),(wrap64 (x13_2 + 1)),(by first | rfl | (simp;done) | (simp [*];done)),H',⟨by have:=HJ2.out;have:=HK2.out;have:=HK3.out;omega⟩,⟨by (with_reducible repeat (first | apply Kd.R_alloc | apply Kd.R_drewN | apply Kd.R_drew));exact HO_3.out⟩,⟨by (with_reducible repeat (first | apply Kd.R_alloc | apply Kd.R_drewN | apply Kd.R_drew));exact HO_4.out⟩,⟨by repeat (first | (with_reducible first | exact HB.out | apply below_alloc | apply pw_below_drewN | apply below_drew1 | refine below_set ?_ GE155.out) | exact HB.out)⟩⟩
       ·rw [if_neg c7] at H
        exact absurd H (by simp)
      ·rw [if_neg c6] at H
       exact absurd H (by simp)
     ·rw [if_neg c5] at H
      have c5b0 : decide (x13_2 < (l0.length : Int)) = false:=decide_eq_false c5
      clear c5
      obtain rfl:=Option.some.inj H
      go_wp2
      go_ret
      exact ⟨_,by first | rfl | (simp [errW_none,errW_some] <;> rfl) | (simp [*,errW_none,errW_some] <;> rfl),by (with_reducible repeat (first | apply Kd.R_alloc | apply Kd.R_drewN | apply Kd.R_drew));exact HO_4.out,by repeat (first | (with_reducible first | exact HB.out | apply below_alloc | apply pw_below_drewN | apply below_drew1) | exact HB.out)⟩
end Go.Proofs.Ytbmcbhpkefjhbaa.P
set_option linter.unusedVariables false
set_option linter.unusedSimpArgs false
namespace Go.Proofs.Ytbmcbhpkefjhbaa.P
open Go.RowKit Go.Proofs.Ytbmcbhpkefjhbaa Go.Proofs.Ytbmcbhpkefjhbaa.Mem Go.Proofs.YtbmcbhpkefjhbaaW.PrintWords Go.Proofs.YtbmcbhpkefjhbaaW.PrintLast Go.Proofs.YtbmcbhpkefjhbaaW.PrintMore
abbrev SSt := S43
abbrev rdS (l : List SSt) (i : Int) : SSt := rd_T43 l i
theorem wsucc {i : Nat} (h : i ≤ 4611686018427387904) : wrap64 ((i : Int) + 1) = ((i + 1 : Nat) : Int) := by unfold wrap64; omega
theorem eqK_key {a b : Nat} (ha : Flt.ok a) (hb : Flt.ok b) : eqK a b = decide (Flt.key a = Flt.key b) := by
  have h : cmpI (Flt.rank a) (Flt.rank b) = 0 ↔ Flt.key a = Flt.key b := by
    unfold cmpI
    constructor
    · intro h
      split at h
      · cases h
      · split at h
        · cases h
        · exact Flt.rank_inj ha hb (by omega)
    · intro h
      rw [Flt.rank_of_key h, if_neg (by omega), if_neg (by omega)]
  unfold eqK
  by_cases hk : Flt.key a = Flt.key b
  · rw [decide_eq_true hk, h.2 hk]; rfl
  · rw [decide_eq_false hk, beq_eq_false_iff_ne]; exact fun e => hk (h.1 e)
theorem alike_ev {a b : Nat} (ha : Flt.ok a) (hb : Flt.ok b) : humusref01_Alike.f a b = some (eqK a b) := by
  have ha' : a < 18446744073709551616 := ha
  have hb' : b < 18446744073709551616 := hb
  unfold humusref01_Alike.f humusref01_Key.f
  rw [if_pos ha', if_pos hb', Option.bind_some, Option.bind_some, eqK_key ha hb]
  congr 1
  by_cases hk : Flt.key a = Flt.key b
  · rw [decide_eq_true hk, hk, beq_self_eq_true]
  · rw [decide_eq_false hk, beq_eq_false_iff_ne]; omega
theorem eqK_comm {a b : Nat} (ha : Flt.ok a) (hb : Flt.ok b) : eqK a b = eqK b a := by
  rw [eqK_key ha hb, eqK_key hb ha]
  exact decide_eq_decide.2 ⟨fun h => h.symm, fun h => h.symm⟩
theorem betw_less (x lo hi : Nat) : betw x lo hi = (!Flt.less x lo && Flt.less x hi) := by
  unfold betw Flt.less
  have e1 : decide (cmpI (Flt.rank lo) (Flt.rank x) ≤ 0) = !decide (Flt.rank x < Flt.rank lo) := by
    unfold cmpI
    by_cases h : Flt.rank x < Flt.rank lo
    · rw [decide_eq_true h, if_neg (by omega), if_pos (by omega)]; rfl
    · rw [decide_eq_false h]
      split
      · rfl
      · rw [if_neg (by omega)]; rfl
  have e2 : decide (cmpI (Flt.rank x) (Flt.rank hi) < 0) = decide (Flt.rank x < Flt.rank hi) := by
    unfold cmpI
    by_cases h : Flt.rank x < Flt.rank hi
    · rw [decide_eq_true h, if_pos (by omega)]; rfl
    · rw [decide_eq_false h, if_neg (by omega)]
      split <;> rfl
  rw [e1, e2]
theorem less_ev {a b : Nat} (ha : Flt.ok a) (hb : Flt.ok b) : humusref01_Less.f a b = some (Flt.less a b) := by
  unfold humusref01_Less.f
  rw [if_pos ⟨ha, hb⟩]
theorem rdV_drop {l : List SEv} {i : Nat} (h : i < l.length) : l.drop i = rd_T89 l (i : Int) :: l.drop (i + 1) := by
  rw [List.drop_eq_getElem_cons h]
  have := rdEv_at h
  rw [List.getElem?_eq_getElem h] at this
  injection this with this
  rw [this]
theorem rdV_mem {l : List SEv} {i : Nat} (h : i < l.length) : rd_T89 l (i : Int) ∈ l := List.mem_of_getElem? (rdEv_at h)
theorem rdW_drop {l : List SRo} {i : Nat} (h : i < l.length) : l.drop i = rd_T124 l (i : Int) :: l.drop (i + 1) := by
  rw [List.drop_eq_getElem_cons h]
  have := rdRo_at h
  rw [List.getElem?_eq_getElem h] at this
  injection this with this
  rw [this]
theorem rdW_mem {l : List SRo} {i : Nat} (h : i < l.length) : rd_T124 l (i : Int) ∈ l := List.mem_of_getElem? (rdRo_at h)
theorem rdS_at {l : List SSt} {i : Nat} (h : i < l.length) : l[i]? = some (rdS l (i : Int)) := by
  unfold rdS rd_T43
  rw [Int.toNat_natCast, List.getD_eq_getElem?_getD, List.getElem?_eq_getElem h]; rfl
theorem rdS_mem {l : List SSt} {i : Nat} (h : i < l.length) : rdS l (i : Int) ∈ l := List.mem_of_getElem? (rdS_at h)
theorem rReads_l0 {l2 : List SEv} (ho : okEv l2) {key : Nat} (hk : Flt.ok key) (hl : l2.length ≤ 1000) (a b : Int) (l3 : List SRo) (l4 : List Int) : ∀ (d i k : Nat), i + d = l2.length → 3 * d + 1 ≤ k → humusref26_Reads.l0 k key (i : Int) a b l2 l3 l4 = some ((l2.drop i).any (evR key)) := by
  intro d
  induction d with
  | zero =>
    intro i k hi hK
    obtain ⟨k, rfl⟩ : ∃ m, k = m + 1 := ⟨k - 1, by omega⟩
    rw [humusref26_Reads.l0, if_neg (by omega), List.drop_eq_nil_of_le (by omega)]; rfl
  | succ d ih =>
    intro i k hi hK
    obtain ⟨k, rfl⟩ : ∃ m, k = m + 1 + 1 + 1 := ⟨k - 3, by omega⟩
    have hlt : i < l2.length := by omega
    have hoe := ho _ (rdV_mem hlt)
    rw [humusref26_Reads.l0, if_pos (by omega), if_pos (by omega), rdV_drop hlt, List.any_cons]
    have ih1 := ih (i + 1) (k + 1) (by omega) (by omega)
    have ih0 := ih (i + 1) k (by omega) (by omega)
    generalize rd_T89 l2 (i : Int) = e at *
    have hw := wsucc (i := i) (by omega)
    have one : ∀ x, (e.f0.f0 = 2 ∨ e.f0.f0 = 5 ∨ e.f0.f0 = 6) → x = true → humusref26_Reads.j1 (k + 1 + 1) key (i : Int) x a b l2 l3 l4 e.f0.f0 e.f0.f1 e.f0.f2 e.f0.f3 e.f0.f4 e.f0.f5 e.f0.f6 = some (evR key e || (l2.drop (i + 1)).any (evR key)) := by
      intro x h hx
      subst hx
      have he : evR key e = eqK e.f0.f2 key := by unfold evR; rw [if_pos h]
      rw [humusref26_Reads.j1, if_pos rfl, alike_ev hoe.1 hk, Option.bind_some, he]
      cases eqK e.f0.f2 key with
      | true => rw [if_pos rfl, humusref26_Reads.j2]; rfl
      | false => rw [if_neg (by decide), if_neg (by omega), hw, ih1]; rfl
    by_cases h2 : e.f0.f0 = 2
    · rw [if_pos h2]; exact one true (.inl h2) rfl
    rw [if_neg h2]
    by_cases h5 : e.f0.f0 = 5
    · rw [if_pos h5]; exact one true (.inr (.inl h5)) rfl
    rw [if_neg h5]
    by_cases h6 : e.f0.f0 = 6
    · exact one _ (.inr (.inr h6)) (beq_iff_eq.2 h6)
    rw [beq_eq_false_iff_ne.2 h6, humusref26_Reads.j1, if_neg (by decide)]
    have he : evR key e = if e.f0.f0 = 3 then betw key e.f0.f2 e.f0.f3 else false := by unfold evR; rw [if_neg (by omega)]
    rw [he]
    by_cases h3 : e.f0.f0 = 3
    · rw [if_pos h3, if_pos h3, less_ev hk hoe.1, Option.bind_some, betw_less]
      cases Flt.less key e.f0.f2 with
      | true => rw [if_pos rfl, humusref26_Reads.j5, hw, ih0]; rfl
      | false =>
        rw [if_neg (by decide), less_ev hk hoe.2, Option.bind_some]
        cases Flt.less key e.f0.f3 with
        | true => rw [if_pos rfl, humusref26_Reads.j6]; rfl
        | false => rw [if_neg (by decide), hw, ih1]; rfl
    · rw [if_neg h3, if_neg h3, hw, ih1]; rfl
theorem rReads_ev {k : Nat} {l2 : List SEv} (ho : okEv l2) {key : Nat} (hk : Flt.ok key) (hl : l2.length ≤ 1000) (a b : Int) (l3 : List SRo) (l4 : List Int) (hK : 3001 ≤ k) : humusref26_Reads.f k a b l2 l3 l4 key = some (l2.any (evR key)) := by
  unfold humusref26_Reads.f
  have := rReads_l0 ho hk hl a b l3 l4 l2.length 0 k (by omega) (by omega)
  rw [List.drop_zero] at this
  exact this
def cntW (l : List SSt) : Nat := (l.filter fun s => decide (0 < s.f3.length)).length
def plc (l : List SSt) (i : Nat) : Int := if (rdS l (i : Int)).f3.length = 0 then -1 else (cntW (l.take i) : Int)
theorem cntW_succ {l : List SSt} {i : Nat} (h : i < l.length) : cntW (l.take (i + 1)) = cntW (l.take i) + (if (rdS l (i : Int)).f3.length = 0 then 0 else 1) := by
  have hg := rdS_at h
  rw [List.getElem?_eq_getElem h] at hg
  injection hg with hg
  unfold cntW
  rw [List.take_succ_eq_append_getElem h, List.filter_append, List.length_append, hg]
  congr 1
  by_cases h0 : (rdS l (i : Int)).f3.length = 0
  · rw [if_pos h0, List.filter_cons, if_neg (by simp only [decide_eq_true_eq]; omega)]; rfl
  · rw [if_neg h0, List.filter_cons, if_pos (by simp only [decide_eq_true_eq]; omega)]; rfl
theorem cntW_le (l : List SSt) : cntW l ≤ l.length := List.length_filter_le _ _
theorem places_l0 {l : List SSt} (hl : l.length ≤ 1000) : ∀ (d i k : Nat), i + d = l.length → d + 1 ≤ k → dsg_places.l0 k ((List.range i).map (plc l)) (cntW (l.take i) : Int) l (l.length : Int) (i : Int) = some ((List.range l.length).map (plc l)) := by
  intro d
  induction d with
  | zero =>
    intro i k hi hk
    obtain ⟨k, rfl⟩ : ∃ m, k = m + 1 := ⟨k - 1, by omega⟩
    have h0 : i = l.length := by omega
    rw [dsg_places.l0, if_neg (by omega), h0]
  | succ d ih =>
    intro i k hi hk
    obtain ⟨k, rfl⟩ : ∃ m, k = m + 1 := ⟨k - 1, by omega⟩
    have hlt : i < l.length := by omega
    have hc := cntW_succ hlt
    have hle := cntW_le (l.take i)
    rw [List.length_take] at hle
    have ih' := ih (i + 1) k (by omega) (by omega)
    rw [List.range_succ, List.map_append, List.map_singleton, hc] at ih'
    have hxl : ((List.range i).map (plc l)).length < 17592186044416 := by rw [List.length_map, List.length_range]; omega
    rw [dsg_places.l0, if_pos (by omega), if_pos (by omega), if_pos (by omega), wsucc (by omega)]
    by_cases h0 : (rdS l (i : Int)).f3.length = 0
    · rw [if_pos (show ((rdS l (i : Int)).f3.length : Int) = 0 by omega), if_pos hxl]
      rw [if_pos h0, Nat.add_zero, show plc l i = -1 from by unfold plc; rw [if_pos h0]] at ih'
      exact ih'
    · rw [if_neg (show ¬ ((rdS l (i : Int)).f3.length : Int) = 0 by omega), if_pos hxl, wsucc (by omega)]
      rw [if_neg h0, show plc l i = (cntW (l.take i) : Int) from by unfold plc; rw [if_neg h0]] at ih'
      exact ih'
theorem places_ev {k : Nat} {l : List SSt} (hl : l.length ≤ 1000) (hk : 1001 ≤ k) : dsg_places.f k l = some ((List.range l.length).map (plc l)) := by
  unfold dsg_places.f
  exact places_l0 hl l.length 0 k (by omega) (by omega)
theorem rd_places {l : List SSt} {i : Nat} (h : i < l.length) : rd ((List.range l.length).map (plc l)) (i : Int) = plc l i := by
  unfold rd
  rw [Int.toNat_natCast, List.getD_eq_getElem?_getD, List.getElem?_map, List.getElem?_range h]; rfl
theorem Place_l0 {l : List SSt} (hl : l.length ≤ 1000) {n : Nat} (hn : n < l.length) : ∀ (d i k : Nat), i + d = n → d + 1 ≤ k → humusref26_Place.l0 k l (n : Int) (cntW (l.take i) : Int) (i : Int) = some (cntW (l.take n) : Int) := by
  intro d
  induction d with
  | zero =>
    intro i k hi hk
    obtain ⟨k, rfl⟩ : ∃ m, k = m + 1 := ⟨k - 1, by omega⟩
    have h0 : i = n := by omega
    rw [humusref26_Place.l0, if_neg (by omega), h0]
  | succ d ih =>
    intro i k hi hk
    obtain ⟨k, rfl⟩ : ∃ m, k = m + 1 := ⟨k - 1, by omega⟩
    have hc := cntW_succ (l := l) (i := i) (by omega)
    have hle := cntW_le (l.take i)
    rw [List.length_take] at hle
    have ih' := ih (i + 1) k (by omega) (by omega)
    rw [hc] at ih'
    rw [humusref26_Place.l0, if_pos (by omega), if_pos (by omega), if_pos (by omega), wsucc (i := i) (by omega)]
    by_cases h0 : (rdS l (i : Int)).f3.length = 0
    · rw [if_neg (show ¬ ((rdS l (i : Int)).f3.length : Int) > 0 by omega)]
      rw [if_pos h0, Nat.add_zero] at ih'
      exact ih'
    · rw [if_pos (show ((rdS l (i : Int)).f3.length : Int) > 0 by omega), wsucc (by omega)]
      rw [if_neg h0] at ih'
      exact ih'
theorem Place_ev {k : Nat} {l : List SSt} (hl : l.length ≤ 1000) {n : Nat} (hn : n < l.length) (hk : 1001 ≤ k) : humusref26_Place.f k l (n : Int) = some (plc l n) := by
  unfold humusref26_Place.f plc
  rw [if_pos (by omega), if_pos (by omega)]
  by_cases h0 : (rdS l (n : Int)).f3.length = 0
  · rw [if_pos (show ((rdS l (n : Int)).f3.length : Int) = 0 by omega), if_pos h0]
  · rw [if_neg (show ¬ ((rdS l (n : Int)).f3.length : Int) = 0 by omega), if_neg h0]
    exact Place_l0 hl hn n 0 k (by omega) (by omega)
end Go.Proofs.Ytbmcbhpkefjhbaa.P
set_option linter.unusedVariables false
set_option linter.unusedSimpArgs false
namespace Go.Proofs.Ytbmcbhpkefjhbaa.P
open Go.RowKit Go.Proofs.Ytbmcbhpkefjhbaa Go.Proofs.Ytbmcbhpkefjhbaa.Mem Go.Proofs.YtbmcbhpkefjhbaaW.PrintWords Go.Proofs.YtbmcbhpkefjhbaaW.PrintLast Go.Proofs.YtbmcbhpkefjhbaaW.PrintMore
def lastR (at_ : Int) (l2 : List SEv) (q : Int) (m : List SRo) : Bool := m.any fun s => decide (at_ ≤ q) && l2.any (evR s.f0)
def oneR (bt_ : Int) (m2 : List SEv) (m3 : List SRo) (p q : Int) (r : SRo) : Bool := (decide (p < q) && m3.any fun s => eqK r.f0 s.f0) || (decide (p < bt_) && m2.any (evR r.f0))
theorem rA_l2 {tx at_ : Int} {l2 : List SEv} {l3 : List SRo} {l4 : List Int} {ux bt_ : Int} {m2 : List SEv} {m3 : List SRo} {m4 : List Int} (o2 : okEv l2) (o3 : okRo m3) (h2 : l2.length ≤ 1000) (h3 : m3.length ≤ 20) (q : Int) : ∀ (d j k : Nat), j + d = m3.length → 3010 + d ≤ k → humusref26_Ahead.l2 k q (j : Int) tx at_ l2 l3 l4 ux bt_ m2 m3 m4 = some (lastR at_ l2 q (m3.drop j)) := by
  intro d
  induction d with
  | zero =>
    intro j k hj hk
    obtain ⟨k, rfl⟩ : ∃ m, k = m + 1 := ⟨k - 1, by omega⟩
    rw [humusref26_Ahead.l2, if_neg (by omega), List.drop_eq_nil_of_le (by omega)]; rfl
  | succ d ih =>
    intro j k hj hk
    obtain ⟨k, rfl⟩ : ∃ m, k = m + 1 := ⟨k - 1, by omega⟩
    have hlt : j < m3.length := by omega
    have ho := o3 _ (rdW_mem hlt)
    have ih' := ih (j + 1) k (by omega) (by omega)
    rw [humusref26_Ahead.l2, if_pos (by omega), rdW_drop hlt, wsucc (by omega), ih']
    generalize rd_T124 m3 (j : Int) = s at *
    unfold lastR
    rw [List.any_cons]
    by_cases hq : at_ ≤ q
    · rw [if_pos hq, if_pos (by omega), rReads_ev o2 ho h2 _ _ _ _ (by omega), Option.bind_some, decide_eq_true hq, Bool.true_and]
      cases l2.any (evR s.f0) with
      | true =>
        obtain ⟨k, rfl⟩ : ∃ m, k = m + 1 := ⟨k - 1, by omega⟩
        rw [if_pos rfl, humusref26_Ahead.j6]; rfl
      | false => rw [if_neg (by decide)]; rfl
    · rw [if_neg hq, decide_eq_false hq]; simp
theorem rA_l1 {tx at_ : Int} {l2 : List SEv} {l3 : List SRo} {l4 : List Int} {ux bt_ : Int} {m2 : List SEv} {m3 : List SRo} {m4 : List Int} (o2 : okEv m2) (o3 : okRo m3) (h2 : m2.length ≤ 1000) (h3 : m3.length ≤ 20) (p q : Int) (i : Nat) (hi : i ≤ 1000) (key : Nat) (hkey : Flt.ok key) (B : Nat) (rest : Bool) (hB : 3010 ≤ B) (H : ∀ k, B ≤ k → humusref26_Ahead.l0 k p q ((i + 1 : Nat) : Int) tx at_ l2 l3 l4 ux bt_ m2 m3 m4 = some rest) :
    ∀ (d j k : Nat), j + d = m3.length → B + 2 + d ≤ k → humusref26_Ahead.l1 k p q (i : Int) key (j : Int) tx at_ l2 l3 l4 ux bt_ m2 m3 m4 = some (((decide (p < q) && (m3.drop j).any fun s => eqK key s.f0) || (decide (p < bt_) && m2.any (evR key))) || rest) := by
  intro d
  induction d with
  | zero =>
    intro j k hj hk
    obtain ⟨k, rfl⟩ : ∃ m, k = m + 1 + 1 := ⟨k - 2, by omega⟩
    have H' := H (k + 1) (by omega)
    rw [humusref26_Ahead.l1, if_neg (by omega), List.drop_eq_nil_of_le (by omega), List.any_nil, Bool.and_false, Bool.false_or, wsucc (by omega), H']
    by_cases hb : p < bt_
    · rw [if_pos hb, rReads_ev o2 hkey h2 _ _ _ _ (by omega), Option.bind_some, decide_eq_true hb, Bool.true_and]
      cases m2.any (evR key) with
      | true => rw [if_pos rfl, humusref26_Ahead.j4]; rfl
      | false => rw [if_neg (by decide)]; rfl
    · rw [if_neg hb, decide_eq_false hb]; rfl
  | succ d ih =>
    intro j k hj hk
    obtain ⟨k, rfl⟩ : ∃ m, k = m + 1 + 1 := ⟨k - 2, by omega⟩
    have hlt : j < m3.length := by omega
    have ho := o3 _ (rdW_mem hlt)
    have ih' := ih (j + 1) (k + 1) (by omega) (by omega)
    rw [humusref26_Ahead.l1, if_pos (by omega), if_pos (by omega), wsucc (by omega), ih', alike_ev hkey ho, Option.bind_some, rdW_drop hlt, List.any_cons]
    generalize rd_T124 m3 (j : Int) = s at *
    cases eqK key s.f0 with
    | true =>
      rw [if_pos rfl]
      by_cases hp : p < q
      · rw [if_pos hp, humusref26_Ahead.j3, decide_eq_true hp]; rfl
      · rw [if_neg hp, decide_eq_false hp]; simp
    | false => rw [if_neg (by decide), Bool.false_or]
theorem rA_l0 {tx at_ : Int} {l2 : List SEv} {l3 : List SRo} {l4 : List Int} {ux bt_ : Int} {m2 : List SEv} {m3 : List SRo} {m4 : List Int} (a2 : okEv l2) (a3 : okRo l3) (o2 : okEv m2) (o3 : okRo m3) (g2 : l2.length ≤ 1000) (g3 : l3.length ≤ 20) (h2 : m2.length ≤ 1000) (h3 : m3.length ≤ 20) (p q : Int) : ∀ (d i k : Nat), i + d = l3.length → 3100 + 30 * d ≤ k → humusref26_Ahead.l0 k p q (i : Int) tx at_ l2 l3 l4 ux bt_ m2 m3 m4 = some (((l3.drop i).any (oneR bt_ m2 m3 p q)) || lastR at_ l2 q m3) := by
  intro d
  induction d with
  | zero =>
    intro i k hi hk
    obtain ⟨k, rfl⟩ : ∃ m, k = m + 1 := ⟨k - 1, by omega⟩
    have h := rA_l2 (tx := tx) (l3 := l3) (l4 := l4) (ux := ux) (bt_ := bt_) (m2 := m2) (m4 := m4) (at_ := at_) a2 o3 g2 h3 q m3.length 0 k (by omega) (by omega)
    rw [List.drop_zero] at h
    rw [humusref26_Ahead.l0, if_neg (by omega), List.drop_eq_nil_of_le (by omega), List.any_nil, Bool.false_or]
    exact h
  | succ d ih =>
    intro i k hi hk
    obtain ⟨k, rfl⟩ : ∃ m, k = m + 1 := ⟨k - 1, by omega⟩
    have hlt : i < l3.length := by omega
    have ho := a3 _ (rdW_mem hlt)
    have h := rA_l1 (tx := tx) (at_ := at_) (l2 := l2) (l3 := l3) (l4 := l4) (ux := ux) (bt_ := bt_) (m4 := m4) o2 o3 h2 h3 p q i (by omega) _ ho (3100 + 30 * d) _ (by omega) (fun k hk => ih (i + 1) k (by omega) hk) m3.length 0 k (by omega) (by omega)
    rw [List.drop_zero] at h
    rw [humusref26_Ahead.l0, if_pos (by omega), if_pos (by omega), rdW_drop hlt, List.any_cons, Bool.or_assoc]
    exact h
theorem ahead_same {at_ : Int} {l2 : List SEv} {l3 : List SRo} {bt_ : Int} {m2 : List SEv} {m3 : List SRo} {p q : Int} (a3 : okRo l3) (o3 : okRo m3) (hp : l3 ≠ [] → 0 ≤ p) (hq : m3 ≠ [] → 0 ≤ q) : aheadB at_ l2 l3 bt_ m2 m3 p q = (l3.any (oneR bt_ m2 m3 p q) || lastR at_ l2 q m3) := by
  rw [Bool.eq_iff_iff]
  unfold aheadB oneR lastR
  simp only [Bool.or_eq_true, Bool.and_eq_true, List.any_eq_true, decide_eq_true_eq]
  constructor
  · rintro ((⟨⟨⟨h1, h2⟩, h3⟩, r, hr, s, hs, h4⟩ | ⟨⟨h1, h2⟩, r, hr, e, he, h3⟩) | ⟨⟨h1, h2⟩, s, hs, e, he, h3⟩)
    · exact .inl ⟨r, hr, .inl ⟨h3, s, hs, by rw [eqK_comm (a3 r hr) (o3 s hs)]; exact h4⟩⟩
    · exact .inl ⟨r, hr, .inr ⟨h2, e, he, h3⟩⟩
    · exact .inr ⟨s, hs, h2, e, he, h3⟩
  · rintro (⟨r, hr, ⟨h3, s, hs, h4⟩ | ⟨h2, e, he, h3⟩⟩ | ⟨s, hs, h2, e, he, h3⟩)
    · exact .inl (.inl ⟨⟨⟨hp (fun h => by rw [h] at hr; cases hr), hq (fun h => by rw [h] at hs; cases hs)⟩, h3⟩, r, hr, s, hs, by unfold roW; rw [eqK_comm (o3 s hs) (a3 r hr)]; exact h4⟩)
    · exact .inl (.inr ⟨⟨hp (fun h => by rw [h] at hr; cases hr), h2⟩, r, hr, e, he, h3⟩)
    · exact .inr ⟨⟨hq (fun h => by rw [h] at hs; cases hs), h2⟩, s, hs, e, he, h3⟩
structure LightL (l : List SSt) : Prop where
  len : l.length ≤ 15
  ev : ∀ s ∈ l, s.f2.length ≤ 20
  wr : ∀ s ∈ l, s.f3.length ≤ 20
  oe : ∀ s ∈ l, okEv s.f2
  ow : ∀ s ∈ l, okRo s.f3
def AH (l : List SSt) (i j : Nat) : Bool := aheadB (rdS l (i : Int)).f1 (rdS l (i : Int)).f2 (rdS l (i : Int)).f3 (rdS l (j : Int)).f1 (rdS l (j : Int)).f2 (rdS l (j : Int)).f3 (plc l i) (plc l j)
theorem plc_ge {l : List SSt} {i : Nat} (h : (rdS l (i : Int)).f3 ≠ []) : 0 ≤ plc l i := by
  unfold plc
  rw [if_neg (fun e => h (List.length_eq_zero_iff.1 e))]
  omega
theorem rAhead_ev {l : List SSt} (hL : LightL l) {i j : Nat} (hi : i < l.length) (hj : j < l.length) {k : Nat} (hk : 5000 ≤ k) : humusref26_Ahead.f k l (i : Int) (j : Int) = some (AH l i j) := by
  have hl := hL.len
  have mi := rdS_mem hi
  have mj := rdS_mem hj
  have e1 := hL.ev _ mi
  have e2 := hL.ev _ mj
  have w1 := hL.wr _ mi
  have w2 := hL.wr _ mj
  unfold humusref26_Ahead.f
  rw [if_pos (by omega), if_pos (by omega), if_pos (by omega), if_pos (by omega), Place_ev (by omega) hi (by omega), Option.bind_some, Place_ev (by omega) hj (by omega), Option.bind_some]
  obtain ⟨k, rfl⟩ : ∃ m, k = m + 1 := ⟨k - 1, by omega⟩
  rw [humusref26_Ahead.j0]
  refine (rA_l0 (hL.oe _ mi) (hL.ow _ mi) (hL.oe _ mj) (hL.ow _ mj) (by omega) w1 (by omega) w2 (plc l i) (plc l j) _ 0 k (Nat.zero_add _) (by omega)).trans ?_
  rw [List.drop_zero]
  congr 1
  exact (ahead_same (hL.ow _ mi) (hL.ow _ mj) plc_ge plc_ge).symm
theorem pAhead_ev {l : List SSt} (hL : LightL l) {i j : Nat} (hi : i < l.length) (hj : j < l.length) : dsg_ahead.f (rdS l (i : Int)).f0 (rdS l (i : Int)).f1 (rdS l (i : Int)).f2 (rdS l (i : Int)).f3 (rdS l (i : Int)).f4 (rdS l (j : Int)).f0 (rdS l (j : Int)).f1 (rdS l (j : Int)).f2 (rdS l (j : Int)).f3 (rdS l (j : Int)).f4 (plc l i) (plc l j) = some (AH l i j) := by
  have mi := rdS_mem hi
  have mj := rdS_mem hj
  have e1 := hL.ev _ mi
  have e2 := hL.ev _ mj
  have w1 := hL.wr _ mi
  have w2 := hL.wr _ mj
  unfold dsg_ahead.f
  rw [if_pos ⟨⟨by omega, okEvB_iff.2 (hL.oe _ mi), by omega, okRoB_iff.2 (hL.ow _ mi)⟩, by omega, okEvB_iff.2 (hL.oe _ mj), by omega, okRoB_iff.2 (hL.ow _ mj)⟩]
  rfl
def inn (l : List SSt) (i : Nat) : Nat → Nat → List SPr → List SPr
  | _, 0, acc => acc
  | j, d + 1, acc => inn l i (j + 1) d (if i = j then acc else if AH l i j = true then acc ++ [⟨(i : Int), (j : Int)⟩] else acc)
def outP (l : List SSt) : Nat → Nat → List SPr → List SPr
  | _, 0, acc => acc
  | i, d + 1, acc => outP l (i + 1) d (inn l i 0 l.length acc)
theorem inn_len (l : List SSt) (i : Nat) : ∀ (d j : Nat) (acc : List SPr), (inn l i j d acc).length ≤ acc.length + d := by
  intro d
  induction d with
  | zero => intro j acc; exact Nat.le_refl _
  | succ d ih =>
    intro j acc
    rw [inn]
    refine Nat.le_trans (ih _ _) ?_
    split
    · omega
    · split
      · rw [List.length_append, List.length_singleton]; omega
      · omega
theorem outP_len (l : List SSt) : ∀ (d i : Nat) (acc : List SPr), (outP l i d acc).length ≤ acc.length + d * l.length := by
  intro d
  induction d with
  | zero => intro i acc; rw [Nat.zero_mul]; exact Nat.le_refl _
  | succ d ih =>
    intro i acc
    rw [outP]
    have h1 := ih (i + 1) (inn l i 0 l.length acc)
    have h2 := inn_len l i l.length 0 acc
    rw [Nat.succ_mul]
    omega
theorem pE_l0 {l : List SSt} (hL : LightL l) : ∀ (d i k : Nat) (acc : List SPr), i + d = l.length → 40 * d + 1 ≤ k → acc.length + 15 * d ≤ 700 → dsg_Edges.l0 k l ((List.range l.length).map (plc l)) acc l (l.length : Int) (i : Int) = some (outP l i d acc) := by
  have hl := hL.len
  intro d
  induction d with
  | zero =>
    intro i k acc hi hk ha
    obtain ⟨k, rfl⟩ : ∃ m, k = m + 1 := ⟨k - 1, by omega⟩
    rw [dsg_Edges.l0, if_neg (by omega)]; rfl
  | succ d ih =>
    intro i k acc hi hk ha
    obtain ⟨k, rfl⟩ : ∃ m, k = m + 1 := ⟨k - 1, by omega⟩
    have hlt : i < l.length := by omega
    rw [dsg_Edges.l0, if_pos (by omega), if_pos (by omega), if_pos (by omega), outP]
    have key : ∀ (d2 j k : Nat) (acc2 : List SPr), j + d2 = l.length → 40 * d + 1 + 2 * d2 + 1 ≤ k → acc2.length + d2 + 15 * d ≤ 700 → dsg_Edges.l1 k l ((List.range l.length).map (plc l)) acc2 (i : Int) l (l.length : Int) (i : Int) l (l.length : Int) (j : Int) (rdS l (i : Int)).f0 (rdS l (i : Int)).f1 (rdS l (i : Int)).f2 (rdS l (i : Int)).f3 (rdS l (i : Int)).f4 = some (outP l (i + 1) d (inn l i j d2 acc2)) := by
      have hPl : ((List.range l.length).map (plc l)).length = l.length := by rw [List.length_map, List.length_range]
      intro d2
      induction d2 with
      | zero =>
        intro j k acc2 hj hk2 ha2
        obtain ⟨k, rfl⟩ : ∃ m, k = m + 1 := ⟨k - 1, by omega⟩
        rw [dsg_Edges.l1, if_neg (by omega), wsucc (by omega)]
        exact ih (i + 1) k acc2 (by omega) (by omega) (by omega)
      | succ d2 ih2 =>
        intro j k acc2 hj hk2 ha2
        obtain ⟨k, rfl⟩ : ∃ m, k = m + 1 + 1 := ⟨k - 2, by omega⟩
        have hltj : j < l.length := by omega
        rw [dsg_Edges.l1, if_pos (by omega), if_pos (by omega), if_pos (by omega), wsucc (by omega), inn]
        by_cases hij : i = j
        · rw [if_pos (by omega), if_pos hij]
          exact ih2 (j + 1) (k + 1) acc2 (by omega) (by omega) (by omega)
        · rw [if_neg (by omega), if_neg hij, if_pos (by omega), if_pos (by omega), if_pos (by omega), rd_places hlt, rd_places hltj]
          refine (congrArg (fun o => Option.bind o _) (pAhead_ev hL hlt hltj)).trans ?_
          rw [Option.bind_some]
          cases AH l i j with
          | true =>
            rw [if_pos rfl, if_pos (by omega), dsg_Edges.j3, if_pos rfl]
            exact ih2 (j + 1) k _ (by omega) (by omega) (by rw [List.length_append, List.length_singleton]; omega)
          | false =>
            rw [if_neg (by decide), if_neg (by decide)]
            exact ih2 (j + 1) (k + 1) acc2 (by omega) (by omega) (by omega)
    exact key l.length 0 k acc (by omega) (by omega) (by omega)
theorem pEdges_ev {l : List SSt} (hL : LightL l) {k : Nat} (hk : 2000 ≤ k) : dsg_Edges.f k l = some (outP l 0 l.length []) := by
  have hl := hL.len
  unfold dsg_Edges.f
  rw [places_ev (by omega) (by omega), Option.bind_some]
  obtain ⟨k, rfl⟩ : ∃ m, k = m + 1 := ⟨k - 1, by omega⟩
  rw [dsg_Edges.j0]
  exact pE_l0 hL l.length 0 k [] (by omega) (by omega) (by simp; omega)
theorem rE_l0 {l : List SSt} (hL : LightL l) : ∀ (d i k : Nat) (acc : List SPr), i + d = l.length → 5000 + 40 * d + 1 ≤ k → acc.length + 15 * d ≤ 700 → humusref26_Edges.l0 k l acc (i : Int) = some (outP l i d acc) := by
  have hl := hL.len
  intro d
  induction d with
  | zero =>
    intro i k acc hi hk ha
    obtain ⟨k, rfl⟩ : ∃ m, k = m + 1 := ⟨k - 1, by omega⟩
    rw [humusref26_Edges.l0, if_neg (by omega)]; rfl
  | succ d ih =>
    intro i k acc hi hk ha
    obtain ⟨k, rfl⟩ : ∃ m, k = m + 1 := ⟨k - 1, by omega⟩
    have hlt : i < l.length := by omega
    rw [humusref26_Edges.l0, if_pos (by omega), outP]
    have key : ∀ (d2 j k : Nat) (acc2 : List SPr), j + d2 = l.length → 5000 + 40 * d + 1 + 2 * d2 + 1 ≤ k → acc2.length + d2 + 15 * d ≤ 700 → humusref26_Edges.l1 k l acc2 (i : Int) (j : Int) = some (outP l (i + 1) d (inn l i j d2 acc2)) := by
      intro d2
      induction d2 with
      | zero =>
        intro j k acc2 hj hk2 ha2
        obtain ⟨k, rfl⟩ : ∃ m, k = m + 1 := ⟨k - 1, by omega⟩
        rw [humusref26_Edges.l1, if_neg (by omega), wsucc (by omega)]
        exact ih (i + 1) k acc2 (by omega) (by omega) (by omega)
      | succ d2 ih2 =>
        intro j k acc2 hj hk2 ha2
        obtain ⟨k, rfl⟩ : ∃ m, k = m + 1 + 1 := ⟨k - 2, by omega⟩
        have hltj : j < l.length := by omega
        rw [humusref26_Edges.l1, if_pos (by omega), wsucc (by omega), inn]
        by_cases hij : i = j
        · rw [if_pos (by omega), if_pos hij]
          exact ih2 (j + 1) (k + 1) acc2 (by omega) (by omega) (by omega)
        · rw [if_neg (by omega), if_neg hij, rAhead_ev hL hlt hltj (by omega), Option.bind_some]
          cases AH l i j with
          | true =>
            rw [if_pos rfl, if_pos (by omega), humusref26_Edges.j2, if_pos rfl]
            exact ih2 (j + 1) k _ (by omega) (by omega) (by rw [List.length_append, List.length_singleton]; omega)
          | false =>
            rw [if_neg (by decide), if_neg (by decide)]
            exact ih2 (j + 1) (k + 1) acc2 (by omega) (by omega) (by omega)
    exact key l.length 0 k acc (by omega) (by omega) (by omega)
theorem rEdges_ev {l : List SSt} (hL : LightL l) {k : Nat} (hk : 7000 ≤ k) : humusref26_Edges.f k l = some (outP l 0 l.length []) := by
  have hl := hL.len
  unfold humusref26_Edges.f
  exact rE_l0 hL l.length 0 k [] (by omega) (by omega) (by simp; omega)
end Go.Proofs.Ytbmcbhpkefjhbaa.P
