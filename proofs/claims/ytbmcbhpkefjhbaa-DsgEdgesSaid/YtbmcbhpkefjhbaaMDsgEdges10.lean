/- Put together by wip/prune.py out of this claim's texts. -/
import Derived.Test.YtbmcbhpkefjhbaaMDsgEdges4
import Derived.Test.YtbmcbhpkefjhbaaMDsgEdges8
namespace Go.Proofs.Ytbmcbhpkefjhbaa.P
open Go.RowKit Go.Proofs.YtbmcbhpkefjhbaaW.PrintWords Go.Proofs.YtbmcbhpkefjhbaaW.PrintLast Go.Proofs.YtbmcbhpkefjhbaaW.PrintMore
attribute [local go_sem] max2_int min2_int max_two min_two max_three min_three max_four min_four   -- for this text's walks alone
attribute [local go_sem] run_store_float
set_option linter.unusedVariables false
set_option linter.unusedSimpArgs false
def humusref01_Alike.f (a0 : Nat) (a1 : Nat) : Option (Bool):=(humusref01_Key.f a0).bind fun t133 => ((humusref01_Key.f a1).bind fun t134 => (some (t133 == t134)))
set_option maxHeartbeats 8000000 in
set_option maxRecDepth 100000 in
theorem humusref01_Alike.calls (a0 : Nat) (a1 : Nat) (r : Bool) (w : World) (h : humusref01_Alike.f a0 a1 = some r) :
  Calls Try.prog 49 #[.float .f64 a0,.float .f64 a1] w fun e w' => e = .returned (.bool r) ∧ Drawn0 w w':=by
 have H : ((humusref01_Key.f a0).bind fun t133 => ((humusref01_Key.f a1).bind fun t134 => (some (t133 == t134)))) = some r:=h
 clear h
 replace H:=Option.bind_eq_some_iff.mp H
 obtain ⟨t133,A30,H⟩:=H
 replace H : ((humusref01_Key.f a1).bind fun t134 => (some (t133 == t134))) = some r:=H
 have A3:=Aside0.mk A30
 clear A30
 replace H:=Option.bind_eq_some_iff.mp H
 obtain ⟨t134,A40,H⟩:=H
 replace H : (some (t133 == t134)) = some r:=H
 have A4:=Aside0.mk A40
 clear A40
 obtain rfl:=Option.some.inj H
 go_enter Try.func49,Try.ntmps49
 go_wp2_with (first | ((with_reducible refine gate_callee (f:=72) rfl ?_);refine goesL_ (some 6) rfl rfl Try.func72 (by kernel_rfl) rfl #[.float .f64 a0] rfl (by (try simp only [List.map_toArray,List.map_cons,List.map_nil]);first | done | rfl | (simp only [List.length_drop,List.length_take];rfl)) ?_;(with_reducible refine (humusref01_Key.calls a0 t133 _ A3.out).mono ?_);rintro e w' ⟨rfl,⟨nd,rfl⟩⟩;refine ⟨_,rfl,?_⟩) | ((with_reducible refine gate_callee (f:=72) rfl ?_);refine goesL_ (some 8) rfl rfl Try.func72 (by kernel_rfl) rfl #[.float .f64 a1] rfl (by (try simp only [List.map_toArray,List.map_cons,List.map_nil]);first | done | rfl | (simp only [List.length_drop,List.length_take];rfl)) ?_;(with_reducible refine (humusref01_Key.calls a1 t134 _ A4.out).mono ?_);rintro e w' ⟨rfl,⟨nd,rfl⟩⟩;refine ⟨_,rfl,?_⟩))
 go_ret
 exact ⟨by first | rfl | (simp;done) | (simp [*];done),by repeat (first | exact Drawn0.refl _ | apply Drawn0.step)⟩
end Go.Proofs.Ytbmcbhpkefjhbaa.P
namespace Go.Proofs.Ytbmcbhpkefjhbaa.P
open Go.RowKit Go.Proofs.YtbmcbhpkefjhbaaW.PrintWords Go.Proofs.YtbmcbhpkefjhbaaW.PrintLast Go.Proofs.YtbmcbhpkefjhbaaW.PrintMore
attribute [local go_sem] max2_int min2_int max_two min_two max_three min_three max_four min_four   -- for this text's walks alone
attribute [local go_sem] run_store_float
set_option linter.unusedVariables false
set_option linter.unusedSimpArgs false
mutual
def humusref26_Reads.l0 : Nat → Nat → Int → Int → Int → List (S89) → List (S124) → List Int → Option (Bool)
 | 0,_,_,_,_,_,_,_ => none
 | k + 1,x1,x5,x136000,x136001,x136002,x136003,x136004 => if x5 < (x136002.length : Int) then (if 0 ≤ x5 then (if ((rd_T89 x136002 x5).f0.f0) = 2 then (humusref26_Reads.j1 k x1 x5 true x136000 x136001 x136002 x136003 x136004 ((rd_T89 x136002 x5).f0.f0) ((rd_T89 x136002 x5).f0.f1) ((rd_T89 x136002 x5).f0.f2) ((rd_T89 x136002 x5).f0.f3) ((rd_T89 x136002 x5).f0.f4) ((rd_T89 x136002 x5).f0.f5) ((rd_T89 x136002 x5).f0.f6)) else (if ((rd_T89 x136002 x5).f0.f0) = 5 then (humusref26_Reads.j1 k x1 x5 true x136000 x136001 x136002 x136003 x136004 ((rd_T89 x136002 x5).f0.f0) ((rd_T89 x136002 x5).f0.f1) ((rd_T89 x136002 x5).f0.f2) ((rd_T89 x136002 x5).f0.f3) ((rd_T89 x136002 x5).f0.f4) ((rd_T89 x136002 x5).f0.f5) ((rd_T89 x136002 x5).f0.f6)) else (humusref26_Reads.j1 k x1 x5 (((rd_T89 x136002 x5).f0.f0) == 6) x136000 x136001 x136002 x136003 x136004 ((rd_T89 x136002 x5).f0.f0) ((rd_T89 x136002 x5).f0.f1) ((rd_T89 x136002 x5).f0.f2) ((rd_T89 x136002 x5).f0.f3) ((rd_T89 x136002 x5).f0.f4) ((rd_T89 x136002 x5).f0.f5) ((rd_T89 x136002 x5).f0.f6)))) else (none)) else (some false)
def humusref26_Reads.j1 : Nat → Nat → Int → Bool → Int → Int → List (S89) → List (S124) → List Int → Int → Int → Nat → Nat → List Nat → Int → List Bool → Option (Bool)
 | 0,_,_,_,_,_,_,_,_,_,_,_,_,_,_,_ => none
 | k + 1,x1,x5,x7,x136000,x136001,x136002,x136003,x136004,x138000,x138001,x138002,x138003,x138004,x138005,x138006 => if x7 = true then ((humusref01_Alike.f x138002 x1).bind fun t138 => (if t138 = true then (humusref26_Reads.j2 k true) else (if x138000 = 3 then ((humusref01_Less.f x1 x138002).bind fun t139 => (if t139 = true then (humusref26_Reads.j3 k x1 (wrap64 (x5 + 1)) x136000 x136001 x136002 x136003 x136004) else ((humusref01_Less.f x1 x138003).bind fun t140 => (if t140 = true then (humusref26_Reads.j4 k true) else (humusref26_Reads.l0 k x1 (wrap64 (x5 + 1)) x136000 x136001 x136002 x136003 x136004))))) else (humusref26_Reads.l0 k x1 (wrap64 (x5 + 1)) x136000 x136001 x136002 x136003 x136004)))) else (if x138000 = 3 then ((humusref01_Less.f x1 x138002).bind fun t141 => (if t141 = true then (humusref26_Reads.j5 k x1 (wrap64 (x5 + 1)) x136000 x136001 x136002 x136003 x136004) else ((humusref01_Less.f x1 x138003).bind fun t142 => (if t142 = true then (humusref26_Reads.j6 k true) else (humusref26_Reads.l0 k x1 (wrap64 (x5 + 1)) x136000 x136001 x136002 x136003 x136004))))) else (humusref26_Reads.l0 k x1 (wrap64 (x5 + 1)) x136000 x136001 x136002 x136003 x136004))
def humusref26_Reads.j2 : Nat → Bool → Option (Bool)
 | 0,_ => none
 | k + 1,x4 => some x4
def humusref26_Reads.j3 : Nat → Nat → Int → Int → Int → List (S89) → List (S124) → List Int → Option (Bool)
 | 0,_,_,_,_,_,_,_ => none
 | k + 1,x1,x5,x136000,x136001,x136002,x136003,x136004 => humusref26_Reads.l0 k x1 x5 x136000 x136001 x136002 x136003 x136004
def humusref26_Reads.j4 : Nat → Bool → Option (Bool)
 | 0,_ => none
 | k + 1,x4 => some x4
def humusref26_Reads.j5 : Nat → Nat → Int → Int → Int → List (S89) → List (S124) → List Int → Option (Bool)
 | 0,_,_,_,_,_,_,_ => none
 | k + 1,x1,x5,x136000,x136001,x136002,x136003,x136004 => humusref26_Reads.l0 k x1 x5 x136000 x136001 x136002 x136003 x136004
def humusref26_Reads.j6 : Nat → Bool → Option (Bool)
 | 0,_ => none
 | k + 1,x4 => some x4
end
def humusref26_Reads.f (k : Nat) (a0_0 : Int) (a0_1 : Int) (l0_2 : List (S89)) (l0_3 : List (S124)) (l0_4 : List Int) (a1 : Nat) : Option (Bool):=humusref26_Reads.l0 k a1 0 a0_0 a0_1 l0_2 l0_3 l0_4
set_option maxHeartbeats 8000000 in
set_option maxRecDepth 100000 in
theorem humusref26_Reads.calls (k : Nat) (a0_0 : Int) (a0_1 : Int) (A0_2 : Option Addr) (c0_2 : Nat) (l0_2 : List (S89)) (A0_3 : Option Addr) (c0_3 : Nat) (l0_3 : List (S124)) (A0_4 : Option Addr) (c0_4 : Nat) (l0_4 : List Int) (a1 : Nat) (r : Bool) (w : World) (hr0_2 : Kd.C k89 w A0_2 l0_2.length l0_2) (hc0_2 : l0_2.length ≤ c0_2) (hr0_3 : Kd.C k124 w A0_3 l0_3.length l0_3) (hc0_3 : l0_3.length ≤ c0_3) (hr0_4 : Kd.C (Kd.int .i64) w A0_4 l0_4.length l0_4) (hc0_4 : l0_4.length ≤ c0_4) (h : humusref26_Reads.f k a0_0 a0_1 l0_2 l0_3 l0_4 a1 = some r) :
  Calls Try.prog 19 #[.agg #[.int .i64 a0_0,.int .i64 a0_1,.slice A0_2 l0_2.length c0_2,.slice A0_3 l0_3.length c0_3,.slice A0_4 l0_4.length c0_4],.float .f64 a1] w fun e w' => e = .returned (.bool r) ∧ Below w.heap.size w w':=by
 have hu43:=Try.underlying43
 have hu85:=Try.underlying85
 have HR0_2:=Aside0.mk hr0_2
 have HC0_2:=Aside0.mk hc0_2
 clear hr0_2 hc0_2
 have HR0_3:=Aside0.mk hr0_3
 have HC0_3:=Aside0.mk hc0_3
 clear hr0_3 hc0_3
 have HR0_4:=Aside0.mk hr0_4
 have HC0_4:=Aside0.mk hc0_4
 clear hr0_4 hc0_4
 have HB:=Aside0.mk (Below.refl w.heap.size w)
 have H : (humusref26_Reads.l0 k a1 0 a0_0 a0_1 l0_2 l0_3 l0_4) = some r:=h
 clear h
 have H':=Aside0.mk H
 clear H
 go_enter Try.func19,Try.ntmps19
 go_wp2_with (first | ((with_reducible refine gate_dst (N:=2) rfl ?_);refine box_event ?hg (N:=2) ?hd (cs:=#[.int .i64 a0_0,.int .i64 a0_1,.slice A0_2 l0_2.length c0_2,.slice A0_3 l0_3.length c0_3,.slice A0_4 l0_4.length c0_4]) (t:=43) ?hr ?_;(case hd => rfl);(case hg => rfl);(case hr => first | (go_simp;done) | (go_simp;rfl));intro gb135 hg w3 hbox hb;have n0_:=Aside0.mk (below_step (by repeat (first | (with_reducible first | exact HB.out | apply below_alloc | apply pw_below_drewN | apply below_drew1) | exact HB.out)) hb);have n1_:=Aside0.mk (hbox);have n2_:=Aside0.mk ((by rw [hg];exact (below_size (by repeat (first | (with_reducible first | exact HB.out | apply below_alloc | apply pw_below_drewN | apply below_drew1) | exact HB.out))) : w.heap.size ≤ gb135));have n3_:=Aside0.mk ((by rw [hg];exact (below_size (by repeat (first | (with_reducible first | exact HB.out | apply below_alloc | apply pw_below_drewN | apply below_drew1) | exact HB.out))) : w.heap.size ≤ gb135));clear HB;have HB:=n0_;have BK135:=n1_;have GW135:=n2_;have GE135:=n3_;clear n0_ n1_ n2_ n3_;clear hb hbox hg))
 go_loopg [5] k (fun kq v5 w' => ∃ (x5_1 : Int),v5 = .int .i64 x5_1 ∧ Aside0 (humusref26_Reads.l0 kq a1 x5_1 a0_0 a0_1 l0_2 l0_3 l0_4 = some r) ∧ Aside0 (kq ≤ k) ∧ Aside0 (w'.heap[gb135]? = some (.cells #[.int .i64 a0_0,.int .i64 a0_1,(.slice A0_2 l0_2.length c0_2),(.slice A0_3 l0_3.length c0_3),(.slice A0_4 l0_4.length c0_4)] 43 (0,0))) ∧ Aside0 (Below w.heap.size w w'))
 case atStart => exact ⟨(0),(by first | rfl | (simp;done) | (simp [*];done)),H',⟨Nat.le_refl _⟩,⟨by (with_reducible repeat (first | refine blk_drewN ?_ _ | refine blk_drew ?_ | refine blk_alloc ?_ _));exact BK135.out⟩,⟨by repeat (first | (with_reducible first | exact HB.out | apply below_alloc | apply pw_below_drewN | apply below_drew1 | refine below_set ?_ GE135.out) | exact HB.out)⟩⟩
 case round =>
  clear H'
  try clear c1
  try clear p2
  obtain ⟨x5_1,rfl,HA,HK1,BK135,HB⟩:=hrel
  cases gk with
  | zero => exact absurd HA.out (by simp [humusref26_Reads.l0])
  | succ k1 =>
   have H:=HA.out
   clear HA
   simp only [humusref26_Reads.l0] at H
   by_cases c4 : x5_1 < (l0_2.length : Int)
   ·rw [if_pos c4] at H
    have c4b0 : decide (x5_1 < (l0_2.length : Int)) = true:=decide_eq_true c4
    clear c4
    by_cases c5 : 0 ≤ x5_1
    ·rw [if_pos c5] at H
     have c5b0 : decide (0 ≤ x5_1) = true:=decide_eq_true c5
     clear c5
     have HC6:=Aside0.mk H
     clear H
     obtain ⟨hcz7_0,hcz7_1,hcz7_2,hcz7_3,hcz7_4⟩:=blkc_5 BK135.out
     obtain ⟨hfz7_0,hfz7_1,hfz7_2,hfz7_3,hfz7_4⟩:=blkz_5 BK135.out
     have p136 : 0 ≤ (x5_1 : Int):=of_decide_eq_true (by first | (with_reducible assumption) | assumption)
     have q136 : x5_1 < (l0_2.length : Int):=of_decide_eq_true (by first | (with_reducible assumption) | assumption)
     obtain ⟨ad136,A136_4,c136_4,A136_6,c136_6,A136_9,c136_9,e136,hx136_0,hx136_1,hx136_2,hx136_3,hx136_4,hx136_5,hx136_6,hx136_7,hx136_8,hx136_9,hx136_10,hl136_4,hi136_4,hl136_6,hi136_6,hl136_9,hi136_9⟩:=at_T89 HR0_2.out x5_1 p136 q136
     cases e136
     replace hx136_0:=(HB.out.cell (World.block_lt_of_cell? w _ hx136_0)).trans hx136_0
     replace hx136_1:=(HB.out.cell (World.block_lt_of_cell? w _ hx136_1)).trans hx136_1
     replace hx136_2:=(HB.out.cell (World.block_lt_of_cell? w _ hx136_2)).trans hx136_2
     replace hx136_3:=(HB.out.cell (World.block_lt_of_cell? w _ hx136_3)).trans hx136_3
     replace hx136_4:=(HB.out.cell (World.block_lt_of_cell? w _ hx136_4)).trans hx136_4
     replace hx136_5:=(HB.out.cell (World.block_lt_of_cell? w _ hx136_5)).trans hx136_5
     replace hx136_6:=(HB.out.cell (World.block_lt_of_cell? w _ hx136_6)).trans hx136_6
     replace hx136_7:=(HB.out.cell (World.block_lt_of_cell? w _ hx136_7)).trans hx136_7
     replace hx136_8:=(HB.out.cell (World.block_lt_of_cell? w _ hx136_8)).trans hx136_8
     replace hx136_9:=(HB.out.cell (World.block_lt_of_cell? w _ hx136_9)).trans hx136_9
     replace hx136_10:=(HB.out.cell (World.block_lt_of_cell? w _ hx136_10)).trans hx136_10
     have HR136_4:=Aside0.mk hi136_4
     have HC136_4:=Aside0.mk hl136_4
     clear hi136_4 hl136_4
     have HR136_6:=Aside0.mk hi136_6
     have HC136_6:=Aside0.mk hl136_6
     clear hi136_6 hl136_6
     have HR136_9:=Aside0.mk hi136_9
     have HC136_9:=Aside0.mk hl136_9
     clear hi136_9 hl136_9
     replace p136:=eq_true p136
     replace q136:=eq_true q136
     go_upto_region 5 with (first | ((with_reducible refine gate_dst (N:=6) rfl ?_);refine box_event ?hg (N:=6) ?hd (cs:=#[.int .i64 0,.int .i64 0,.float .f64 0,.float .f64 0,.slice none 0 0,.int .i64 0,.slice none 0 0]) (t:=85) ?hr ?_;(case hd => rfl);(case hg => rfl);(case hr => first | (go_simp;done) | (go_simp;rfl));intro gb137 hg w8 hbox hb;have n0_:=Aside0.mk (blk_below (g:=gb135) (o:=.cells #[.int .i64 a0_0,.int .i64 a0_1,.slice (some ad136) l0_2.length c0_2,.slice A0_3 l0_3.length c0_3,.slice A0_4 l0_4.length c0_4] 43 (0,0)) (by (with_reducible repeat (first | refine blk_drewN ?_ _ | refine blk_drew ?_ | refine blk_alloc ?_ _));exact BK135.out) hb);have n1_:=Aside0.mk (below_step (by repeat (first | (with_reducible first | exact HB.out | apply below_alloc | apply pw_below_drewN | apply below_drew1 | refine below_set ?_ GE135.out) | exact HB.out)) hb);have n2_:=Aside0.mk (hbox);have n3_:=Aside0.mk ((by rw [hg];exact (below_size (by repeat (first | (with_reducible first | exact HB.out | apply below_alloc | apply pw_below_drewN | apply below_drew1 | refine below_set ?_ GE135.out) | exact HB.out))) : w.heap.size ≤ gb137));have n4_:=Aside0.mk ((by rw [hg];exact (below_size (by repeat (first | (with_reducible first | exact HB.out | apply below_alloc | apply pw_below_drewN | apply below_drew1 | refine below_set ?_ GE135.out) | exact HB.out))) : w.heap.size ≤ gb137));have n5_:=Aside0.mk ((by rw [hg];exact Nat.ne_of_lt (blk_lt (g:=gb135) (o:=.cells #[.int .i64 a0_0,.int .i64 a0_1,.slice (some ad136) l0_2.length c0_2,.slice A0_3 l0_3.length c0_3,.slice A0_4 l0_4.length c0_4] 43 (0,0)) (by (with_reducible repeat (first | refine blk_drewN ?_ _ | refine blk_drew ?_ | refine blk_alloc ?_ _));exact BK135.out)) : gb135 ≠ gb137));have n6_:=Aside0.mk ((by rw [hg];exact Nat.ne_of_gt (blk_lt (g:=gb135) (o:=.cells #[.int .i64 a0_0,.int .i64 a0_1,.slice (some ad136) l0_2.length c0_2,.slice A0_3 l0_3.length c0_3,.slice A0_4 l0_4.length c0_4] 43 (0,0)) (by (with_reducible repeat (first | refine blk_drewN ?_ _ | refine blk_drew ?_ | refine blk_alloc ?_ _));exact BK135.out)) : gb137 ≠ gb135));clear BK135;clear HB;have BK135:=n0_;have HB:=n1_;have BK137:=n2_;have GW137:=n3_;have GE137:=n4_;have NB135_137:=n5_;have NB137_135:=n6_;clear n0_ n1_ n2_ n3_ n4_ n5_ n6_;clear hb hbox hg;have hnb9:=NB137_135.out;have hnc9:=NB135_137.out;obtain ⟨hcz10_0,hcz10_1,hcz10_2,hcz10_3,hcz10_4,hcz10_5,hcz10_6⟩:=blkc_7 BK137.out;obtain ⟨hfz10_0,hfz10_1,hfz10_2,hfz10_3,hfz10_4,hfz10_5⟩:=blkz_6 BK137.out;have hfz10_6:=blk_frozen BK137.out 6))
     (try simp only [Act.put,List.setIfInBounds_toArray,List.set_cons_zero,List.set_cons_succ])
     go_cut [7] (fun v7 wc => ∃ (kq : Nat) (x7_5 : Bool),v7 = .bool x7_5 ∧ Aside0 (humusref26_Reads.j1 kq a1 x5_1 x7_5 a0_0 a0_1 l0_2 l0_3 l0_4 ((rd_T89 l0_2 x5_1).f0.f0) ((rd_T89 l0_2 x5_1).f0.f1) ((rd_T89 l0_2 x5_1).f0.f2) ((rd_T89 l0_2 x5_1).f0.f3) ((rd_T89 l0_2 x5_1).f0.f4) ((rd_T89 l0_2 x5_1).f0.f5) ((rd_T89 l0_2 x5_1).f0.f6) = some r) ∧ Aside0 (kq ≤ k1) ∧ Aside0 (wc.heap[gb135]? = some (.cells #[.int .i64 a0_0,.int .i64 a0_1,(.slice (some ad136) l0_2.length c0_2),(.slice A0_3 l0_3.length c0_3),(.slice A0_4 l0_4.length c0_4)] 43 (0,0))) ∧ Aside0 (wc.heap[gb137]? = some (.cells #[.int .i64 ((rd_T89 l0_2 x5_1).f0.f0),.int .i64 ((rd_T89 l0_2 x5_1).f0.f1),.float .f64 ((rd_T89 l0_2 x5_1).f0.f2),.float .f64 ((rd_T89 l0_2 x5_1).f0.f3),(.slice A136_4 ((rd_T89 l0_2 x5_1).f0.f4).length c136_4),.int .i64 ((rd_T89 l0_2 x5_1).f0.f5),(.slice A136_6 ((rd_T89 l0_2 x5_1).f0.f6).length c136_6)] 85 (0,0))) ∧ Aside0 (Below w.heap.size w wc))
     case first =>
      have H:=HC6.out
      clear HC6
      by_cases c11 : ((rd_T89 l0_2 x5_1).f0.f0) = 2
      ·rw [if_pos c11] at H
       have c11b0 : (((rd_T89 l0_2 x5_1).f0.f0) == 2) = true:=beq_iff_eq.mpr c11
       have c11b1 : (((rd_T89 l0_2 x5_1).f0.f0) != 2) = false:=bne_eq_false_iff_eq.mpr c11
       clear c11
       (first | rw [c11b0] | (simp only [i64_w,i32_w];rw [c11b0]) | skip)
       have H':=Aside0.mk H
       clear H
       have hnb12:=NB137_135.out
       have hnc12:=NB135_137.out
       obtain ⟨hcz13_0,hcz13_1,hcz13_2,hcz13_3,hcz13_4,hcz13_5,hcz13_6⟩:=blkc_7 BK137.out
       obtain ⟨hfz13_0,hfz13_1,hfz13_2,hfz13_3,hfz13_4,hfz13_5,hfz13_6⟩:=blkz_7 BK137.out
       go_wp2
       go_meet
       case rel => exact ⟨_,(true),(by first | rfl | (simp;done) | (simp [*];done)),H',⟨by have:=HK1.out;first | omega | exact Nat.le_refl _⟩,⟨by (with_reducible repeat (first | refine blk_drewN ?_ _ | refine blk_drew ?_ | refine blk_alloc ?_ _));refine blk_far ?_ NB135_137.out _;(with_reducible repeat (first | refine blk_drewN ?_ _ | refine blk_drew ?_ | refine blk_alloc ?_ _));refine blk_far ?_ NB135_137.out _;(with_reducible repeat (first | refine blk_drewN ?_ _ | refine blk_drew ?_ | refine blk_alloc ?_ _));refine blk_far ?_ NB135_137.out _;(with_reducible repeat (first | refine blk_drewN ?_ _ | refine blk_drew ?_ | refine blk_alloc ?_ _));refine blk_far ?_ NB135_137.out _;(with_reducible repeat (first | refine blk_drewN ?_ _ | refine blk_drew ?_ | refine blk_alloc ?_ _));refine blk_far ?_ NB135_137.out _;(with_reducible repeat (first | refine blk_drewN ?_ _ | refine blk_drew ?_ | refine blk_alloc ?_ _));refine blk_far ?_ NB135_137.out _;(with_reducible repeat (first | refine blk_drewN ?_ _ | refine blk_drew ?_ | refine blk_alloc ?_ _));refine blk_far ?_ NB135_137.out _;(with_reducible repeat (first | refine blk_drewN ?_ _ | refine blk_drew ?_ | refine blk_alloc ?_ _));exact BK135.out⟩,⟨by (with_reducible repeat (first | refine blk_drewN ?_ _ | refine blk_drew ?_ | refine blk_alloc ?_ _));apply blkf_7_0_6;(with_reducible repeat (first | refine blk_drewN ?_ _ | refine blk_drew ?_ | refine blk_alloc ?_ _));exact BK137.out⟩,⟨by repeat (first | (with_reducible first | exact HB.out | apply below_alloc | apply pw_below_drewN | apply below_drew1 | refine below_set ?_ GE135.out | refine below_set ?_ GE137.out) | exact HB.out)⟩⟩
      ·rw [if_neg c11] at H
       have c11b0 : (((rd_T89 l0_2 x5_1).f0.f0) == 2) = false:=beq_eq_false_iff_ne.mpr c11
       have c11b1 : (((rd_T89 l0_2 x5_1).f0.f0) != 2) = true:=bne_iff_ne.mpr c11
       (first | rw [c11b0] | (simp only [i64_w,i32_w];rw [c11b0]) | skip)
       by_cases c14 : ((rd_T89 l0_2 x5_1).f0.f0) = 5
       ·rw [if_pos c14] at H
        have c14b0 : (((rd_T89 l0_2 x5_1).f0.f0) == 5) = true:=beq_iff_eq.mpr c14
        have c14b1 : (((rd_T89 l0_2 x5_1).f0.f0) != 5) = false:=bne_eq_false_iff_eq.mpr c14
        clear c14
        have H':=Aside0.mk H
        clear H
        have hnb15:=NB137_135.out
        have hnc15:=NB135_137.out
        obtain ⟨hcz16_0,hcz16_1,hcz16_2,hcz16_3,hcz16_4,hcz16_5,hcz16_6⟩:=blkc_7 BK137.out
        obtain ⟨hfz16_0,hfz16_1,hfz16_2,hfz16_3,hfz16_4,hfz16_5,hfz16_6⟩:=blkz_7 BK137.out
        go_wp2
        go_meet
        case rel => exact ⟨_,(true),(by first | rfl | (simp;done) | (simp [*];done)),H',⟨by have:=HK1.out;first | omega | exact Nat.le_refl _⟩,⟨by (with_reducible repeat (first | refine blk_drewN ?_ _ | refine blk_drew ?_ | refine blk_alloc ?_ _));refine blk_far ?_ NB135_137.out _;(with_reducible repeat (first | refine blk_drewN ?_ _ | refine blk_drew ?_ | refine blk_alloc ?_ _));refine blk_far ?_ NB135_137.out _;(with_reducible repeat (first | refine blk_drewN ?_ _ | refine blk_drew ?_ | refine blk_alloc ?_ _));refine blk_far ?_ NB135_137.out _;(with_reducible repeat (first | refine blk_drewN ?_ _ | refine blk_drew ?_ | refine blk_alloc ?_ _));refine blk_far ?_ NB135_137.out _;(with_reducible repeat (first | refine blk_drewN ?_ _ | refine blk_drew ?_ | refine blk_alloc ?_ _));refine blk_far ?_ NB135_137.out _;(with_reducible repeat (first | refine blk_drewN ?_ _ | refine blk_drew ?_ | refine blk_alloc ?_ _));refine blk_far ?_ NB135_137.out _;(with_reducible repeat (first | refine blk_drewN ?_ _ | refine blk_drew ?_ | refine blk_alloc ?_ _));refine blk_far ?_ NB135_137.out _;(with_reducible repeat (first | refine blk_drewN ?_ _ | refine blk_drew ?_ | refine blk_alloc ?_ _));exact BK135.out⟩,⟨by (with_reducible repeat (first | refine blk_drewN ?_ _ | refine blk_drew ?_ | refine blk_alloc ?_ _));apply blkf_7_0_6;(with_reducible repeat (first | refine blk_drewN ?_ _ | refine blk_drew ?_ | refine blk_alloc ?_ _));exact BK137.out⟩,⟨by repeat (first | (with_reducible first | exact HB.out | apply below_alloc | apply pw_below_drewN | apply below_drew1 | refine below_set ?_ GE135.out | refine below_set ?_ GE137.out) | exact HB.out)⟩⟩
       ·rw [if_neg c14] at H
        have c14b0 : (((rd_T89 l0_2 x5_1).f0.f0) == 5) = false:=beq_eq_false_iff_ne.mpr c14
        have c14b1 : (((rd_T89 l0_2 x5_1).f0.f0) != 5) = true:=bne_iff_ne.mpr c14
        have H':=Aside0.mk H
        clear H
        have hnb17:=NB137_135.out
        have hnc17:=NB135_137.out
        obtain ⟨hcz18_0,hcz18_1,hcz18_2,hcz18_3,hcz18_4,hcz18_5,hcz18_6⟩:=blkc_7 BK137.out
        obtain ⟨hfz18_0,hfz18_1,hfz18_2,hfz18_3,hfz18_4,hfz18_5,hfz18_6⟩:=blkz_7 BK137.out
        go_wp2
        go_meet
        case rel => exact ⟨_,((((rd_T89 l0_2 x5_1).f0.f0) == 6)),(by first | rfl | (simp;done) | (simp [*];done)),H',⟨by have:=HK1.out;first | omega | exact Nat.le_refl _⟩,⟨by (with_reducible repeat (first | refine blk_drewN ?_ _ | refine blk_drew ?_ | refine blk_alloc ?_ _));refine blk_far ?_ NB135_137.out _;(with_reducible repeat (first | refine blk_drewN ?_ _ | refine blk_drew ?_ | refine blk_alloc ?_ _));refine blk_far ?_ NB135_137.out _;(with_reducible repeat (first | refine blk_drewN ?_ _ | refine blk_drew ?_ | refine blk_alloc ?_ _));refine blk_far ?_ NB135_137.out _;(with_reducible repeat (first | refine blk_drewN ?_ _ | refine blk_drew ?_ | refine blk_alloc ?_ _));refine blk_far ?_ NB135_137.out _;(with_reducible repeat (first | refine blk_drewN ?_ _ | refine blk_drew ?_ | refine blk_alloc ?_ _));refine blk_far ?_ NB135_137.out _;(with_reducible repeat (first | refine blk_drewN ?_ _ | refine blk_drew ?_ | refine blk_alloc ?_ _));refine blk_far ?_ NB135_137.out _;(with_reducible repeat (first | refine blk_drewN ?_ _ | refine blk_drew ?_ | refine blk_alloc ?_ _));refine blk_far ?_ NB135_137.out _;(with_reducible repeat (first | refine blk_drewN ?_ _ | refine blk_drew ?_ | refine blk_alloc ?_ _));exact BK135.out⟩,⟨by (with_reducible repeat (first | refine blk_drewN ?_ _ | refine blk_drew ?_ | refine blk_alloc ?_ _));apply blkf_7_0_6;(with_reducible repeat (first | refine blk_drewN ?_ _ | refine blk_drew ?_ | refine blk_alloc ?_ _));exact BK137.out⟩,⟨by repeat (first | (with_reducible first | exact HB.out | apply below_alloc | apply pw_below_drewN | apply below_drew1 | refine below_set ?_ GE135.out | refine below_set ?_ GE137.out) | exact HB.out)⟩⟩
     case rest =>
      clear HC6
      try clear c1
      try clear p1
      try clear q1
      try clear hx1
      try clear p2
      try clear c4
      try clear c4b0
      try clear c5
      try clear c5b0
      try clear c9
      try clear c11
      try clear c11b0
      try clear c11b1
      try clear c12
      try clear c13
      try clear p13
      try clear q13
      try clear hx13
      try clear c14
      try clear c14b0
      try clear c14b1
      try clear c15
      try clear c17
      try clear hcz10_0
      try clear hcz10_1
      try clear hcz10_2
      try clear hcz10_3
      try clear hcz10_4
      try clear hcz10_5
      try clear hcz10_6
      try clear hcz13_0
      try clear hcz13_1
      try clear hcz13_2
      try clear hcz13_3
      try clear hcz13_4
      try clear hcz13_5
      try clear hcz13_6
      try clear hcz16_0
      try clear hcz16_1
      try clear hcz16_2
      try clear hcz16_3
      try clear hcz16_4
      try clear hcz16_5
      try clear hcz16_6
      try clear hcz18_0
      try clear hcz18_1
      try clear hcz18_2
      try clear hcz18_3
      try clear hcz18_4
      try clear hcz18_5
      try clear hcz18_6
      try clear hcz7_0
      try clear hcz7_1
      try clear hcz7_2
      try clear hcz7_3
      try clear hcz7_4
      try clear hfz10_0
      try clear hfz10_1
      try clear hfz10_2
      try clear hfz10_3
      try clear hfz10_4
      try clear hfz10_5
      try clear hfz10_6
      try clear hfz13_0
      try clear hfz13_1
      try clear hfz13_2
      try clear hfz13_3
      try clear hfz13_4
      try clear hfz13_5
      try clear hfz13_6
      try clear hfz16_0
      try clear hfz16_1
      try clear hfz16_2
      try clear hfz16_3
      try clear hfz16_4
      try clear hfz16_5
      try clear hfz16_6
      try clear hfz18_0
      try clear hfz18_1
      try clear hfz18_2
      try clear hfz18_3
      try clear hfz18_4
      try clear hfz18_5
      try clear hfz18_6
      try clear hfz7_0
      try clear hfz7_1
      try clear hfz7_2
      try clear hfz7_3
      try clear hfz7_4
      try clear hx136_0
      try clear hx136_1
      try clear hx136_10
      try clear hx136_2
      try clear hx136_3
      try clear hx136_4
      try clear hx136_5
      try clear hx136_6
      try clear hx136_7
      try clear hx136_8
      try clear hx136_9
      try clear p136
      try clear p2
      try clear q136
      obtain ⟨kq,x7_5,rfl,HA,HJ5,BK135,BK137,HB⟩:=hcut
      cases kq with
      | zero => exact absurd HA.out (by simp [humusref26_Reads.j1])
      | succ kj5 =>
       have H:=HA.out
       clear HA
       simp only [humusref26_Reads.j1] at H
       by_cases c19 : x7_5 = true
       ·subst c19
        have H1 : ((humusref01_Alike.f ((rd_T89 l0_2 x5_1).f0.f2) a1).bind fun t138 => (if t138 = true then (humusref26_Reads.j2 kj5 true) else (if ((rd_T89 l0_2 x5_1).f0.f0) = 3 then ((humusref01_Less.f a1 ((rd_T89 l0_2 x5_1).f0.f2)).bind fun t139 => (if t139 = true then (humusref26_Reads.j3 kj5 a1 (wrap64 (x5_1 + 1)) a0_0 a0_1 l0_2 l0_3 l0_4) else ((humusref01_Less.f a1 ((rd_T89 l0_2 x5_1).f0.f3)).bind fun t140 => (if t140 = true then (humusref26_Reads.j4 kj5 true) else (humusref26_Reads.l0 kj5 a1 (wrap64 (x5_1 + 1)) a0_0 a0_1 l0_2 l0_3 l0_4))))) else (humusref26_Reads.l0 kj5 a1 (wrap64 (x5_1 + 1)) a0_0 a0_1 l0_2 l0_3 l0_4)))) = some r:=by rw [if_pos rfl] at H;exact H
        clear H
        have H:=H1
        clear H1
        replace H:=Option.bind_eq_some_iff.mp H
        obtain ⟨t138,A200,H⟩:=H
        replace H : (if t138 = true then (humusref26_Reads.j2 kj5 true) else (if ((rd_T89 l0_2 x5_1).f0.f0) = 3 then ((humusref01_Less.f a1 ((rd_T89 l0_2 x5_1).f0.f2)).bind fun t139 => (if t139 = true then (humusref26_Reads.j3 kj5 a1 (wrap64 (x5_1 + 1)) a0_0 a0_1 l0_2 l0_3 l0_4) else ((humusref01_Less.f a1 ((rd_T89 l0_2 x5_1).f0.f3)).bind fun t140 => (if t140 = true then (humusref26_Reads.j4 kj5 true) else (humusref26_Reads.l0 kj5 a1 (wrap64 (x5_1 + 1)) a0_0 a0_1 l0_2 l0_3 l0_4))))) else (humusref26_Reads.l0 kj5 a1 (wrap64 (x5_1 + 1)) a0_0 a0_1 l0_2 l0_3 l0_4))) = some r:=H
        have A20:=Aside0.mk A200
        clear A200
        by_cases c21 : t138 = true
        ·subst c21
         have H1 : (humusref26_Reads.j2 kj5 true) = some r:=by rw [if_pos rfl] at H;exact H
         clear H
         have H:=H1
         clear H1
         have HC22:=Aside0.mk H
         clear H
         have hnb23:=NB137_135.out
         have hnc23:=NB135_137.out
         obtain ⟨hcz24_0,hcz24_1,hcz24_2,hcz24_3,hcz24_4,hcz24_5,hcz24_6⟩:=blkc_7 BK137.out
         obtain ⟨hfz24_0,hfz24_1,hfz24_2,hfz24_3,hfz24_4,hfz24_5,hfz24_6⟩:=blkz_7 BK137.out
         go_upto_region 7 with (first | (go_at_call 49;(with_reducible refine (humusref01_Alike.calls ((rd_T89 l0_2 x5_1).f0.f2) a1 true _ A20.out).mono ?_);rintro e w' ⟨rfl,⟨nd,rfl⟩⟩))
         (try simp only [Act.put,List.setIfInBounds_toArray,List.set_cons_zero,List.set_cons_succ])
         go_cut [4] (fun v4 wc => ∃ (kq : Nat) (x4_21 : Bool),v4 = .bool x4_21 ∧ Aside0 (humusref26_Reads.j2 kq x4_21 = some r) ∧ Aside0 (kq ≤ kj5) ∧ Aside0 (wc.heap[gb135]? = some (.cells #[.int .i64 a0_0,.int .i64 a0_1,(.slice (some ad136) l0_2.length c0_2),(.slice A0_3 l0_3.length c0_3),(.slice A0_4 l0_4.length c0_4)] 43 (0,0))) ∧ Aside0 (wc.heap[gb137]? = some (.cells #[.int .i64 ((rd_T89 l0_2 x5_1).f0.f0),.int .i64 ((rd_T89 l0_2 x5_1).f0.f1),.float .f64 ((rd_T89 l0_2 x5_1).f0.f2),.float .f64 ((rd_T89 l0_2 x5_1).f0.f3),(.slice A136_4 ((rd_T89 l0_2 x5_1).f0.f4).length c136_4),.int .i64 ((rd_T89 l0_2 x5_1).f0.f5),(.slice A136_6 ((rd_T89 l0_2 x5_1).f0.f6).length c136_6)] 85 (0,0))) ∧ Aside0 (Below w.heap.size w wc))
         case first =>
          have H:=HC22.out
          clear HC22
          have H':=Aside0.mk H
          clear H
          go_wp2
          go_meet
          case rel => exact ⟨_,(true),(by first | rfl | (simp;done) | (simp [*];done)),H',⟨by have:=HK1.out;have:=HJ5.out;first | omega | exact Nat.le_refl _⟩,⟨by (with_reducible repeat (first | refine blk_drewN ?_ _ | refine blk_drew ?_ | refine blk_alloc ?_ _));exact BK135.out⟩,⟨by (with_reducible repeat (first | refine blk_drewN ?_ _ | refine blk_drew ?_ | refine blk_alloc ?_ _));exact BK137.out⟩,⟨by repeat (first | (with_reducible first | exact HB.out | apply below_alloc | apply pw_below_drewN | apply below_drew1 | refine below_set ?_ GE135.out | refine below_set ?_ GE137.out) | exact HB.out)⟩⟩
         case rest =>
          clear HC22
          try clear c1
          try clear p1
          try clear q1
          try clear hx1
          try clear c2
          try clear p2
          try clear c4
          try clear c4b0
          try clear c5
          try clear c5b0
          try clear p6
          try clear c9
          try clear c11
          try clear c11b0
          try clear c11b1
          try clear c12
          try clear c13
          try clear p13
          try clear q13
          try clear hx13
          try clear c14
          try clear c14b0
          try clear c14b1
          try clear c15
          try clear c17
          try clear c19
          try clear c21
          try clear c23
          try clear hcz10_0
          try clear hcz10_1
          try clear hcz10_2
          try clear hcz10_3
          try clear hcz10_4
          try clear hcz10_5
          try clear hcz10_6
          try clear hcz13_0
          try clear hcz13_1
          try clear hcz13_2
          try clear hcz13_3
          try clear hcz13_4
          try clear hcz13_5
          try clear hcz13_6
          try clear hcz16_0
          try clear hcz16_1
          try clear hcz16_2
          try clear hcz16_3
          try clear hcz16_4
          try clear hcz16_5
          try clear hcz16_6
          try clear hcz18_0
          try clear hcz18_1
          try clear hcz18_2
          try clear hcz18_3
          try clear hcz18_4
          try clear hcz18_5
          try clear hcz18_6
          try clear hcz24_0
          try clear hcz24_1
          try clear hcz24_2
          try clear hcz24_3
          try clear hcz24_4
          try clear hcz24_5
          try clear hcz24_6
          try clear hcz7_0
          try clear hcz7_1
          try clear hcz7_2
          try clear hcz7_3
          try clear hcz7_4
          try clear hfz10_0
          try clear hfz10_1
          try clear hfz10_2
          try clear hfz10_3
          try clear hfz10_4
          try clear hfz10_5
          try clear hfz10_6
          try clear hfz13_0
          try clear hfz13_1
          try clear hfz13_2
          try clear hfz13_3
          try clear hfz13_4
          try clear hfz13_5
          try clear hfz13_6
          try clear hfz16_0
          try clear hfz16_1
          try clear hfz16_2
          try clear hfz16_3
          try clear hfz16_4
          try clear hfz16_5
          try clear hfz16_6
          try clear hfz18_0
          try clear hfz18_1
          try clear hfz18_2
          try clear hfz18_3
          try clear hfz18_4
          try clear hfz18_5
          try clear hfz18_6
          try clear hfz24_0
          try clear hfz24_1
          try clear hfz24_2
          try clear hfz24_3
          try clear hfz24_4
          try clear hfz24_5
          try clear hfz24_6
          try clear hfz7_0
          try clear hfz7_1
          try clear hfz7_2
          try clear hfz7_3
          try clear hfz7_4
          try clear hx136_0
          try clear hx136_1
          try clear hx136_10
          try clear hx136_2
          try clear hx136_3
          try clear hx136_4
          try clear hx136_5
          try clear hx136_6
          try clear hx136_7
          try clear hx136_8
          try clear hx136_9
          try clear p1
          try clear p13
          try clear p136
          try clear p2
          try clear q1
          try clear q13
          try clear q136
          obtain ⟨kq,x4_21,rfl,HA,HJ21,BK135,BK137,HB⟩:=hcut
          cases kq with
          | zero => exact absurd HA.out (by simp [humusref26_Reads.j2])
          | succ kj21 =>
           have H:=HA.out
           clear HA
           simp only [humusref26_Reads.j2] at H
           obtain rfl:=Option.some.inj H
           go_wp2
           go_ret
           exact ⟨by first | rfl | (simp [errW_none,errW_some] <;> rfl) | (simp [*,errW_none,errW_some] <;> rfl),by repeat (first | (with_reducible first | exact HB.out | apply below_alloc | apply pw_below_drewN | apply below_drew1 | refine below_set ?_ GE135.out | refine below_set ?_ GE137.out) | exact HB.out)⟩
        ·replace c21:=Bool.eq_false_iff.mpr c21
         subst c21
         have H1 : (if ((rd_T89 l0_2 x5_1).f0.f0) = 3 then ((humusref01_Less.f a1 ((rd_T89 l0_2 x5_1).f0.f2)).bind fun t139 => (if t139 = true then (humusref26_Reads.j3 kj5 a1 (wrap64 (x5_1 + 1)) a0_0 a0_1 l0_2 l0_3 l0_4) else ((humusref01_Less.f a1 ((rd_T89 l0_2 x5_1).f0.f3)).bind fun t140 => (if t140 = true then (humusref26_Reads.j4 kj5 true) else (humusref26_Reads.l0 kj5 a1 (wrap64 (x5_1 + 1)) a0_0 a0_1 l0_2 l0_3 l0_4))))) else (humusref26_Reads.l0 kj5 a1 (wrap64 (x5_1 + 1)) a0_0 a0_1 l0_2 l0_3 l0_4)) = some r:=by rw [if_neg (show ¬ (false = true) by decide)] at H;exact H
         clear H
         have H:=H1
         clear H1
         by_cases c25 : ((rd_T89 l0_2 x5_1).f0.f0) = 3
         ·rw [if_pos c25] at H
          have c25b0 : (((rd_T89 l0_2 x5_1).f0.f0) == 3) = true:=beq_iff_eq.mpr c25
          have c25b1 : (((rd_T89 l0_2 x5_1).f0.f0) != 3) = false:=bne_eq_false_iff_eq.mpr c25
          clear c25
          replace H:=Option.bind_eq_some_iff.mp H
          obtain ⟨t139,A260,H⟩:=H
          replace H : (if t139 = true then (humusref26_Reads.j3 kj5 a1 (wrap64 (x5_1 + 1)) a0_0 a0_1 l0_2 l0_3 l0_4) else ((humusref01_Less.f a1 ((rd_T89 l0_2 x5_1).f0.f3)).bind fun t140 => (if t140 = true then (humusref26_Reads.j4 kj5 true) else (humusref26_Reads.l0 kj5 a1 (wrap64 (x5_1 + 1)) a0_0 a0_1 l0_2 l0_3 l0_4)))) = some r:=H
          have A26:=Aside0.mk A260
          clear A260
          by_cases c27 : t139 = true
          ·subst c27
           have H1 : (humusref26_Reads.j3 kj5 a1 (wrap64 (x5_1 + 1)) a0_0 a0_1 l0_2 l0_3 l0_4) = some r:=by rw [if_pos rfl] at H;exact H
           clear H
           have H:=H1
           clear H1
           have HC28:=Aside0.mk H
           clear H
           have hnb29:=NB137_135.out
           have hnc29:=NB135_137.out
           obtain ⟨hcz30_0,hcz30_1,hcz30_2,hcz30_3,hcz30_4,hcz30_5,hcz30_6⟩:=blkc_7 BK137.out
           obtain ⟨hfz30_0,hfz30_1,hfz30_2,hfz30_3,hfz30_4,hfz30_5,hfz30_6⟩:=blkz_7 BK137.out
           go_upto_region 3 with (first | (go_at_call 49;(with_reducible refine (humusref01_Alike.calls ((rd_T89 l0_2 x5_1).f0.f2) a1 false _ A20.out).mono ?_);rintro e w' ⟨rfl,⟨nd,rfl⟩⟩) | (go_at_call 50;(with_reducible refine (humusref01_Less.calls a1 ((rd_T89 l0_2 x5_1).f0.f2) true _ A26.out).mono ?_);rintro e w' ⟨rfl,⟨nd,rfl⟩⟩))
           (try simp only [Act.put,List.setIfInBounds_toArray,List.set_cons_zero,List.set_cons_succ])
           go_cut [5] (fun v5 wc => ∃ (kq : Nat) (x5_27 : Int),v5 = .int .i64 x5_27 ∧ Aside0 (humusref26_Reads.j3 kq a1 x5_27 a0_0 a0_1 l0_2 l0_3 l0_4 = some r) ∧ Aside0 (kq ≤ kj5) ∧ Aside0 (wc.heap[gb135]? = some (.cells #[.int .i64 a0_0,.int .i64 a0_1,(.slice (some ad136) l0_2.length c0_2),(.slice A0_3 l0_3.length c0_3),(.slice A0_4 l0_4.length c0_4)] 43 (0,0))) ∧ Aside0 (wc.heap[gb137]? = some (.cells #[.int .i64 ((rd_T89 l0_2 x5_1).f0.f0),.int .i64 ((rd_T89 l0_2 x5_1).f0.f1),.float .f64 ((rd_T89 l0_2 x5_1).f0.f2),.float .f64 ((rd_T89 l0_2 x5_1).f0.f3),(.slice A136_4 ((rd_T89 l0_2 x5_1).f0.f4).length c136_4),.int .i64 ((rd_T89 l0_2 x5_1).f0.f5),(.slice A136_6 ((rd_T89 l0_2 x5_1).f0.f6).length c136_6)] 85 (0,0))) ∧ Aside0 (Below w.heap.size w wc))
           case first =>
            have H:=HC28.out
            clear HC28
            have H':=Aside0.mk H
            clear H
            go_wp2
            go_meet
            case rel => exact ⟨_,(wrap64 (x5_1 + 1)),(by first | rfl | (simp;done) | (simp [*];done)),H',⟨by have:=HK1.out;have:=HJ5.out;first | omega | exact Nat.le_refl _⟩,⟨by (with_reducible repeat (first | refine blk_drewN ?_ _ | refine blk_drew ?_ | refine blk_alloc ?_ _));exact BK135.out⟩,⟨by (with_reducible repeat (first | refine blk_drewN ?_ _ | refine blk_drew ?_ | refine blk_alloc ?_ _));exact BK137.out⟩,⟨by repeat (first | (with_reducible first | exact HB.out | apply below_alloc | apply pw_below_drewN | apply below_drew1 | refine below_set ?_ GE135.out | refine below_set ?_ GE137.out) | exact HB.out)⟩⟩
           case rest =>
            clear HC28
            try clear c1
            try clear p1
            try clear q1
            try clear hx1
            try clear c2
            try clear p2
            try clear c4
            try clear c4b0
            try clear c5
            try clear c5b0
            try clear p6
            try clear c9
            try clear c11
            try clear c11b0
            try clear c11b1
            try clear c12
            try clear c13
            try clear p13
            try clear q13
            try clear hx13
            try clear c14
            try clear c14b0
            try clear c14b1
            try clear c15
            try clear c17
            try clear c19
            try clear c21
            try clear c23
            try clear c25
            try clear c25b0
            try clear c25b1
            try clear c27
            try clear c29
            try clear hcz10_0
            try clear hcz10_1
            try clear hcz10_2
            try clear hcz10_3
            try clear hcz10_4
            try clear hcz10_5
            try clear hcz10_6
            try clear hcz13_0
            try clear hcz13_1
            try clear hcz13_2
            try clear hcz13_3
            try clear hcz13_4
            try clear hcz13_5
            try clear hcz13_6
            try clear hcz16_0
            try clear hcz16_1
            try clear hcz16_2
            try clear hcz16_3
            try clear hcz16_4
            try clear hcz16_5
            try clear hcz16_6
            try clear hcz18_0
            try clear hcz18_1
            try clear hcz18_2
            try clear hcz18_3
            try clear hcz18_4
            try clear hcz18_5
            try clear hcz18_6
            try clear hcz24_0
            try clear hcz24_1
            try clear hcz24_2
            try clear hcz24_3
            try clear hcz24_4
            try clear hcz24_5
            try clear hcz24_6
            try clear hcz30_0
            try clear hcz30_1
            try clear hcz30_2
            try clear hcz30_3
            try clear hcz30_4
            try clear hcz30_5
            try clear hcz30_6
            try clear hcz7_0
            try clear hcz7_1
            try clear hcz7_2
            try clear hcz7_3
            try clear hcz7_4
            try clear hfz10_0
            try clear hfz10_1
            try clear hfz10_2
            try clear hfz10_3
            try clear hfz10_4
            try clear hfz10_5
            try clear hfz10_6
            try clear hfz13_0
            try clear hfz13_1
            try clear hfz13_2
            try clear hfz13_3
            try clear hfz13_4
            try clear hfz13_5
            try clear hfz13_6
            try clear hfz16_0
            try clear hfz16_1
            try clear hfz16_2
            try clear hfz16_3
            try clear hfz16_4
            try clear hfz16_5
            try clear hfz16_6
            try clear hfz18_0
            try clear hfz18_1
            try clear hfz18_2
            try clear hfz18_3
            try clear hfz18_4
            try clear hfz18_5
            try clear hfz18_6
            try clear hfz24_0
            try clear hfz24_1
            try clear hfz24_2
            try clear hfz24_3
            try clear hfz24_4
            try clear hfz24_5
            try clear hfz24_6
            try clear hfz30_0
            try clear hfz30_1
            try clear hfz30_2
            try clear hfz30_3
            try clear hfz30_4
            try clear hfz30_5
            try clear hfz30_6
            try clear hfz7_0
            try clear hfz7_1
            try clear hfz7_2
            try clear hfz7_3
            try clear hfz7_4
            try clear hx136_0
            try clear hx136_1
            try clear hx136_10
            try clear hx136_2
            try clear hx136_3
            try clear hx136_4
            try clear hx136_5
            try clear hx136_6
            try clear hx136_7
            try clear hx136_8
            try clear hx136_9
            try clear p1
            try clear p13
            try clear p136
            try clear p2
            try clear p6
            try clear q1
            try clear q13
            try clear q136
            obtain ⟨kq,x5_27,rfl,HA,HJ27,BK135,BK137,HB⟩:=hcut
            cases kq with
            | zero => exact absurd HA.out (by simp [humusref26_Reads.j3])
            | succ kj27 =>
             have H:=HA.out
             clear HA
             simp only [humusref26_Reads.j3] at H
             have H':=Aside0.mk H
             clear H
             go_wp2
             go_roundg kj27
             case measure => have:=HK1.out;have:=HJ5.out;have:=HJ27.out;omega
             case rel => exact ⟨(x5_27),(by first | rfl | (simp;done) | (simp [*];done)),H',⟨by have:=HK1.out;have:=HJ5.out;have:=HJ27.out;omega⟩,⟨by (with_reducible repeat (first | refine blk_drewN ?_ _ | refine blk_drew ?_ | refine blk_alloc ?_ _));exact BK135.out⟩,⟨by repeat (first | (with_reducible first | exact HB.out | apply below_alloc | apply pw_below_drewN | apply below_drew1 | refine below_set ?_ GE135.out | refine below_set ?_ GE137.out) | exact HB.out)⟩⟩
          ·replace c27:=Bool.eq_false_iff.mpr c27
           subst c27
           have H1 : ((humusref01_Less.f a1 ((rd_T89 l0_2 x5_1).f0.f3)).bind fun t140 => (if t140 = true then (humusref26_Reads.j4 kj5 true) else (humusref26_Reads.l0 kj5 a1 (wrap64 (x5_1 + 1)) a0_0 a0_1 l0_2 l0_3 l0_4))) = some r:=by rw [if_neg (show ¬ (false = true) by decide)] at H;exact H
           clear H
           have H:=H1
           clear H1
           replace H:=Option.bind_eq_some_iff.mp H
           obtain ⟨t140,A310,H⟩:=H
           replace H : (if t140 = true then (humusref26_Reads.j4 kj5 true) else (humusref26_Reads.l0 kj5 a1 (wrap64 (x5_1 + 1)) a0_0 a0_1 l0_2 l0_3 l0_4)) = some r:=H
           have A31:=Aside0.mk A310
           clear A310
           by_cases c32 : t140 = true
           ·subst c32
            have H1 : (humusref26_Reads.j4 kj5 true) = some r:=by rw [if_pos rfl] at H;exact H
            clear H
            have H:=H1
            clear H1
            have HC33:=Aside0.mk H
            clear H
            have hnb34:=NB137_135.out
            have hnc34:=NB135_137.out
            obtain ⟨hcz35_0,hcz35_1,hcz35_2,hcz35_3,hcz35_4,hcz35_5,hcz35_6⟩:=blkc_7 BK137.out
            obtain ⟨hfz35_0,hfz35_1,hfz35_2,hfz35_3,hfz35_4,hfz35_5,hfz35_6⟩:=blkz_7 BK137.out
            go_upto_region 7 with (first | (go_at_call 49;(with_reducible refine (humusref01_Alike.calls ((rd_T89 l0_2 x5_1).f0.f2) a1 false _ A20.out).mono ?_);rintro e w' ⟨rfl,⟨nd,rfl⟩⟩) | (go_at_call 50;(with_reducible refine (humusref01_Less.calls a1 ((rd_T89 l0_2 x5_1).f0.f2) false _ A26.out).mono ?_);rintro e w' ⟨rfl,⟨nd,rfl⟩⟩) | (go_at_call 50;(with_reducible refine (humusref01_Less.calls a1 ((rd_T89 l0_2 x5_1).f0.f3) true _ A31.out).mono ?_);rintro e w' ⟨rfl,⟨nd,rfl⟩⟩))
            (try simp only [Act.put,List.setIfInBounds_toArray,List.set_cons_zero,List.set_cons_succ])
            go_cut [4] (fun v4 wc => ∃ (kq : Nat) (x4_32 : Bool),v4 = .bool x4_32 ∧ Aside0 (humusref26_Reads.j4 kq x4_32 = some r) ∧ Aside0 (kq ≤ kj5) ∧ Aside0 (wc.heap[gb135]? = some (.cells #[.int .i64 a0_0,.int .i64 a0_1,(.slice (some ad136) l0_2.length c0_2),(.slice A0_3 l0_3.length c0_3),(.slice A0_4 l0_4.length c0_4)] 43 (0,0))) ∧ Aside0 (wc.heap[gb137]? = some (.cells #[.int .i64 ((rd_T89 l0_2 x5_1).f0.f0),.int .i64 ((rd_T89 l0_2 x5_1).f0.f1),.float .f64 ((rd_T89 l0_2 x5_1).f0.f2),.float .f64 ((rd_T89 l0_2 x5_1).f0.f3),(.slice A136_4 ((rd_T89 l0_2 x5_1).f0.f4).length c136_4),.int .i64 ((rd_T89 l0_2 x5_1).f0.f5),(.slice A136_6 ((rd_T89 l0_2 x5_1).f0.f6).length c136_6)] 85 (0,0))) ∧ Aside0 (Below w.heap.size w wc))
            case first =>
             have H:=HC33.out
             clear HC33
             have H':=Aside0.mk H
             clear H
             go_wp2
             go_meet
             case rel => exact ⟨_,(true),(by first | rfl | (simp;done) | (simp [*];done)),H',⟨by have:=HK1.out;have:=HJ5.out;first | omega | exact Nat.le_refl _⟩,⟨by (with_reducible repeat (first | refine blk_drewN ?_ _ | refine blk_drew ?_ | refine blk_alloc ?_ _));exact BK135.out⟩,⟨by (with_reducible repeat (first | refine blk_drewN ?_ _ | refine blk_drew ?_ | refine blk_alloc ?_ _));exact BK137.out⟩,⟨by repeat (first | (with_reducible first | exact HB.out | apply below_alloc | apply pw_below_drewN | apply below_drew1 | refine below_set ?_ GE135.out | refine below_set ?_ GE137.out) | exact HB.out)⟩⟩
            case rest =>
             clear HC33
             try clear c1
             try clear p1
             try clear q1
             try clear hx1
             try clear c2
             try clear p2
             try clear c3
             try clear c4
             try clear c4b0
             try clear c5
             try clear c5b0
             try clear p6
             try clear c9
             try clear c11
             try clear c11b0
             try clear c11b1
             try clear c12
             try clear c13
             try clear p13
             try clear q13
             try clear hx13
             try clear c14
             try clear c14b0
             try clear c14b1
             try clear c15
             try clear c17
             try clear c19
             try clear c21
             try clear c23
             try clear c25
             try clear c25b0
             try clear c25b1
             try clear c27
             try clear c29
             try clear c32
             try clear c34
             try clear hcz10_0
             try clear hcz10_1
             try clear hcz10_2
             try clear hcz10_3
             try clear hcz10_4
             try clear hcz10_5
             try clear hcz10_6
             try clear hcz13_0
             try clear hcz13_1
             try clear hcz13_2
             try clear hcz13_3
             try clear hcz13_4
             try clear hcz13_5
             try clear hcz13_6
             try clear hcz16_0
             try clear hcz16_1
             try clear hcz16_2
             try clear hcz16_3
             try clear hcz16_4
             try clear hcz16_5
             try clear hcz16_6
             try clear hcz18_0
             try clear hcz18_1
             try clear hcz18_2
             try clear hcz18_3
             try clear hcz18_4
             try clear hcz18_5
             try clear hcz18_6
             try clear hcz24_0
             try clear hcz24_1
             try clear hcz24_2
             try clear hcz24_3
             try clear hcz24_4
             try clear hcz24_5
             try clear hcz24_6
             try clear hcz30_0
             try clear hcz30_1
             try clear hcz30_2
             try clear hcz30_3
             try clear hcz30_4
             try clear hcz30_5
             try clear hcz30_6
             try clear hcz35_0
             try clear hcz35_1
             try clear hcz35_2
             try clear hcz35_3
             try clear hcz35_4
             try clear hcz35_5
             try clear hcz35_6
             try clear hcz7_0
             try clear hcz7_1
             try clear hcz7_2
             try clear hcz7_3
             try clear hcz7_4
             try clear hfz10_0
             try clear hfz10_1
             try clear hfz10_2
             try clear hfz10_3
             try clear hfz10_4
             try clear hfz10_5
             try clear hfz10_6
             try clear hfz13_0
             try clear hfz13_1
             try clear hfz13_2
             try clear hfz13_3
             try clear hfz13_4
             try clear hfz13_5
             try clear hfz13_6
             try clear hfz16_0
             try clear hfz16_1
             try clear hfz16_2
             try clear hfz16_3
             try clear hfz16_4
             try clear hfz16_5
             try clear hfz16_6
             try clear hfz18_0
             try clear hfz18_1
             try clear hfz18_2
             try clear hfz18_3
             try clear hfz18_4
             try clear hfz18_5
             try clear hfz18_6
             try clear hfz24_0
             try clear hfz24_1
             try clear hfz24_2
             try clear hfz24_3
             try clear hfz24_4
             try clear hfz24_5
             try clear hfz24_6
             try clear hfz30_0
             try clear hfz30_1
             try clear hfz30_2
             try clear hfz30_3
             try clear hfz30_4
             try clear hfz30_5
             try clear hfz30_6
             try clear hfz35_0
             try clear hfz35_1
             try clear hfz35_2
             try clear hfz35_3
             try clear hfz35_4
             try clear hfz35_5
             try clear hfz35_6
             try clear hfz7_0
             try clear hfz7_1
             try clear hfz7_2
             try clear hfz7_3
             try clear hfz7_4
             try clear hx136_0
             try clear hx136_1
             try clear hx136_10
             try clear hx136_2
             try clear hx136_3
             try clear hx136_4
             try clear hx136_5
             try clear hx136_6
             try clear hx136_7
             try clear hx136_8
             try clear hx136_9
             try clear p1
             try clear p13
             try clear p136
             try clear p2
             try clear p6
             try clear q1
             try clear q13
             try clear q136
             obtain ⟨kq,x4_32,rfl,HA,HJ32,BK135,BK137,HB⟩:=hcut
             cases kq with
             | zero => exact absurd HA.out (by simp [humusref26_Reads.j4])
             | succ kj32 =>
              have H:=HA.out
              clear HA
              simp only [humusref26_Reads.j4] at H
              obtain rfl:=Option.some.inj H
              go_wp2
              go_ret
              exact ⟨by first | rfl | (simp [errW_none,errW_some] <;> rfl) | (simp [*,errW_none,errW_some] <;> rfl),by repeat (first | (with_reducible first | exact HB.out | apply below_alloc | apply pw_below_drewN | apply below_drew1 | refine below_set ?_ GE135.out | refine below_set ?_ GE137.out) | exact HB.out)⟩
           ·replace c32:=Bool.eq_false_iff.mpr c32
            subst c32
            have H1 : (humusref26_Reads.l0 kj5 a1 (wrap64 (x5_1 + 1)) a0_0 a0_1 l0_2 l0_3 l0_4) = some r:=by rw [if_neg (show ¬ (false = true) by decide)] at H;exact H
            clear H
            have H:=H1
            clear H1
            have H':=Aside0.mk H
            clear H
            have hnb36:=NB137_135.out
            have hnc36:=NB135_137.out
            obtain ⟨hcz37_0,hcz37_1,hcz37_2,hcz37_3,hcz37_4,hcz37_5,hcz37_6⟩:=blkc_7 BK137.out
            obtain ⟨hfz37_0,hfz37_1,hfz37_2,hfz37_3,hfz37_4,hfz37_5,hfz37_6⟩:=blkz_7 BK137.out
            go_wp2_with (first | (go_at_call 49;(with_reducible refine (humusref01_Alike.calls ((rd_T89 l0_2 x5_1).f0.f2) a1 false _ A20.out).mono ?_);rintro e w' ⟨rfl,⟨nd,rfl⟩⟩) | (go_at_call 50;(with_reducible refine (humusref01_Less.calls a1 ((rd_T89 l0_2 x5_1).f0.f2) false _ A26.out).mono ?_);rintro e w' ⟨rfl,⟨nd,rfl⟩⟩) | (go_at_call 50;(with_reducible refine (humusref01_Less.calls a1 ((rd_T89 l0_2 x5_1).f0.f3) false _ A31.out).mono ?_);rintro e w' ⟨rfl,⟨nd,rfl⟩⟩))
            go_roundg kj5
            case measure => have:=HK1.out;have:=HJ5.out;omega
            case rel => exact ⟨(wrap64 (x5_1 + 1)),(by first | rfl | (simp;done) | (simp [*];done)),H',⟨by have:=HK1.out;have:=HJ5.out;omega⟩,⟨by (with_reducible repeat (first | refine blk_drewN ?_ _ | refine blk_drew ?_ | refine blk_alloc ?_ _));exact BK135.out⟩,⟨by repeat (first | (with_reducible first | exact HB.out | apply below_alloc | apply pw_below_drewN | apply below_drew1 | refine below_set ?_ GE135.out | refine below_set ?_ GE137.out) | exact HB.out)⟩⟩
         ·rw [if_neg c25] at H
          have c25b0 : (((rd_T89 l0_2 x5_1).f0.f0) == 3) = false:=beq_eq_false_iff_ne.mpr c25
          have c25b1 : (((rd_T89 l0_2 x5_1).f0.f0) != 3) = true:=bne_iff_ne.mpr c25
          have H':=Aside0.mk H
          clear H
          have hnb38:=NB137_135.out
          have hnc38:=NB135_137.out
          obtain ⟨hcz39_0,hcz39_1,hcz39_2,hcz39_3,hcz39_4,hcz39_5,hcz39_6⟩:=blkc_7 BK137.out
          obtain ⟨hfz39_0,hfz39_1,hfz39_2,hfz39_3,hfz39_4,hfz39_5,hfz39_6⟩:=blkz_7 BK137.out
          go_wp2_with (first | (go_at_call 49;(with_reducible refine (humusref01_Alike.calls ((rd_T89 l0_2 x5_1).f0.f2) a1 false _ A20.out).mono ?_);rintro e w' ⟨rfl,⟨nd,rfl⟩⟩))
          go_roundg kj5
          case measure => have:=HK1.out;have:=HJ5.out;omega
          case rel => exact ⟨(wrap64 (x5_1 + 1)),(by first | rfl | (simp;done) | (simp [*];done)),H',⟨by have:=HK1.out;have:=HJ5.out;omega⟩,⟨by (with_reducible repeat (first | refine blk_drewN ?_ _ | refine blk_drew ?_ | refine blk_alloc ?_ _));exact BK135.out⟩,⟨by repeat (first | (with_reducible first | exact HB.out | apply below_alloc | apply pw_below_drewN | apply below_drew1 | refine below_set ?_ GE135.out | refine below_set ?_ GE137.out) | exact HB.out)⟩⟩
       ·replace c19:=Bool.eq_false_iff.mpr c19
        subst c19
        have H1 : (if ((rd_T89 l0_2 x5_1).f0.f0) = 3 then ((humusref01_Less.f a1 ((rd_T89 l0_2 x5_1).f0.f2)).bind fun t141 => (if t141 = true then (humusref26_Reads.j5 kj5 a1 (wrap64 (x5_1 + 1)) a0_0 a0_1 l0_2 l0_3 l0_4) else ((humusref01_Less.f a1 ((rd_T89 l0_2 x5_1).f0.f3)).bind fun t142 => (if t142 = true then (humusref26_Reads.j6 kj5 true) else (humusref26_Reads.l0 kj5 a1 (wrap64 (x5_1 + 1)) a0_0 a0_1 l0_2 l0_3 l0_4))))) else (humusref26_Reads.l0 kj5 a1 (wrap64 (x5_1 + 1)) a0_0 a0_1 l0_2 l0_3 l0_4)) = some r:=by rw [if_neg (show ¬ (false = true) by decide)] at H;exact H
        clear H
        have H:=H1
        clear H1
        by_cases c40 : ((rd_T89 l0_2 x5_1).f0.f0) = 3
        ·rw [if_pos c40] at H
         have c40b0 : (((rd_T89 l0_2 x5_1).f0.f0) == 3) = true:=beq_iff_eq.mpr c40
         have c40b1 : (((rd_T89 l0_2 x5_1).f0.f0) != 3) = false:=bne_eq_false_iff_eq.mpr c40
         clear c40
         replace H:=Option.bind_eq_some_iff.mp H
         obtain ⟨t141,A410,H⟩:=H
         replace H : (if t141 = true then (humusref26_Reads.j5 kj5 a1 (wrap64 (x5_1 + 1)) a0_0 a0_1 l0_2 l0_3 l0_4) else ((humusref01_Less.f a1 ((rd_T89 l0_2 x5_1).f0.f3)).bind fun t142 => (if t142 = true then (humusref26_Reads.j6 kj5 true) else (humusref26_Reads.l0 kj5 a1 (wrap64 (x5_1 + 1)) a0_0 a0_1 l0_2 l0_3 l0_4)))) = some r:=H
         have A41:=Aside0.mk A410
         clear A410
         by_cases c42 : t141 = true
         ·subst c42
          have H1 : (humusref26_Reads.j5 kj5 a1 (wrap64 (x5_1 + 1)) a0_0 a0_1 l0_2 l0_3 l0_4) = some r:=by rw [if_pos rfl] at H;exact H
          clear H
          have H:=H1
          clear H1
          have HC43:=Aside0.mk H
          clear H
          have hnb44:=NB137_135.out
          have hnc44:=NB135_137.out
          obtain ⟨hcz45_0,hcz45_1,hcz45_2,hcz45_3,hcz45_4,hcz45_5,hcz45_6⟩:=blkc_7 BK137.out
          obtain ⟨hfz45_0,hfz45_1,hfz45_2,hfz45_3,hfz45_4,hfz45_5,hfz45_6⟩:=blkz_7 BK137.out
          go_upto_region 3 with (first | (go_at_call 50;(with_reducible refine (humusref01_Less.calls a1 ((rd_T89 l0_2 x5_1).f0.f2) true _ A41.out).mono ?_);rintro e w' ⟨rfl,⟨nd,rfl⟩⟩))
          (try simp only [Act.put,List.setIfInBounds_toArray,List.set_cons_zero,List.set_cons_succ])
          go_cut [5] (fun v5 wc => ∃ (kq : Nat) (x5_42 : Int),v5 = .int .i64 x5_42 ∧ Aside0 (humusref26_Reads.j5 kq a1 x5_42 a0_0 a0_1 l0_2 l0_3 l0_4 = some r) ∧ Aside0 (kq ≤ kj5) ∧ Aside0 (wc.heap[gb135]? = some (.cells #[.int .i64 a0_0,.int .i64 a0_1,(.slice (some ad136) l0_2.length c0_2),(.slice A0_3 l0_3.length c0_3),(.slice A0_4 l0_4.length c0_4)] 43 (0,0))) ∧ Aside0 (wc.heap[gb137]? = some (.cells #[.int .i64 ((rd_T89 l0_2 x5_1).f0.f0),.int .i64 ((rd_T89 l0_2 x5_1).f0.f1),.float .f64 ((rd_T89 l0_2 x5_1).f0.f2),.float .f64 ((rd_T89 l0_2 x5_1).f0.f3),(.slice A136_4 ((rd_T89 l0_2 x5_1).f0.f4).length c136_4),.int .i64 ((rd_T89 l0_2 x5_1).f0.f5),(.slice A136_6 ((rd_T89 l0_2 x5_1).f0.f6).length c136_6)] 85 (0,0))) ∧ Aside0 (Below w.heap.size w wc))
          case first =>
           have H:=HC43.out
           clear HC43
           have H':=Aside0.mk H
           clear H
           go_wp2
           go_meet
           case rel => exact ⟨_,(wrap64 (x5_1 + 1)),(by first | rfl | (simp;done) | (simp [*];done)),H',⟨by have:=HK1.out;have:=HJ5.out;first | omega | exact Nat.le_refl _⟩,⟨by (with_reducible repeat (first | refine blk_drewN ?_ _ | refine blk_drew ?_ | refine blk_alloc ?_ _));exact BK135.out⟩,⟨by (with_reducible repeat (first | refine blk_drewN ?_ _ | refine blk_drew ?_ | refine blk_alloc ?_ _));exact BK137.out⟩,⟨by repeat (first | (with_reducible first | exact HB.out | apply below_alloc | apply pw_below_drewN | apply below_drew1 | refine below_set ?_ GE135.out | refine below_set ?_ GE137.out) | exact HB.out)⟩⟩
          case rest =>
           clear HC43
           try clear c1
           try clear p1
           try clear q1
           try clear hx1
           try clear c2
           try clear p2
           try clear c3
           try clear c4
           try clear c4b0
           try clear c5
           try clear c5b0
           try clear p6
           try clear c9
           try clear c11
           try clear c11b0
           try clear c11b1
           try clear c12
           try clear c13
           try clear p13
           try clear q13
           try clear hx13
           try clear c14
           try clear c14b0
           try clear c14b1
           try clear c15
           try clear c17
           try clear c19
           try clear c21
           try clear c23
           try clear c25
           try clear c25b0
           try clear c25b1
           try clear c27
           try clear c29
           try clear c32
           try clear c34
           try clear c36
           try clear c38
           try clear c40
           try clear c40b0
           try clear c40b1
           try clear c42
           try clear c44
           try clear hcz10_0
           try clear hcz10_1
           try clear hcz10_2
           try clear hcz10_3
           try clear hcz10_4
           try clear hcz10_5
           try clear hcz10_6
           try clear hcz13_0
           try clear hcz13_1
           try clear hcz13_2
           try clear hcz13_3
           try clear hcz13_4
           try clear hcz13_5
           try clear hcz13_6
           try clear hcz16_0
           try clear hcz16_1
           try clear hcz16_2
           try clear hcz16_3
           try clear hcz16_4
           try clear hcz16_5
           try clear hcz16_6
           try clear hcz18_0
           try clear hcz18_1
           try clear hcz18_2
           try clear hcz18_3
           try clear hcz18_4
           try clear hcz18_5
           try clear hcz18_6
           try clear hcz24_0
           try clear hcz24_1
           try clear hcz24_2
           try clear hcz24_3
           try clear hcz24_4
           try clear hcz24_5
           try clear hcz24_6
           try clear hcz30_0
           try clear hcz30_1
           try clear hcz30_2
           try clear hcz30_3
           try clear hcz30_4
           try clear hcz30_5
           try clear hcz30_6
           try clear hcz35_0
           try clear hcz35_1
           try clear hcz35_2
           try clear hcz35_3
           try clear hcz35_4
           try clear hcz35_5
           try clear hcz35_6
           try clear hcz37_0
           try clear hcz37_1
           try clear hcz37_2
           try clear hcz37_3
           try clear hcz37_4
           try clear hcz37_5
           try clear hcz37_6
           try clear hcz39_0
           try clear hcz39_1
           try clear hcz39_2
           try clear hcz39_3
           try clear hcz39_4
           try clear hcz39_5
           try clear hcz39_6
           try clear hcz45_0
           try clear hcz45_1
           try clear hcz45_2
           try clear hcz45_3
           try clear hcz45_4
           try clear hcz45_5
           try clear hcz45_6
           try clear hcz7_0
           try clear hcz7_1
           try clear hcz7_2
           try clear hcz7_3
           try clear hcz7_4
           try clear hfz10_0
           try clear hfz10_1
           try clear hfz10_2
           try clear hfz10_3
           try clear hfz10_4
           try clear hfz10_5
           try clear hfz10_6
           try clear hfz13_0
           try clear hfz13_1
           try clear hfz13_2
           try clear hfz13_3
           try clear hfz13_4
           try clear hfz13_5
           try clear hfz13_6
           try clear hfz16_0
           try clear hfz16_1
           try clear hfz16_2
           try clear hfz16_3
           try clear hfz16_4
           try clear hfz16_5
           try clear hfz16_6
           try clear hfz18_0
           try clear hfz18_1
           try clear hfz18_2
           try clear hfz18_3
           try clear hfz18_4
           try clear hfz18_5
           try clear hfz18_6
           try clear hfz24_0
           try clear hfz24_1
           try clear hfz24_2
           try clear hfz24_3
           try clear hfz24_4
           try clear hfz24_5
           try clear hfz24_6
           try clear hfz30_0
           try clear hfz30_1
           try clear hfz30_2
           try clear hfz30_3
           try clear hfz30_4
           try clear hfz30_5
           try clear hfz30_6
           try clear hfz35_0
           try clear hfz35_1
           try clear hfz35_2
           try clear hfz35_3
           try clear hfz35_4
           try clear hfz35_5
           try clear hfz35_6
           try clear hfz37_0
           try clear hfz37_1
           try clear hfz37_2
           try clear hfz37_3
           try clear hfz37_4
           try clear hfz37_5
           try clear hfz37_6
           try clear hfz39_0
           try clear hfz39_1
           try clear hfz39_2
           try clear hfz39_3
           try clear hfz39_4
           try clear hfz39_5
           try clear hfz39_6
           try clear hfz45_0
           try clear hfz45_1
           try clear hfz45_2
           try clear hfz45_3
           try clear hfz45_4
           try clear hfz45_5
           try clear hfz45_6
           try clear hfz7_0
           try clear hfz7_1
           try clear hfz7_2
           try clear hfz7_3
           try clear hfz7_4
           try clear hx136_0
           try clear hx136_1
           try clear hx136_10
           try clear hx136_2
           try clear hx136_3
           try clear hx136_4
           try clear hx136_5
           try clear hx136_6
           try clear hx136_7
           try clear hx136_8
           try clear hx136_9
           try clear p1
           try clear p13
           try clear p136
           try clear p2
           try clear p6
           try clear q1
           try clear q13
           try clear q136
           obtain ⟨kq,x5_42,rfl,HA,HJ42,BK135,BK137,HB⟩:=hcut
           cases kq with
           | zero => exact absurd HA.out (by simp [humusref26_Reads.j5])
           | succ kj42 =>
            have H:=HA.out
            clear HA
            simp only [humusref26_Reads.j5] at H
            have H':=Aside0.mk H
            clear H
            go_wp2
            go_roundg kj42
            case measure => have:=HK1.out;have:=HJ5.out;have:=HJ42.out;omega
            case rel => exact ⟨(x5_42),(by first | rfl | (simp;done) | (simp [*];done)),H',⟨by have:=HK1.out;have:=HJ5.out;have:=HJ42.out;omega⟩,⟨by (with_reducible repeat (first | refine blk_drewN ?_ _ | refine blk_drew ?_ | refine blk_alloc ?_ _));exact BK135.out⟩,⟨by repeat (first | (with_reducible first | exact HB.out | apply below_alloc | apply pw_below_drewN | apply below_drew1 | refine below_set ?_ GE135.out | refine below_set ?_ GE137.out) | exact HB.out)⟩⟩
         ·replace c42:=Bool.eq_false_iff.mpr c42
          subst c42
          have H1 : ((humusref01_Less.f a1 ((rd_T89 l0_2 x5_1).f0.f3)).bind fun t142 => (if t142 = true then (humusref26_Reads.j6 kj5 true) else (humusref26_Reads.l0 kj5 a1 (wrap64 (x5_1 + 1)) a0_0 a0_1 l0_2 l0_3 l0_4))) = some r:=by rw [if_neg (show ¬ (false = true) by decide)] at H;exact H
          clear H
          have H:=H1
          clear H1
          replace H:=Option.bind_eq_some_iff.mp H
          obtain ⟨t142,A460,H⟩:=H
          replace H : (if t142 = true then (humusref26_Reads.j6 kj5 true) else (humusref26_Reads.l0 kj5 a1 (wrap64 (x5_1 + 1)) a0_0 a0_1 l0_2 l0_3 l0_4)) = some r:=H
          have A46:=Aside0.mk A460
          clear A460
          by_cases c47 : t142 = true
          ·subst c47
           have H1 : (humusref26_Reads.j6 kj5 true) = some r:=by rw [if_pos rfl] at H;exact H
           clear H
           have H:=H1
           clear H1
           have HC48:=Aside0.mk H
           clear H
           have hnb49:=NB137_135.out
           have hnc49:=NB135_137.out
           obtain ⟨hcz50_0,hcz50_1,hcz50_2,hcz50_3,hcz50_4,hcz50_5,hcz50_6⟩:=blkc_7 BK137.out
           obtain ⟨hfz50_0,hfz50_1,hfz50_2,hfz50_3,hfz50_4,hfz50_5,hfz50_6⟩:=blkz_7 BK137.out
           go_upto_region 7 with (first | (go_at_call 50;(with_reducible refine (humusref01_Less.calls a1 ((rd_T89 l0_2 x5_1).f0.f2) false _ A41.out).mono ?_);rintro e w' ⟨rfl,⟨nd,rfl⟩⟩) | (go_at_call 50;(with_reducible refine (humusref01_Less.calls a1 ((rd_T89 l0_2 x5_1).f0.f3) true _ A46.out).mono ?_);rintro e w' ⟨rfl,⟨nd,rfl⟩⟩))
           (try simp only [Act.put,List.setIfInBounds_toArray,List.set_cons_zero,List.set_cons_succ])
           go_cut [4] (fun v4 wc => ∃ (kq : Nat) (x4_47 : Bool),v4 = .bool x4_47 ∧ Aside0 (humusref26_Reads.j6 kq x4_47 = some r) ∧ Aside0 (kq ≤ kj5) ∧ Aside0 (wc.heap[gb135]? = some (.cells #[.int .i64 a0_0,.int .i64 a0_1,(.slice (some ad136) l0_2.length c0_2),(.slice A0_3 l0_3.length c0_3),(.slice A0_4 l0_4.length c0_4)] 43 (0,0))) ∧ Aside0 (wc.heap[gb137]? = some (.cells #[.int .i64 ((rd_T89 l0_2 x5_1).f0.f0),.int .i64 ((rd_T89 l0_2 x5_1).f0.f1),.float .f64 ((rd_T89 l0_2 x5_1).f0.f2),.float .f64 ((rd_T89 l0_2 x5_1).f0.f3),(.slice A136_4 ((rd_T89 l0_2 x5_1).f0.f4).length c136_4),.int .i64 ((rd_T89 l0_2 x5_1).f0.f5),(.slice A136_6 ((rd_T89 l0_2 x5_1).f0.f6).length c136_6)] 85 (0,0))) ∧ Aside0 (Below w.heap.size w wc))
           case first =>
            have H:=HC48.out
            clear HC48
            have H':=Aside0.mk H
            clear H
            go_wp2
            go_meet
            case rel => exact ⟨_,(true),(by first | rfl | (simp;done) | (simp [*];done)),H',⟨by have:=HK1.out;have:=HJ5.out;first | omega | exact Nat.le_refl _⟩,⟨by (with_reducible repeat (first | refine blk_drewN ?_ _ | refine blk_drew ?_ | refine blk_alloc ?_ _));exact BK135.out⟩,⟨by (with_reducible repeat (first | refine blk_drewN ?_ _ | refine blk_drew ?_ | refine blk_alloc ?_ _));exact BK137.out⟩,⟨by repeat (first | (with_reducible first | exact HB.out | apply below_alloc | apply pw_below_drewN | apply below_drew1 | refine below_set ?_ GE135.out | refine below_set ?_ GE137.out) | exact HB.out)⟩⟩
           case rest =>
            clear HC48
            try clear c1
            try clear p1
            try clear q1
            try clear hx1
            try clear c2
            try clear p2
            try clear c3
            try clear c4
            try clear c4b0
            try clear c5
            try clear c5b0
            try clear p6
            try clear c9
            try clear c11
            try clear c11b0
            try clear c11b1
            try clear c12
            try clear c13
            try clear p13
            try clear q13
            try clear hx13
            try clear c14
            try clear c14b0
            try clear c14b1
            try clear c15
            try clear c17
            try clear c19
            try clear c21
            try clear c23
            try clear c25
            try clear c25b0
            try clear c25b1
            try clear c27
            try clear c29
            try clear c32
            try clear c34
            try clear c36
            try clear c38
            try clear c40
            try clear c40b0
            try clear c40b1
            try clear c42
            try clear c44
            try clear c47
            try clear c49
            try clear hcz10_0
            try clear hcz10_1
            try clear hcz10_2
            try clear hcz10_3
            try clear hcz10_4
            try clear hcz10_5
            try clear hcz10_6
            try clear hcz13_0
            try clear hcz13_1
            try clear hcz13_2
            try clear hcz13_3
            try clear hcz13_4
            try clear hcz13_5
            try clear hcz13_6
            try clear hcz16_0
            try clear hcz16_1
            try clear hcz16_2
            try clear hcz16_3
            try clear hcz16_4
            try clear hcz16_5
            try clear hcz16_6
            try clear hcz18_0
            try clear hcz18_1
            try clear hcz18_2
            try clear hcz18_3
            try clear hcz18_4
            try clear hcz18_5
            try clear hcz18_6
            try clear hcz24_0
            try clear hcz24_1
            try clear hcz24_2
            try clear hcz24_3
            try clear hcz24_4
            try clear hcz24_5
            try clear hcz24_6
            try clear hcz30_0
            try clear hcz30_1
            try clear hcz30_2
            try clear hcz30_3
            try clear hcz30_4
            try clear hcz30_5
            try clear hcz30_6
            try clear hcz35_0
            try clear hcz35_1
            try clear hcz35_2
            try clear hcz35_3
            try clear hcz35_4
            try clear hcz35_5
            try clear hcz35_6
            try clear hcz37_0
            try clear hcz37_1
            try clear hcz37_2
            try clear hcz37_3
            try clear hcz37_4
            try clear hcz37_5
            try clear hcz37_6
            try clear hcz39_0
            try clear hcz39_1
            try clear hcz39_2
            try clear hcz39_3
            try clear hcz39_4
            try clear hcz39_5
            try clear hcz39_6
            try clear hcz45_0
            try clear hcz45_1
            try clear hcz45_2
            try clear hcz45_3
            try clear hcz45_4
            try clear hcz45_5
            try clear hcz45_6
            try clear hcz50_0
            try clear hcz50_1
            try clear hcz50_2
            try clear hcz50_3
            try clear hcz50_4
            try clear hcz50_5
            try clear hcz50_6
            try clear hcz7_0
            try clear hcz7_1
            try clear hcz7_2
            try clear hcz7_3
            try clear hcz7_4
            try clear hfz10_0
            try clear hfz10_1
            try clear hfz10_2
            try clear hfz10_3
            try clear hfz10_4
            try clear hfz10_5
            try clear hfz10_6
            try clear hfz13_0
            try clear hfz13_1
            try clear hfz13_2
            try clear hfz13_3
            try clear hfz13_4
            try clear hfz13_5
            try clear hfz13_6
            try clear hfz16_0
            try clear hfz16_1
            try clear hfz16_2
            try clear hfz16_3
            try clear hfz16_4
            try clear hfz16_5
            try clear hfz16_6
            try clear hfz18_0
            try clear hfz18_1
            try clear hfz18_2
            try clear hfz18_3
            try clear hfz18_4
            try clear hfz18_5
            try clear hfz18_6
            try clear hfz24_0
            try clear hfz24_1
            try clear hfz24_2
            try clear hfz24_3
            try clear hfz24_4
            try clear hfz24_5
            try clear hfz24_6
            try clear hfz30_0
            try clear hfz30_1
            try clear hfz30_2
            try clear hfz30_3
            try clear hfz30_4
            try clear hfz30_5
            try clear hfz30_6
            try clear hfz35_0
            try clear hfz35_1
            try clear hfz35_2
            try clear hfz35_3
            try clear hfz35_4
            try clear hfz35_5
            try clear hfz35_6
            try clear hfz37_0
            try clear hfz37_1
            try clear hfz37_2
            try clear hfz37_3
            try clear hfz37_4
            try clear hfz37_5
            try clear hfz37_6
            try clear hfz39_0
            try clear hfz39_1
            try clear hfz39_2
            try clear hfz39_3
            try clear hfz39_4
            try clear hfz39_5
            try clear hfz39_6
            try clear hfz45_0
            try clear hfz45_1
            try clear hfz45_2
            try clear hfz45_3
            try clear hfz45_4
            try clear hfz45_5
            try clear hfz45_6
            try clear hfz50_0
            try clear hfz50_1
            try clear hfz50_2
            try clear hfz50_3
            try clear hfz50_4
            try clear hfz50_5
            try clear hfz50_6
            try clear hfz7_0
            try clear hfz7_1
            try clear hfz7_2
            try clear hfz7_3
            try clear hfz7_4
            try clear hx136_0
            try clear hx136_1
            try clear hx136_10
            try clear hx136_2
            try clear hx136_3
            try clear hx136_4
            try clear hx136_5
            try clear hx136_6
            try clear hx136_7
            try clear hx136_8
            try clear hx136_9
            try clear p1
            try clear p13
            try clear p136
            try clear p2
            try clear p6
            try clear q1
            try clear q13
            try clear q136
            obtain ⟨kq,x4_47,rfl,HA,HJ47,BK135,BK137,HB⟩:=hcut
            cases kq with
            | zero => exact absurd HA.out (by simp [humusref26_Reads.j6])
            | succ kj47 =>
             have H:=HA.out
             clear HA
             simp only [humusref26_Reads.j6] at H
             obtain rfl:=Option.some.inj H
             go_wp2
             go_ret
             exact ⟨by first | rfl | (simp [errW_none,errW_some] <;> rfl) | (simp [*,errW_none,errW_some] <;> rfl),by repeat (first | (with_reducible first | exact HB.out | apply below_alloc | apply pw_below_drewN | apply below_drew1 | refine below_set ?_ GE135.out | refine below_set ?_ GE137.out) | exact HB.out)⟩
          ·replace c47:=Bool.eq_false_iff.mpr c47
           subst c47
           have H1 : (humusref26_Reads.l0 kj5 a1 (wrap64 (x5_1 + 1)) a0_0 a0_1 l0_2 l0_3 l0_4) = some r:=by rw [if_neg (show ¬ (false = true) by decide)] at H;exact H
           clear H
           have H:=H1
           clear H1
           have H':=Aside0.mk H
           clear H
           have hnb51:=NB137_135.out
           have hnc51:=NB135_137.out
           obtain ⟨hcz52_0,hcz52_1,hcz52_2,hcz52_3,hcz52_4,hcz52_5,hcz52_6⟩:=blkc_7 BK137.out
           obtain ⟨hfz52_0,hfz52_1,hfz52_2,hfz52_3,hfz52_4,hfz52_5,hfz52_6⟩:=blkz_7 BK137.out
           go_wp2_with (first | (go_at_call 50;(with_reducible refine (humusref01_Less.calls a1 ((rd_T89 l0_2 x5_1).f0.f2) false _ A41.out).mono ?_);rintro e w' ⟨rfl,⟨nd,rfl⟩⟩) | (go_at_call 50;(with_reducible refine (humusref01_Less.calls a1 ((rd_T89 l0_2 x5_1).f0.f3) false _ A46.out).mono ?_);rintro e w' ⟨rfl,⟨nd,rfl⟩⟩))
           go_roundg kj5
           case measure => have:=HK1.out;have:=HJ5.out;omega
           case rel => exact ⟨(wrap64 (x5_1 + 1)),(by first | rfl | (simp;done) | (simp [*];done)),H',⟨by have:=HK1.out;have:=HJ5.out;omega⟩,⟨by (with_reducible repeat (first | refine blk_drewN ?_ _ | refine blk_drew ?_ | refine blk_alloc ?_ _));exact BK135.out⟩,⟨by repeat (first | (with_reducible first | exact HB.out | apply below_alloc | apply pw_below_drewN | apply below_drew1 | refine below_set ?_ GE135.out | refine below_set ?_ GE137.out) | exact HB.out)⟩⟩
        ·rw [if_neg c40] at H
         have c40b0 : (((rd_T89 l0_2 x5_1).f0.f0) == 3) = false:=beq_eq_false_iff_ne.mpr c40
         have c40b1 : (((rd_T89 l0_2 x5_1).f0.f0) != 3) = true:=bne_iff_ne.mpr c40
         have H':=Aside0.mk H
         clear H
         have hnb53:=NB137_135.out
         have hnc53:=NB135_137.out
         obtain ⟨hcz54_0,hcz54_1,hcz54_2,hcz54_3,hcz54_4,hcz54_5,hcz54_6⟩:=blkc_7 BK137.out
         obtain ⟨hfz54_0,hfz54_1,hfz54_2,hfz54_3,hfz54_4,hfz54_5,hfz54_6⟩:=blkz_7 BK137.out
         go_wp2
         go_roundg kj5
         case measure => have:=HK1.out;have:=HJ5.out;omega
         case rel => exact ⟨(wrap64 (x5_1 + 1)),(by first | rfl | (simp;done) | (simp [*];done)),H',⟨by have:=HK1.out;have:=HJ5.out;omega⟩,⟨by (with_reducible repeat (first | refine blk_drewN ?_ _ | refine blk_drew ?_ | refine blk_alloc ?_ _));exact BK135.out⟩,⟨by repeat (first | (with_reducible first | exact HB.out | apply below_alloc | apply pw_below_drewN | apply below_drew1 | refine below_set ?_ GE135.out | refine below_set ?_ GE137.out) | exact HB.out)⟩⟩
    ·rw [if_neg c5] at H
     exact absurd H (by simp)
   ·rw [if_neg c4] at H
    have c4b0 : decide (x5_1 < (l0_2.length : Int)) = false:=decide_eq_false c4
    clear c4
    obtain rfl:=Option.some.inj H
    obtain ⟨hcz55_0,hcz55_1,hcz55_2,hcz55_3,hcz55_4⟩:=blkc_5 BK135.out
    obtain ⟨hfz55_0,hfz55_1,hfz55_2,hfz55_3,hfz55_4⟩:=blkz_5 BK135.out
    go_wp2
    go_ret
    exact ⟨by first | rfl | (simp [errW_none,errW_some] <;> rfl) | (simp [*,errW_none,errW_some] <;> rfl),by repeat (first | (with_reducible first | exact HB.out | apply below_alloc | apply pw_below_drewN | apply below_drew1 | refine below_set ?_ GE135.out) | exact HB.out)⟩
end Go.Proofs.Ytbmcbhpkefjhbaa.P
namespace Go.Proofs.Ytbmcbhpkefjhbaa.P
open Go.RowKit Go.Proofs.YtbmcbhpkefjhbaaW.PrintWords Go.Proofs.YtbmcbhpkefjhbaaW.PrintLast Go.Proofs.YtbmcbhpkefjhbaaW.PrintMore
attribute [local go_sem] max2_int min2_int max_two min_two max_three min_three max_four min_four   -- for this text's walks alone
attribute [local go_sem] run_store_float
set_option linter.unusedVariables false
set_option linter.unusedSimpArgs false
def humusref26_Place.l0 : Nat → List (S43) → Int → Int → Int → Option (Int)
 | 0,_,_,_,_ => none
 | k + 1,x0,x1,x5,x6 => if x6 < x1 then (if 0 ≤ x6 then (if x6 < (x0.length : Int) then (if (((rd_T43 x0 x6).f3).length : Int) > 0 then (humusref26_Place.l0 k x0 x1 (wrap64 (x5 + 1)) (wrap64 (x6 + 1))) else (humusref26_Place.l0 k x0 x1 x5 (wrap64 (x6 + 1)))) else (none)) else (none)) else (some x5)
def humusref26_Place.f (k : Nat) (l0 : List (S43)) (a1 : Int) : Option (Int):=if 0 ≤ a1 then (if a1 < (l0.length : Int) then (if (((rd_T43 l0 a1).f3).length : Int) = 0 then (some (-1)) else (humusref26_Place.l0 k l0 a1 0 0)) else (none)) else (none)
set_option maxHeartbeats 8000000 in
set_option maxRecDepth 100000 in
theorem humusref26_Place.calls (k : Nat) (A0 : Option Addr) (c0 : Nat) (l0 : List (S43)) (a1 : Int) (r : Int) (w : World) (hr0 : Kd.C k43 w A0 l0.length l0) (hc0 : l0.length ≤ c0) (h : humusref26_Place.f k l0 a1 = some r) :
  Calls Try.prog 78 #[.slice A0 l0.length c0,.int .i64 a1] w fun e w' => e = .returned (.int .i64 r) ∧ Drawn0 w w':=by
 have HR0:=Aside0.mk hr0
 have HC0:=Aside0.mk hc0
 clear hr0 hc0
 have H : (if 0 ≤ a1 then (if a1 < (l0.length : Int) then (if (((rd_T43 l0 a1).f3).length : Int) = 0 then (some (-1)) else (humusref26_Place.l0 k l0 a1 0 0)) else (none)) else (none)) = some r:=h
 clear h
 by_cases c3 : 0 ≤ a1
 ·rw [if_pos c3] at H
  have c3b0 : decide (0 ≤ a1) = true:=decide_eq_true c3
  clear c3
  by_cases c4 : a1 < (l0.length : Int)
  ·rw [if_pos c4] at H
   have c4b0 : decide (a1 < (l0.length : Int)) = true:=decide_eq_true c4
   clear c4
   by_cases c5 : (((rd_T43 l0 a1).f3).length : Int) = 0
   ·rw [if_pos c5] at H
    have c5b0 : ((((rd_T43 l0 a1).f3).length : Int) == 0) = true:=beq_iff_eq.mpr c5
    have c5b1 : ((((rd_T43 l0 a1).f3).length : Int) != 0) = false:=bne_eq_false_iff_eq.mpr c5
    clear c5
    obtain rfl:=Option.some.inj H
    have p164 : 0 ≤ (a1 : Int):=of_decide_eq_true (by first | (with_reducible assumption) | assumption)
    have q164 : a1 < (l0.length : Int):=of_decide_eq_true (by first | (with_reducible assumption) | assumption)
    obtain ⟨ad164,A164_2,c164_2,A164_3,c164_3,A164_4,c164_4,e164,hx164_0,hx164_1,hx164_2,hx164_3,hx164_4,hl164_2,hi164_2,hl164_3,hi164_3,hl164_4,hi164_4⟩:=at_T43 HR0.out a1 p164 q164
    cases e164
    have HR164_2:=Aside0.mk hi164_2
    have HC164_2:=Aside0.mk hl164_2
    clear hi164_2 hl164_2
    have HR164_3:=Aside0.mk hi164_3
    have HC164_3:=Aside0.mk hl164_3
    clear hi164_3 hl164_3
    have HR164_4:=Aside0.mk hi164_4
    have HC164_4:=Aside0.mk hl164_4
    clear hi164_4 hl164_4
    replace p164:=eq_true p164
    replace q164:=eq_true q164
    go_enter Try.func78,Try.ntmps78
    go_wp2
    go_ret
    exact ⟨by first | rfl | (simp;done) | (simp [*];done),by repeat (first | exact Drawn0.refl _ | apply Drawn0.step)⟩
   ·rw [if_neg c5] at H
    have c5b0 : ((((rd_T43 l0 a1).f3).length : Int) == 0) = false:=beq_eq_false_iff_ne.mpr c5
    have c5b1 : ((((rd_T43 l0 a1).f3).length : Int) != 0) = true:=bne_iff_ne.mpr c5
    have c5b2 : ¬ (((rd_T43 l0 a1).f3) = []):=fun h_ => c5 (by rw [h_];rfl)
    have H':=Aside0.mk H
    clear H
    have p164 : 0 ≤ (a1 : Int):=of_decide_eq_true (by first | (with_reducible assumption) | assumption)
    have q164 : a1 < (l0.length : Int):=of_decide_eq_true (by first | (with_reducible assumption) | assumption)
    obtain ⟨ad164,A164_2,c164_2,A164_3,c164_3,A164_4,c164_4,e164,hx164_0,hx164_1,hx164_2,hx164_3,hx164_4,hl164_2,hi164_2,hl164_3,hi164_3,hl164_4,hi164_4⟩:=at_T43 HR0.out a1 p164 q164
    cases e164
    have HR164_2:=Aside0.mk hi164_2
    have HC164_2:=Aside0.mk hl164_2
    clear hi164_2 hl164_2
    have HR164_3:=Aside0.mk hi164_3
    have HC164_3:=Aside0.mk hl164_3
    clear hi164_3 hl164_3
    have HR164_4:=Aside0.mk hi164_4
    have HC164_4:=Aside0.mk hl164_4
    clear hi164_4 hl164_4
    replace p164:=eq_true p164
    replace q164:=eq_true q164
    go_enter Try.func78,Try.ntmps78
    go_wp2
    go_loopg [5,6] k (fun kq v5 v6 w' => ∃ (x5_1 : Int) (x6_1 : Int),v5 = .int .i64 x5_1 ∧ v6 = .int .i64 x6_1 ∧ Aside0 (humusref26_Place.l0 kq l0 a1 x5_1 x6_1 = some r) ∧ Aside0 (kq ≤ k) ∧ Drawn0 w w')
    case atStart => exact ⟨(0),(0),(by first | rfl | (simp;done) | (simp [*];done)),(by first | rfl | (simp;done) | (simp [*];done)),H',⟨Nat.le_refl _⟩,by repeat (first | exact Drawn0.refl _ | apply Drawn0.step)⟩
    case round =>
     clear H'
     try clear c1
     try clear p1
     try clear q1
     try clear hx1
     try clear p2
     try clear c3
     try clear c3b0
     try clear c4
     try clear c4b0
     try clear c5
     try clear c5b0
     try clear c5b1
     try clear c5b2
     try clear hx164_0
     try clear hx164_1
     try clear hx164_2
     try clear hx164_3
     try clear hx164_4
     try clear p164
     try clear q164
     obtain ⟨x5_1,x6_1,rfl,rfl,HA,HK1,⟨m1,rfl⟩⟩:=hrel
     cases gk with
     | zero => exact absurd HA.out (by simp [humusref26_Place.l0])
     | succ k1 =>
      have H:=HA.out
      clear HA
      simp only [humusref26_Place.l0] at H
      by_cases c6 : x6_1 < a1
      ·rw [if_pos c6] at H
       have c6b0 : decide (x6_1 < a1) = true:=decide_eq_true c6
       clear c6
       by_cases c7 : 0 ≤ x6_1
       ·rw [if_pos c7] at H
        have c7b0 : decide (0 ≤ x6_1) = true:=decide_eq_true c7
        clear c7
        by_cases c8 : x6_1 < (l0.length : Int)
        ·rw [if_pos c8] at H
         have c8b0 : decide (x6_1 < (l0.length : Int)) = true:=decide_eq_true c8
         clear c8
         by_cases c9 : (((rd_T43 l0 x6_1).f3).length : Int) > 0
         ·rw [if_pos c9] at H
          have c9b0 : decide (0 < (((rd_T43 l0 x6_1).f3).length : Int)) = true:=decide_eq_true c9
          have c9b1 : decide (0 < ((rd_T43 l0 x6_1).f3).length) = true:=decide_eq_true (by omega)
          clear c9
          have H':=Aside0.mk H
          clear H
          have p165 : 0 ≤ (x6_1 : Int):=of_decide_eq_true (by first | (with_reducible assumption) | assumption)
          have q165 : x6_1 < (l0.length : Int):=of_decide_eq_true (by first | (with_reducible assumption) | assumption)
          obtain ⟨ad165,A165_2,c165_2,A165_3,c165_3,A165_4,c165_4,e165,hx165_0,hx165_1,hx165_2,hx165_3,hx165_4,hl165_2,hi165_2,hl165_3,hi165_3,hl165_4,hi165_4⟩:=at_T43 HR0.out x6_1 p165 q165
          obtain rfl : ad164 = ad165:=(by injection e165)
          have HR165_2:=Aside0.mk hi165_2
          have HC165_2:=Aside0.mk hl165_2
          clear hi165_2 hl165_2
          have HR165_3:=Aside0.mk hi165_3
          have HC165_3:=Aside0.mk hl165_3
          clear hi165_3 hl165_3
          have HR165_4:=Aside0.mk hi165_4
          have HC165_4:=Aside0.mk hl165_4
          clear hi165_4 hl165_4
          replace p165:=eq_true p165
          replace q165:=eq_true q165
          go_wp2
          go_roundg k1
          case measure => have:=HK1.out;omega
          case rel => exact ⟨(wrap64 (x5_1 + 1)),(wrap64 (x6_1 + 1)),(by first | rfl | (simp;done) | (simp [*];done)),(by first | rfl | (simp;done) | (simp [*];done)),H',⟨by have:=HK1.out;omega⟩,by repeat (first | exact Drawn0.refl _ | apply Drawn0.step)⟩
         ·rw [if_neg c9] at H
          have c9b0 : decide (0 < (((rd_T43 l0 x6_1).f3).length : Int)) = false:=decide_eq_false c9
          have c9b1 : decide (0 < ((rd_T43 l0 x6_1).f3).length) = false:=decide_eq_false (by omega)
          clear c9
          have H':=Aside0.mk H
          clear H
          have p165 : 0 ≤ (x6_1 : Int):=of_decide_eq_true (by first | (with_reducible assumption) | assumption)
          have q165 : x6_1 < (l0.length : Int):=of_decide_eq_true (by first | (with_reducible assumption) | assumption)
          obtain ⟨ad165,A165_2,c165_2,A165_3,c165_3,A165_4,c165_4,e165,hx165_0,hx165_1,hx165_2,hx165_3,hx165_4,hl165_2,hi165_2,hl165_3,hi165_3,hl165_4,hi165_4⟩:=at_T43 HR0.out x6_1 p165 q165
          obtain rfl : ad164 = ad165:=(by injection e165)
          have HR165_2:=Aside0.mk hi165_2
          have HC165_2:=Aside0.mk hl165_2
          clear hi165_2 hl165_2
          have HR165_3:=Aside0.mk hi165_3
          have HC165_3:=Aside0.mk hl165_3
          clear hi165_3 hl165_3
          have HR165_4:=Aside0.mk hi165_4
          have HC165_4:=Aside0.mk hl165_4
          clear hi165_4 hl165_4
          replace p165:=eq_true p165
          replace q165:=eq_true q165
          go_wp2
          go_roundg k1
          case measure => have:=HK1.out;omega
          case rel => exact ⟨(x5_1),(wrap64 (x6_1 + 1)),(by first | rfl | (simp;done) | (simp [*];done)),(by first | rfl | (simp;done) | (simp [*];done)),H',⟨by have:=HK1.out;omega⟩,by repeat (first | exact Drawn0.refl _ | apply Drawn0.step)⟩
        ·rw [if_neg c8] at H
         exact absurd H (by simp)
       ·rw [if_neg c7] at H
        exact absurd H (by simp)
      ·rw [if_neg c6] at H
       have c6b0 : decide (x6_1 < a1) = false:=decide_eq_false c6
       clear c6
       obtain rfl:=Option.some.inj H
       go_wp2
       go_ret
       exact ⟨by first | rfl | (simp;done) | (simp [*];done),by repeat (first | exact Drawn0.refl _ | apply Drawn0.step)⟩
  ·rw [if_neg c4] at H
   exact absurd H (by simp)
 ·rw [if_neg c3] at H
  exact absurd H (by simp)
end Go.Proofs.Ytbmcbhpkefjhbaa.P
