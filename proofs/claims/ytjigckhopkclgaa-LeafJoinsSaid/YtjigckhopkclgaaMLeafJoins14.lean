/- Put together by wip/prune.py out of this claim's texts. -/
import Derived.Test.YtjigckhopkclgaaMLeafJoins4
import Derived.Test.YtjigckhopkclgaaMLeafJoins8
import Derived.Test.YtjigckhopkclgaaMLeafJoins11
import Derived.Test.YtjigckhopkclgaaMLeafJoins12
import Derived.Test.YtjigckhopkclgaaMLeafJoins13
namespace Go.Proofs.Ytjigckhopkclgaa.P
open Go.RowKit Go.Proofs.YtjigckhopkclgaaW.PrintWords Go.Proofs.YtjigckhopkclgaaW.PrintLast Go.Proofs.YtjigckhopkclgaaW.PrintMore
attribute [local go_sem] max2_int min2_int max_two min_two max_three min_three max_four min_four   -- for this text's walks alone
attribute [local go_sem] run_store_float
set_option linter.unusedVariables false
set_option linter.unusedSimpArgs false
mutual
def humuslaw08_LeafJoins.j0 : Nat → Int → List Int → Bool → List Int → List (List Int) → Option (Bool)
 | 0,_,_,_,_,_ => none
 | k + 1,x1,x2,x18,x424000,x424001 => if x18 = true then ((humuslaw08_awake.f k).bind fun t425 => (some t425)) else ((leaf_Join.f k x424000 x424001 x1 x2).bind fun bt426 => ((humusref08_May.f k x424000 x424001).bind fun t434 => (if t434 = true then ((humusref08_Join.f k x424000 x424001 x1 x2).bind fun bt437 => (if bt426.2.2 = bt437.2.2 then ((humusref08_Same.f k bt426.1 bt426.2.1 bt437.1 bt437.2.1).bind fun t445 => (if t445 = true then ((humusref08_May.f k bt426.1 bt426.2.1).bind fun t446 => (if t446 = true then ((humuslaw08_awake.f k).bind fun t447 => (humuslaw08_LeafJoins.j2 k t447)) else (none))) else (none))) else (none))) else ((humuslaw08_none.f k bt426.1 bt426.2.1 bt426.2.2).bind fun t435 => (if t435 = true then ((humuslaw08_awake.f k).bind fun t436 => (humuslaw08_LeafJoins.j1 k t436)) else (none))))))
def humuslaw08_LeafJoins.j2 : Nat → Bool → Option (Bool)
 | 0,_ => none
 | k + 1,x6 => some x6
def humuslaw08_LeafJoins.j1 : Nat → Bool → Option (Bool)
 | 0,_ => none
 | k + 1,x6 => some x6
end
def humuslaw08_LeafJoins.f (k : Nat) (l0_0 : List Int) (l0_1 : List (List Int)) (a1 : Int) (l2 : List Int) : Option (Bool):=(humuslaw08_Light.f k l0_0 l0_1).bind fun t424 => (if t424 = true then (humuslaw08_LeafJoins.j0 k a1 l2 (decide ((l2.length : Int) > 40)) l0_0 l0_1) else (humuslaw08_LeafJoins.j0 k a1 l2 true l0_0 l0_1))
set_option maxHeartbeats 8000000 in
set_option maxRecDepth 100000 in
theorem humuslaw08_LeafJoins.calls (k : Nat) (A0_0 : Option Addr) (c0_0 : Nat) (l0_0 : List Int) (A0_1 : Option Addr) (c0_1 : Nat) (l0_1 : List (List Int)) (a1 : Int) (A2 : Option Addr) (c2 : Nat) (l2 : List Int) (r : Bool) (w : World) (hr0_0 : Kd.C (Kd.int .i64) w A0_0 l0_0.length l0_0) (hc0_0 : l0_0.length ≤ c0_0) (hr0_1 : Kd.C (Kd.slice 5 (Kd.int .u8)) w A0_1 l0_1.length l0_1) (hc0_1 : l0_1.length ≤ c0_1) (hr2 : Kd.C (Kd.int .i64) w A2 l2.length l2) (hc2 : l2.length ≤ c2) (h : humuslaw08_LeafJoins.f k l0_0 l0_1 a1 l2 = some r) :
  Calls Try.prog 5 #[.agg #[.slice A0_0 l0_0.length c0_0,.slice A0_1 l0_1.length c0_1],.int .i64 a1,.slice A2 l2.length c2] w fun e w' => e = .returned (.bool r) ∧ Below w.heap.size w w':=by
 have hu27:=Try.underlying27
 have HR0_0:=Aside0.mk hr0_0
 have HC0_0:=Aside0.mk hc0_0
 clear hr0_0 hc0_0
 have HR0_1:=Aside0.mk hr0_1
 have HC0_1:=Aside0.mk hc0_1
 clear hr0_1 hc0_1
 have HR2:=Aside0.mk hr2
 have HC2:=Aside0.mk hc2
 clear hr2 hc2
 have HB:=Aside0.mk (Below.refl w.heap.size w)
 have H : ((humuslaw08_Light.f k l0_0 l0_1).bind fun t424 => (if t424 = true then (humuslaw08_LeafJoins.j0 k a1 l2 (decide ((l2.length : Int) > 40)) l0_0 l0_1) else (humuslaw08_LeafJoins.j0 k a1 l2 true l0_0 l0_1))) = some r:=h
 clear h
 have HC4:=Aside0.mk H
 clear H
 go_enter Try.func5,Try.ntmps5
 go_upto_region 1 with (first | ((with_reducible refine gate_dst (N:=3) rfl ?_);(try (refine gate_guard (by rfl) ?_;dsimp only));refine box_event ?hg (N:=3) ?hd (cs:=#[.slice A0_0 l0_0.length c0_0,.slice A0_1 l0_1.length c0_1]) (t:=27) ?hr ?_;(case hd => rfl);(case hg => rfl);(case hr => first | (go_simp;done) | (go_simp;rfl));intro gb423 hg w5 hbox hb;have n0_:=Aside0.mk (below_step (by repeat (first | (with_reducible first | exact HB.out | apply below_alloc | apply pw_below_drewN | apply below_drew1) | exact HB.out)) hb);have n1_:=Aside0.mk (hbox);have n2_:=Aside0.mk ((by rw [hg];exact (below_size (by repeat (first | (with_reducible first | exact HB.out | apply below_alloc | apply pw_below_drewN | apply below_drew1) | exact HB.out))) : w.heap.size ≤ gb423));have n3_:=Aside0.mk ((by rw [hg];exact (below_size (by repeat (first | (with_reducible first | exact HB.out | apply below_alloc | apply pw_below_drewN | apply below_drew1) | exact HB.out))) : w.heap.size ≤ gb423));clear HB;have HB:=n0_;have BK423:=n1_;have GW423:=n2_;have GE423:=n3_;clear n0_ n1_ n2_ n3_;clear hb hbox hg))
 (try simp only [Act.put,List.setIfInBounds_toArray,List.set_cons_zero,List.set_cons_succ])
 go_cut [18] (fun v18 wc => ∃ (kq : Nat) (x18_3 : Bool),v18 = .bool x18_3 ∧ Aside0 (humuslaw08_LeafJoins.j0 kq a1 l2 x18_3 l0_0 l0_1 = some r) ∧ Aside0 (kq ≤ k) ∧ Aside0 (wc.heap[gb423]? = some (.cells #[(.slice A0_0 l0_0.length c0_0),(.slice A0_1 l0_1.length c0_1)] 27 (0,0))) ∧ Aside0 (Below w.heap.size w wc))
 case first =>
  have H:=HC4.out
  clear HC4
  replace H:=Option.bind_eq_some_iff.mp H
  obtain ⟨t424,A60,H⟩:=H
  replace H : (if t424 = true then (humuslaw08_LeafJoins.j0 k a1 l2 (decide ((l2.length : Int) > 40)) l0_0 l0_1) else (humuslaw08_LeafJoins.j0 k a1 l2 true l0_0 l0_1)) = some r:=H
  have A6:=Aside0.mk A60
  clear A60
  by_cases c7 : t424 = true
  ·subst c7
   have H1 : (humuslaw08_LeafJoins.j0 k a1 l2 (decide ((l2.length : Int) > 40)) l0_0 l0_1) = some r:=by rw [if_pos rfl] at H;exact H
   clear H
   have H:=H1
   clear H1
   have H':=Aside0.mk H
   clear H
   have hcz8_0 : w5.cell? ⟨gb423,0,none⟩ = some (.slice A0_0 l0_0.length c0_0):=(blk_cell BK423.out 0).trans rfl
   have hcz8_1 : w5.cell? ⟨gb423,1,none⟩ = some (.slice A0_1 l0_1.length c0_1):=(blk_cell BK423.out 1).trans rfl
   have hfz8_0:=blk_frozen BK423.out 0
   have hfz8_1:=blk_frozen BK423.out 1
   go_wp2_with (first | ((with_reducible refine gate_callee (f:=12) rfl ?_);refine goesL_ (some 12) rfl rfl Try.func12 (by kernel_rfl) rfl #[.agg #[.slice A0_0 l0_0.length c0_0,.slice A0_1 l0_1.length c0_1]] rfl (by (try simp only [List.map_toArray,List.map_cons,List.map_nil]);first | done | rfl | (simp only [List.length_drop,List.length_take];rfl)) ?_;(with_reducible refine (humuslaw08_Light.calls k _ _ l0_0 _ _ l0_1 true _ ?side1 ?side2 ?side3 ?side4 A6.out).mono ?_);(case side1 => repeat (first | exact (Kd.C_below HR0_0.out HB.out) | (with_reducible refine Kd.C_alloc ?_ _) | (with_reducible refine Kd.C_drewN ?_ _) | (with_reducible refine Kd.C_drew ?_)));(case side2 => exact HC0_0.out);(case side3 => repeat (first | exact (Kd.C_below HR0_1.out HB.out) | (with_reducible refine Kd.C_alloc ?_ _) | (with_reducible refine Kd.C_drewN ?_ _) | (with_reducible refine Kd.C_drew ?_)));(case side4 => exact HC0_1.out);rintro e w9 ⟨rfl,hb⟩;refine ⟨_,rfl,?_⟩;have n0_:=Aside0.mk (blk_below (g:=gb423) (o:=.cells #[.slice A0_0 l0_0.length c0_0,.slice A0_1 l0_1.length c0_1] 27 (0,0)) (by (with_reducible repeat (first | refine blk_drewN ?_ _ | refine blk_drew ?_ | refine blk_alloc ?_ _));exact BK423.out) hb);have n1_:=Aside0.mk (below_step (by repeat (first | (with_reducible first | exact HB.out | apply below_alloc | apply pw_below_drewN | apply below_drew1 | refine below_set ?_ GE423.out) | exact HB.out)) hb);clear BK423;clear HB;have BK423:=n0_;have HB:=n1_;clear n0_ n1_;(try clear hb);(try clear hb2);(try clear hk);(try clear hi)))
   go_meet
   case rel => exact ⟨_,(decide ((l2.length : Int) > 40)),(by first | rfl | (simp;done) | (simp [*];done)),H',⟨by first | omega | exact Nat.le_refl _⟩,⟨by (with_reducible repeat (first | refine blk_drewN ?_ _ | refine blk_drew ?_ | refine blk_alloc ?_ _));exact BK423.out⟩,⟨by repeat (first | (with_reducible first | exact HB.out | apply below_alloc | apply pw_below_drewN | apply below_drew1 | refine below_set ?_ GE423.out) | exact HB.out)⟩⟩
  ·replace c7:=Bool.eq_false_iff.mpr c7
   subst c7
   have H1 : (humuslaw08_LeafJoins.j0 k a1 l2 true l0_0 l0_1) = some r:=by rw [if_neg (show ¬ (false = true) by decide)] at H;exact H
   clear H
   have H:=H1
   clear H1
   have H':=Aside0.mk H
   clear H
   have hcz10_0 : w5.cell? ⟨gb423,0,none⟩ = some (.slice A0_0 l0_0.length c0_0):=(blk_cell BK423.out 0).trans rfl
   have hcz10_1 : w5.cell? ⟨gb423,1,none⟩ = some (.slice A0_1 l0_1.length c0_1):=(blk_cell BK423.out 1).trans rfl
   have hfz10_0:=blk_frozen BK423.out 0
   have hfz10_1:=blk_frozen BK423.out 1
   go_wp2_with (first | ((with_reducible refine gate_callee (f:=12) rfl ?_);refine goesL_ (some 12) rfl rfl Try.func12 (by kernel_rfl) rfl #[.agg #[.slice A0_0 l0_0.length c0_0,.slice A0_1 l0_1.length c0_1]] rfl (by (try simp only [List.map_toArray,List.map_cons,List.map_nil]);first | done | rfl | (simp only [List.length_drop,List.length_take];rfl)) ?_;(with_reducible refine (humuslaw08_Light.calls k _ _ l0_0 _ _ l0_1 false _ ?side1 ?side2 ?side3 ?side4 A6.out).mono ?_);(case side1 => repeat (first | exact (Kd.C_below HR0_0.out HB.out) | (with_reducible refine Kd.C_alloc ?_ _) | (with_reducible refine Kd.C_drewN ?_ _) | (with_reducible refine Kd.C_drew ?_)));(case side2 => exact HC0_0.out);(case side3 => repeat (first | exact (Kd.C_below HR0_1.out HB.out) | (with_reducible refine Kd.C_alloc ?_ _) | (with_reducible refine Kd.C_drewN ?_ _) | (with_reducible refine Kd.C_drew ?_)));(case side4 => exact HC0_1.out);rintro e w11 ⟨rfl,hb⟩;refine ⟨_,rfl,?_⟩;have n0_:=Aside0.mk (blk_below (g:=gb423) (o:=.cells #[.slice A0_0 l0_0.length c0_0,.slice A0_1 l0_1.length c0_1] 27 (0,0)) (by (with_reducible repeat (first | refine blk_drewN ?_ _ | refine blk_drew ?_ | refine blk_alloc ?_ _));exact BK423.out) hb);have n1_:=Aside0.mk (below_step (by repeat (first | (with_reducible first | exact HB.out | apply below_alloc | apply pw_below_drewN | apply below_drew1 | refine below_set ?_ GE423.out) | exact HB.out)) hb);clear BK423;clear HB;have BK423:=n0_;have HB:=n1_;clear n0_ n1_;(try clear hb);(try clear hb2);(try clear hk);(try clear hi)))
   go_meet
   case rel => exact ⟨_,(true),(by first | rfl | (simp;done) | (simp [*];done)),H',⟨by first | omega | exact Nat.le_refl _⟩,⟨by (with_reducible repeat (first | refine blk_drewN ?_ _ | refine blk_drew ?_ | refine blk_alloc ?_ _));exact BK423.out⟩,⟨by repeat (first | (with_reducible first | exact HB.out | apply below_alloc | apply pw_below_drewN | apply below_drew1 | refine below_set ?_ GE423.out) | exact HB.out)⟩⟩
 case rest =>
  clear HC4
  try clear c1
  try clear c2
  try clear p2
  try clear c5
  try clear c7
  try clear hcz10_0
  try clear hcz10_1
  try clear hcz8_0
  try clear hcz8_1
  try clear hfz10_0
  try clear hfz10_1
  try clear hfz8_0
  try clear hfz8_1
  obtain ⟨kq,x18_3,rfl,HA,HJ3,BK423,HB⟩:=hcut
  cases kq with
  | zero => exact absurd HA.out (by simp [humuslaw08_LeafJoins.j0])
  | succ kj3 =>
   have H:=HA.out
   clear HA
   simp only [humuslaw08_LeafJoins.j0] at H
   by_cases c12 : x18_3 = true
   ·subst c12
    have H1 : ((humuslaw08_awake.f kj3).bind fun t425 => (some t425)) = some r:=by rw [if_pos rfl] at H;exact H
    clear H
    have H:=H1
    clear H1
    replace H:=Option.bind_eq_some_iff.mp H
    obtain ⟨t425,A130,H⟩:=H
    replace H : (some t425) = some r:=H
    have A13:=Aside0.mk A130
    clear A130
    obtain rfl:=Option.some.inj H
    go_wp2_with (first | ((with_reducible refine gate_callee (f:=8) rfl ?_);refine goesL_ (some 19) rfl rfl Try.func8 (by kernel_rfl) rfl #[] rfl (by (try simp only [List.map_toArray,List.map_cons,List.map_nil]);first | done | rfl | (simp only [List.length_drop,List.length_take];rfl)) ?_;(with_reducible refine (humuslaw08_awake.calls kj3  t425 _ A13.out).mono ?_);rintro e w14 ⟨rfl,hb⟩;refine ⟨_,rfl,?_⟩;have n0_:=Aside0.mk (blk_below (g:=gb423) (o:=.cells #[.slice A0_0 l0_0.length c0_0,.slice A0_1 l0_1.length c0_1] 27 (0,0)) (by (with_reducible repeat (first | refine blk_drewN ?_ _ | refine blk_drew ?_ | refine blk_alloc ?_ _));exact BK423.out) hb);have n1_:=Aside0.mk (below_step (by repeat (first | (with_reducible first | exact HB.out | apply below_alloc | apply pw_below_drewN | apply below_drew1 | refine below_set ?_ GE423.out) | exact HB.out)) hb);clear BK423;clear HB;have BK423:=n0_;have HB:=n1_;clear n0_ n1_;(try clear hb);(try clear hb2);(try clear hk);(try clear hi)))
    go_ret
    exact ⟨by first | rfl | (simp [errW_none,errW_some] <;> rfl) | (simp [*,errW_none,errW_some] <;> rfl),by repeat (first | (with_reducible first | exact HB.out | apply below_alloc | apply pw_below_drewN | apply below_drew1 | refine below_set ?_ GE423.out) | exact HB.out)⟩
   ·replace c12:=Bool.eq_false_iff.mpr c12
    subst c12
    have H1 : ((leaf_Join.f kj3 l0_0 l0_1 a1 l2).bind fun bt426 => ((humusref08_May.f kj3 l0_0 l0_1).bind fun t434 => (if t434 = true then ((humusref08_Join.f kj3 l0_0 l0_1 a1 l2).bind fun bt437 => (if bt426.2.2 = bt437.2.2 then ((humusref08_Same.f kj3 bt426.1 bt426.2.1 bt437.1 bt437.2.1).bind fun t445 => (if t445 = true then ((humusref08_May.f kj3 bt426.1 bt426.2.1).bind fun t446 => (if t446 = true then ((humuslaw08_awake.f kj3).bind fun t447 => (humuslaw08_LeafJoins.j2 kj3 t447)) else (none))) else (none))) else (none))) else ((humuslaw08_none.f kj3 bt426.1 bt426.2.1 bt426.2.2).bind fun t435 => (if t435 = true then ((humuslaw08_awake.f kj3).bind fun t436 => (humuslaw08_LeafJoins.j1 kj3 t436)) else (none)))))) = some r:=by rw [if_neg (show ¬ (false = true) by decide)] at H;exact H
    clear H
    have H:=H1
    clear H1
    replace H:=Option.bind_eq_some_iff.mp H
    obtain ⟨⟨t426,t429,t432⟩,A150,H⟩:=H
    replace H : ((humusref08_May.f kj3 l0_0 l0_1).bind fun t434 => (if t434 = true then ((humusref08_Join.f kj3 l0_0 l0_1 a1 l2).bind fun bt437 => (if t432 = bt437.2.2 then ((humusref08_Same.f kj3 t426 t429 bt437.1 bt437.2.1).bind fun t445 => (if t445 = true then ((humusref08_May.f kj3 t426 t429).bind fun t446 => (if t446 = true then ((humuslaw08_awake.f kj3).bind fun t447 => (humuslaw08_LeafJoins.j2 kj3 t447)) else (none))) else (none))) else (none))) else ((humuslaw08_none.f kj3 t426 t429 t432).bind fun t435 => (if t435 = true then ((humuslaw08_awake.f kj3).bind fun t436 => (humuslaw08_LeafJoins.j1 kj3 t436)) else (none))))) = some r:=H
    have A15:=Aside0.mk A150
    clear A150
    replace H:=Option.bind_eq_some_iff.mp H
    obtain ⟨t434,A160,H⟩:=H
    replace H : (if t434 = true then ((humusref08_Join.f kj3 l0_0 l0_1 a1 l2).bind fun bt437 => (if t432 = bt437.2.2 then ((humusref08_Same.f kj3 t426 t429 bt437.1 bt437.2.1).bind fun t445 => (if t445 = true then ((humusref08_May.f kj3 t426 t429).bind fun t446 => (if t446 = true then ((humuslaw08_awake.f kj3).bind fun t447 => (humuslaw08_LeafJoins.j2 kj3 t447)) else (none))) else (none))) else (none))) else ((humuslaw08_none.f kj3 t426 t429 t432).bind fun t435 => (if t435 = true then ((humuslaw08_awake.f kj3).bind fun t436 => (humuslaw08_LeafJoins.j1 kj3 t436)) else (none)))) = some r:=H
    have A16:=Aside0.mk A160
    clear A160
    by_cases c17 : t434 = true
    ·subst c17
     have H1 : ((humusref08_Join.f kj3 l0_0 l0_1 a1 l2).bind fun bt437 => (if t432 = bt437.2.2 then ((humusref08_Same.f kj3 t426 t429 bt437.1 bt437.2.1).bind fun t445 => (if t445 = true then ((humusref08_May.f kj3 t426 t429).bind fun t446 => (if t446 = true then ((humuslaw08_awake.f kj3).bind fun t447 => (humuslaw08_LeafJoins.j2 kj3 t447)) else (none))) else (none))) else (none))) = some r:=by rw [if_pos rfl] at H;exact H
     clear H
     have H:=H1
     clear H1
     replace H:=Option.bind_eq_some_iff.mp H
     obtain ⟨⟨t437,t440,t443⟩,A180,H⟩:=H
     replace H : (if t432 = t443 then ((humusref08_Same.f kj3 t426 t429 t437 t440).bind fun t445 => (if t445 = true then ((humusref08_May.f kj3 t426 t429).bind fun t446 => (if t446 = true then ((humuslaw08_awake.f kj3).bind fun t447 => (humuslaw08_LeafJoins.j2 kj3 t447)) else (none))) else (none))) else (none)) = some r:=H
     have A18:=Aside0.mk A180
     clear A180
     have HC19:=Aside0.mk H
     clear H
     have hcz20_0 : wc.cell? ⟨gb423,0,none⟩ = some (.slice A0_0 l0_0.length c0_0):=(blk_cell BK423.out 0).trans rfl
     have hcz20_1 : wc.cell? ⟨gb423,1,none⟩ = some (.slice A0_1 l0_1.length c0_1):=(blk_cell BK423.out 1).trans rfl
     have hfz20_0:=blk_frozen BK423.out 0
     have hfz20_1:=blk_frozen BK423.out 1
     go_upto_region 7 with (first | ((with_reducible refine gate_callee (f:=17) rfl ?_);refine goesL_ (some 24) rfl rfl Try.func17 (by kernel_rfl) rfl #[.agg #[.slice A0_0 l0_0.length c0_0,.slice A0_1 l0_1.length c0_1],.int .i64 a1,.slice A2 l2.length c2] rfl (by (try simp only [List.map_toArray,List.map_cons,List.map_nil]);first | done | rfl | (simp only [List.length_drop,List.length_take];rfl)) ?_;(with_reducible refine (leaf_Join.calls kj3 _ _ l0_0 (fun k_ => k_ < w.heap.size) _ _ l0_1 a1 _ _ l2 t426 t429 t432 _ ?side1 ?side2 ?side3 ?side4 ?side5 A15.out).mono ?_);(case side1 => repeat (first | exact (Kd.C_below HR0_0.out HB.out) | (with_reducible refine Kd.C_alloc ?_ _) | (with_reducible refine Kd.C_drewN ?_ _) | (with_reducible refine Kd.C_drew ?_)));(case side2 => exact HC0_0.out);(case side3 => exact Kd.V_mk HC0_1.out (Kd.F_below (Kd.C_F (Kd.heap_slice 5 (Kd.heap_int .u8)) HR0_1.out) (by repeat (first | (with_reducible first | exact HB.out | apply below_alloc | apply pw_below_drewN | apply below_drew1 | refine below_set ?_ GE423.out) | exact HB.out))));(case side4 => repeat (first | exact (Kd.C_below HR2.out HB.out) | (with_reducible refine Kd.C_alloc ?_ _) | (with_reducible refine Kd.C_drewN ?_ _) | (with_reducible refine Kd.C_drew ?_)));(case side5 => exact HC2.out);rintro e w21 ⟨v427,v430,rfl,ho0,ho1,hb⟩;refine ⟨_,rfl,?_⟩;have n0_:=Aside0.mk (Kd.R_lower (Kd.R_mono (ok':=fun k_ => True) ho0 (fun _ hk_ => trivial)) (below_size (by repeat (first | (with_reducible first | exact HB.out | apply below_alloc | apply pw_below_drewN | apply below_drew1 | refine below_set ?_ GE423.out) | exact HB.out))));have n1_:=Aside0.mk (Kd.N_lower (Kd.N_mono (ok':=fun k_ => some k_ ≠ (v427 : Value).ownBlock ∧ k_ ≠ gb423) ho1 (fun k_ hk_ => ⟨hk_.2,Or.elim hk_.1 (fun hs_ => fun e_ => Nat.not_le.2 hs_ (by rw [e_];exact GW423.out)) (fun hn_ => (Kd.freshB (g:=gb423) (o:=.cells #[.slice A0_0 l0_0.length c0_0,.slice A0_1 l0_1.length c0_1] 27 (0,0)) (by (with_reducible repeat (first | refine blk_drewN ?_ _ | refine blk_drew ?_ | refine blk_alloc ?_ _));exact BK423.out) k_ hn_))⟩)) (below_size (by repeat (first | (with_reducible first | exact HB.out | apply below_alloc | apply pw_below_drewN | apply below_drew1 | refine below_set ?_ GE423.out) | exact HB.out))));have n2_:=Aside0.mk (blk_below (g:=gb423) (o:=.cells #[.slice A0_0 l0_0.length c0_0,.slice A0_1 l0_1.length c0_1] 27 (0,0)) (by (with_reducible repeat (first | refine blk_drewN ?_ _ | refine blk_drew ?_ | refine blk_alloc ?_ _));exact BK423.out) hb);have n3_:=Aside0.mk (below_step (by repeat (first | (with_reducible first | exact HB.out | apply below_alloc | apply pw_below_drewN | apply below_drew1 | refine below_set ?_ GE423.out) | exact HB.out)) hb);clear BK423;clear HB;have HO428:=n0_;have HO431:=n1_;have BK423:=n2_;have HB:=n3_;clear n0_ n1_ n2_ n3_;(try clear hb);(try clear hb2);(try clear hk);(try clear hi);(try clear ho0);(try clear ho1)) | ((with_reducible refine gate_dst (N:=7) rfl ?_);(try (refine gate_guard (by rfl) ?_;dsimp only));refine box_event ?hg (N:=7) ?hd (cs:=#[.slice none 0 0,.slice none 0 0]) (t:=27) ?hr ?_;(case hd => rfl);(case hg => rfl);(case hr => first | (go_simp;done) | (go_simp;rfl));intro gb433 hg w22 hbox hb;have n0_:=Aside0.mk (Kd.R_below (by (with_reducible repeat (first | apply Kd.R_alloc | apply Kd.R_drewN | apply Kd.R_drew));exact HO428.out) hb);have n1_:=Aside0.mk (Kd.N_below (Kd.N_elderB (by (with_reducible repeat (first | apply Kd.N_alloc | apply Kd.N_drewN | apply Kd.N_drew));exact HO431.out) gb433 (Nat.le_of_eq hg.symm)) hb);have n2_:=Aside0.mk (blk_below (g:=gb423) (o:=.cells #[.slice A0_0 l0_0.length c0_0,.slice A0_1 l0_1.length c0_1] 27 (0,0)) (by (with_reducible repeat (first | refine blk_drewN ?_ _ | refine blk_drew ?_ | refine blk_alloc ?_ _));exact BK423.out) hb);have n3_:=Aside0.mk (below_step (by repeat (first | (with_reducible first | exact HB.out | apply below_alloc | apply pw_below_drewN | apply below_drew1 | refine below_set ?_ GE423.out) | exact HB.out)) hb);have n4_:=Aside0.mk (hbox);have n5_:=Aside0.mk ((by rw [hg];exact (below_size (by repeat (first | (with_reducible first | exact HB.out | apply below_alloc | apply pw_below_drewN | apply below_drew1 | refine below_set ?_ GE423.out) | exact HB.out))) : w.heap.size ≤ gb433));have n6_:=Aside0.mk ((by rw [hg];exact (below_size (by repeat (first | (with_reducible first | exact HB.out | apply below_alloc | apply pw_below_drewN | apply below_drew1 | refine below_set ?_ GE423.out) | exact HB.out))) : w.heap.size ≤ gb433));have n7_:=Aside0.mk ((by rw [hg];exact Nat.ne_of_lt (blk_lt (g:=gb423) (o:=.cells #[.slice A0_0 l0_0.length c0_0,.slice A0_1 l0_1.length c0_1] 27 (0,0)) (by (with_reducible repeat (first | refine blk_drewN ?_ _ | refine blk_drew ?_ | refine blk_alloc ?_ _));exact BK423.out)) : gb423 ≠ gb433));have n8_:=Aside0.mk ((by rw [hg];exact Nat.ne_of_gt (blk_lt (g:=gb423) (o:=.cells #[.slice A0_0 l0_0.length c0_0,.slice A0_1 l0_1.length c0_1] 27 (0,0)) (by (with_reducible repeat (first | refine blk_drewN ?_ _ | refine blk_drew ?_ | refine blk_alloc ?_ _));exact BK423.out)) : gb433 ≠ gb423));clear HO428;clear HO431;clear BK423;clear HB;have HO428:=n0_;have HO431:=n1_;have BK423:=n2_;have HB:=n3_;have BK433:=n4_;have GW433:=n5_;have GE433:=n6_;have NB423_433:=n7_;have NB433_423:=n8_;clear n0_ n1_ n2_ n3_ n4_ n5_ n6_ n7_ n8_;clear hb hbox hg;obtain ⟨Ao23,co23,eo23⟩:=Kd.R_slice HO428.out;subst eo23;have hnb24:=NB433_423.out;have hnc24:=NB423_433.out;have hcz25_0 : w22.cell? ⟨gb433,0,none⟩ = some (.slice none 0 0):=(blk_cell BK433.out 0).trans rfl;have hcz25_1 : w22.cell? ⟨gb433,1,none⟩ = some (.slice none 0 0):=(blk_cell BK433.out 1).trans rfl;have hfz25_0:=blk_frozen BK433.out 0;have hfz25_1:=blk_frozen BK433.out 1;obtain ⟨Ao26,co26,eo26⟩:=Kd.N_slice HO431.out;subst eo26;have hcz27_0 : w22.cell? ⟨gb423,0,none⟩ = some (.slice A0_0 l0_0.length c0_0):=(blk_cell BK423.out 0).trans rfl;have hcz27_1 : w22.cell? ⟨gb423,1,none⟩ = some (.slice A0_1 l0_1.length c0_1):=(blk_cell BK423.out 1).trans rfl;have hfz27_0:=blk_frozen BK423.out 0;have hfz27_1:=blk_frozen BK423.out 1) | ((with_reducible refine gate_callee (f:=13) rfl ?_);refine goesL_ (some 28) rfl rfl Try.func13 (by kernel_rfl) rfl #[.agg #[.slice A0_0 l0_0.length c0_0,.slice A0_1 l0_1.length c0_1]] rfl (by (try simp only [List.map_toArray,List.map_cons,List.map_nil]);first | done | rfl | (simp only [List.length_drop,List.length_take];rfl)) ?_;(with_reducible refine (humusref08_May.calls kj3 _ _ l0_0 _ _ l0_1 true _ ?side1 ?side2 ?side3 ?side4 A16.out).mono ?_);(case side1 => exact Kd.C_below HR0_0.out (by repeat (first | (with_reducible first | exact HB.out | apply below_alloc | apply pw_below_drewN | apply below_drew1 | refine below_set ?_ GE423.out | refine below_set ?_ GE433.out) | exact HB.out)));(case side2 => exact HC0_0.out);(case side3 => exact Kd.C_below HR0_1.out (by repeat (first | (with_reducible first | exact HB.out | apply below_alloc | apply pw_below_drewN | apply below_drew1 | refine below_set ?_ GE423.out | refine below_set ?_ GE433.out) | exact HB.out)));(case side4 => exact HC0_1.out);rintro e w28 ⟨rfl,hb⟩;refine ⟨_,rfl,?_⟩;have n0_:=Aside0.mk (Kd.R_below (by (with_reducible repeat (first | apply Kd.R_alloc | apply Kd.R_drewN | apply Kd.R_drew));exact (Kd.R_mono (Kd.R_far (p:=⟨gb433,1,none⟩) (Kd.R_far (p:=⟨gb433,0,none⟩) (Kd.R_types HO428.out BK433.out (by decide)) (fun _ hk => hk.2) (.slice Ao23 t426.length co23)) (fun _ hk => hk.2) (.slice Ao26 t429.length co26)) (fun _ h_ => h_.1))) hb);have n1_:=Aside0.mk (Kd.N_below (by (with_reducible repeat (first | apply Kd.N_alloc | apply Kd.N_drewN | apply Kd.N_drew));exact (Kd.N_mono (Kd.N_far (p:=⟨gb433,1,none⟩) (Kd.N_far (p:=⟨gb433,0,none⟩) (Kd.N_mono HO431.out (fun k_ hk => (⟨hk,hk.2⟩ : _ ∧ k_ ≠ gb433))) (fun _ hk => hk.2) (.slice Ao23 t426.length co23)) (fun _ hk => hk.2) (.slice Ao26 t429.length co26)) (fun _ h_ => h_.1))) hb);have n2_:=Aside0.mk (blk_below (g:=gb423) (o:=.cells #[.slice A0_0 l0_0.length c0_0,.slice A0_1 l0_1.length c0_1] 27 (0,0)) (by (with_reducible repeat (first | refine blk_drewN ?_ _ | refine blk_drew ?_ | refine blk_alloc ?_ _));refine blk_far ?_ NB423_433.out _;(with_reducible repeat (first | refine blk_drewN ?_ _ | refine blk_drew ?_ | refine blk_alloc ?_ _));refine blk_far ?_ NB423_433.out _;(with_reducible repeat (first | refine blk_drewN ?_ _ | refine blk_drew ?_ | refine blk_alloc ?_ _));exact BK423.out) hb);have n3_:=Aside0.mk (blk_below (g:=gb433) (o:=.cells #[.slice Ao23 t426.length co23,.slice Ao26 t429.length co26] 27 (0,0)) (by (with_reducible repeat (first | refine blk_drewN ?_ _ | refine blk_drew ?_ | refine blk_alloc ?_ _));refine blk_put (cs:=#[.slice Ao23 t426.length co23,.slice none 0 0]) ?_ 1 _ rfl;(with_reducible repeat (first | refine blk_drewN ?_ _ | refine blk_drew ?_ | refine blk_alloc ?_ _));refine blk_put (cs:=#[.slice none 0 0,.slice none 0 0]) ?_ 0 _ rfl;(with_reducible repeat (first | refine blk_drewN ?_ _ | refine blk_drew ?_ | refine blk_alloc ?_ _));exact BK433.out) hb);have n4_:=Aside0.mk (below_step (by repeat (first | (with_reducible first | exact HB.out | apply below_alloc | apply pw_below_drewN | apply below_drew1 | refine below_set ?_ GE423.out | refine below_set ?_ GE433.out) | exact HB.out)) hb);clear HO428;clear HO431;clear BK423;clear BK433;clear HB;have HO428:=n0_;have HO431:=n1_;have BK423:=n2_;have BK433:=n3_;have HB:=n4_;clear n0_ n1_ n2_ n3_ n4_;(try clear hb);(try clear hb2);(try clear hk);(try clear hi);have hcz29_0 : w28.cell? ⟨gb423,0,none⟩ = some (.slice A0_0 l0_0.length c0_0):=(blk_cell BK423.out 0).trans rfl;have hcz29_1 : w28.cell? ⟨gb423,1,none⟩ = some (.slice A0_1 l0_1.length c0_1):=(blk_cell BK423.out 1).trans rfl;have hfz29_0:=blk_frozen BK423.out 0;have hfz29_1:=blk_frozen BK423.out 1) | ((with_reducible refine gate_callee (f:=19) rfl ?_);refine goesL_ (some 40) rfl rfl Try.func19 (by kernel_rfl) rfl #[.agg #[.slice A0_0 l0_0.length c0_0,.slice A0_1 l0_1.length c0_1],.int .i64 a1,.slice A2 l2.length c2] rfl (by (try simp only [List.map_toArray,List.map_cons,List.map_nil]);first | done | rfl | (simp only [List.length_drop,List.length_take];rfl)) ?_;(with_reducible refine (humusref08_Join.calls kj3 (fun k_ => k_ < w.heap.size) _ _ l0_0 (fun k_ => k_ < w.heap.size) _ _ l0_1 a1 _ _ l2 t437 t440 t443 _ ?side1 ?side2 ?side3 ?side4 A18.out).mono ?_);(case side1 => exact Kd.V_mk HC0_0.out (Kd.F_below (Kd.C_F (Kd.heap_int .i64) HR0_0.out) (by repeat (first | (with_reducible first | exact HB.out | apply below_alloc | apply pw_below_drewN | apply below_drew1 | refine below_set ?_ GE423.out | refine below_set ?_ GE433.out) | exact HB.out))));(case side2 => exact Kd.V_mk HC0_1.out (Kd.F_below (Kd.C_F (Kd.heap_slice 5 (Kd.heap_int .u8)) HR0_1.out) (by repeat (first | (with_reducible first | exact HB.out | apply below_alloc | apply pw_below_drewN | apply below_drew1 | refine below_set ?_ GE423.out | refine below_set ?_ GE433.out) | exact HB.out))));(case side3 => repeat (first | exact (Kd.C_below HR2.out HB.out) | (with_reducible refine Kd.C_alloc ?_ _) | (with_reducible refine Kd.C_drewN ?_ _) | (with_reducible refine Kd.C_drew ?_)));(case side4 => exact HC2.out);rintro e w30 ⟨v438,v441,rfl,ho0,ho1,hb⟩;refine ⟨_,rfl,?_⟩;have n0_:=Aside0.mk (Kd.R_below (by (with_reducible repeat (first | apply Kd.R_alloc | apply Kd.R_drewN | apply Kd.R_drew));exact HO428.out) hb);have n1_:=Aside0.mk (Kd.N_below (by (with_reducible repeat (first | apply Kd.N_alloc | apply Kd.N_drewN | apply Kd.N_drew));exact HO431.out) hb);have n2_:=Aside0.mk (Kd.V_lower (Kd.V_mono (ok':=fun k_ => some k_ ≠ (.slice Ao23 t426.length co23 : Value).ownBlock ∧ some k_ ≠ (.slice Ao26 t429.length co26 : Value).ownBlock ∧ k_ ≠ gb423 ∧ k_ ≠ gb433) ho0 (fun k_ hk_ => ⟨Or.elim hk_ (fun hs_ => Or.elim hs_ (fun hs_ => fun e_ => Nat.not_le.2 hs_ (Kd.R_base HO428.out k_ e_.symm)) (fun hs_ => fun e_ => Nat.not_le.2 hs_ (Kd.R_base HO428.out k_ e_.symm))) (fun hn_ => (Kd.fresh' (Kd.R_lt (by (with_reducible repeat (first | apply Kd.R_alloc | apply Kd.R_drewN | apply Kd.R_drew));exact HO428.out)) k_ hn_)),Or.elim hk_ (fun hs_ => Or.elim hs_ (fun hs_ => fun e_ => Nat.not_le.2 hs_ (Kd.N_base HO431.out k_ e_.symm)) (fun hs_ => fun e_ => Nat.not_le.2 hs_ (Kd.N_base HO431.out k_ e_.symm))) (fun hn_ => (Kd.fresh' (Kd.N_lt (by (with_reducible repeat (first | apply Kd.N_alloc | apply Kd.N_drewN | apply Kd.N_drew));exact HO431.out)) k_ hn_)),Or.elim hk_ (fun hs_ => Or.elim hs_ (fun hs_ => fun e_ => Nat.not_le.2 hs_ (by rw [e_];exact GW423.out)) (fun hs_ => fun e_ => Nat.not_le.2 hs_ (by rw [e_];exact GW423.out))) (fun hn_ => (Kd.freshB (g:=gb423) (o:=.cells #[.slice A0_0 l0_0.length c0_0,.slice A0_1 l0_1.length c0_1] 27 (0,0)) (by (with_reducible repeat (first | refine blk_drewN ?_ _ | refine blk_drew ?_ | refine blk_alloc ?_ _));exact BK423.out) k_ hn_)),Or.elim hk_ (fun hs_ => Or.elim hs_ (fun hs_ => fun e_ => Nat.not_le.2 hs_ (by rw [e_];exact GW433.out)) (fun hs_ => fun e_ => Nat.not_le.2 hs_ (by rw [e_];exact GW433.out))) (fun hn_ => (Kd.freshB (g:=gb433) (o:=.cells #[.slice Ao23 t426.length co23,.slice Ao26 t429.length co26] 27 (0,0)) (by (with_reducible repeat (first | refine blk_drewN ?_ _ | refine blk_drew ?_ | refine blk_alloc ?_ _));exact BK433.out) k_ hn_))⟩)) (below_size (by repeat (first | (with_reducible first | exact HB.out | apply below_alloc | apply pw_below_drewN | apply below_drew1 | refine below_set ?_ GE423.out | refine below_set ?_ GE433.out) | exact HB.out))));have n3_:=Aside0.mk (Kd.V_lower (Kd.V_mono (ok':=fun k_ => some k_ ≠ (.slice Ao23 t426.length co23 : Value).ownBlock ∧ some k_ ≠ (.slice Ao26 t429.length co26 : Value).ownBlock ∧ k_ ≠ gb423 ∧ k_ ≠ gb433) ho1 (fun k_ hk_ => ⟨Or.elim hk_ (fun hs_ => Or.elim hs_ (fun hs_ => fun e_ => Nat.not_le.2 hs_ (Kd.R_base HO428.out k_ e_.symm)) (fun hs_ => fun e_ => Nat.not_le.2 hs_ (Kd.R_base HO428.out k_ e_.symm))) (fun hn_ => (Kd.fresh' (Kd.R_lt (by (with_reducible repeat (first | apply Kd.R_alloc | apply Kd.R_drewN | apply Kd.R_drew));exact HO428.out)) k_ hn_)),Or.elim hk_ (fun hs_ => Or.elim hs_ (fun hs_ => fun e_ => Nat.not_le.2 hs_ (Kd.N_base HO431.out k_ e_.symm)) (fun hs_ => fun e_ => Nat.not_le.2 hs_ (Kd.N_base HO431.out k_ e_.symm))) (fun hn_ => (Kd.fresh' (Kd.N_lt (by (with_reducible repeat (first | apply Kd.N_alloc | apply Kd.N_drewN | apply Kd.N_drew));exact HO431.out)) k_ hn_)),Or.elim hk_ (fun hs_ => Or.elim hs_ (fun hs_ => fun e_ => Nat.not_le.2 hs_ (by rw [e_];exact GW423.out)) (fun hs_ => fun e_ => Nat.not_le.2 hs_ (by rw [e_];exact GW423.out))) (fun hn_ => (Kd.freshB (g:=gb423) (o:=.cells #[.slice A0_0 l0_0.length c0_0,.slice A0_1 l0_1.length c0_1] 27 (0,0)) (by (with_reducible repeat (first | refine blk_drewN ?_ _ | refine blk_drew ?_ | refine blk_alloc ?_ _));exact BK423.out) k_ hn_)),Or.elim hk_ (fun hs_ => Or.elim hs_ (fun hs_ => fun e_ => Nat.not_le.2 hs_ (by rw [e_];exact GW433.out)) (fun hs_ => fun e_ => Nat.not_le.2 hs_ (by rw [e_];exact GW433.out))) (fun hn_ => (Kd.freshB (g:=gb433) (o:=.cells #[.slice Ao23 t426.length co23,.slice Ao26 t429.length co26] 27 (0,0)) (by (with_reducible repeat (first | refine blk_drewN ?_ _ | refine blk_drew ?_ | refine blk_alloc ?_ _));exact BK433.out) k_ hn_))⟩)) (below_size (by repeat (first | (with_reducible first | exact HB.out | apply below_alloc | apply pw_below_drewN | apply below_drew1 | refine below_set ?_ GE423.out | refine below_set ?_ GE433.out) | exact HB.out))));have n4_:=Aside0.mk (blk_below (g:=gb423) (o:=.cells #[.slice A0_0 l0_0.length c0_0,.slice A0_1 l0_1.length c0_1] 27 (0,0)) (by (with_reducible repeat (first | refine blk_drewN ?_ _ | refine blk_drew ?_ | refine blk_alloc ?_ _));exact BK423.out) hb);have n5_:=Aside0.mk (blk_below (g:=gb433) (o:=.cells #[.slice Ao23 t426.length co23,.slice Ao26 t429.length co26] 27 (0,0)) (by (with_reducible repeat (first | refine blk_drewN ?_ _ | refine blk_drew ?_ | refine blk_alloc ?_ _));exact BK433.out) hb);have n6_:=Aside0.mk (below_step (by repeat (first | (with_reducible first | exact HB.out | apply below_alloc | apply pw_below_drewN | apply below_drew1 | refine below_set ?_ GE423.out | refine below_set ?_ GE433.out) | exact HB.out)) hb);clear HO428;clear HO431;clear BK423;clear BK433;clear HB;have HO428:=n0_;have HO431:=n1_;have HO439:=n2_;have HO442:=n3_;have BK423:=n4_;have BK433:=n5_;have HB:=n6_;clear n0_ n1_ n2_ n3_ n4_ n5_ n6_;(try clear hb);(try clear hb2);(try clear hk);(try clear hi);(try clear ho0);(try clear ho1)) | ((with_reducible refine gate_dst (N:=9) rfl ?_);(try (refine gate_guard (by rfl) ?_;dsimp only));refine box_event ?hg (N:=9) ?hd (cs:=#[.slice none 0 0,.slice none 0 0]) (t:=27) ?hr ?_;(case hd => rfl);(case hg => rfl);(case hr => first | (go_simp;done) | (go_simp;rfl));intro gb444 hg w31 hbox hb;have n0_:=Aside0.mk (Kd.R_below (by (with_reducible repeat (first | apply Kd.R_alloc | apply Kd.R_drewN | apply Kd.R_drew));exact HO428.out) hb);have n1_:=Aside0.mk (Kd.N_below (Kd.N_elderB (by (with_reducible repeat (first | apply Kd.N_alloc | apply Kd.N_drewN | apply Kd.N_drew));exact HO431.out) gb444 (Nat.le_of_eq hg.symm)) hb);have n2_:=Aside0.mk (Kd.V_below (Kd.V_elderB (by (with_reducible repeat (first | apply Kd.V_alloc | apply Kd.V_drewN | apply Kd.V_drew));exact HO439.out) gb444 (Nat.le_of_eq hg.symm)) hb);have n3_:=Aside0.mk (Kd.V_below (Kd.V_elderB (by (with_reducible repeat (first | apply Kd.V_alloc | apply Kd.V_drewN | apply Kd.V_drew));exact HO442.out) gb444 (Nat.le_of_eq hg.symm)) hb);have n4_:=Aside0.mk (blk_below (g:=gb423) (o:=.cells #[.slice A0_0 l0_0.length c0_0,.slice A0_1 l0_1.length c0_1] 27 (0,0)) (by (with_reducible repeat (first | refine blk_drewN ?_ _ | refine blk_drew ?_ | refine blk_alloc ?_ _));exact BK423.out) hb);have n5_:=Aside0.mk (blk_below (g:=gb433) (o:=.cells #[.slice Ao23 t426.length co23,.slice Ao26 t429.length co26] 27 (0,0)) (by (with_reducible repeat (first | refine blk_drewN ?_ _ | refine blk_drew ?_ | refine blk_alloc ?_ _));exact BK433.out) hb);have n6_:=Aside0.mk (below_step (by repeat (first | (with_reducible first | exact HB.out | apply below_alloc | apply pw_below_drewN | apply below_drew1 | refine below_set ?_ GE423.out | refine below_set ?_ GE433.out) | exact HB.out)) hb);have n7_:=Aside0.mk (hbox);have n8_:=Aside0.mk ((by rw [hg];exact (below_size (by repeat (first | (with_reducible first | exact HB.out | apply below_alloc | apply pw_below_drewN | apply below_drew1 | refine below_set ?_ GE423.out | refine below_set ?_ GE433.out) | exact HB.out))) : w.heap.size ≤ gb444));have n9_:=Aside0.mk ((by rw [hg];exact (below_size (by repeat (first | (with_reducible first | exact HB.out | apply below_alloc | apply pw_below_drewN | apply below_drew1 | refine below_set ?_ GE423.out | refine below_set ?_ GE433.out) | exact HB.out))) : w.heap.size ≤ gb444));have n10_:=Aside0.mk ((by rw [hg];exact Nat.ne_of_lt (blk_lt (g:=gb423) (o:=.cells #[.slice A0_0 l0_0.length c0_0,.slice A0_1 l0_1.length c0_1] 27 (0,0)) (by (with_reducible repeat (first | refine blk_drewN ?_ _ | refine blk_drew ?_ | refine blk_alloc ?_ _));exact BK423.out)) : gb423 ≠ gb444));have n11_:=Aside0.mk ((by rw [hg];exact Nat.ne_of_gt (blk_lt (g:=gb423) (o:=.cells #[.slice A0_0 l0_0.length c0_0,.slice A0_1 l0_1.length c0_1] 27 (0,0)) (by (with_reducible repeat (first | refine blk_drewN ?_ _ | refine blk_drew ?_ | refine blk_alloc ?_ _));exact BK423.out)) : gb444 ≠ gb423));have n12_:=Aside0.mk ((by rw [hg];exact Nat.ne_of_lt (blk_lt (g:=gb433) (o:=.cells #[.slice Ao23 t426.length co23,.slice Ao26 t429.length co26] 27 (0,0)) (by (with_reducible repeat (first | refine blk_drewN ?_ _ | refine blk_drew ?_ | refine blk_alloc ?_ _));exact BK433.out)) : gb433 ≠ gb444));have n13_:=Aside0.mk ((by rw [hg];exact Nat.ne_of_gt (blk_lt (g:=gb433) (o:=.cells #[.slice Ao23 t426.length co23,.slice Ao26 t429.length co26] 27 (0,0)) (by (with_reducible repeat (first | refine blk_drewN ?_ _ | refine blk_drew ?_ | refine blk_alloc ?_ _));exact BK433.out)) : gb444 ≠ gb433));clear HO428;clear HO431;clear HO439;clear HO442;clear BK423;clear BK433;clear HB;have HO428:=n0_;have HO431:=n1_;have HO439:=n2_;have HO442:=n3_;have BK423:=n4_;have BK433:=n5_;have HB:=n6_;have BK444:=n7_;have GW444:=n8_;have GE444:=n9_;have NB423_444:=n10_;have NB444_423:=n11_;have NB433_444:=n12_;have NB444_433:=n13_;clear n0_ n1_ n2_ n3_ n4_ n5_ n6_ n7_ n8_ n9_ n10_ n11_ n12_ n13_;clear hb hbox hg;obtain ⟨Ao32,co32,eo32⟩:=Kd.V_slice HO439.out;subst eo32;have hnb33:=NB444_423.out;have hnc33:=NB423_444.out;have hnb34:=NB444_433.out;have hnc34:=NB433_444.out;have hcz35_0 : w31.cell? ⟨gb444,0,none⟩ = some (.slice none 0 0):=(blk_cell BK444.out 0).trans rfl;have hcz35_1 : w31.cell? ⟨gb444,1,none⟩ = some (.slice none 0 0):=(blk_cell BK444.out 1).trans rfl;have hfz35_0:=blk_frozen BK444.out 0;have hfz35_1:=blk_frozen BK444.out 1;obtain ⟨Ao36,co36,eo36⟩:=Kd.V_slice HO442.out;subst eo36))
     (try simp only [Act.put,List.setIfInBounds_toArray,List.set_cons_zero,List.set_cons_succ])
     go_cut [6] (fun v6 wc => ∃ (kq : Nat) (x6_18 : Bool),v6 = .bool x6_18 ∧ Aside0 (humuslaw08_LeafJoins.j2 kq x6_18 = some r) ∧ Aside0 (kq ≤ kj3) ∧ Aside0 (Kd.R (Kd.int .i64) 3 wc w.heap.size (fun _ => True) (.slice Ao23 t426.length co23) t426) ∧ Aside0 (Kd.N (Kd.slice 5 (Kd.int .u8)) 22 wc w.heap.size (fun k_ => some k_ ≠ ((.slice Ao23 t426.length co23) : Value).ownBlock ∧ k_ ≠ gb423 ∧ k_ ≠ gb433 ∧ k_ ≠ gb444) (.slice Ao26 t429.length co26) t429) ∧ Aside0 (Kd.V (Kd.int .i64) 3 wc w.heap.size (fun k_ => some k_ ≠ ((.slice Ao23 t426.length co23) : Value).ownBlock ∧ some k_ ≠ ((.slice Ao26 t429.length co26) : Value).ownBlock ∧ k_ ≠ gb423 ∧ k_ ≠ gb433 ∧ k_ ≠ gb444) (.slice Ao32 t437.length co32) t437) ∧ Aside0 (Kd.V (Kd.slice 5 (Kd.int .u8)) 22 wc w.heap.size (fun k_ => some k_ ≠ ((.slice Ao23 t426.length co23) : Value).ownBlock ∧ some k_ ≠ ((.slice Ao26 t429.length co26) : Value).ownBlock ∧ k_ ≠ gb423 ∧ k_ ≠ gb433 ∧ k_ ≠ gb444) (.slice Ao36 t440.length co36) t440) ∧ Aside0 (wc.heap[gb423]? = some (.cells #[(.slice A0_0 l0_0.length c0_0),(.slice A0_1 l0_1.length c0_1)] 27 (0,0))) ∧ Aside0 (wc.heap[gb433]? = some (.cells #[(.slice Ao23 t426.length co23),(.slice Ao26 t429.length co26)] 27 (0,0))) ∧ Aside0 (wc.heap[gb444]? = some (.cells #[(.slice Ao32 t437.length co32),(.slice Ao36 t440.length co36)] 27 (0,0))) ∧ Aside0 (Below w.heap.size w wc))
     case first =>
      have H:=HC19.out
      clear HC19
      by_cases c37 : t432 = t443
      ·rw [if_pos c37] at H
       have c37b0 : (t432 == t443) = true:=beq_iff_eq.mpr c37
       have c37b1 : (t432 != t443) = false:=bne_eq_false_iff_eq.mpr c37
       clear c37
       (first | rw [c37b0] | (simp only [i64_w,i32_w];rw [c37b0]) | skip)
       replace H:=Option.bind_eq_some_iff.mp H
       obtain ⟨t445,A380,H⟩:=H
       replace H : (if t445 = true then ((humusref08_May.f kj3 t426 t429).bind fun t446 => (if t446 = true then ((humuslaw08_awake.f kj3).bind fun t447 => (humuslaw08_LeafJoins.j2 kj3 t447)) else (none))) else (none)) = some r:=H
       have A38:=Aside0.mk A380
       clear A380
       by_cases c39 : t445 = true
       ·subst c39
        have H1 : ((humusref08_May.f kj3 t426 t429).bind fun t446 => (if t446 = true then ((humuslaw08_awake.f kj3).bind fun t447 => (humuslaw08_LeafJoins.j2 kj3 t447)) else (none))) = some r:=by rw [if_pos rfl] at H;exact H
        clear H
        have H:=H1
        clear H1
        replace H:=Option.bind_eq_some_iff.mp H
        obtain ⟨t446,A400,H⟩:=H
        replace H : (if t446 = true then ((humuslaw08_awake.f kj3).bind fun t447 => (humuslaw08_LeafJoins.j2 kj3 t447)) else (none)) = some r:=H
        have A40:=Aside0.mk A400
        clear A400
        by_cases c41 : t446 = true
        ·subst c41
         have H1 : ((humuslaw08_awake.f kj3).bind fun t447 => (humuslaw08_LeafJoins.j2 kj3 t447)) = some r:=by rw [if_pos rfl] at H;exact H
         clear H
         have H:=H1
         clear H1
         replace H:=Option.bind_eq_some_iff.mp H
         obtain ⟨t447,A420,H⟩:=H
         replace H : (humuslaw08_LeafJoins.j2 kj3 t447) = some r:=H
         have A42:=Aside0.mk A420
         clear A420
         have H':=Aside0.mk H
         clear H
         have hnb43:=NB433_423.out
         have hnc43:=NB423_433.out
         have hnb44:=NB433_444.out
         have hnc44:=NB444_433.out
         have hcz45_0 : w31.cell? ⟨gb433,0,none⟩ = some (.slice Ao23 t426.length co23):=(blk_cell BK433.out 0).trans rfl
         have hcz45_1 : w31.cell? ⟨gb433,1,none⟩ = some (.slice Ao26 t429.length co26):=(blk_cell BK433.out 1).trans rfl
         have hfz45_0:=blk_frozen BK433.out 0
         have hfz45_1:=blk_frozen BK433.out 1
         have hnb46:=NB444_423.out
         have hnc46:=NB423_444.out
         have hcz47_0 : w31.cell? ⟨gb444,0,none⟩ = some (.slice none 0 0):=(blk_cell BK444.out 0).trans rfl
         have hcz47_1 : w31.cell? ⟨gb444,1,none⟩ = some (.slice none 0 0):=(blk_cell BK444.out 1).trans rfl
         have hfz47_0:=blk_frozen BK444.out 0
         have hfz47_1:=blk_frozen BK444.out 1
         go_wp2_with (first | (go_at_call 11;(with_reducible refine (humusref08_Same.calls kj3 _ _ t426 _ _ t429 _ _ t437 _ _ t440 true _ ?side1 ?side2 ?side3 ?side4 ?side5 ?side6 ?side7 ?side8 A38.out).mono ?_);(case side1 => refine (Kd.R_reads' (e:=3) (base:=w.heap.size) (ok:=fun k_ => True) (n:=t426.length) (c:=co23) ?_).2.2;exact (by (with_reducible repeat (first | apply Kd.R_alloc | apply Kd.R_drewN | apply Kd.R_drew));exact (Kd.R_mono (Kd.R_far (p:=⟨gb444,1,none⟩) (Kd.R_far (p:=⟨gb444,0,none⟩) (Kd.R_types HO428.out BK444.out (by decide)) (fun _ hk => hk.2) (.slice Ao32 t437.length co32)) (fun _ hk => hk.2) (.slice Ao36 t440.length co36)) (fun _ h_ => h_.1))));(case side2 => exact (Kd.R_reads' HO428.out).2.1);(case side3 => refine (Kd.N_reads' (e:=22) (base:=w.heap.size) (ok:=fun k_ => (((some k_ ≠ (.slice Ao23 t426.length co23 : Value).ownBlock ∧ k_ ≠ gb423) ∧ k_ ≠ gb433) ∧ k_ ≠ gb444)) (n:=t429.length) (c:=co26) ?_).2.2;exact (by (with_reducible repeat (first | apply Kd.N_alloc | apply Kd.N_drewN | apply Kd.N_drew));exact (Kd.N_mono (Kd.N_far (p:=⟨gb444,1,none⟩) (Kd.N_far (p:=⟨gb444,0,none⟩) (Kd.N_mono HO431.out (fun k_ hk => (⟨hk,hk.2⟩ : _ ∧ k_ ≠ gb444))) (fun _ hk => hk.2) (.slice Ao32 t437.length co32)) (fun _ hk => hk.2) (.slice Ao36 t440.length co36)) (fun _ h_ => h_.1))));(case side4 => exact (Kd.N_reads' HO431.out).2.1);(case side5 => refine (Kd.V_reads' (e:=3) (base:=w.heap.size) (ok:=fun k_ => ((some k_ ≠ (.slice Ao23 t426.length co23 : Value).ownBlock ∧ (some k_ ≠ (.slice Ao26 t429.length co26 : Value).ownBlock ∧ (k_ ≠ gb423 ∧ k_ ≠ gb433))) ∧ k_ ≠ gb444)) (n:=t437.length) (c:=co32) ?_).2.2;exact (by (with_reducible repeat (first | apply Kd.V_alloc | apply Kd.V_drewN | apply Kd.V_drew));exact (Kd.V_mono (Kd.V_far (p:=⟨gb444,1,none⟩) (Kd.V_far (p:=⟨gb444,0,none⟩) (Kd.V_mono HO439.out (fun k_ hk => (⟨hk,hk.2⟩ : _ ∧ k_ ≠ gb444))) (fun _ hk => hk.2) (.slice Ao32 t437.length co32)) (fun _ hk => hk.2) (.slice Ao36 t440.length co36)) (fun _ h_ => h_.1))));(case side6 => exact (Kd.V_reads' HO439.out).2.1);(case side7 => refine (Kd.V_reads' (e:=22) (base:=w.heap.size) (ok:=fun k_ => ((some k_ ≠ (.slice Ao23 t426.length co23 : Value).ownBlock ∧ (some k_ ≠ (.slice Ao26 t429.length co26 : Value).ownBlock ∧ (k_ ≠ gb423 ∧ k_ ≠ gb433))) ∧ k_ ≠ gb444)) (n:=t440.length) (c:=co36) ?_).2.2;exact (by (with_reducible repeat (first | apply Kd.V_alloc | apply Kd.V_drewN | apply Kd.V_drew));exact (Kd.V_mono (Kd.V_far (p:=⟨gb444,1,none⟩) (Kd.V_far (p:=⟨gb444,0,none⟩) (Kd.V_mono HO442.out (fun k_ hk => (⟨hk,hk.2⟩ : _ ∧ k_ ≠ gb444))) (fun _ hk => hk.2) (.slice Ao32 t437.length co32)) (fun _ hk => hk.2) (.slice Ao36 t440.length co36)) (fun _ h_ => h_.1))));(case side8 => exact (Kd.V_reads' HO442.out).2.1);rintro e w48 ⟨rfl,hb⟩;have n0_:=Aside0.mk (Kd.R_below (by (with_reducible repeat (first | apply Kd.R_alloc | apply Kd.R_drewN | apply Kd.R_drew));exact (Kd.R_mono (Kd.R_far (p:=⟨gb444,1,none⟩) (Kd.R_far (p:=⟨gb444,0,none⟩) (Kd.R_types HO428.out BK444.out (by decide)) (fun _ hk => hk.2) (.slice Ao32 t437.length co32)) (fun _ hk => hk.2) (.slice Ao36 t440.length co36)) (fun _ h_ => h_.1))) hb);have n1_:=Aside0.mk (Kd.N_below (by (with_reducible repeat (first | apply Kd.N_alloc | apply Kd.N_drewN | apply Kd.N_drew));exact (Kd.N_mono (Kd.N_far (p:=⟨gb444,1,none⟩) (Kd.N_far (p:=⟨gb444,0,none⟩) (Kd.N_mono HO431.out (fun k_ hk => (⟨hk,hk.2⟩ : _ ∧ k_ ≠ gb444))) (fun _ hk => hk.2) (.slice Ao32 t437.length co32)) (fun _ hk => hk.2) (.slice Ao36 t440.length co36)) (fun _ h_ => h_.1))) hb);have n2_:=Aside0.mk (Kd.V_below (by (with_reducible repeat (first | apply Kd.V_alloc | apply Kd.V_drewN | apply Kd.V_drew));exact (Kd.V_mono (Kd.V_far (p:=⟨gb444,1,none⟩) (Kd.V_far (p:=⟨gb444,0,none⟩) (Kd.V_mono HO439.out (fun k_ hk => (⟨hk,hk.2⟩ : _ ∧ k_ ≠ gb444))) (fun _ hk => hk.2) (.slice Ao32 t437.length co32)) (fun _ hk => hk.2) (.slice Ao36 t440.length co36)) (fun _ h_ => h_.1))) hb);have n3_:=Aside0.mk (Kd.V_below (by (with_reducible repeat (first | apply Kd.V_alloc | apply Kd.V_drewN | apply Kd.V_drew));exact (Kd.V_mono (Kd.V_far (p:=⟨gb444,1,none⟩) (Kd.V_far (p:=⟨gb444,0,none⟩) (Kd.V_mono HO442.out (fun k_ hk => (⟨hk,hk.2⟩ : _ ∧ k_ ≠ gb444))) (fun _ hk => hk.2) (.slice Ao32 t437.length co32)) (fun _ hk => hk.2) (.slice Ao36 t440.length co36)) (fun _ h_ => h_.1))) hb);have n4_:=Aside0.mk (blk_below (g:=gb423) (o:=.cells #[.slice A0_0 l0_0.length c0_0,.slice A0_1 l0_1.length c0_1] 27 (0,0)) (by (with_reducible repeat (first | refine blk_drewN ?_ _ | refine blk_drew ?_ | refine blk_alloc ?_ _));refine blk_far ?_ NB423_444.out _;(with_reducible repeat (first | refine blk_drewN ?_ _ | refine blk_drew ?_ | refine blk_alloc ?_ _));refine blk_far ?_ NB423_444.out _;(with_reducible repeat (first | refine blk_drewN ?_ _ | refine blk_drew ?_ | refine blk_alloc ?_ _));exact BK423.out) hb);have n5_:=Aside0.mk (blk_below (g:=gb433) (o:=.cells #[.slice Ao23 t426.length co23,.slice Ao26 t429.length co26] 27 (0,0)) (by (with_reducible repeat (first | refine blk_drewN ?_ _ | refine blk_drew ?_ | refine blk_alloc ?_ _));refine blk_far ?_ NB433_444.out _;(with_reducible repeat (first | refine blk_drewN ?_ _ | refine blk_drew ?_ | refine blk_alloc ?_ _));refine blk_far ?_ NB433_444.out _;(with_reducible repeat (first | refine blk_drewN ?_ _ | refine blk_drew ?_ | refine blk_alloc ?_ _));exact BK433.out) hb);have n6_:=Aside0.mk (blk_below (g:=gb444) (o:=.cells #[.slice Ao32 t437.length co32,.slice Ao36 t440.length co36] 27 (0,0)) (by (with_reducible repeat (first | refine blk_drewN ?_ _ | refine blk_drew ?_ | refine blk_alloc ?_ _));refine blk_put (cs:=#[.slice Ao32 t437.length co32,.slice none 0 0]) ?_ 1 _ rfl;(with_reducible repeat (first | refine blk_drewN ?_ _ | refine blk_drew ?_ | refine blk_alloc ?_ _));refine blk_put (cs:=#[.slice none 0 0,.slice none 0 0]) ?_ 0 _ rfl;(with_reducible repeat (first | refine blk_drewN ?_ _ | refine blk_drew ?_ | refine blk_alloc ?_ _));exact BK444.out) hb);have n7_:=Aside0.mk (below_step (by repeat (first | (with_reducible first | exact HB.out | apply below_alloc | apply pw_below_drewN | apply below_drew1 | refine below_set ?_ GE423.out | refine below_set ?_ GE433.out | refine below_set ?_ GE444.out) | exact HB.out)) hb);clear HO428;clear HO431;clear HO439;clear HO442;clear BK423;clear BK433;clear BK444;clear HB;have HO428:=n0_;have HO431:=n1_;have HO439:=n2_;have HO442:=n3_;have BK423:=n4_;have BK433:=n5_;have BK444:=n6_;have HB:=n7_;clear n0_ n1_ n2_ n3_ n4_ n5_ n6_ n7_;(try clear hb);(try clear hb2);(try clear hk);(try clear hi);have hcz49_0 : w48.cell? ⟨gb433,0,none⟩ = some (.slice Ao23 t426.length co23):=(blk_cell BK433.out 0).trans rfl;have hcz49_1 : w48.cell? ⟨gb433,1,none⟩ = some (.slice Ao26 t429.length co26):=(blk_cell BK433.out 1).trans rfl;have hfz49_0:=blk_frozen BK433.out 0;have hfz49_1:=blk_frozen BK433.out 1) | (go_at_call 13;(with_reducible refine (humusref08_May.calls kj3 _ _ t426 _ _ t429 true _ ?side1 ?side2 ?side3 ?side4 A40.out).mono ?_);(case side1 => repeat (first | exact (Kd.R_reads' HO428.out).2.2 | (with_reducible refine Kd.C_alloc ?_ _) | (with_reducible refine Kd.C_drewN ?_ _) | (with_reducible refine Kd.C_drew ?_)));(case side2 => exact (Kd.R_reads' HO428.out).2.1);(case side3 => repeat (first | exact (Kd.N_reads' HO431.out).2.2 | (with_reducible refine Kd.C_alloc ?_ _) | (with_reducible refine Kd.C_drewN ?_ _) | (with_reducible refine Kd.C_drew ?_)));(case side4 => exact (Kd.N_reads' HO431.out).2.1);rintro e w50 ⟨rfl,hb⟩;have n0_:=Aside0.mk (Kd.R_below (by (with_reducible repeat (first | apply Kd.R_alloc | apply Kd.R_drewN | apply Kd.R_drew));exact HO428.out) hb);have n1_:=Aside0.mk (Kd.N_below (by (with_reducible repeat (first | apply Kd.N_alloc | apply Kd.N_drewN | apply Kd.N_drew));exact HO431.out) hb);have n2_:=Aside0.mk (Kd.V_below (by (with_reducible repeat (first | apply Kd.V_alloc | apply Kd.V_drewN | apply Kd.V_drew));exact HO439.out) hb);have n3_:=Aside0.mk (Kd.V_below (by (with_reducible repeat (first | apply Kd.V_alloc | apply Kd.V_drewN | apply Kd.V_drew));exact HO442.out) hb);have n4_:=Aside0.mk (blk_below (g:=gb423) (o:=.cells #[.slice A0_0 l0_0.length c0_0,.slice A0_1 l0_1.length c0_1] 27 (0,0)) (by (with_reducible repeat (first | refine blk_drewN ?_ _ | refine blk_drew ?_ | refine blk_alloc ?_ _));exact BK423.out) hb);have n5_:=Aside0.mk (blk_below (g:=gb433) (o:=.cells #[.slice Ao23 t426.length co23,.slice Ao26 t429.length co26] 27 (0,0)) (by (with_reducible repeat (first | refine blk_drewN ?_ _ | refine blk_drew ?_ | refine blk_alloc ?_ _));exact BK433.out) hb);have n6_:=Aside0.mk (blk_below (g:=gb444) (o:=.cells #[.slice Ao32 t437.length co32,.slice Ao36 t440.length co36] 27 (0,0)) (by (with_reducible repeat (first | refine blk_drewN ?_ _ | refine blk_drew ?_ | refine blk_alloc ?_ _));exact BK444.out) hb);have n7_:=Aside0.mk (below_step (by repeat (first | (with_reducible first | exact HB.out | apply below_alloc | apply pw_below_drewN | apply below_drew1 | refine below_set ?_ GE423.out | refine below_set ?_ GE433.out | refine below_set ?_ GE444.out) | exact HB.out)) hb);clear HO428;clear HO431;clear HO439;clear HO442;clear BK423;clear BK433;clear BK444;clear HB;have HO428:=n0_;have HO431:=n1_;have HO439:=n2_;have HO442:=n3_;have BK423:=n4_;have BK433:=n5_;have BK444:=n6_;have HB:=n7_;clear n0_ n1_ n2_ n3_ n4_ n5_ n6_ n7_;(try clear hb);(try clear hb2);(try clear hk);(try clear hi)) | (go_at_call 8;(with_reducible refine (humuslaw08_awake.calls kj3  t447 _ A42.out).mono ?_);rintro e w51 ⟨rfl,hb⟩;have n0_:=Aside0.mk (Kd.R_below (by (with_reducible repeat (first | apply Kd.R_alloc | apply Kd.R_drewN | apply Kd.R_drew));exact HO428.out) hb);have n1_:=Aside0.mk (Kd.N_below (by (with_reducible repeat (first | apply Kd.N_alloc | apply Kd.N_drewN | apply Kd.N_drew));exact HO431.out) hb);have n2_:=Aside0.mk (Kd.V_below (by (with_reducible repeat (first | apply Kd.V_alloc | apply Kd.V_drewN | apply Kd.V_drew));exact HO439.out) hb);have n3_:=Aside0.mk (Kd.V_below (by (with_reducible repeat (first | apply Kd.V_alloc | apply Kd.V_drewN | apply Kd.V_drew));exact HO442.out) hb);have n4_:=Aside0.mk (blk_below (g:=gb423) (o:=.cells #[.slice A0_0 l0_0.length c0_0,.slice A0_1 l0_1.length c0_1] 27 (0,0)) (by (with_reducible repeat (first | refine blk_drewN ?_ _ | refine blk_drew ?_ | refine blk_alloc ?_ _));exact BK423.out) hb);have n5_:=Aside0.mk (blk_below (g:=gb433) (o:=.cells #[.slice Ao23 t426.length co23,.slice Ao26 t429.length co26] 27 (0,0)) (by (with_reducible repeat (first | refine blk_drewN ?_ _ | refine blk_drew ?_ | refine blk_alloc ?_ _));exact BK433.out) hb);have n6_:=Aside0.mk (blk_below (g:=gb444) (o:=.cells #[.slice Ao32 t437.length co32,.slice Ao36 t440.length co36] 27 (0,0)) (by (with_reducible repeat (first | refine blk_drewN ?_ _ | refine blk_drew ?_ | refine blk_alloc ?_ _));exact BK444.out) hb);have n7_:=Aside0.mk (below_step (by repeat (first | (with_reducible first | exact HB.out | apply below_alloc | apply pw_below_drewN | apply below_drew1 | refine below_set ?_ GE423.out | refine below_set ?_ GE433.out | refine below_set ?_ GE444.out) | exact HB.out)) hb);clear HO428;clear HO431;clear HO439;clear HO442;clear BK423;clear BK433;clear BK444;clear HB;have HO428:=n0_;have HO431:=n1_;have HO439:=n2_;have HO442:=n3_;have BK423:=n4_;have BK433:=n5_;have BK444:=n6_;have HB:=n7_;clear n0_ n1_ n2_ n3_ n4_ n5_ n6_ n7_;(try clear hb);(try clear hb2);(try clear hk);(try clear hi)))
         go_meet
         case rel => exact ⟨_,(t447),(by first | rfl | (simp;done) | (simp [*];done)),H',⟨by have:=HJ3.out;first | omega | exact Nat.le_refl _⟩,⟨by (with_reducible repeat (first | apply Kd.R_alloc | apply Kd.R_drewN | apply Kd.R_drew));exact HO428.out⟩,⟨by (with_reducible repeat (first | apply Kd.N_alloc | apply Kd.N_drewN | apply Kd.N_drew));exact Kd.N_mono HO431.out (fun _ hk => ⟨hk.1.1.1,⟨hk.1.1.2,⟨hk.1.2,hk.2⟩⟩⟩)⟩,⟨by (with_reducible repeat (first | apply Kd.V_alloc | apply Kd.V_drewN | apply Kd.V_drew));exact Kd.V_mono HO439.out (fun _ hk => ⟨hk.1.1,⟨hk.1.2.1,⟨hk.1.2.2.1,⟨hk.1.2.2.2,hk.2⟩⟩⟩⟩)⟩,⟨by (with_reducible repeat (first | apply Kd.V_alloc | apply Kd.V_drewN | apply Kd.V_drew));exact Kd.V_mono HO442.out (fun _ hk => ⟨hk.1.1,⟨hk.1.2.1,⟨hk.1.2.2.1,⟨hk.1.2.2.2,hk.2⟩⟩⟩⟩)⟩,⟨by (with_reducible repeat (first | refine blk_drewN ?_ _ | refine blk_drew ?_ | refine blk_alloc ?_ _));exact BK423.out⟩,⟨by (with_reducible repeat (first | refine blk_drewN ?_ _ | refine blk_drew ?_ | refine blk_alloc ?_ _));exact BK433.out⟩,⟨by (with_reducible repeat (first | refine blk_drewN ?_ _ | refine blk_drew ?_ | refine blk_alloc ?_ _));exact BK444.out⟩,⟨by repeat (first | (with_reducible first | exact HB.out | apply below_alloc | apply pw_below_drewN | apply below_drew1 | refine below_set ?_ GE423.out | refine below_set ?_ GE433.out | refine below_set ?_ GE444.out) | exact HB.out)⟩⟩
        ·replace c41:=Bool.eq_false_iff.mpr c41
         subst c41
         have H1 : (none) = some r:=by rw [if_neg (show ¬ (false = true) by decide)] at H;exact H
         clear H
         have H:=H1
         clear H1
         exact absurd H (by simp)
       ·replace c39:=Bool.eq_false_iff.mpr c39
        subst c39
        have H1 : (none) = some r:=by rw [if_neg (show ¬ (false = true) by decide)] at H;exact H
        clear H
        have H:=H1
        clear H1
        exact absurd H (by simp)
      ·rw [if_neg c37] at H
       exact absurd H (by simp)
     case rest =>
      clear HC19
      try clear c1
      try clear c2
      try clear p2
      try clear c3
      try clear c4
      try clear c5
      try clear c7
      try clear c8
      try clear c12
      try clear c13
      try clear c17
      try clear c19
      try clear c24
      try clear c33
      try clear c34
      try clear c37
      try clear c37b0
      try clear c37b1
      try clear c39
      try clear c41
      try clear c43
      try clear c44
      try clear c46
      try clear hcz10_0
      try clear hcz10_1
      try clear hcz20_0
      try clear hcz20_1
      try clear hcz25_0
      try clear hcz25_1
      try clear hcz27_0
      try clear hcz27_1
      try clear hcz29_0
      try clear hcz29_1
      try clear hcz35_0
      try clear hcz35_1
      try clear hcz45_0
      try clear hcz45_1
      try clear hcz47_0
      try clear hcz47_1
      try clear hcz49_0
      try clear hcz49_1
      try clear hcz8_0
      try clear hcz8_1
      try clear hfz10_0
      try clear hfz10_1
      try clear hfz20_0
      try clear hfz20_1
      try clear hfz25_0
      try clear hfz25_1
      try clear hfz27_0
      try clear hfz27_1
      try clear hfz29_0
      try clear hfz29_1
      try clear hfz35_0
      try clear hfz35_1
      try clear hfz45_0
      try clear hfz45_1
      try clear hfz47_0
      try clear hfz47_1
      try clear hfz49_0
      try clear hfz49_1
      try clear hfz8_0
      try clear hfz8_1
      try clear p2
      obtain ⟨kq,x6_18,rfl,HA,HJ18,HO_434000,HO_434001,HO_445000,HO_445001,BK423,BK433,BK444,HB⟩:=hcut
      cases kq with
      | zero => exact absurd HA.out (by simp [humuslaw08_LeafJoins.j2])
      | succ kj18 =>
       have H:=HA.out
       clear HA
       simp only [humuslaw08_LeafJoins.j2] at H
       obtain rfl:=Option.some.inj H
       go_wp2
       go_ret
       exact ⟨by first | rfl | (simp [errW_none,errW_some] <;> rfl) | (simp [*,errW_none,errW_some] <;> rfl),by repeat (first | (with_reducible first | exact HB.out | apply below_alloc | apply pw_below_drewN | apply below_drew1 | refine below_set ?_ GE423.out | refine below_set ?_ GE433.out | refine below_set ?_ GE444.out) | exact HB.out)⟩
    ·replace c17:=Bool.eq_false_iff.mpr c17
     subst c17
     have H1 : ((humuslaw08_none.f kj3 t426 t429 t432).bind fun t435 => (if t435 = true then ((humuslaw08_awake.f kj3).bind fun t436 => (humuslaw08_LeafJoins.j1 kj3 t436)) else (none))) = some r:=by rw [if_neg (show ¬ (false = true) by decide)] at H;exact H
     clear H
     have H:=H1
     clear H1
     have HC52:=Aside0.mk H
     clear H
     have hcz53_0 : wc.cell? ⟨gb423,0,none⟩ = some (.slice A0_0 l0_0.length c0_0):=(blk_cell BK423.out 0).trans rfl
     have hcz53_1 : wc.cell? ⟨gb423,1,none⟩ = some (.slice A0_1 l0_1.length c0_1):=(blk_cell BK423.out 1).trans rfl
     have hfz53_0:=blk_frozen BK423.out 0
     have hfz53_1:=blk_frozen BK423.out 1
     go_upto_region 5 with (first | ((with_reducible refine gate_callee (f:=17) rfl ?_);refine goesL_ (some 24) rfl rfl Try.func17 (by kernel_rfl) rfl #[.agg #[.slice A0_0 l0_0.length c0_0,.slice A0_1 l0_1.length c0_1],.int .i64 a1,.slice A2 l2.length c2] rfl (by (try simp only [List.map_toArray,List.map_cons,List.map_nil]);first | done | rfl | (simp only [List.length_drop,List.length_take];rfl)) ?_;(with_reducible refine (leaf_Join.calls kj3 _ _ l0_0 (fun k_ => k_ < w.heap.size) _ _ l0_1 a1 _ _ l2 t426 t429 t432 _ ?side1 ?side2 ?side3 ?side4 ?side5 A15.out).mono ?_);(case side1 => repeat (first | exact (Kd.C_below HR0_0.out HB.out) | (with_reducible refine Kd.C_alloc ?_ _) | (with_reducible refine Kd.C_drewN ?_ _) | (with_reducible refine Kd.C_drew ?_)));(case side2 => exact HC0_0.out);(case side3 => exact Kd.V_mk HC0_1.out (Kd.F_below (Kd.C_F (Kd.heap_slice 5 (Kd.heap_int .u8)) HR0_1.out) (by repeat (first | (with_reducible first | exact HB.out | apply below_alloc | apply pw_below_drewN | apply below_drew1 | refine below_set ?_ GE423.out) | exact HB.out))));(case side4 => repeat (first | exact (Kd.C_below HR2.out HB.out) | (with_reducible refine Kd.C_alloc ?_ _) | (with_reducible refine Kd.C_drewN ?_ _) | (with_reducible refine Kd.C_drew ?_)));(case side5 => exact HC2.out);rintro e w54 ⟨v427,v430,rfl,ho0,ho1,hb⟩;refine ⟨_,rfl,?_⟩;have n0_:=Aside0.mk (Kd.R_lower (Kd.R_mono (ok':=fun k_ => True) ho0 (fun _ hk_ => trivial)) (below_size (by repeat (first | (with_reducible first | exact HB.out | apply below_alloc | apply pw_below_drewN | apply below_drew1 | refine below_set ?_ GE423.out) | exact HB.out))));have n1_:=Aside0.mk (Kd.N_lower (Kd.N_mono (ok':=fun k_ => some k_ ≠ (v427 : Value).ownBlock ∧ k_ ≠ gb423) ho1 (fun k_ hk_ => ⟨hk_.2,Or.elim hk_.1 (fun hs_ => fun e_ => Nat.not_le.2 hs_ (by rw [e_];exact GW423.out)) (fun hn_ => (Kd.freshB (g:=gb423) (o:=.cells #[.slice A0_0 l0_0.length c0_0,.slice A0_1 l0_1.length c0_1] 27 (0,0)) (by (with_reducible repeat (first | refine blk_drewN ?_ _ | refine blk_drew ?_ | refine blk_alloc ?_ _));exact BK423.out) k_ hn_))⟩)) (below_size (by repeat (first | (with_reducible first | exact HB.out | apply below_alloc | apply pw_below_drewN | apply below_drew1 | refine below_set ?_ GE423.out) | exact HB.out))));have n2_:=Aside0.mk (blk_below (g:=gb423) (o:=.cells #[.slice A0_0 l0_0.length c0_0,.slice A0_1 l0_1.length c0_1] 27 (0,0)) (by (with_reducible repeat (first | refine blk_drewN ?_ _ | refine blk_drew ?_ | refine blk_alloc ?_ _));exact BK423.out) hb);have n3_:=Aside0.mk (below_step (by repeat (first | (with_reducible first | exact HB.out | apply below_alloc | apply pw_below_drewN | apply below_drew1 | refine below_set ?_ GE423.out) | exact HB.out)) hb);clear BK423;clear HB;have HO428:=n0_;have HO431:=n1_;have BK423:=n2_;have HB:=n3_;clear n0_ n1_ n2_ n3_;(try clear hb);(try clear hb2);(try clear hk);(try clear hi);(try clear ho0);(try clear ho1)) | ((with_reducible refine gate_dst (N:=7) rfl ?_);(try (refine gate_guard (by rfl) ?_;dsimp only));refine box_event ?hg (N:=7) ?hd (cs:=#[.slice none 0 0,.slice none 0 0]) (t:=27) ?hr ?_;(case hd => rfl);(case hg => rfl);(case hr => first | (go_simp;done) | (go_simp;rfl));intro gb433 hg w55 hbox hb;have n0_:=Aside0.mk (Kd.R_below (by (with_reducible repeat (first | apply Kd.R_alloc | apply Kd.R_drewN | apply Kd.R_drew));exact HO428.out) hb);have n1_:=Aside0.mk (Kd.N_below (Kd.N_elderB (by (with_reducible repeat (first | apply Kd.N_alloc | apply Kd.N_drewN | apply Kd.N_drew));exact HO431.out) gb433 (Nat.le_of_eq hg.symm)) hb);have n2_:=Aside0.mk (blk_below (g:=gb423) (o:=.cells #[.slice A0_0 l0_0.length c0_0,.slice A0_1 l0_1.length c0_1] 27 (0,0)) (by (with_reducible repeat (first | refine blk_drewN ?_ _ | refine blk_drew ?_ | refine blk_alloc ?_ _));exact BK423.out) hb);have n3_:=Aside0.mk (below_step (by repeat (first | (with_reducible first | exact HB.out | apply below_alloc | apply pw_below_drewN | apply below_drew1 | refine below_set ?_ GE423.out) | exact HB.out)) hb);have n4_:=Aside0.mk (hbox);have n5_:=Aside0.mk ((by rw [hg];exact (below_size (by repeat (first | (with_reducible first | exact HB.out | apply below_alloc | apply pw_below_drewN | apply below_drew1 | refine below_set ?_ GE423.out) | exact HB.out))) : w.heap.size ≤ gb433));have n6_:=Aside0.mk ((by rw [hg];exact (below_size (by repeat (first | (with_reducible first | exact HB.out | apply below_alloc | apply pw_below_drewN | apply below_drew1 | refine below_set ?_ GE423.out) | exact HB.out))) : w.heap.size ≤ gb433));have n7_:=Aside0.mk ((by rw [hg];exact Nat.ne_of_lt (blk_lt (g:=gb423) (o:=.cells #[.slice A0_0 l0_0.length c0_0,.slice A0_1 l0_1.length c0_1] 27 (0,0)) (by (with_reducible repeat (first | refine blk_drewN ?_ _ | refine blk_drew ?_ | refine blk_alloc ?_ _));exact BK423.out)) : gb423 ≠ gb433));have n8_:=Aside0.mk ((by rw [hg];exact Nat.ne_of_gt (blk_lt (g:=gb423) (o:=.cells #[.slice A0_0 l0_0.length c0_0,.slice A0_1 l0_1.length c0_1] 27 (0,0)) (by (with_reducible repeat (first | refine blk_drewN ?_ _ | refine blk_drew ?_ | refine blk_alloc ?_ _));exact BK423.out)) : gb433 ≠ gb423));clear HO428;clear HO431;clear BK423;clear HB;have HO428:=n0_;have HO431:=n1_;have BK423:=n2_;have HB:=n3_;have BK433:=n4_;have GW433:=n5_;have GE433:=n6_;have NB423_433:=n7_;have NB433_423:=n8_;clear n0_ n1_ n2_ n3_ n4_ n5_ n6_ n7_ n8_;clear hb hbox hg;obtain ⟨Ao56,co56,eo56⟩:=Kd.R_slice HO428.out;subst eo56;have hnb57:=NB433_423.out;have hnc57:=NB423_433.out;have hcz58_0 : w55.cell? ⟨gb433,0,none⟩ = some (.slice none 0 0):=(blk_cell BK433.out 0).trans rfl;have hcz58_1 : w55.cell? ⟨gb433,1,none⟩ = some (.slice none 0 0):=(blk_cell BK433.out 1).trans rfl;have hfz58_0:=blk_frozen BK433.out 0;have hfz58_1:=blk_frozen BK433.out 1;obtain ⟨Ao59,co59,eo59⟩:=Kd.N_slice HO431.out;subst eo59;have hcz60_0 : w55.cell? ⟨gb423,0,none⟩ = some (.slice A0_0 l0_0.length c0_0):=(blk_cell BK423.out 0).trans rfl;have hcz60_1 : w55.cell? ⟨gb423,1,none⟩ = some (.slice A0_1 l0_1.length c0_1):=(blk_cell BK423.out 1).trans rfl;have hfz60_0:=blk_frozen BK423.out 0;have hfz60_1:=blk_frozen BK423.out 1) | ((with_reducible refine gate_callee (f:=13) rfl ?_);refine goesL_ (some 28) rfl rfl Try.func13 (by kernel_rfl) rfl #[.agg #[.slice A0_0 l0_0.length c0_0,.slice A0_1 l0_1.length c0_1]] rfl (by (try simp only [List.map_toArray,List.map_cons,List.map_nil]);first | done | rfl | (simp only [List.length_drop,List.length_take];rfl)) ?_;(with_reducible refine (humusref08_May.calls kj3 _ _ l0_0 _ _ l0_1 false _ ?side1 ?side2 ?side3 ?side4 A16.out).mono ?_);(case side1 => exact Kd.C_below HR0_0.out (by repeat (first | (with_reducible first | exact HB.out | apply below_alloc | apply pw_below_drewN | apply below_drew1 | refine below_set ?_ GE423.out | refine below_set ?_ GE433.out) | exact HB.out)));(case side2 => exact HC0_0.out);(case side3 => exact Kd.C_below HR0_1.out (by repeat (first | (with_reducible first | exact HB.out | apply below_alloc | apply pw_below_drewN | apply below_drew1 | refine below_set ?_ GE423.out | refine below_set ?_ GE433.out) | exact HB.out)));(case side4 => exact HC0_1.out);rintro e w61 ⟨rfl,hb⟩;refine ⟨_,rfl,?_⟩;have n0_:=Aside0.mk (Kd.R_below (by (with_reducible repeat (first | apply Kd.R_alloc | apply Kd.R_drewN | apply Kd.R_drew));exact (Kd.R_mono (Kd.R_far (p:=⟨gb433,1,none⟩) (Kd.R_far (p:=⟨gb433,0,none⟩) (Kd.R_types HO428.out BK433.out (by decide)) (fun _ hk => hk.2) (.slice Ao56 t426.length co56)) (fun _ hk => hk.2) (.slice Ao59 t429.length co59)) (fun _ h_ => h_.1))) hb);have n1_:=Aside0.mk (Kd.N_below (by (with_reducible repeat (first | apply Kd.N_alloc | apply Kd.N_drewN | apply Kd.N_drew));exact (Kd.N_mono (Kd.N_far (p:=⟨gb433,1,none⟩) (Kd.N_far (p:=⟨gb433,0,none⟩) (Kd.N_mono HO431.out (fun k_ hk => (⟨hk,hk.2⟩ : _ ∧ k_ ≠ gb433))) (fun _ hk => hk.2) (.slice Ao56 t426.length co56)) (fun _ hk => hk.2) (.slice Ao59 t429.length co59)) (fun _ h_ => h_.1))) hb);have n2_:=Aside0.mk (blk_below (g:=gb423) (o:=.cells #[.slice A0_0 l0_0.length c0_0,.slice A0_1 l0_1.length c0_1] 27 (0,0)) (by (with_reducible repeat (first | refine blk_drewN ?_ _ | refine blk_drew ?_ | refine blk_alloc ?_ _));refine blk_far ?_ NB423_433.out _;(with_reducible repeat (first | refine blk_drewN ?_ _ | refine blk_drew ?_ | refine blk_alloc ?_ _));refine blk_far ?_ NB423_433.out _;(with_reducible repeat (first | refine blk_drewN ?_ _ | refine blk_drew ?_ | refine blk_alloc ?_ _));exact BK423.out) hb);have n3_:=Aside0.mk (blk_below (g:=gb433) (o:=.cells #[.slice Ao56 t426.length co56,.slice Ao59 t429.length co59] 27 (0,0)) (by (with_reducible repeat (first | refine blk_drewN ?_ _ | refine blk_drew ?_ | refine blk_alloc ?_ _));refine blk_put (cs:=#[.slice Ao56 t426.length co56,.slice none 0 0]) ?_ 1 _ rfl;(with_reducible repeat (first | refine blk_drewN ?_ _ | refine blk_drew ?_ | refine blk_alloc ?_ _));refine blk_put (cs:=#[.slice none 0 0,.slice none 0 0]) ?_ 0 _ rfl;(with_reducible repeat (first | refine blk_drewN ?_ _ | refine blk_drew ?_ | refine blk_alloc ?_ _));exact BK433.out) hb);have n4_:=Aside0.mk (below_step (by repeat (first | (with_reducible first | exact HB.out | apply below_alloc | apply pw_below_drewN | apply below_drew1 | refine below_set ?_ GE423.out | refine below_set ?_ GE433.out) | exact HB.out)) hb);clear HO428;clear HO431;clear BK423;clear BK433;clear HB;have HO428:=n0_;have HO431:=n1_;have BK423:=n2_;have BK433:=n3_;have HB:=n4_;clear n0_ n1_ n2_ n3_ n4_;(try clear hb);(try clear hb2);(try clear hk);(try clear hi)))
     (try simp only [Act.put,List.setIfInBounds_toArray,List.set_cons_zero,List.set_cons_succ])
     go_cut [6] (fun v6 wc => ∃ (kq : Nat) (x6_51 : Bool),v6 = .bool x6_51 ∧ Aside0 (humuslaw08_LeafJoins.j1 kq x6_51 = some r) ∧ Aside0 (kq ≤ kj3) ∧ Aside0 (Kd.R (Kd.int .i64) 3 wc w.heap.size (fun _ => True) (.slice Ao56 t426.length co56) t426) ∧ Aside0 (Kd.N (Kd.slice 5 (Kd.int .u8)) 22 wc w.heap.size (fun k_ => some k_ ≠ ((.slice Ao56 t426.length co56) : Value).ownBlock ∧ k_ ≠ gb423 ∧ k_ ≠ gb433) (.slice Ao59 t429.length co59) t429) ∧ Aside0 (wc.heap[gb423]? = some (.cells #[(.slice A0_0 l0_0.length c0_0),(.slice A0_1 l0_1.length c0_1)] 27 (0,0))) ∧ Aside0 (wc.heap[gb433]? = some (.cells #[(.slice Ao56 t426.length co56),(.slice Ao59 t429.length co59)] 27 (0,0))) ∧ Aside0 (Below w.heap.size w wc))
     case first =>
      have H:=HC52.out
      clear HC52
      replace H:=Option.bind_eq_some_iff.mp H
      obtain ⟨t435,A620,H⟩:=H
      replace H : (if t435 = true then ((humuslaw08_awake.f kj3).bind fun t436 => (humuslaw08_LeafJoins.j1 kj3 t436)) else (none)) = some r:=H
      have A62:=Aside0.mk A620
      clear A620
      by_cases c63 : t435 = true
      ·subst c63
       have H1 : ((humuslaw08_awake.f kj3).bind fun t436 => (humuslaw08_LeafJoins.j1 kj3 t436)) = some r:=by rw [if_pos rfl] at H;exact H
       clear H
       have H:=H1
       clear H1
       replace H:=Option.bind_eq_some_iff.mp H
       obtain ⟨t436,A640,H⟩:=H
       replace H : (humuslaw08_LeafJoins.j1 kj3 t436) = some r:=H
       have A64:=Aside0.mk A640
       clear A640
       have H':=Aside0.mk H
       clear H
       have hnb65:=NB433_423.out
       have hnc65:=NB423_433.out
       have hcz66_0 : w61.cell? ⟨gb433,0,none⟩ = some (.slice Ao56 t426.length co56):=(blk_cell BK433.out 0).trans rfl
       have hcz66_1 : w61.cell? ⟨gb433,1,none⟩ = some (.slice Ao59 t429.length co59):=(blk_cell BK433.out 1).trans rfl
       have hfz66_0:=blk_frozen BK433.out 0
       have hfz66_1:=blk_frozen BK433.out 1
       go_wp2_with (first | ((with_reducible refine gate_callee (f:=18) rfl ?_);refine goesL_ (some 32) rfl rfl Try.func18 (by kernel_rfl) rfl #[.agg #[.slice Ao56 t426.length co56,.slice Ao59 t429.length co59],.int .i64 t432] rfl (by (try simp only [List.map_toArray,List.map_cons,List.map_nil]);first | done | rfl | (simp only [List.length_drop,List.length_take];rfl)) ?_;(with_reducible refine (humuslaw08_none.calls kj3 _ _ t426 _ _ t429 t432 true _ ?side1 ?side2 ?side3 ?side4 A62.out).mono ?_);(case side1 => repeat (first | exact (Kd.R_reads' HO428.out).2.2 | (with_reducible refine Kd.C_alloc ?_ _) | (with_reducible refine Kd.C_drewN ?_ _) | (with_reducible refine Kd.C_drew ?_)));(case side2 => exact (Kd.R_reads' HO428.out).2.1);(case side3 => repeat (first | exact (Kd.N_reads' HO431.out).2.2 | (with_reducible refine Kd.C_alloc ?_ _) | (with_reducible refine Kd.C_drewN ?_ _) | (with_reducible refine Kd.C_drew ?_)));(case side4 => exact (Kd.N_reads' HO431.out).2.1);rintro e w67 ⟨rfl,hb⟩;refine ⟨_,rfl,?_⟩;have n0_:=Aside0.mk (Kd.R_below (by (with_reducible repeat (first | apply Kd.R_alloc | apply Kd.R_drewN | apply Kd.R_drew));exact HO428.out) hb);have n1_:=Aside0.mk (Kd.N_below (by (with_reducible repeat (first | apply Kd.N_alloc | apply Kd.N_drewN | apply Kd.N_drew));exact HO431.out) hb);have n2_:=Aside0.mk (blk_below (g:=gb423) (o:=.cells #[.slice A0_0 l0_0.length c0_0,.slice A0_1 l0_1.length c0_1] 27 (0,0)) (by (with_reducible repeat (first | refine blk_drewN ?_ _ | refine blk_drew ?_ | refine blk_alloc ?_ _));exact BK423.out) hb);have n3_:=Aside0.mk (blk_below (g:=gb433) (o:=.cells #[.slice Ao56 t426.length co56,.slice Ao59 t429.length co59] 27 (0,0)) (by (with_reducible repeat (first | refine blk_drewN ?_ _ | refine blk_drew ?_ | refine blk_alloc ?_ _));exact BK433.out) hb);have n4_:=Aside0.mk (below_step (by repeat (first | (with_reducible first | exact HB.out | apply below_alloc | apply pw_below_drewN | apply below_drew1 | refine below_set ?_ GE423.out | refine below_set ?_ GE433.out) | exact HB.out)) hb);clear HO428;clear HO431;clear BK423;clear BK433;clear HB;have HO428:=n0_;have HO431:=n1_;have BK423:=n2_;have BK433:=n3_;have HB:=n4_;clear n0_ n1_ n2_ n3_ n4_;(try clear hb);(try clear hb2);(try clear hk);(try clear hi)) | (go_at_call 8;(with_reducible refine (humuslaw08_awake.calls kj3  t436 _ A64.out).mono ?_);rintro e w68 ⟨rfl,hb⟩;have n0_:=Aside0.mk (Kd.R_below (by (with_reducible repeat (first | apply Kd.R_alloc | apply Kd.R_drewN | apply Kd.R_drew));exact HO428.out) hb);have n1_:=Aside0.mk (Kd.N_below (by (with_reducible repeat (first | apply Kd.N_alloc | apply Kd.N_drewN | apply Kd.N_drew));exact HO431.out) hb);have n2_:=Aside0.mk (blk_below (g:=gb423) (o:=.cells #[.slice A0_0 l0_0.length c0_0,.slice A0_1 l0_1.length c0_1] 27 (0,0)) (by (with_reducible repeat (first | refine blk_drewN ?_ _ | refine blk_drew ?_ | refine blk_alloc ?_ _));exact BK423.out) hb);have n3_:=Aside0.mk (blk_below (g:=gb433) (o:=.cells #[.slice Ao56 t426.length co56,.slice Ao59 t429.length co59] 27 (0,0)) (by (with_reducible repeat (first | refine blk_drewN ?_ _ | refine blk_drew ?_ | refine blk_alloc ?_ _));exact BK433.out) hb);have n4_:=Aside0.mk (below_step (by repeat (first | (with_reducible first | exact HB.out | apply below_alloc | apply pw_below_drewN | apply below_drew1 | refine below_set ?_ GE423.out | refine below_set ?_ GE433.out) | exact HB.out)) hb);clear HO428;clear HO431;clear BK423;clear BK433;clear HB;have HO428:=n0_;have HO431:=n1_;have BK423:=n2_;have BK433:=n3_;have HB:=n4_;clear n0_ n1_ n2_ n3_ n4_;(try clear hb);(try clear hb2);(try clear hk);(try clear hi)))
       go_meet
       case rel => exact ⟨_,(t436),(by first | rfl | (simp;done) | (simp [*];done)),H',⟨by have:=HJ3.out;first | omega | exact Nat.le_refl _⟩,⟨by (with_reducible repeat (first | apply Kd.R_alloc | apply Kd.R_drewN | apply Kd.R_drew));exact HO428.out⟩,⟨by (with_reducible repeat (first | apply Kd.N_alloc | apply Kd.N_drewN | apply Kd.N_drew));exact Kd.N_mono HO431.out (fun _ hk => ⟨hk.1.1,⟨hk.1.2,hk.2⟩⟩)⟩,⟨by (with_reducible repeat (first | refine blk_drewN ?_ _ | refine blk_drew ?_ | refine blk_alloc ?_ _));exact BK423.out⟩,⟨by (with_reducible repeat (first | refine blk_drewN ?_ _ | refine blk_drew ?_ | refine blk_alloc ?_ _));exact BK433.out⟩,⟨by repeat (first | (with_reducible first | exact HB.out | apply below_alloc | apply pw_below_drewN | apply below_drew1 | refine below_set ?_ GE423.out | refine below_set ?_ GE433.out) | exact HB.out)⟩⟩
      ·replace c63:=Bool.eq_false_iff.mpr c63
       subst c63
       have H1 : (none) = some r:=by rw [if_neg (show ¬ (false = true) by decide)] at H;exact H
       clear H
       have H:=H1
       clear H1
       exact absurd H (by simp)
     case rest =>
      clear HC52
      try clear c1
      try clear c2
      try clear p2
      try clear c3
      try clear c4
      try clear c5
      try clear c6
      try clear c7
      try clear c8
      try clear c12
      try clear c13
      try clear c17
      try clear c18
      try clear c19
      try clear c24
      try clear c33
      try clear c34
      try clear c37
      try clear c37b0
      try clear c37b1
      try clear c39
      try clear c41
      try clear c43
      try clear c44
      try clear c46
      try clear c57
      try clear c63
      try clear c65
      try clear hcz10_0
      try clear hcz10_1
      try clear hcz20_0
      try clear hcz20_1
      try clear hcz25_0
      try clear hcz25_1
      try clear hcz27_0
      try clear hcz27_1
      try clear hcz29_0
      try clear hcz29_1
      try clear hcz35_0
      try clear hcz35_1
      try clear hcz45_0
      try clear hcz45_1
      try clear hcz47_0
      try clear hcz47_1
      try clear hcz49_0
      try clear hcz49_1
      try clear hcz53_0
      try clear hcz53_1
      try clear hcz58_0
      try clear hcz58_1
      try clear hcz60_0
      try clear hcz60_1
      try clear hcz66_0
      try clear hcz66_1
      try clear hcz8_0
      try clear hcz8_1
      try clear hfz10_0
      try clear hfz10_1
      try clear hfz20_0
      try clear hfz20_1
      try clear hfz25_0
      try clear hfz25_1
      try clear hfz27_0
      try clear hfz27_1
      try clear hfz29_0
      try clear hfz29_1
      try clear hfz35_0
      try clear hfz35_1
      try clear hfz45_0
      try clear hfz45_1
      try clear hfz47_0
      try clear hfz47_1
      try clear hfz49_0
      try clear hfz49_1
      try clear hfz53_0
      try clear hfz53_1
      try clear hfz58_0
      try clear hfz58_1
      try clear hfz60_0
      try clear hfz60_1
      try clear hfz66_0
      try clear hfz66_1
      try clear hfz8_0
      try clear hfz8_1
      try clear p2
      obtain ⟨kq,x6_51,rfl,HA,HJ51,HO_434000,HO_434001,BK423,BK433,HB⟩:=hcut
      cases kq with
      | zero => exact absurd HA.out (by simp [humuslaw08_LeafJoins.j1])
      | succ kj51 =>
       have H:=HA.out
       clear HA
       simp only [humuslaw08_LeafJoins.j1] at H
       obtain rfl:=Option.some.inj H
       go_wp2
       go_ret
       exact ⟨by first | rfl | (simp [errW_none,errW_some] <;> rfl) | (simp [*,errW_none,errW_some] <;> rfl),by repeat (first | (with_reducible first | exact HB.out | apply below_alloc | apply pw_below_drewN | apply below_drew1 | refine below_set ?_ GE423.out | refine below_set ?_ GE433.out) | exact HB.out)⟩
end Go.Proofs.Ytjigckhopkclgaa.P
set_option linter.unusedVariables false
set_option linter.unusedSimpArgs false
namespace Go.Proofs.Ytjigckhopkclgaa.P
open Go.RowKit Go.Proofs.Ytjigckhopkclgaa Go.Proofs.Ytjigckhopkclgaa.Mem Go.Proofs.YtjigckhopkclgaaW.PrintWords Go.Proofs.YtjigckhopkclgaaW.PrintLast Go.Proofs.YtjigckhopkclgaaW.PrintMore
theorem LeafJoins_f {I : List Int} {S : List (List Int)} {live : List Int} (w : Int) (hlS : S.length ≤ maxLen) : humuslaw08_LeafJoins.f 20002 I S w live = some true := by
  obtain ⟨b, hb, hh⟩ := @Light_ev 20002 I S hlS (by decide)
  have aw : ∀ {k : Nat}, 700 ≤ k → humuslaw08_LeafJoins.j0 (k + 1) w live true I S = some true := by
    intro k hk
    rw [humuslaw08_LeafJoins.j0, if_pos rfl, awake08_ev (by omega), Option.bind_some]
  unfold humuslaw08_LeafJoins.f
  rw [hb, Option.bind_some]
  cases b with
  | false => rw [if_neg (by decide)]; exact aw (k := 20001) (by omega)
  | true =>
    rw [if_pos rfl]
    by_cases h40 : (live.length : Int) > 40
    · rw [decide_eq_true h40]; exact aw (k := 20001) (by omega)
    · rw [decide_eq_false h40]
      obtain ⟨h6, h8, h2⟩ := hh rfl
      have hs : Small S := ⟨by omega, fun s hm => by have := h6 s hm; omega⟩
      rw [humuslaw08_LeafJoins.j0, if_neg (by decide)]
      by_cases hM : MayL I S
      · obtain ⟨⟨a, b, c, d, rfl, _⟩, _⟩ := id hM
        have hS := @Same_refl 20001 (joinL a b c d w live).1 S (by omega) (by rw [joinL_len]; decide) (by omega)
        have hY := (@May_ev 20001 (joinL a b c d w live).1 S hs (by omega)).1 (joinL_may hM)
        rw [Join_ev hM hs w (by omega) (by omega), Option.bind_some, (May_ev hs (by omega)).1 hM, Option.bind_some, if_pos rfl, refJoin_ev w (by omega) (by omega), Option.bind_some]
        dsimp only
        rw [if_pos rfl, hS, Option.bind_some, if_pos rfl, hY, Option.bind_some, if_pos rfl, awake08_ev (by omega), Option.bind_some, humuslaw08_LeafJoins.j2]
      · rw [joinNot_ev hM hs w (by omega), Option.bind_some, (May_ev hs (by omega)).2 hM, Option.bind_some, if_neg (by decide)]
        unfold humuslaw08_none.f
        rw [if_pos rfl, Same_refl (by decide) (by decide) (by omega), Option.bind_some, Option.bind_some, if_pos rfl, awake08_ev (by omega), Option.bind_some, humuslaw08_LeafJoins.j1]
theorem LeafJoins_walk {w : World} (I : List Int) (S : List (List Int)) (A : Option Addr) (c : Nat) (B : Option Addr) (d : Nat) (h1 : I.length ≤ c) (h2 : Kd.C (Kd.int .i64) w A I.length I) (h3 : S.length ≤ d) (h4 : Kd.C (Kd.slice 5 (Kd.int .u8)) w B S.length S) (g1 : goodW I) (g2 : goodR S) (n : Int) (hn : (Lit.int .i64 n).wf = true) (l : List Int) (E : Option Addr) (f : Nat) (h5 : l.length ≤ f) (h6 : Kd.C (Kd.int .i64) w E l.length l) (h7 : ∀ x ∈ l, (Lit.int .i64 x).wf = true) (h8 : l.length ≤ maxLen) :
    Calls Try.prog 5 #[.agg #[.slice A I.length c, .slice B S.length d], .int .i64 n, .slice E l.length f] w fun e w' => e = .returned (.bool true) ∧ Below w.heap.size w w' :=
  humuslaw08_LeafJoins.calls 20002 A c I B d S n E f l true w h2 h1 h4 h3 h6 h5 (LeafJoins_f n g2.2)
end Go.Proofs.Ytjigckhopkclgaa.P
