/- Put together by wip/prune.py out of this claim's texts. -/
import Derived.Test.YtdcllbhkjcdnoaaMRowDecodes5
import Derived.Test.YtdcllbhkjcdnoaaMRowDecodes7
import Derived.Test.YtdcllbhkjcdnoaaMRowDecodes9
import Derived.Test.YtdcllbhkjcdnoaaMRowDecodes13
import Derived.Test.YtdcllbhkjcdnoaaMRowDecodes14
import Derived.Test.YtdcllbhkjcdnoaaMRowDecodes15
import Derived.Test.YtdcllbhkjcdnoaaMRowDecodes16
namespace Go.Proofs.Ytdcllbhkjcdnoaa.P
open Go.RowKit Go.Proofs.YtdcllbhkjcdnoaaW.PrintWords Go.Proofs.YtdcllbhkjcdnoaaW.PrintLast Go.Proofs.YtdcllbhkjcdnoaaW.PrintMore
attribute [local go_sem] max2_int min2_int max_two min_two max_three min_three max_four min_four   -- for this text's walks alone
attribute [local go_sem] run_store_float
set_option linter.unusedVariables false
set_option linter.unusedSimpArgs false
def humuslaw04_RowDecodes.f (k : Nat) (l0 : List Int) : Option (Bool):=if (l0.length : Int) > 1000 then ((humuslaw04_awake.f k).bind fun t489 => (some t489)) else ((some (([] : List Int) : List Int)).bind fun y490 => (if y490.length + l0.length < 140737488355328 then ((row_Decode.f k (y490 ++ l0)).bind fun bt496 => ((humusref04_Decode.f k l0).bind fun bt506 => (if bt506.2.2.2.2.2.2 = true then (if bt496.2.2.2.2.2.2 = 0 then ((humusref04_Same.f k bt496.1 bt496.2.1 bt496.2.2.1 bt496.2.2.2.1 bt496.2.2.2.2.1 bt496.2.2.2.2.2.1 bt506.1 bt506.2.1 bt506.2.2.1 bt506.2.2.2.1 bt506.2.2.2.2.1 bt506.2.2.2.2.2.1).bind fun t516 => (if t516 = true then ((humuslaw04_awake.f k).bind fun t517 => (some t517)) else (some false))) else (some false)) else (if bt496.2.2.2.2.2.2 = 4 then ((humusref04_Same.f k bt496.1 bt496.2.1 bt496.2.2.1 bt496.2.2.2.1 bt496.2.2.2.2.1 bt496.2.2.2.2.2.1 0 false ([] : List Nat) 0 0 0).bind fun t518 => (if t518 = true then ((humuslaw04_awake.f k).bind fun t519 => (some t519)) else (some false))) else (some false))))) else (none)))
set_option maxHeartbeats 8000000 in
set_option maxRecDepth 100000 in
theorem humuslaw04_RowDecodes.calls (k : Nat) (A0 : Option Addr) (c0 : Nat) (l0 : List Int) (r : Bool) (w : World) (hr0 : Kd.C (Kd.int .u8) w A0 l0.length l0) (hc0 : l0.length ≤ c0) (h : humuslaw04_RowDecodes.f k l0 = some r) :
    Calls Try.prog 7 #[.slice A0 l0.length c0] w fun e w' => e = .returned (.bool r) ∧ Below w.heap.size w w':=by
  have hu30:=Try.underlying30
  have HR0:=Aside0.mk hr0
  have HC0:=Aside0.mk hc0
  clear hr0 hc0
  have HB:=Aside0.mk (Below.refl w.heap.size w)
  have H : (if (l0.length : Int) > 1000 then ((humuslaw04_awake.f k).bind fun t489 => (some t489)) else ((some (([] : List Int) : List Int)).bind fun y490 => (if y490.length + l0.length < 140737488355328 then ((row_Decode.f k (y490 ++ l0)).bind fun bt496 => ((humusref04_Decode.f k l0).bind fun bt506 => (if bt506.2.2.2.2.2.2 = true then (if bt496.2.2.2.2.2.2 = 0 then ((humusref04_Same.f k bt496.1 bt496.2.1 bt496.2.2.1 bt496.2.2.2.1 bt496.2.2.2.2.1 bt496.2.2.2.2.2.1 bt506.1 bt506.2.1 bt506.2.2.1 bt506.2.2.2.1 bt506.2.2.2.2.1 bt506.2.2.2.2.2.1).bind fun t516 => (if t516 = true then ((humuslaw04_awake.f k).bind fun t517 => (some t517)) else (some false))) else (some false)) else (if bt496.2.2.2.2.2.2 = 4 then ((humusref04_Same.f k bt496.1 bt496.2.1 bt496.2.2.1 bt496.2.2.2.1 bt496.2.2.2.2.1 bt496.2.2.2.2.2.1 0 false ([] : List Nat) 0 0 0).bind fun t518 => (if t518 = true then ((humuslaw04_awake.f k).bind fun t519 => (some t519)) else (some false))) else (some false))))) else (none)))) = some r:=h
  clear h
  by_cases c2 : (l0.length : Int) > 1000
  · rw [if_pos c2] at H
    have c2b0 : decide (1000 < (l0.length : Int)) = true:=decide_eq_true c2
    have c2b1 : decide (1000 < l0.length) = true:=decide_eq_true (by omega)
    clear c2
    replace H:=Option.bind_eq_some_iff.mp H
    obtain ⟨t489,A30,H⟩:=H
    replace H : (some t489) = some r:=H
    have A3:=Aside0.mk A30
    clear A30
    obtain rfl:=Option.some.inj H
    go_enter Try.func7,Try.ntmps7
    go_wp2_with (first | ((with_reducible refine gate_callee (f:=31) rfl ?_);refine goesL_ (some 10) rfl rfl Try.func31 (by kernel_rfl) rfl #[] rfl (by (try simp only [List.map_toArray,List.map_cons,List.map_nil]);first | done | rfl | (simp only [List.length_drop,List.length_take];rfl)) ?_;(with_reducible refine (humuslaw04_awake.calls k  t489 _ A3.out).mono ?_);rintro e w4 ⟨rfl,hb⟩;refine ⟨_,rfl,?_⟩;have n0_:=Aside0.mk (below_step (by repeat (first | (with_reducible first | exact HB.out | apply below_alloc | apply pw_below_drewN | apply below_drew1) | exact HB.out)) hb);clear HB;have HB:=n0_;clear n0_;(try clear hb);(try clear hb2);(try clear hk);(try clear hi)))
    go_ret
    exact ⟨by first | rfl | (simp [errW_none,errW_some] <;> rfl) | (simp [*,errW_none,errW_some] <;> rfl),by repeat (first | (with_reducible first | exact HB.out | apply below_alloc | apply pw_below_drewN | apply below_drew1) | exact HB.out)⟩
  · rw [if_neg c2] at H
    have c2b0 : decide (1000 < (l0.length : Int)) = false:=decide_eq_false c2
    have c2b1 : decide (1000 < l0.length) = false:=decide_eq_false (by omega)
    clear c2
    obtain ⟨y490,hy490⟩ : ∃ y_ : List Int,y_ = (([] : List Int)):=⟨_,rfl⟩
    replace H : (if y490.length + l0.length < 140737488355328 then ((row_Decode.f k (y490 ++ l0)).bind fun bt496 => ((humusref04_Decode.f k l0).bind fun bt506 => (if bt506.2.2.2.2.2.2 = true then (if bt496.2.2.2.2.2.2 = 0 then ((humusref04_Same.f k bt496.1 bt496.2.1 bt496.2.2.1 bt496.2.2.2.1 bt496.2.2.2.2.1 bt496.2.2.2.2.2.1 bt506.1 bt506.2.1 bt506.2.2.1 bt506.2.2.2.1 bt506.2.2.2.2.1 bt506.2.2.2.2.2.1).bind fun t516 => (if t516 = true then ((humuslaw04_awake.f k).bind fun t517 => (some t517)) else (some false))) else (some false)) else (if bt496.2.2.2.2.2.2 = 4 then ((humusref04_Same.f k bt496.1 bt496.2.1 bt496.2.2.1 bt496.2.2.2.1 bt496.2.2.2.2.1 bt496.2.2.2.2.2.1 0 false ([] : List Nat) 0 0 0).bind fun t518 => (if t518 = true then ((humuslaw04_awake.f k).bind fun t519 => (some t519)) else (some false))) else (some false))))) else (none)) = some r:=by first | (rw [hy490];with_reducible exact H) | (have H2_:=(Option.bind_some _ _).symm.trans H;rw [hy490];with_reducible exact H2_) | (have H2_:=(Option.bind_some _ _).symm.trans H;with_reducible exact H2_) | with_reducible exact H | (rw [hy490];exact H) | exact H
    have Ny490:=Aside0.mk hy490
    clear hy490
    by_cases c5 : y490.length + l0.length < 140737488355328
    · rw [if_pos c5] at H
      have LMc5:=Aside0.mk c5
      clear c5
      obtain ⟨y493,hy493⟩ : ∃ y_ : List Int,y_ = (y490 ++ l0):=⟨_,rfl⟩
      replace H : ((row_Decode.f k y493).bind fun bt496 => ((humusref04_Decode.f k l0).bind fun bt506 => (if bt506.2.2.2.2.2.2 = true then (if bt496.2.2.2.2.2.2 = 0 then ((humusref04_Same.f k bt496.1 bt496.2.1 bt496.2.2.1 bt496.2.2.2.1 bt496.2.2.2.2.1 bt496.2.2.2.2.2.1 bt506.1 bt506.2.1 bt506.2.2.1 bt506.2.2.2.1 bt506.2.2.2.2.1 bt506.2.2.2.2.2.1).bind fun t516 => (if t516 = true then ((humuslaw04_awake.f k).bind fun t517 => (some t517)) else (some false))) else (some false)) else (if bt496.2.2.2.2.2.2 = 4 then ((humusref04_Same.f k bt496.1 bt496.2.1 bt496.2.2.1 bt496.2.2.2.1 bt496.2.2.2.2.1 bt496.2.2.2.2.2.1 0 false ([] : List Nat) 0 0 0).bind fun t518 => (if t518 = true then ((humuslaw04_awake.f k).bind fun t519 => (some t519)) else (some false))) else (some false))))) = some r:=by first | (rw [hy493];with_reducible exact H) | (have H2_:=(Option.bind_some _ _).symm.trans H;rw [hy493];with_reducible exact H2_) | (have H2_:=(Option.bind_some _ _).symm.trans H;with_reducible exact H2_) | with_reducible exact H | (rw [hy493];exact H) | exact H
      have Ny493:=Aside0.mk hy493
      clear hy493
      replace H:=Option.bind_eq_some_iff.mp H
      obtain ⟨⟨t496,t497,t498,t501,t502,t503,t504⟩,A60,H⟩:=H
      replace H : ((humusref04_Decode.f k l0).bind fun bt506 => (if bt506.2.2.2.2.2.2 = true then (if t504 = 0 then ((humusref04_Same.f k t496 t497 t498 t501 t502 t503 bt506.1 bt506.2.1 bt506.2.2.1 bt506.2.2.2.1 bt506.2.2.2.2.1 bt506.2.2.2.2.2.1).bind fun t516 => (if t516 = true then ((humuslaw04_awake.f k).bind fun t517 => (some t517)) else (some false))) else (some false)) else (if t504 = 4 then ((humusref04_Same.f k t496 t497 t498 t501 t502 t503 0 false ([] : List Nat) 0 0 0).bind fun t518 => (if t518 = true then ((humuslaw04_awake.f k).bind fun t519 => (some t519)) else (some false))) else (some false)))) = some r:=H
      have A6:=Aside0.mk A60
      clear A60
      replace H:=Option.bind_eq_some_iff.mp H
      obtain ⟨⟨t506,t507,t508,t511,t512,t513,t514⟩,A70,H⟩:=H
      replace H : (if t514 = true then (if t504 = 0 then ((humusref04_Same.f k t496 t497 t498 t501 t502 t503 t506 t507 t508 t511 t512 t513).bind fun t516 => (if t516 = true then ((humuslaw04_awake.f k).bind fun t517 => (some t517)) else (some false))) else (some false)) else (if t504 = 4 then ((humusref04_Same.f k t496 t497 t498 t501 t502 t503 0 false ([] : List Nat) 0 0 0).bind fun t518 => (if t518 = true then ((humuslaw04_awake.f k).bind fun t519 => (some t519)) else (some false))) else (some false))) = some r:=H
      have A7:=Aside0.mk A70
      clear A70
      by_cases c8 : t514 = true
      · subst c8
        have H1 : (if t504 = 0 then ((humusref04_Same.f k t496 t497 t498 t501 t502 t503 t506 t507 t508 t511 t512 t513).bind fun t516 => (if t516 = true then ((humuslaw04_awake.f k).bind fun t517 => (some t517)) else (some false))) else (some false)) = some r:=by rw [if_pos rfl] at H;exact H
        clear H
        have H:=H1
        clear H1
        by_cases c9 : t504 = 0
        · rw [if_pos c9] at H
          have c9b0 : (t504 == 0) = true:=beq_iff_eq.mpr c9
          have c9b1 : (t504 != 0) = false:=bne_eq_false_iff_eq.mpr c9
          clear c9
          replace H:=Option.bind_eq_some_iff.mp H
          obtain ⟨t516,A100,H⟩:=H
          replace H : (if t516 = true then ((humuslaw04_awake.f k).bind fun t517 => (some t517)) else (some false)) = some r:=H
          have A10:=Aside0.mk A100
          clear A100
          by_cases c11 : t516 = true
          · subst c11
            have H1 : ((humuslaw04_awake.f k).bind fun t517 => (some t517)) = some r:=by rw [if_pos rfl] at H;exact H
            clear H
            have H:=H1
            clear H1
            replace H:=Option.bind_eq_some_iff.mp H
            obtain ⟨t517,A120,H⟩:=H
            replace H : (some t517) = some r:=H
            have A12:=Aside0.mk A120
            clear A120
            obtain rfl:=Option.some.inj H
            go_enter Try.func7,Try.ntmps7
            go_wp2_with (first | ((with_reducible refine gate_dst (N:=12) rfl ?_);refine Kd.R_lit (Kd.int .u8) _ 5 ?hg (N:=12) ?hd (xs:=([] : List Int)) (inner:=[]) (ok:=fun _ => True) (okp:=fun _ => True) ?hr ?hp (fun _ hk => hk) trivial (Below.refl _ _) (Nat.le_refl _) (by simp) ?_;(case hd => rfl);(case hg => rfl);(case hr => first | (go_simp;done) | (go_simp;rfl));(case hp => exact (Reps.none _ _));intro v491 w13 ho14 hb hg_ hnew_;clear hg_ hnew_;(first | rw [← Ny490.out] at ho14 | (simp only [Int.reduceToNat] at ho14;rw [← Ny490.out] at ho14));have n0_:=Aside0.mk (Kd.R_lower ho14 (below_size (by repeat (first | (with_reducible first | exact HB.out | apply below_alloc | apply pw_below_drewN | apply below_drew1) | exact HB.out))));have n1_:=Aside0.mk (below_step (by repeat (first | (with_reducible first | exact HB.out | apply below_alloc | apply pw_below_drewN | apply below_drew1) | exact HB.out)) hb);clear HB;have HO492:=n0_;have HB:=n1_;clear n0_ n1_;clear hb ho14) | ((with_reducible refine gate_builtin (b:=.append) (xs:=#[.tmp 12,.tmp 13]) rfl ?_);at_builtin;refine Kd.R_append_rows (Kd.int .u8) (w0:=w) w.heap.size rfl (.tmp 12) (.tmp 13) 23 5 (.int .u8 0) 1 rfl Try.underlying23 info5 rfl (by decide) (by omega) v491 y490 l0 _ _ _ (fun _ => True) (fun _ => False) rfl rfl ?aO ?aR (fun _ _ h => h) (fun _ h => h.elim) ?aF ?aB ?aS ?aL ?_;(case aR => repeat (first | exact (Kd.C_below HR0.out HB.out) | (with_reducible refine Kd.C_alloc ?_ _) | (with_reducible refine Kd.C_drewN ?_ _) | (with_reducible refine Kd.C_drew ?_)));(case aB => exact (by repeat (first | (with_reducible first | exact HB.out | apply below_alloc | apply pw_below_drewN | apply below_drew1) | exact HB.out)));(case aF => exact (fun _ _ => trivial));(case aO => exact (by (with_reducible repeat (first | apply Kd.R_alloc | apply Kd.R_drewN | apply Kd.R_drew));exact HO492.out));(case aS => exact (below_size (by repeat (first | (with_reducible first | exact HB.out | apply below_alloc | apply pw_below_drewN | apply below_drew1) | exact HB.out))));(case aL => have:=LMc5.out;omega);intro v494 w15 ho hb hg hat;rw [← Ny493.out] at ho;have n0_:=Aside0.mk (hb);have n1_:=Aside0.mk (ho);clear HB;clear HO492;have HB:=n0_;have HO495:=n1_;clear n0_ n1_;clear ho hb hg hat;obtain ⟨Ao16,co16,eo16⟩:=Kd.R_slice HO495.out;subst eo16) | ((with_reducible refine gate_callee (f:=35) rfl ?_);refine goesL_ (some 15) rfl rfl Try.func35 (by kernel_rfl) rfl #[.slice Ao16 y493.length co16] rfl (by (try simp only [List.map_toArray,List.map_cons,List.map_nil]);first | done | rfl | (simp only [List.length_drop,List.length_take];rfl)) ?_;(with_reducible refine (row_Decode.calls k _ _ y493 t496 t497 t498 t501 t502 t503 t504 _ ?side1 ?side2 A6.out).mono ?_);(case side1 => repeat (first | exact (Kd.R_reads' HO495.out).2.2 | (with_reducible refine Kd.C_alloc ?_ _) | (with_reducible refine Kd.C_drewN ?_ _) | (with_reducible refine Kd.C_drew ?_)));(case side2 => exact (Kd.R_reads' HO495.out).2.1);rintro e w17 ⟨v499,rfl,ho0,hb⟩;refine ⟨_,rfl,?_⟩;have n0_:=Aside0.mk (Kd.R_below (by (with_reducible repeat (first | apply Kd.R_alloc | apply Kd.R_drewN | apply Kd.R_drew));exact HO495.out) hb);have n1_:=Aside0.mk (Kd.R_lower ho0 (below_size (by repeat (first | (with_reducible first | exact HB.out | apply below_alloc | apply pw_below_drewN | apply below_drew1) | exact HB.out))));have n2_:=Aside0.mk (below_step (by repeat (first | (with_reducible first | exact HB.out | apply below_alloc | apply pw_below_drewN | apply below_drew1) | exact HB.out)) hb);clear HO495;clear HB;have HO495:=n0_;have HO500:=n1_;have HB:=n2_;clear n0_ n1_ n2_;(try clear hb);(try clear hb2);(try clear hk);(try clear hi);(try clear ho0)) | ((with_reducible refine gate_dst (N:=3) rfl ?_);refine box_event ?hg (N:=3) ?hd (cs:=#[.float .f64 0,.bool false,.slice none 0 0,.int .i64 0,.int .i64 0,.int .i64 0]) (t:=30) ?hr ?_;(case hd => rfl);(case hg => rfl);(case hr => first | (go_simp;done) | (go_simp;rfl));intro gb505 hg w18 hbox hb;have n0_:=Aside0.mk (Kd.R_below (by (with_reducible repeat (first | apply Kd.R_alloc | apply Kd.R_drewN | apply Kd.R_drew));exact HO495.out) hb);have n1_:=Aside0.mk (Kd.R_below (by (with_reducible repeat (first | apply Kd.R_alloc | apply Kd.R_drewN | apply Kd.R_drew));exact HO500.out) hb);have n2_:=Aside0.mk (below_step (by repeat (first | (with_reducible first | exact HB.out | apply below_alloc | apply pw_below_drewN | apply below_drew1) | exact HB.out)) hb);have n3_:=Aside0.mk (hbox);have n4_:=Aside0.mk ((by rw [hg];exact (below_size (by repeat (first | (with_reducible first | exact HB.out | apply below_alloc | apply pw_below_drewN | apply below_drew1) | exact HB.out))) : w.heap.size ≤ gb505));have n5_:=Aside0.mk ((by rw [hg];exact (below_size (by repeat (first | (with_reducible first | exact HB.out | apply below_alloc | apply pw_below_drewN | apply below_drew1) | exact HB.out))) : w.heap.size ≤ gb505));clear HO495;clear HO500;clear HB;have HO495:=n0_;have HO500:=n1_;have HB:=n2_;have BK505:=n3_;have GW505:=n4_;have GE505:=n5_;clear n0_ n1_ n2_ n3_ n4_ n5_;clear hb hbox hg;have hcz19_0 : w18.cell? ⟨gb505,0,none⟩ = some (.float .f64 0):=(blk_cell BK505.out 0).trans rfl;have hcz19_1 : w18.cell? ⟨gb505,1,none⟩ = some (.bool false):=(blk_cell BK505.out 1).trans rfl;have hcz19_2 : w18.cell? ⟨gb505,2,none⟩ = some (.slice none 0 0):=(blk_cell BK505.out 2).trans rfl;have hcz19_3 : w18.cell? ⟨gb505,3,none⟩ = some (.int .i64 0):=(blk_cell BK505.out 3).trans rfl;have hcz19_4 : w18.cell? ⟨gb505,4,none⟩ = some (.int .i64 0):=(blk_cell BK505.out 4).trans rfl;have hcz19_5 : w18.cell? ⟨gb505,5,none⟩ = some (.int .i64 0):=(blk_cell BK505.out 5).trans rfl;have hfz19_0:=blk_frozen BK505.out 0;have hfz19_1:=blk_frozen BK505.out 1;have hfz19_2:=blk_frozen BK505.out 2;have hfz19_3:=blk_frozen BK505.out 3;have hfz19_4:=blk_frozen BK505.out 4;have hfz19_5:=blk_frozen BK505.out 5;obtain ⟨Ao20,co20,eo20⟩:=Kd.R_slice HO500.out;subst eo20) | ((with_reducible refine gate_callee (f:=38) rfl ?_);refine goesL_ (some 20) rfl rfl Try.func38 (by kernel_rfl) rfl #[.slice A0 l0.length c0] rfl (by (try simp only [List.map_toArray,List.map_cons,List.map_nil]);first | done | rfl | (simp only [List.length_drop,List.length_take];rfl)) ?_;(with_reducible refine (humusref04_Decode.calls k _ _ l0 t506 t507 t508 t511 t512 t513 true _ ?side1 ?side2 A7.out).mono ?_);(case side1 => exact Kd.C_below HR0.out (by repeat (first | (with_reducible first | exact HB.out | apply below_alloc | apply pw_below_drewN | apply below_drew1 | refine below_set ?_ GE505.out) | exact HB.out)));(case side2 => exact HC0.out);rintro e w21 ⟨v509,rfl,ho0,hb⟩;refine ⟨_,rfl,?_⟩;have n0_:=Aside0.mk (Kd.R_below (by (with_reducible repeat (first | apply Kd.R_alloc | apply Kd.R_drewN | apply Kd.R_drew));exact (Kd.R_mono (Kd.R_far (p:=⟨gb505,5,none⟩) (Kd.R_far (p:=⟨gb505,4,none⟩) (Kd.R_far (p:=⟨gb505,3,none⟩) (Kd.R_far (p:=⟨gb505,2,none⟩) (Kd.R_far (p:=⟨gb505,1,none⟩) (Kd.R_far (p:=⟨gb505,0,none⟩) (Kd.R_types HO495.out BK505.out (by decide)) (fun _ hk => hk.2) (.float .f64 t496)) (fun _ hk => hk.2) (.bool t497)) (fun _ hk => hk.2) (.slice Ao20 t498.length co20)) (fun _ hk => hk.2) (.int .i64 t501)) (fun _ hk => hk.2) (.int .i64 t502)) (fun _ hk => hk.2) (.int .i64 t503)) (fun _ h_ => h_.1))) hb);have n1_:=Aside0.mk (Kd.R_elder' (by (with_reducible repeat (first | apply Kd.R_alloc | apply Kd.R_drewN | apply Kd.R_drew));exact (Kd.R_mono (Kd.R_far (p:=⟨gb505,5,none⟩) (Kd.R_far (p:=⟨gb505,4,none⟩) (Kd.R_far (p:=⟨gb505,3,none⟩) (Kd.R_far (p:=⟨gb505,2,none⟩) (Kd.R_far (p:=⟨gb505,1,none⟩) (Kd.R_far (p:=⟨gb505,0,none⟩) (Kd.R_types HO500.out BK505.out (by decide)) (fun _ hk => hk.2) (.float .f64 t496)) (fun _ hk => hk.2) (.bool t497)) (fun _ hk => hk.2) (.slice Ao20 t498.length co20)) (fun _ hk => hk.2) (.int .i64 t501)) (fun _ hk => hk.2) (.int .i64 t502)) (fun _ hk => hk.2) (.int .i64 t503)) (fun _ h_ => h_.1))) (Kd.R_base ho0) hb);have n2_:=Aside0.mk (Kd.R_lower (Kd.R_new' ho0 (Kd.R_lt (by (with_reducible repeat (first | apply Kd.R_alloc | apply Kd.R_drewN | apply Kd.R_drew));exact (Kd.R_mono (Kd.R_far (p:=⟨gb505,5,none⟩) (Kd.R_far (p:=⟨gb505,4,none⟩) (Kd.R_far (p:=⟨gb505,3,none⟩) (Kd.R_far (p:=⟨gb505,2,none⟩) (Kd.R_far (p:=⟨gb505,1,none⟩) (Kd.R_far (p:=⟨gb505,0,none⟩) (Kd.R_types HO500.out BK505.out (by decide)) (fun _ hk => hk.2) (.float .f64 t496)) (fun _ hk => hk.2) (.bool t497)) (fun _ hk => hk.2) (.slice Ao20 t498.length co20)) (fun _ hk => hk.2) (.int .i64 t501)) (fun _ hk => hk.2) (.int .i64 t502)) (fun _ hk => hk.2) (.int .i64 t503)) (fun _ h_ => h_.1))))) (below_size (by repeat (first | (with_reducible first | exact HB.out | apply below_alloc | apply pw_below_drewN | apply below_drew1 | refine below_set ?_ GE505.out) | exact HB.out))));have n3_:=Aside0.mk (blk_below (g:=gb505) (o:=.cells #[.float .f64 t496,.bool t497,.slice Ao20 t498.length co20,.int .i64 t501,.int .i64 t502,.int .i64 t503] 30 (0,0)) (by (with_reducible repeat (first | refine blk_drewN ?_ _ | refine blk_drew ?_ | refine blk_alloc ?_ _));refine blk_put (cs:=#[.float .f64 t496,.bool t497,.slice Ao20 t498.length co20,.int .i64 t501,.int .i64 t502,.int .i64 0]) ?_ 5 _ rfl;(with_reducible repeat (first | refine blk_drewN ?_ _ | refine blk_drew ?_ | refine blk_alloc ?_ _));refine blk_put (cs:=#[.float .f64 t496,.bool t497,.slice Ao20 t498.length co20,.int .i64 t501,.int .i64 0,.int .i64 0]) ?_ 4 _ rfl;(with_reducible repeat (first | refine blk_drewN ?_ _ | refine blk_drew ?_ | refine blk_alloc ?_ _));refine blk_put (cs:=#[.float .f64 t496,.bool t497,.slice Ao20 t498.length co20,.int .i64 0,.int .i64 0,.int .i64 0]) ?_ 3 _ rfl;(with_reducible repeat (first | refine blk_drewN ?_ _ | refine blk_drew ?_ | refine blk_alloc ?_ _));refine blk_put (cs:=#[.float .f64 t496,.bool t497,.slice none 0 0,.int .i64 0,.int .i64 0,.int .i64 0]) ?_ 2 _ rfl;(with_reducible repeat (first | refine blk_drewN ?_ _ | refine blk_drew ?_ | refine blk_alloc ?_ _));refine blk_put (cs:=#[.float .f64 t496,.bool false,.slice none 0 0,.int .i64 0,.int .i64 0,.int .i64 0]) ?_ 1 _ rfl;(with_reducible repeat (first | refine blk_drewN ?_ _ | refine blk_drew ?_ | refine blk_alloc ?_ _));refine blk_put (cs:=#[.float .f64 0,.bool false,.slice none 0 0,.int .i64 0,.int .i64 0,.int .i64 0]) ?_ 0 _ rfl;(with_reducible repeat (first | refine blk_drewN ?_ _ | refine blk_drew ?_ | refine blk_alloc ?_ _));exact BK505.out) hb);have n4_:=Aside0.mk (below_step (by repeat (first | (with_reducible first | exact HB.out | apply below_alloc | apply pw_below_drewN | apply below_drew1 | refine below_set ?_ GE505.out) | exact HB.out)) hb);clear HO495;clear HO500;clear BK505;clear HB;have HO495:=n0_;have HO500:=n1_;have HO510:=n2_;have BK505:=n3_;have HB:=n4_;clear n0_ n1_ n2_ n3_ n4_;(try clear hb);(try clear hb2);(try clear hk);(try clear hi);(try clear ho0)) | ((with_reducible refine gate_dst (N:=5) rfl ?_);refine box_event ?hg (N:=5) ?hd (cs:=#[.float .f64 0,.bool false,.slice none 0 0,.int .i64 0,.int .i64 0,.int .i64 0]) (t:=30) ?hr ?_;(case hd => rfl);(case hg => rfl);(case hr => first | (go_simp;done) | (go_simp;rfl));intro gb515 hg w22 hbox hb;have n0_:=Aside0.mk (Kd.R_below (by (with_reducible repeat (first | apply Kd.R_alloc | apply Kd.R_drewN | apply Kd.R_drew));exact HO495.out) hb);have n1_:=Aside0.mk (Kd.R_below (by (with_reducible repeat (first | apply Kd.R_alloc | apply Kd.R_drewN | apply Kd.R_drew));exact HO500.out) hb);have n2_:=Aside0.mk (Kd.R_below (by (with_reducible repeat (first | apply Kd.R_alloc | apply Kd.R_drewN | apply Kd.R_drew));exact HO510.out) hb);have n3_:=Aside0.mk (blk_below (g:=gb505) (o:=.cells #[.float .f64 t496,.bool t497,.slice Ao20 t498.length co20,.int .i64 t501,.int .i64 t502,.int .i64 t503] 30 (0,0)) (by (with_reducible repeat (first | refine blk_drewN ?_ _ | refine blk_drew ?_ | refine blk_alloc ?_ _));exact BK505.out) hb);have n4_:=Aside0.mk (below_step (by repeat (first | (with_reducible first | exact HB.out | apply below_alloc | apply pw_below_drewN | apply below_drew1 | refine below_set ?_ GE505.out) | exact HB.out)) hb);have n5_:=Aside0.mk (hbox);have n6_:=Aside0.mk ((by rw [hg];exact (below_size (by repeat (first | (with_reducible first | exact HB.out | apply below_alloc | apply pw_below_drewN | apply below_drew1 | refine below_set ?_ GE505.out) | exact HB.out))) : w.heap.size ≤ gb515));have n7_:=Aside0.mk ((by rw [hg];exact (below_size (by repeat (first | (with_reducible first | exact HB.out | apply below_alloc | apply pw_below_drewN | apply below_drew1 | refine below_set ?_ GE505.out) | exact HB.out))) : w.heap.size ≤ gb515));have n8_:=Aside0.mk ((by rw [hg];exact Nat.ne_of_lt (blk_lt (g:=gb505) (o:=.cells #[.float .f64 t496,.bool t497,.slice Ao20 t498.length co20,.int .i64 t501,.int .i64 t502,.int .i64 t503] 30 (0,0)) (by (with_reducible repeat (first | refine blk_drewN ?_ _ | refine blk_drew ?_ | refine blk_alloc ?_ _));exact BK505.out)) : gb505 ≠ gb515));have n9_:=Aside0.mk ((by rw [hg];exact Nat.ne_of_gt (blk_lt (g:=gb505) (o:=.cells #[.float .f64 t496,.bool t497,.slice Ao20 t498.length co20,.int .i64 t501,.int .i64 t502,.int .i64 t503] 30 (0,0)) (by (with_reducible repeat (first | refine blk_drewN ?_ _ | refine blk_drew ?_ | refine blk_alloc ?_ _));exact BK505.out)) : gb515 ≠ gb505));clear HO495;clear HO500;clear HO510;clear BK505;clear HB;have HO495:=n0_;have HO500:=n1_;have HO510:=n2_;have BK505:=n3_;have HB:=n4_;have BK515:=n5_;have GW515:=n6_;have GE515:=n7_;have NB505_515:=n8_;have NB515_505:=n9_;clear n0_ n1_ n2_ n3_ n4_ n5_ n6_ n7_ n8_ n9_;clear hb hbox hg;have hnb23:=NB515_505.out;have hnc23:=NB505_515.out;have hcz24_0 : w22.cell? ⟨gb515,0,none⟩ = some (.float .f64 0):=(blk_cell BK515.out 0).trans rfl;have hcz24_1 : w22.cell? ⟨gb515,1,none⟩ = some (.bool false):=(blk_cell BK515.out 1).trans rfl;have hcz24_2 : w22.cell? ⟨gb515,2,none⟩ = some (.slice none 0 0):=(blk_cell BK515.out 2).trans rfl;have hcz24_3 : w22.cell? ⟨gb515,3,none⟩ = some (.int .i64 0):=(blk_cell BK515.out 3).trans rfl;have hcz24_4 : w22.cell? ⟨gb515,4,none⟩ = some (.int .i64 0):=(blk_cell BK515.out 4).trans rfl;have hcz24_5 : w22.cell? ⟨gb515,5,none⟩ = some (.int .i64 0):=(blk_cell BK515.out 5).trans rfl;have hfz24_0:=blk_frozen BK515.out 0;have hfz24_1:=blk_frozen BK515.out 1;have hfz24_2:=blk_frozen BK515.out 2;have hfz24_3:=blk_frozen BK515.out 3;have hfz24_4:=blk_frozen BK515.out 4;have hfz24_5:=blk_frozen BK515.out 5;obtain ⟨Ao25,co25,eo25⟩:=Kd.R_slice HO510.out;subst eo25;have hcz26_0 : w22.cell? ⟨gb505,0,none⟩ = some (.float .f64 t496):=(blk_cell BK505.out 0).trans rfl;have hcz26_1 : w22.cell? ⟨gb505,1,none⟩ = some (.bool t497):=(blk_cell BK505.out 1).trans rfl;have hcz26_2 : w22.cell? ⟨gb505,2,none⟩ = some (.slice Ao20 t498.length co20):=(blk_cell BK505.out 2).trans rfl;have hcz26_3 : w22.cell? ⟨gb505,3,none⟩ = some (.int .i64 t501):=(blk_cell BK505.out 3).trans rfl;have hcz26_4 : w22.cell? ⟨gb505,4,none⟩ = some (.int .i64 t502):=(blk_cell BK505.out 4).trans rfl;have hcz26_5 : w22.cell? ⟨gb505,5,none⟩ = some (.int .i64 t503):=(blk_cell BK505.out 5).trans rfl;have hfz26_0:=blk_frozen BK505.out 0;have hfz26_1:=blk_frozen BK505.out 1;have hfz26_2:=blk_frozen BK505.out 2;have hfz26_3:=blk_frozen BK505.out 3;have hfz26_4:=blk_frozen BK505.out 4;have hfz26_5:=blk_frozen BK505.out 5) | (go_at_call 37;(with_reducible refine (humusref04_Same.calls k t496 t497 _ _ t498 t501 t502 t503 t506 t507 _ _ t508 t511 t512 t513 true _ ?side1 ?side2 ?side3 ?side4 A10.out).mono ?_);(case side1 => refine (Kd.R_reads' (e:=25) (base:=w.heap.size) (ok:=fun k_ => (True ∧ some k_ ≠ (.slice Ao25 t508.length co25 : Value).ownBlock)) (n:=t498.length) (c:=co20) ?_).2.2;exact (by (with_reducible repeat (first | apply Kd.R_alloc | apply Kd.R_drewN | apply Kd.R_drew));exact (Kd.R_mono (Kd.R_far (p:=⟨gb515,5,none⟩) (Kd.R_far (p:=⟨gb515,4,none⟩) (Kd.R_far (p:=⟨gb515,3,none⟩) (Kd.R_far (p:=⟨gb515,2,none⟩) (Kd.R_far (p:=⟨gb515,1,none⟩) (Kd.R_far (p:=⟨gb515,0,none⟩) (Kd.R_types HO500.out BK515.out (by decide)) (fun _ hk => hk.2) (.float .f64 t506)) (fun _ hk => hk.2) (.bool t507)) (fun _ hk => hk.2) (.slice Ao25 t508.length co25)) (fun _ hk => hk.2) (.int .i64 t511)) (fun _ hk => hk.2) (.int .i64 t512)) (fun _ hk => hk.2) (.int .i64 t513)) (fun _ h_ => h_.1))));(case side2 => exact (Kd.R_reads' HO500.out).2.1);(case side3 => refine (Kd.R_reads' (e:=25) (base:=w.heap.size) (ok:=fun k_ => (True ∧ some k_ ≠ (.slice Ao20 t498.length co20 : Value).ownBlock)) (n:=t508.length) (c:=co25) ?_).2.2;exact (by (with_reducible repeat (first | apply Kd.R_alloc | apply Kd.R_drewN | apply Kd.R_drew));exact (Kd.R_mono (Kd.R_far (p:=⟨gb515,5,none⟩) (Kd.R_far (p:=⟨gb515,4,none⟩) (Kd.R_far (p:=⟨gb515,3,none⟩) (Kd.R_far (p:=⟨gb515,2,none⟩) (Kd.R_far (p:=⟨gb515,1,none⟩) (Kd.R_far (p:=⟨gb515,0,none⟩) (Kd.R_types HO510.out BK515.out (by decide)) (fun _ hk => hk.2) (.float .f64 t506)) (fun _ hk => hk.2) (.bool t507)) (fun _ hk => hk.2) (.slice Ao25 t508.length co25)) (fun _ hk => hk.2) (.int .i64 t511)) (fun _ hk => hk.2) (.int .i64 t512)) (fun _ hk => hk.2) (.int .i64 t513)) (fun _ h_ => h_.1))));(case side4 => exact (Kd.R_reads' HO510.out).2.1);rintro e w27 ⟨rfl,hb⟩;have n0_:=Aside0.mk (Kd.R_below (by (with_reducible repeat (first | apply Kd.R_alloc | apply Kd.R_drewN | apply Kd.R_drew));exact (Kd.R_mono (Kd.R_far (p:=⟨gb515,5,none⟩) (Kd.R_far (p:=⟨gb515,4,none⟩) (Kd.R_far (p:=⟨gb515,3,none⟩) (Kd.R_far (p:=⟨gb515,2,none⟩) (Kd.R_far (p:=⟨gb515,1,none⟩) (Kd.R_far (p:=⟨gb515,0,none⟩) (Kd.R_types HO495.out BK515.out (by decide)) (fun _ hk => hk.2) (.float .f64 t506)) (fun _ hk => hk.2) (.bool t507)) (fun _ hk => hk.2) (.slice Ao25 t508.length co25)) (fun _ hk => hk.2) (.int .i64 t511)) (fun _ hk => hk.2) (.int .i64 t512)) (fun _ hk => hk.2) (.int .i64 t513)) (fun _ h_ => h_.1))) hb);have n1_:=Aside0.mk (Kd.R_below (by (with_reducible repeat (first | apply Kd.R_alloc | apply Kd.R_drewN | apply Kd.R_drew));exact (Kd.R_mono (Kd.R_far (p:=⟨gb515,5,none⟩) (Kd.R_far (p:=⟨gb515,4,none⟩) (Kd.R_far (p:=⟨gb515,3,none⟩) (Kd.R_far (p:=⟨gb515,2,none⟩) (Kd.R_far (p:=⟨gb515,1,none⟩) (Kd.R_far (p:=⟨gb515,0,none⟩) (Kd.R_types HO500.out BK515.out (by decide)) (fun _ hk => hk.2) (.float .f64 t506)) (fun _ hk => hk.2) (.bool t507)) (fun _ hk => hk.2) (.slice Ao25 t508.length co25)) (fun _ hk => hk.2) (.int .i64 t511)) (fun _ hk => hk.2) (.int .i64 t512)) (fun _ hk => hk.2) (.int .i64 t513)) (fun _ h_ => h_.1))) hb);have n2_:=Aside0.mk (Kd.R_below (by (with_reducible repeat (first | apply Kd.R_alloc | apply Kd.R_drewN | apply Kd.R_drew));exact (Kd.R_mono (Kd.R_far (p:=⟨gb515,5,none⟩) (Kd.R_far (p:=⟨gb515,4,none⟩) (Kd.R_far (p:=⟨gb515,3,none⟩) (Kd.R_far (p:=⟨gb515,2,none⟩) (Kd.R_far (p:=⟨gb515,1,none⟩) (Kd.R_far (p:=⟨gb515,0,none⟩) (Kd.R_types HO510.out BK515.out (by decide)) (fun _ hk => hk.2) (.float .f64 t506)) (fun _ hk => hk.2) (.bool t507)) (fun _ hk => hk.2) (.slice Ao25 t508.length co25)) (fun _ hk => hk.2) (.int .i64 t511)) (fun _ hk => hk.2) (.int .i64 t512)) (fun _ hk => hk.2) (.int .i64 t513)) (fun _ h_ => h_.1))) hb);have n3_:=Aside0.mk (blk_below (g:=gb505) (o:=.cells #[.float .f64 t496,.bool t497,.slice Ao20 t498.length co20,.int .i64 t501,.int .i64 t502,.int .i64 t503] 30 (0,0)) (by (with_reducible repeat (first | refine blk_drewN ?_ _ | refine blk_drew ?_ | refine blk_alloc ?_ _));refine blk_far ?_ NB505_515.out _;(with_reducible repeat (first | refine blk_drewN ?_ _ | refine blk_drew ?_ | refine blk_alloc ?_ _));refine blk_far ?_ NB505_515.out _;(with_reducible repeat (first | refine blk_drewN ?_ _ | refine blk_drew ?_ | refine blk_alloc ?_ _));refine blk_far ?_ NB505_515.out _;(with_reducible repeat (first | refine blk_drewN ?_ _ | refine blk_drew ?_ | refine blk_alloc ?_ _));refine blk_far ?_ NB505_515.out _;(with_reducible repeat (first | refine blk_drewN ?_ _ | refine blk_drew ?_ | refine blk_alloc ?_ _));refine blk_far ?_ NB505_515.out _;(with_reducible repeat (first | refine blk_drewN ?_ _ | refine blk_drew ?_ | refine blk_alloc ?_ _));refine blk_far ?_ NB505_515.out _;(with_reducible repeat (first | refine blk_drewN ?_ _ | refine blk_drew ?_ | refine blk_alloc ?_ _));exact BK505.out) hb);have n4_:=Aside0.mk (blk_below (g:=gb515) (o:=.cells #[.float .f64 t506,.bool t507,.slice Ao25 t508.length co25,.int .i64 t511,.int .i64 t512,.int .i64 t513] 30 (0,0)) (by (with_reducible repeat (first | refine blk_drewN ?_ _ | refine blk_drew ?_ | refine blk_alloc ?_ _));refine blk_put (cs:=#[.float .f64 t506,.bool t507,.slice Ao25 t508.length co25,.int .i64 t511,.int .i64 t512,.int .i64 0]) ?_ 5 _ rfl;(with_reducible repeat (first | refine blk_drewN ?_ _ | refine blk_drew ?_ | refine blk_alloc ?_ _));refine blk_put (cs:=#[.float .f64 t506,.bool t507,.slice Ao25 t508.length co25,.int .i64 t511,.int .i64 0,.int .i64 0]) ?_ 4 _ rfl;(with_reducible repeat (first | refine blk_drewN ?_ _ | refine blk_drew ?_ | refine blk_alloc ?_ _));refine blk_put (cs:=#[.float .f64 t506,.bool t507,.slice Ao25 t508.length co25,.int .i64 0,.int .i64 0,.int .i64 0]) ?_ 3 _ rfl;(with_reducible repeat (first | refine blk_drewN ?_ _ | refine blk_drew ?_ | refine blk_alloc ?_ _));refine blk_put (cs:=#[.float .f64 t506,.bool t507,.slice none 0 0,.int .i64 0,.int .i64 0,.int .i64 0]) ?_ 2 _ rfl;(with_reducible repeat (first | refine blk_drewN ?_ _ | refine blk_drew ?_ | refine blk_alloc ?_ _));refine blk_put (cs:=#[.float .f64 t506,.bool false,.slice none 0 0,.int .i64 0,.int .i64 0,.int .i64 0]) ?_ 1 _ rfl;(with_reducible repeat (first | refine blk_drewN ?_ _ | refine blk_drew ?_ | refine blk_alloc ?_ _));refine blk_put (cs:=#[.float .f64 0,.bool false,.slice none 0 0,.int .i64 0,.int .i64 0,.int .i64 0]) ?_ 0 _ rfl;(with_reducible repeat (first | refine blk_drewN ?_ _ | refine blk_drew ?_ | refine blk_alloc ?_ _));exact BK515.out) hb);have n5_:=Aside0.mk (below_step (by repeat (first | (with_reducible first | exact HB.out | apply below_alloc | apply pw_below_drewN | apply below_drew1 | refine below_set ?_ GE505.out | refine below_set ?_ GE515.out) | exact HB.out)) hb);clear HO495;clear HO500;clear HO510;clear BK505;clear BK515;clear HB;have HO495:=n0_;have HO500:=n1_;have HO510:=n2_;have BK505:=n3_;have BK515:=n4_;have HB:=n5_;clear n0_ n1_ n2_ n3_ n4_ n5_;(try clear hb);(try clear hb2);(try clear hk);(try clear hi)) | (go_at_call 31;(with_reducible refine (humuslaw04_awake.calls k  t517 _ A12.out).mono ?_);rintro e w28 ⟨rfl,hb⟩;have n0_:=Aside0.mk (Kd.R_below (by (with_reducible repeat (first | apply Kd.R_alloc | apply Kd.R_drewN | apply Kd.R_drew));exact HO495.out) hb);have n1_:=Aside0.mk (Kd.R_below (by (with_reducible repeat (first | apply Kd.R_alloc | apply Kd.R_drewN | apply Kd.R_drew));exact HO500.out) hb);have n2_:=Aside0.mk (Kd.R_below (by (with_reducible repeat (first | apply Kd.R_alloc | apply Kd.R_drewN | apply Kd.R_drew));exact HO510.out) hb);have n3_:=Aside0.mk (blk_below (g:=gb505) (o:=.cells #[.float .f64 t496,.bool t497,.slice Ao20 t498.length co20,.int .i64 t501,.int .i64 t502,.int .i64 t503] 30 (0,0)) (by (with_reducible repeat (first | refine blk_drewN ?_ _ | refine blk_drew ?_ | refine blk_alloc ?_ _));exact BK505.out) hb);have n4_:=Aside0.mk (blk_below (g:=gb515) (o:=.cells #[.float .f64 t506,.bool t507,.slice Ao25 t508.length co25,.int .i64 t511,.int .i64 t512,.int .i64 t513] 30 (0,0)) (by (with_reducible repeat (first | refine blk_drewN ?_ _ | refine blk_drew ?_ | refine blk_alloc ?_ _));exact BK515.out) hb);have n5_:=Aside0.mk (below_step (by repeat (first | (with_reducible first | exact HB.out | apply below_alloc | apply pw_below_drewN | apply below_drew1 | refine below_set ?_ GE505.out | refine below_set ?_ GE515.out) | exact HB.out)) hb);clear HO495;clear HO500;clear HO510;clear BK505;clear BK515;clear HB;have HO495:=n0_;have HO500:=n1_;have HO510:=n2_;have BK505:=n3_;have BK515:=n4_;have HB:=n5_;clear n0_ n1_ n2_ n3_ n4_ n5_;(try clear hb);(try clear hb2);(try clear hk);(try clear hi)))
            go_ret
            exact ⟨by first | rfl | (simp [errW_none,errW_some] <;> rfl) | (simp [*,errW_none,errW_some] <;> rfl),by repeat (first | (with_reducible first | exact HB.out | apply below_alloc | apply pw_below_drewN | apply below_drew1 | refine below_set ?_ GE505.out | refine below_set ?_ GE515.out) | exact HB.out)⟩
          · replace c11:=Bool.eq_false_iff.mpr c11
            subst c11
            have H1 : (some false) = some r:=by rw [if_neg (show ¬ (false = true) by decide)] at H;exact H
            clear H
            have H:=H1
            clear H1
            obtain rfl:=Option.some.inj H
            go_enter Try.func7,Try.ntmps7
            go_wp2_with (first | ((with_reducible refine gate_dst (N:=12) rfl ?_);refine Kd.R_lit (Kd.int .u8) _ 5 ?hg (N:=12) ?hd (xs:=([] : List Int)) (inner:=[]) (ok:=fun _ => True) (okp:=fun _ => True) ?hr ?hp (fun _ hk => hk) trivial (Below.refl _ _) (Nat.le_refl _) (by simp) ?_;(case hd => rfl);(case hg => rfl);(case hr => first | (go_simp;done) | (go_simp;rfl));(case hp => exact (Reps.none _ _));intro v491 w29 ho30 hb hg_ hnew_;clear hg_ hnew_;(first | rw [← Ny490.out] at ho30 | (simp only [Int.reduceToNat] at ho30;rw [← Ny490.out] at ho30));have n0_:=Aside0.mk (Kd.R_lower ho30 (below_size (by repeat (first | (with_reducible first | exact HB.out | apply below_alloc | apply pw_below_drewN | apply below_drew1) | exact HB.out))));have n1_:=Aside0.mk (below_step (by repeat (first | (with_reducible first | exact HB.out | apply below_alloc | apply pw_below_drewN | apply below_drew1) | exact HB.out)) hb);clear HB;have HO492:=n0_;have HB:=n1_;clear n0_ n1_;clear hb ho30) | ((with_reducible refine gate_builtin (b:=.append) (xs:=#[.tmp 12,.tmp 13]) rfl ?_);at_builtin;refine Kd.R_append_rows (Kd.int .u8) (w0:=w) w.heap.size rfl (.tmp 12) (.tmp 13) 23 5 (.int .u8 0) 1 rfl Try.underlying23 info5 rfl (by decide) (by omega) v491 y490 l0 _ _ _ (fun _ => True) (fun _ => False) rfl rfl ?aO ?aR (fun _ _ h => h) (fun _ h => h.elim) ?aF ?aB ?aS ?aL ?_;(case aR => repeat (first | exact (Kd.C_below HR0.out HB.out) | (with_reducible refine Kd.C_alloc ?_ _) | (with_reducible refine Kd.C_drewN ?_ _) | (with_reducible refine Kd.C_drew ?_)));(case aB => exact (by repeat (first | (with_reducible first | exact HB.out | apply below_alloc | apply pw_below_drewN | apply below_drew1) | exact HB.out)));(case aF => exact (fun _ _ => trivial));(case aO => exact (by (with_reducible repeat (first | apply Kd.R_alloc | apply Kd.R_drewN | apply Kd.R_drew));exact HO492.out));(case aS => exact (below_size (by repeat (first | (with_reducible first | exact HB.out | apply below_alloc | apply pw_below_drewN | apply below_drew1) | exact HB.out))));(case aL => have:=LMc5.out;omega);intro v494 w31 ho hb hg hat;rw [← Ny493.out] at ho;have n0_:=Aside0.mk (hb);have n1_:=Aside0.mk (ho);clear HB;clear HO492;have HB:=n0_;have HO495:=n1_;clear n0_ n1_;clear ho hb hg hat;obtain ⟨Ao32,co32,eo32⟩:=Kd.R_slice HO495.out;subst eo32) | ((with_reducible refine gate_callee (f:=35) rfl ?_);refine goesL_ (some 15) rfl rfl Try.func35 (by kernel_rfl) rfl #[.slice Ao32 y493.length co32] rfl (by (try simp only [List.map_toArray,List.map_cons,List.map_nil]);first | done | rfl | (simp only [List.length_drop,List.length_take];rfl)) ?_;(with_reducible refine (row_Decode.calls k _ _ y493 t496 t497 t498 t501 t502 t503 t504 _ ?side1 ?side2 A6.out).mono ?_);(case side1 => repeat (first | exact (Kd.R_reads' HO495.out).2.2 | (with_reducible refine Kd.C_alloc ?_ _) | (with_reducible refine Kd.C_drewN ?_ _) | (with_reducible refine Kd.C_drew ?_)));(case side2 => exact (Kd.R_reads' HO495.out).2.1);rintro e w33 ⟨v499,rfl,ho0,hb⟩;refine ⟨_,rfl,?_⟩;have n0_:=Aside0.mk (Kd.R_below (by (with_reducible repeat (first | apply Kd.R_alloc | apply Kd.R_drewN | apply Kd.R_drew));exact HO495.out) hb);have n1_:=Aside0.mk (Kd.R_lower ho0 (below_size (by repeat (first | (with_reducible first | exact HB.out | apply below_alloc | apply pw_below_drewN | apply below_drew1) | exact HB.out))));have n2_:=Aside0.mk (below_step (by repeat (first | (with_reducible first | exact HB.out | apply below_alloc | apply pw_below_drewN | apply below_drew1) | exact HB.out)) hb);clear HO495;clear HB;have HO495:=n0_;have HO500:=n1_;have HB:=n2_;clear n0_ n1_ n2_;(try clear hb);(try clear hb2);(try clear hk);(try clear hi);(try clear ho0)) | ((with_reducible refine gate_dst (N:=3) rfl ?_);refine box_event ?hg (N:=3) ?hd (cs:=#[.float .f64 0,.bool false,.slice none 0 0,.int .i64 0,.int .i64 0,.int .i64 0]) (t:=30) ?hr ?_;(case hd => rfl);(case hg => rfl);(case hr => first | (go_simp;done) | (go_simp;rfl));intro gb505 hg w34 hbox hb;have n0_:=Aside0.mk (Kd.R_below (by (with_reducible repeat (first | apply Kd.R_alloc | apply Kd.R_drewN | apply Kd.R_drew));exact HO495.out) hb);have n1_:=Aside0.mk (Kd.R_below (by (with_reducible repeat (first | apply Kd.R_alloc | apply Kd.R_drewN | apply Kd.R_drew));exact HO500.out) hb);have n2_:=Aside0.mk (below_step (by repeat (first | (with_reducible first | exact HB.out | apply below_alloc | apply pw_below_drewN | apply below_drew1) | exact HB.out)) hb);have n3_:=Aside0.mk (hbox);have n4_:=Aside0.mk ((by rw [hg];exact (below_size (by repeat (first | (with_reducible first | exact HB.out | apply below_alloc | apply pw_below_drewN | apply below_drew1) | exact HB.out))) : w.heap.size ≤ gb505));have n5_:=Aside0.mk ((by rw [hg];exact (below_size (by repeat (first | (with_reducible first | exact HB.out | apply below_alloc | apply pw_below_drewN | apply below_drew1) | exact HB.out))) : w.heap.size ≤ gb505));clear HO495;clear HO500;clear HB;have HO495:=n0_;have HO500:=n1_;have HB:=n2_;have BK505:=n3_;have GW505:=n4_;have GE505:=n5_;clear n0_ n1_ n2_ n3_ n4_ n5_;clear hb hbox hg;have hcz35_0 : w34.cell? ⟨gb505,0,none⟩ = some (.float .f64 0):=(blk_cell BK505.out 0).trans rfl;have hcz35_1 : w34.cell? ⟨gb505,1,none⟩ = some (.bool false):=(blk_cell BK505.out 1).trans rfl;have hcz35_2 : w34.cell? ⟨gb505,2,none⟩ = some (.slice none 0 0):=(blk_cell BK505.out 2).trans rfl;have hcz35_3 : w34.cell? ⟨gb505,3,none⟩ = some (.int .i64 0):=(blk_cell BK505.out 3).trans rfl;have hcz35_4 : w34.cell? ⟨gb505,4,none⟩ = some (.int .i64 0):=(blk_cell BK505.out 4).trans rfl;have hcz35_5 : w34.cell? ⟨gb505,5,none⟩ = some (.int .i64 0):=(blk_cell BK505.out 5).trans rfl;have hfz35_0:=blk_frozen BK505.out 0;have hfz35_1:=blk_frozen BK505.out 1;have hfz35_2:=blk_frozen BK505.out 2;have hfz35_3:=blk_frozen BK505.out 3;have hfz35_4:=blk_frozen BK505.out 4;have hfz35_5:=blk_frozen BK505.out 5;obtain ⟨Ao36,co36,eo36⟩:=Kd.R_slice HO500.out;subst eo36) | ((with_reducible refine gate_callee (f:=38) rfl ?_);refine goesL_ (some 20) rfl rfl Try.func38 (by kernel_rfl) rfl #[.slice A0 l0.length c0] rfl (by (try simp only [List.map_toArray,List.map_cons,List.map_nil]);first | done | rfl | (simp only [List.length_drop,List.length_take];rfl)) ?_;(with_reducible refine (humusref04_Decode.calls k _ _ l0 t506 t507 t508 t511 t512 t513 true _ ?side1 ?side2 A7.out).mono ?_);(case side1 => exact Kd.C_below HR0.out (by repeat (first | (with_reducible first | exact HB.out | apply below_alloc | apply pw_below_drewN | apply below_drew1 | refine below_set ?_ GE505.out) | exact HB.out)));(case side2 => exact HC0.out);rintro e w37 ⟨v509,rfl,ho0,hb⟩;refine ⟨_,rfl,?_⟩;have n0_:=Aside0.mk (Kd.R_below (by (with_reducible repeat (first | apply Kd.R_alloc | apply Kd.R_drewN | apply Kd.R_drew));exact (Kd.R_mono (Kd.R_far (p:=⟨gb505,5,none⟩) (Kd.R_far (p:=⟨gb505,4,none⟩) (Kd.R_far (p:=⟨gb505,3,none⟩) (Kd.R_far (p:=⟨gb505,2,none⟩) (Kd.R_far (p:=⟨gb505,1,none⟩) (Kd.R_far (p:=⟨gb505,0,none⟩) (Kd.R_types HO495.out BK505.out (by decide)) (fun _ hk => hk.2) (.float .f64 t496)) (fun _ hk => hk.2) (.bool t497)) (fun _ hk => hk.2) (.slice Ao36 t498.length co36)) (fun _ hk => hk.2) (.int .i64 t501)) (fun _ hk => hk.2) (.int .i64 t502)) (fun _ hk => hk.2) (.int .i64 t503)) (fun _ h_ => h_.1))) hb);have n1_:=Aside0.mk (Kd.R_elder' (by (with_reducible repeat (first | apply Kd.R_alloc | apply Kd.R_drewN | apply Kd.R_drew));exact (Kd.R_mono (Kd.R_far (p:=⟨gb505,5,none⟩) (Kd.R_far (p:=⟨gb505,4,none⟩) (Kd.R_far (p:=⟨gb505,3,none⟩) (Kd.R_far (p:=⟨gb505,2,none⟩) (Kd.R_far (p:=⟨gb505,1,none⟩) (Kd.R_far (p:=⟨gb505,0,none⟩) (Kd.R_types HO500.out BK505.out (by decide)) (fun _ hk => hk.2) (.float .f64 t496)) (fun _ hk => hk.2) (.bool t497)) (fun _ hk => hk.2) (.slice Ao36 t498.length co36)) (fun _ hk => hk.2) (.int .i64 t501)) (fun _ hk => hk.2) (.int .i64 t502)) (fun _ hk => hk.2) (.int .i64 t503)) (fun _ h_ => h_.1))) (Kd.R_base ho0) hb);have n2_:=Aside0.mk (Kd.R_lower (Kd.R_new' ho0 (Kd.R_lt (by (with_reducible repeat (first | apply Kd.R_alloc | apply Kd.R_drewN | apply Kd.R_drew));exact (Kd.R_mono (Kd.R_far (p:=⟨gb505,5,none⟩) (Kd.R_far (p:=⟨gb505,4,none⟩) (Kd.R_far (p:=⟨gb505,3,none⟩) (Kd.R_far (p:=⟨gb505,2,none⟩) (Kd.R_far (p:=⟨gb505,1,none⟩) (Kd.R_far (p:=⟨gb505,0,none⟩) (Kd.R_types HO500.out BK505.out (by decide)) (fun _ hk => hk.2) (.float .f64 t496)) (fun _ hk => hk.2) (.bool t497)) (fun _ hk => hk.2) (.slice Ao36 t498.length co36)) (fun _ hk => hk.2) (.int .i64 t501)) (fun _ hk => hk.2) (.int .i64 t502)) (fun _ hk => hk.2) (.int .i64 t503)) (fun _ h_ => h_.1))))) (below_size (by repeat (first | (with_reducible first | exact HB.out | apply below_alloc | apply pw_below_drewN | apply below_drew1 | refine below_set ?_ GE505.out) | exact HB.out))));have n3_:=Aside0.mk (blk_below (g:=gb505) (o:=.cells #[.float .f64 t496,.bool t497,.slice Ao36 t498.length co36,.int .i64 t501,.int .i64 t502,.int .i64 t503] 30 (0,0)) (by (with_reducible repeat (first | refine blk_drewN ?_ _ | refine blk_drew ?_ | refine blk_alloc ?_ _));refine blk_put (cs:=#[.float .f64 t496,.bool t497,.slice Ao36 t498.length co36,.int .i64 t501,.int .i64 t502,.int .i64 0]) ?_ 5 _ rfl;(with_reducible repeat (first | refine blk_drewN ?_ _ | refine blk_drew ?_ | refine blk_alloc ?_ _));refine blk_put (cs:=#[.float .f64 t496,.bool t497,.slice Ao36 t498.length co36,.int .i64 t501,.int .i64 0,.int .i64 0]) ?_ 4 _ rfl;(with_reducible repeat (first | refine blk_drewN ?_ _ | refine blk_drew ?_ | refine blk_alloc ?_ _));refine blk_put (cs:=#[.float .f64 t496,.bool t497,.slice Ao36 t498.length co36,.int .i64 0,.int .i64 0,.int .i64 0]) ?_ 3 _ rfl;(with_reducible repeat (first | refine blk_drewN ?_ _ | refine blk_drew ?_ | refine blk_alloc ?_ _));refine blk_put (cs:=#[.float .f64 t496,.bool t497,.slice none 0 0,.int .i64 0,.int .i64 0,.int .i64 0]) ?_ 2 _ rfl;(with_reducible repeat (first | refine blk_drewN ?_ _ | refine blk_drew ?_ | refine blk_alloc ?_ _));refine blk_put (cs:=#[.float .f64 t496,.bool false,.slice none 0 0,.int .i64 0,.int .i64 0,.int .i64 0]) ?_ 1 _ rfl;(with_reducible repeat (first | refine blk_drewN ?_ _ | refine blk_drew ?_ | refine blk_alloc ?_ _));refine blk_put (cs:=#[.float .f64 0,.bool false,.slice none 0 0,.int .i64 0,.int .i64 0,.int .i64 0]) ?_ 0 _ rfl;(with_reducible repeat (first | refine blk_drewN ?_ _ | refine blk_drew ?_ | refine blk_alloc ?_ _));exact BK505.out) hb);have n4_:=Aside0.mk (below_step (by repeat (first | (with_reducible first | exact HB.out | apply below_alloc | apply pw_below_drewN | apply below_drew1 | refine below_set ?_ GE505.out) | exact HB.out)) hb);clear HO495;clear HO500;clear BK505;clear HB;have HO495:=n0_;have HO500:=n1_;have HO510:=n2_;have BK505:=n3_;have HB:=n4_;clear n0_ n1_ n2_ n3_ n4_;(try clear hb);(try clear hb2);(try clear hk);(try clear hi);(try clear ho0)) | ((with_reducible refine gate_dst (N:=5) rfl ?_);refine box_event ?hg (N:=5) ?hd (cs:=#[.float .f64 0,.bool false,.slice none 0 0,.int .i64 0,.int .i64 0,.int .i64 0]) (t:=30) ?hr ?_;(case hd => rfl);(case hg => rfl);(case hr => first | (go_simp;done) | (go_simp;rfl));intro gb515 hg w38 hbox hb;have n0_:=Aside0.mk (Kd.R_below (by (with_reducible repeat (first | apply Kd.R_alloc | apply Kd.R_drewN | apply Kd.R_drew));exact HO495.out) hb);have n1_:=Aside0.mk (Kd.R_below (by (with_reducible repeat (first | apply Kd.R_alloc | apply Kd.R_drewN | apply Kd.R_drew));exact HO500.out) hb);have n2_:=Aside0.mk (Kd.R_below (by (with_reducible repeat (first | apply Kd.R_alloc | apply Kd.R_drewN | apply Kd.R_drew));exact HO510.out) hb);have n3_:=Aside0.mk (blk_below (g:=gb505) (o:=.cells #[.float .f64 t496,.bool t497,.slice Ao36 t498.length co36,.int .i64 t501,.int .i64 t502,.int .i64 t503] 30 (0,0)) (by (with_reducible repeat (first | refine blk_drewN ?_ _ | refine blk_drew ?_ | refine blk_alloc ?_ _));exact BK505.out) hb);have n4_:=Aside0.mk (below_step (by repeat (first | (with_reducible first | exact HB.out | apply below_alloc | apply pw_below_drewN | apply below_drew1 | refine below_set ?_ GE505.out) | exact HB.out)) hb);have n5_:=Aside0.mk (hbox);have n6_:=Aside0.mk ((by rw [hg];exact (below_size (by repeat (first | (with_reducible first | exact HB.out | apply below_alloc | apply pw_below_drewN | apply below_drew1 | refine below_set ?_ GE505.out) | exact HB.out))) : w.heap.size ≤ gb515));have n7_:=Aside0.mk ((by rw [hg];exact (below_size (by repeat (first | (with_reducible first | exact HB.out | apply below_alloc | apply pw_below_drewN | apply below_drew1 | refine below_set ?_ GE505.out) | exact HB.out))) : w.heap.size ≤ gb515));have n8_:=Aside0.mk ((by rw [hg];exact Nat.ne_of_lt (blk_lt (g:=gb505) (o:=.cells #[.float .f64 t496,.bool t497,.slice Ao36 t498.length co36,.int .i64 t501,.int .i64 t502,.int .i64 t503] 30 (0,0)) (by (with_reducible repeat (first | refine blk_drewN ?_ _ | refine blk_drew ?_ | refine blk_alloc ?_ _));exact BK505.out)) : gb505 ≠ gb515));have n9_:=Aside0.mk ((by rw [hg];exact Nat.ne_of_gt (blk_lt (g:=gb505) (o:=.cells #[.float .f64 t496,.bool t497,.slice Ao36 t498.length co36,.int .i64 t501,.int .i64 t502,.int .i64 t503] 30 (0,0)) (by (with_reducible repeat (first | refine blk_drewN ?_ _ | refine blk_drew ?_ | refine blk_alloc ?_ _));exact BK505.out)) : gb515 ≠ gb505));clear HO495;clear HO500;clear HO510;clear BK505;clear HB;have HO495:=n0_;have HO500:=n1_;have HO510:=n2_;have BK505:=n3_;have HB:=n4_;have BK515:=n5_;have GW515:=n6_;have GE515:=n7_;have NB505_515:=n8_;have NB515_505:=n9_;clear n0_ n1_ n2_ n3_ n4_ n5_ n6_ n7_ n8_ n9_;clear hb hbox hg;have hnb39:=NB515_505.out;have hnc39:=NB505_515.out;have hcz40_0 : w38.cell? ⟨gb515,0,none⟩ = some (.float .f64 0):=(blk_cell BK515.out 0).trans rfl;have hcz40_1 : w38.cell? ⟨gb515,1,none⟩ = some (.bool false):=(blk_cell BK515.out 1).trans rfl;have hcz40_2 : w38.cell? ⟨gb515,2,none⟩ = some (.slice none 0 0):=(blk_cell BK515.out 2).trans rfl;have hcz40_3 : w38.cell? ⟨gb515,3,none⟩ = some (.int .i64 0):=(blk_cell BK515.out 3).trans rfl;have hcz40_4 : w38.cell? ⟨gb515,4,none⟩ = some (.int .i64 0):=(blk_cell BK515.out 4).trans rfl;have hcz40_5 : w38.cell? ⟨gb515,5,none⟩ = some (.int .i64 0):=(blk_cell BK515.out 5).trans rfl;have hfz40_0:=blk_frozen BK515.out 0;have hfz40_1:=blk_frozen BK515.out 1;have hfz40_2:=blk_frozen BK515.out 2;have hfz40_3:=blk_frozen BK515.out 3;have hfz40_4:=blk_frozen BK515.out 4;have hfz40_5:=blk_frozen BK515.out 5;obtain ⟨Ao41,co41,eo41⟩:=Kd.R_slice HO510.out;subst eo41;have hcz42_0 : w38.cell? ⟨gb505,0,none⟩ = some (.float .f64 t496):=(blk_cell BK505.out 0).trans rfl;have hcz42_1 : w38.cell? ⟨gb505,1,none⟩ = some (.bool t497):=(blk_cell BK505.out 1).trans rfl;have hcz42_2 : w38.cell? ⟨gb505,2,none⟩ = some (.slice Ao36 t498.length co36):=(blk_cell BK505.out 2).trans rfl;have hcz42_3 : w38.cell? ⟨gb505,3,none⟩ = some (.int .i64 t501):=(blk_cell BK505.out 3).trans rfl;have hcz42_4 : w38.cell? ⟨gb505,4,none⟩ = some (.int .i64 t502):=(blk_cell BK505.out 4).trans rfl;have hcz42_5 : w38.cell? ⟨gb505,5,none⟩ = some (.int .i64 t503):=(blk_cell BK505.out 5).trans rfl;have hfz42_0:=blk_frozen BK505.out 0;have hfz42_1:=blk_frozen BK505.out 1;have hfz42_2:=blk_frozen BK505.out 2;have hfz42_3:=blk_frozen BK505.out 3;have hfz42_4:=blk_frozen BK505.out 4;have hfz42_5:=blk_frozen BK505.out 5) | (go_at_call 37;(with_reducible refine (humusref04_Same.calls k t496 t497 _ _ t498 t501 t502 t503 t506 t507 _ _ t508 t511 t512 t513 false _ ?side1 ?side2 ?side3 ?side4 A10.out).mono ?_);(case side1 => refine (Kd.R_reads' (e:=25) (base:=w.heap.size) (ok:=fun k_ => (True ∧ some k_ ≠ (.slice Ao41 t508.length co41 : Value).ownBlock)) (n:=t498.length) (c:=co36) ?_).2.2;exact (by (with_reducible repeat (first | apply Kd.R_alloc | apply Kd.R_drewN | apply Kd.R_drew));exact (Kd.R_mono (Kd.R_far (p:=⟨gb515,5,none⟩) (Kd.R_far (p:=⟨gb515,4,none⟩) (Kd.R_far (p:=⟨gb515,3,none⟩) (Kd.R_far (p:=⟨gb515,2,none⟩) (Kd.R_far (p:=⟨gb515,1,none⟩) (Kd.R_far (p:=⟨gb515,0,none⟩) (Kd.R_types HO500.out BK515.out (by decide)) (fun _ hk => hk.2) (.float .f64 t506)) (fun _ hk => hk.2) (.bool t507)) (fun _ hk => hk.2) (.slice Ao41 t508.length co41)) (fun _ hk => hk.2) (.int .i64 t511)) (fun _ hk => hk.2) (.int .i64 t512)) (fun _ hk => hk.2) (.int .i64 t513)) (fun _ h_ => h_.1))));(case side2 => exact (Kd.R_reads' HO500.out).2.1);(case side3 => refine (Kd.R_reads' (e:=25) (base:=w.heap.size) (ok:=fun k_ => (True ∧ some k_ ≠ (.slice Ao36 t498.length co36 : Value).ownBlock)) (n:=t508.length) (c:=co41) ?_).2.2;exact (by (with_reducible repeat (first | apply Kd.R_alloc | apply Kd.R_drewN | apply Kd.R_drew));exact (Kd.R_mono (Kd.R_far (p:=⟨gb515,5,none⟩) (Kd.R_far (p:=⟨gb515,4,none⟩) (Kd.R_far (p:=⟨gb515,3,none⟩) (Kd.R_far (p:=⟨gb515,2,none⟩) (Kd.R_far (p:=⟨gb515,1,none⟩) (Kd.R_far (p:=⟨gb515,0,none⟩) (Kd.R_types HO510.out BK515.out (by decide)) (fun _ hk => hk.2) (.float .f64 t506)) (fun _ hk => hk.2) (.bool t507)) (fun _ hk => hk.2) (.slice Ao41 t508.length co41)) (fun _ hk => hk.2) (.int .i64 t511)) (fun _ hk => hk.2) (.int .i64 t512)) (fun _ hk => hk.2) (.int .i64 t513)) (fun _ h_ => h_.1))));(case side4 => exact (Kd.R_reads' HO510.out).2.1);rintro e w43 ⟨rfl,hb⟩;have n0_:=Aside0.mk (Kd.R_below (by (with_reducible repeat (first | apply Kd.R_alloc | apply Kd.R_drewN | apply Kd.R_drew));exact (Kd.R_mono (Kd.R_far (p:=⟨gb515,5,none⟩) (Kd.R_far (p:=⟨gb515,4,none⟩) (Kd.R_far (p:=⟨gb515,3,none⟩) (Kd.R_far (p:=⟨gb515,2,none⟩) (Kd.R_far (p:=⟨gb515,1,none⟩) (Kd.R_far (p:=⟨gb515,0,none⟩) (Kd.R_types HO495.out BK515.out (by decide)) (fun _ hk => hk.2) (.float .f64 t506)) (fun _ hk => hk.2) (.bool t507)) (fun _ hk => hk.2) (.slice Ao41 t508.length co41)) (fun _ hk => hk.2) (.int .i64 t511)) (fun _ hk => hk.2) (.int .i64 t512)) (fun _ hk => hk.2) (.int .i64 t513)) (fun _ h_ => h_.1))) hb);have n1_:=Aside0.mk (Kd.R_below (by (with_reducible repeat (first | apply Kd.R_alloc | apply Kd.R_drewN | apply Kd.R_drew));exact (Kd.R_mono (Kd.R_far (p:=⟨gb515,5,none⟩) (Kd.R_far (p:=⟨gb515,4,none⟩) (Kd.R_far (p:=⟨gb515,3,none⟩) (Kd.R_far (p:=⟨gb515,2,none⟩) (Kd.R_far (p:=⟨gb515,1,none⟩) (Kd.R_far (p:=⟨gb515,0,none⟩) (Kd.R_types HO500.out BK515.out (by decide)) (fun _ hk => hk.2) (.float .f64 t506)) (fun _ hk => hk.2) (.bool t507)) (fun _ hk => hk.2) (.slice Ao41 t508.length co41)) (fun _ hk => hk.2) (.int .i64 t511)) (fun _ hk => hk.2) (.int .i64 t512)) (fun _ hk => hk.2) (.int .i64 t513)) (fun _ h_ => h_.1))) hb);have n2_:=Aside0.mk (Kd.R_below (by (with_reducible repeat (first | apply Kd.R_alloc | apply Kd.R_drewN | apply Kd.R_drew));exact (Kd.R_mono (Kd.R_far (p:=⟨gb515,5,none⟩) (Kd.R_far (p:=⟨gb515,4,none⟩) (Kd.R_far (p:=⟨gb515,3,none⟩) (Kd.R_far (p:=⟨gb515,2,none⟩) (Kd.R_far (p:=⟨gb515,1,none⟩) (Kd.R_far (p:=⟨gb515,0,none⟩) (Kd.R_types HO510.out BK515.out (by decide)) (fun _ hk => hk.2) (.float .f64 t506)) (fun _ hk => hk.2) (.bool t507)) (fun _ hk => hk.2) (.slice Ao41 t508.length co41)) (fun _ hk => hk.2) (.int .i64 t511)) (fun _ hk => hk.2) (.int .i64 t512)) (fun _ hk => hk.2) (.int .i64 t513)) (fun _ h_ => h_.1))) hb);have n3_:=Aside0.mk (blk_below (g:=gb505) (o:=.cells #[.float .f64 t496,.bool t497,.slice Ao36 t498.length co36,.int .i64 t501,.int .i64 t502,.int .i64 t503] 30 (0,0)) (by (with_reducible repeat (first | refine blk_drewN ?_ _ | refine blk_drew ?_ | refine blk_alloc ?_ _));refine blk_far ?_ NB505_515.out _;(with_reducible repeat (first | refine blk_drewN ?_ _ | refine blk_drew ?_ | refine blk_alloc ?_ _));refine blk_far ?_ NB505_515.out _;(with_reducible repeat (first | refine blk_drewN ?_ _ | refine blk_drew ?_ | refine blk_alloc ?_ _));refine blk_far ?_ NB505_515.out _;(with_reducible repeat (first | refine blk_drewN ?_ _ | refine blk_drew ?_ | refine blk_alloc ?_ _));refine blk_far ?_ NB505_515.out _;(with_reducible repeat (first | refine blk_drewN ?_ _ | refine blk_drew ?_ | refine blk_alloc ?_ _));refine blk_far ?_ NB505_515.out _;(with_reducible repeat (first | refine blk_drewN ?_ _ | refine blk_drew ?_ | refine blk_alloc ?_ _));refine blk_far ?_ NB505_515.out _;(with_reducible repeat (first | refine blk_drewN ?_ _ | refine blk_drew ?_ | refine blk_alloc ?_ _));exact BK505.out) hb);have n4_:=Aside0.mk (blk_below (g:=gb515) (o:=.cells #[.float .f64 t506,.bool t507,.slice Ao41 t508.length co41,.int .i64 t511,.int .i64 t512,.int .i64 t513] 30 (0,0)) (by (with_reducible repeat (first | refine blk_drewN ?_ _ | refine blk_drew ?_ | refine blk_alloc ?_ _));refine blk_put (cs:=#[.float .f64 t506,.bool t507,.slice Ao41 t508.length co41,.int .i64 t511,.int .i64 t512,.int .i64 0]) ?_ 5 _ rfl;(with_reducible repeat (first | refine blk_drewN ?_ _ | refine blk_drew ?_ | refine blk_alloc ?_ _));refine blk_put (cs:=#[.float .f64 t506,.bool t507,.slice Ao41 t508.length co41,.int .i64 t511,.int .i64 0,.int .i64 0]) ?_ 4 _ rfl;(with_reducible repeat (first | refine blk_drewN ?_ _ | refine blk_drew ?_ | refine blk_alloc ?_ _));refine blk_put (cs:=#[.float .f64 t506,.bool t507,.slice Ao41 t508.length co41,.int .i64 0,.int .i64 0,.int .i64 0]) ?_ 3 _ rfl;(with_reducible repeat (first | refine blk_drewN ?_ _ | refine blk_drew ?_ | refine blk_alloc ?_ _));refine blk_put (cs:=#[.float .f64 t506,.bool t507,.slice none 0 0,.int .i64 0,.int .i64 0,.int .i64 0]) ?_ 2 _ rfl;(with_reducible repeat (first | refine blk_drewN ?_ _ | refine blk_drew ?_ | refine blk_alloc ?_ _));refine blk_put (cs:=#[.float .f64 t506,.bool false,.slice none 0 0,.int .i64 0,.int .i64 0,.int .i64 0]) ?_ 1 _ rfl;(with_reducible repeat (first | refine blk_drewN ?_ _ | refine blk_drew ?_ | refine blk_alloc ?_ _));refine blk_put (cs:=#[.float .f64 0,.bool false,.slice none 0 0,.int .i64 0,.int .i64 0,.int .i64 0]) ?_ 0 _ rfl;(with_reducible repeat (first | refine blk_drewN ?_ _ | refine blk_drew ?_ | refine blk_alloc ?_ _));exact BK515.out) hb);have n5_:=Aside0.mk (below_step (by repeat (first | (with_reducible first | exact HB.out | apply below_alloc | apply pw_below_drewN | apply below_drew1 | refine below_set ?_ GE505.out | refine below_set ?_ GE515.out) | exact HB.out)) hb);clear HO495;clear HO500;clear HO510;clear BK505;clear BK515;clear HB;have HO495:=n0_;have HO500:=n1_;have HO510:=n2_;have BK505:=n3_;have BK515:=n4_;have HB:=n5_;clear n0_ n1_ n2_ n3_ n4_ n5_;(try clear hb);(try clear hb2);(try clear hk);(try clear hi)))
            go_ret
            exact ⟨by first | rfl | (simp [errW_none,errW_some] <;> rfl) | (simp [*,errW_none,errW_some] <;> rfl),by repeat (first | (with_reducible first | exact HB.out | apply below_alloc | apply pw_below_drewN | apply below_drew1 | refine below_set ?_ GE505.out | refine below_set ?_ GE515.out) | exact HB.out)⟩
        · rw [if_neg c9] at H
          have c9b0 : (t504 == 0) = false:=beq_eq_false_iff_ne.mpr c9
          have c9b1 : (t504 != 0) = true:=bne_iff_ne.mpr c9
          obtain rfl:=Option.some.inj H
          go_enter Try.func7,Try.ntmps7
          go_wp2_with (first | ((with_reducible refine gate_dst (N:=12) rfl ?_);refine Kd.R_lit (Kd.int .u8) _ 5 ?hg (N:=12) ?hd (xs:=([] : List Int)) (inner:=[]) (ok:=fun _ => True) (okp:=fun _ => True) ?hr ?hp (fun _ hk => hk) trivial (Below.refl _ _) (Nat.le_refl _) (by simp) ?_;(case hd => rfl);(case hg => rfl);(case hr => first | (go_simp;done) | (go_simp;rfl));(case hp => exact (Reps.none _ _));intro v491 w44 ho45 hb hg_ hnew_;clear hg_ hnew_;(first | rw [← Ny490.out] at ho45 | (simp only [Int.reduceToNat] at ho45;rw [← Ny490.out] at ho45));have n0_:=Aside0.mk (Kd.R_lower ho45 (below_size (by repeat (first | (with_reducible first | exact HB.out | apply below_alloc | apply pw_below_drewN | apply below_drew1) | exact HB.out))));have n1_:=Aside0.mk (below_step (by repeat (first | (with_reducible first | exact HB.out | apply below_alloc | apply pw_below_drewN | apply below_drew1) | exact HB.out)) hb);clear HB;have HO492:=n0_;have HB:=n1_;clear n0_ n1_;clear hb ho45) | ((with_reducible refine gate_builtin (b:=.append) (xs:=#[.tmp 12,.tmp 13]) rfl ?_);at_builtin;refine Kd.R_append_rows (Kd.int .u8) (w0:=w) w.heap.size rfl (.tmp 12) (.tmp 13) 23 5 (.int .u8 0) 1 rfl Try.underlying23 info5 rfl (by decide) (by omega) v491 y490 l0 _ _ _ (fun _ => True) (fun _ => False) rfl rfl ?aO ?aR (fun _ _ h => h) (fun _ h => h.elim) ?aF ?aB ?aS ?aL ?_;(case aR => repeat (first | exact (Kd.C_below HR0.out HB.out) | (with_reducible refine Kd.C_alloc ?_ _) | (with_reducible refine Kd.C_drewN ?_ _) | (with_reducible refine Kd.C_drew ?_)));(case aB => exact (by repeat (first | (with_reducible first | exact HB.out | apply below_alloc | apply pw_below_drewN | apply below_drew1) | exact HB.out)));(case aF => exact (fun _ _ => trivial));(case aO => exact (by (with_reducible repeat (first | apply Kd.R_alloc | apply Kd.R_drewN | apply Kd.R_drew));exact HO492.out));(case aS => exact (below_size (by repeat (first | (with_reducible first | exact HB.out | apply below_alloc | apply pw_below_drewN | apply below_drew1) | exact HB.out))));(case aL => have:=LMc5.out;omega);intro v494 w46 ho hb hg hat;rw [← Ny493.out] at ho;have n0_:=Aside0.mk (hb);have n1_:=Aside0.mk (ho);clear HB;clear HO492;have HB:=n0_;have HO495:=n1_;clear n0_ n1_;clear ho hb hg hat;obtain ⟨Ao47,co47,eo47⟩:=Kd.R_slice HO495.out;subst eo47) | ((with_reducible refine gate_callee (f:=35) rfl ?_);refine goesL_ (some 15) rfl rfl Try.func35 (by kernel_rfl) rfl #[.slice Ao47 y493.length co47] rfl (by (try simp only [List.map_toArray,List.map_cons,List.map_nil]);first | done | rfl | (simp only [List.length_drop,List.length_take];rfl)) ?_;(with_reducible refine (row_Decode.calls k _ _ y493 t496 t497 t498 t501 t502 t503 t504 _ ?side1 ?side2 A6.out).mono ?_);(case side1 => repeat (first | exact (Kd.R_reads' HO495.out).2.2 | (with_reducible refine Kd.C_alloc ?_ _) | (with_reducible refine Kd.C_drewN ?_ _) | (with_reducible refine Kd.C_drew ?_)));(case side2 => exact (Kd.R_reads' HO495.out).2.1);rintro e w48 ⟨v499,rfl,ho0,hb⟩;refine ⟨_,rfl,?_⟩;have n0_:=Aside0.mk (Kd.R_below (by (with_reducible repeat (first | apply Kd.R_alloc | apply Kd.R_drewN | apply Kd.R_drew));exact HO495.out) hb);have n1_:=Aside0.mk (Kd.R_lower ho0 (below_size (by repeat (first | (with_reducible first | exact HB.out | apply below_alloc | apply pw_below_drewN | apply below_drew1) | exact HB.out))));have n2_:=Aside0.mk (below_step (by repeat (first | (with_reducible first | exact HB.out | apply below_alloc | apply pw_below_drewN | apply below_drew1) | exact HB.out)) hb);clear HO495;clear HB;have HO495:=n0_;have HO500:=n1_;have HB:=n2_;clear n0_ n1_ n2_;(try clear hb);(try clear hb2);(try clear hk);(try clear hi);(try clear ho0)) | ((with_reducible refine gate_dst (N:=3) rfl ?_);refine box_event ?hg (N:=3) ?hd (cs:=#[.float .f64 0,.bool false,.slice none 0 0,.int .i64 0,.int .i64 0,.int .i64 0]) (t:=30) ?hr ?_;(case hd => rfl);(case hg => rfl);(case hr => first | (go_simp;done) | (go_simp;rfl));intro gb505 hg w49 hbox hb;have n0_:=Aside0.mk (Kd.R_below (by (with_reducible repeat (first | apply Kd.R_alloc | apply Kd.R_drewN | apply Kd.R_drew));exact HO495.out) hb);have n1_:=Aside0.mk (Kd.R_below (by (with_reducible repeat (first | apply Kd.R_alloc | apply Kd.R_drewN | apply Kd.R_drew));exact HO500.out) hb);have n2_:=Aside0.mk (below_step (by repeat (first | (with_reducible first | exact HB.out | apply below_alloc | apply pw_below_drewN | apply below_drew1) | exact HB.out)) hb);have n3_:=Aside0.mk (hbox);have n4_:=Aside0.mk ((by rw [hg];exact (below_size (by repeat (first | (with_reducible first | exact HB.out | apply below_alloc | apply pw_below_drewN | apply below_drew1) | exact HB.out))) : w.heap.size ≤ gb505));have n5_:=Aside0.mk ((by rw [hg];exact (below_size (by repeat (first | (with_reducible first | exact HB.out | apply below_alloc | apply pw_below_drewN | apply below_drew1) | exact HB.out))) : w.heap.size ≤ gb505));clear HO495;clear HO500;clear HB;have HO495:=n0_;have HO500:=n1_;have HB:=n2_;have BK505:=n3_;have GW505:=n4_;have GE505:=n5_;clear n0_ n1_ n2_ n3_ n4_ n5_;clear hb hbox hg;have hcz50_0 : w49.cell? ⟨gb505,0,none⟩ = some (.float .f64 0):=(blk_cell BK505.out 0).trans rfl;have hcz50_1 : w49.cell? ⟨gb505,1,none⟩ = some (.bool false):=(blk_cell BK505.out 1).trans rfl;have hcz50_2 : w49.cell? ⟨gb505,2,none⟩ = some (.slice none 0 0):=(blk_cell BK505.out 2).trans rfl;have hcz50_3 : w49.cell? ⟨gb505,3,none⟩ = some (.int .i64 0):=(blk_cell BK505.out 3).trans rfl;have hcz50_4 : w49.cell? ⟨gb505,4,none⟩ = some (.int .i64 0):=(blk_cell BK505.out 4).trans rfl;have hcz50_5 : w49.cell? ⟨gb505,5,none⟩ = some (.int .i64 0):=(blk_cell BK505.out 5).trans rfl;have hfz50_0:=blk_frozen BK505.out 0;have hfz50_1:=blk_frozen BK505.out 1;have hfz50_2:=blk_frozen BK505.out 2;have hfz50_3:=blk_frozen BK505.out 3;have hfz50_4:=blk_frozen BK505.out 4;have hfz50_5:=blk_frozen BK505.out 5;obtain ⟨Ao51,co51,eo51⟩:=Kd.R_slice HO500.out;subst eo51) | ((with_reducible refine gate_callee (f:=38) rfl ?_);refine goesL_ (some 20) rfl rfl Try.func38 (by kernel_rfl) rfl #[.slice A0 l0.length c0] rfl (by (try simp only [List.map_toArray,List.map_cons,List.map_nil]);first | done | rfl | (simp only [List.length_drop,List.length_take];rfl)) ?_;(with_reducible refine (humusref04_Decode.calls k _ _ l0 t506 t507 t508 t511 t512 t513 true _ ?side1 ?side2 A7.out).mono ?_);(case side1 => exact Kd.C_below HR0.out (by repeat (first | (with_reducible first | exact HB.out | apply below_alloc | apply pw_below_drewN | apply below_drew1 | refine below_set ?_ GE505.out) | exact HB.out)));(case side2 => exact HC0.out);rintro e w52 ⟨v509,rfl,ho0,hb⟩;refine ⟨_,rfl,?_⟩;have n0_:=Aside0.mk (Kd.R_below (by (with_reducible repeat (first | apply Kd.R_alloc | apply Kd.R_drewN | apply Kd.R_drew));exact (Kd.R_mono (Kd.R_far (p:=⟨gb505,5,none⟩) (Kd.R_far (p:=⟨gb505,4,none⟩) (Kd.R_far (p:=⟨gb505,3,none⟩) (Kd.R_far (p:=⟨gb505,2,none⟩) (Kd.R_far (p:=⟨gb505,1,none⟩) (Kd.R_far (p:=⟨gb505,0,none⟩) (Kd.R_types HO495.out BK505.out (by decide)) (fun _ hk => hk.2) (.float .f64 t496)) (fun _ hk => hk.2) (.bool t497)) (fun _ hk => hk.2) (.slice Ao51 t498.length co51)) (fun _ hk => hk.2) (.int .i64 t501)) (fun _ hk => hk.2) (.int .i64 t502)) (fun _ hk => hk.2) (.int .i64 t503)) (fun _ h_ => h_.1))) hb);have n1_:=Aside0.mk (Kd.R_elder' (by (with_reducible repeat (first | apply Kd.R_alloc | apply Kd.R_drewN | apply Kd.R_drew));exact (Kd.R_mono (Kd.R_far (p:=⟨gb505,5,none⟩) (Kd.R_far (p:=⟨gb505,4,none⟩) (Kd.R_far (p:=⟨gb505,3,none⟩) (Kd.R_far (p:=⟨gb505,2,none⟩) (Kd.R_far (p:=⟨gb505,1,none⟩) (Kd.R_far (p:=⟨gb505,0,none⟩) (Kd.R_types HO500.out BK505.out (by decide)) (fun _ hk => hk.2) (.float .f64 t496)) (fun _ hk => hk.2) (.bool t497)) (fun _ hk => hk.2) (.slice Ao51 t498.length co51)) (fun _ hk => hk.2) (.int .i64 t501)) (fun _ hk => hk.2) (.int .i64 t502)) (fun _ hk => hk.2) (.int .i64 t503)) (fun _ h_ => h_.1))) (Kd.R_base ho0) hb);have n2_:=Aside0.mk (Kd.R_lower (Kd.R_new' ho0 (Kd.R_lt (by (with_reducible repeat (first | apply Kd.R_alloc | apply Kd.R_drewN | apply Kd.R_drew));exact (Kd.R_mono (Kd.R_far (p:=⟨gb505,5,none⟩) (Kd.R_far (p:=⟨gb505,4,none⟩) (Kd.R_far (p:=⟨gb505,3,none⟩) (Kd.R_far (p:=⟨gb505,2,none⟩) (Kd.R_far (p:=⟨gb505,1,none⟩) (Kd.R_far (p:=⟨gb505,0,none⟩) (Kd.R_types HO500.out BK505.out (by decide)) (fun _ hk => hk.2) (.float .f64 t496)) (fun _ hk => hk.2) (.bool t497)) (fun _ hk => hk.2) (.slice Ao51 t498.length co51)) (fun _ hk => hk.2) (.int .i64 t501)) (fun _ hk => hk.2) (.int .i64 t502)) (fun _ hk => hk.2) (.int .i64 t503)) (fun _ h_ => h_.1))))) (below_size (by repeat (first | (with_reducible first | exact HB.out | apply below_alloc | apply pw_below_drewN | apply below_drew1 | refine below_set ?_ GE505.out) | exact HB.out))));have n3_:=Aside0.mk (blk_below (g:=gb505) (o:=.cells #[.float .f64 t496,.bool t497,.slice Ao51 t498.length co51,.int .i64 t501,.int .i64 t502,.int .i64 t503] 30 (0,0)) (by (with_reducible repeat (first | refine blk_drewN ?_ _ | refine blk_drew ?_ | refine blk_alloc ?_ _));refine blk_put (cs:=#[.float .f64 t496,.bool t497,.slice Ao51 t498.length co51,.int .i64 t501,.int .i64 t502,.int .i64 0]) ?_ 5 _ rfl;(with_reducible repeat (first | refine blk_drewN ?_ _ | refine blk_drew ?_ | refine blk_alloc ?_ _));refine blk_put (cs:=#[.float .f64 t496,.bool t497,.slice Ao51 t498.length co51,.int .i64 t501,.int .i64 0,.int .i64 0]) ?_ 4 _ rfl;(with_reducible repeat (first | refine blk_drewN ?_ _ | refine blk_drew ?_ | refine blk_alloc ?_ _));refine blk_put (cs:=#[.float .f64 t496,.bool t497,.slice Ao51 t498.length co51,.int .i64 0,.int .i64 0,.int .i64 0]) ?_ 3 _ rfl;(with_reducible repeat (first | refine blk_drewN ?_ _ | refine blk_drew ?_ | refine blk_alloc ?_ _));refine blk_put (cs:=#[.float .f64 t496,.bool t497,.slice none 0 0,.int .i64 0,.int .i64 0,.int .i64 0]) ?_ 2 _ rfl;(with_reducible repeat (first | refine blk_drewN ?_ _ | refine blk_drew ?_ | refine blk_alloc ?_ _));refine blk_put (cs:=#[.float .f64 t496,.bool false,.slice none 0 0,.int .i64 0,.int .i64 0,.int .i64 0]) ?_ 1 _ rfl;(with_reducible repeat (first | refine blk_drewN ?_ _ | refine blk_drew ?_ | refine blk_alloc ?_ _));refine blk_put (cs:=#[.float .f64 0,.bool false,.slice none 0 0,.int .i64 0,.int .i64 0,.int .i64 0]) ?_ 0 _ rfl;(with_reducible repeat (first | refine blk_drewN ?_ _ | refine blk_drew ?_ | refine blk_alloc ?_ _));exact BK505.out) hb);have n4_:=Aside0.mk (below_step (by repeat (first | (with_reducible first | exact HB.out | apply below_alloc | apply pw_below_drewN | apply below_drew1 | refine below_set ?_ GE505.out) | exact HB.out)) hb);clear HO495;clear HO500;clear BK505;clear HB;have HO495:=n0_;have HO500:=n1_;have HO510:=n2_;have BK505:=n3_;have HB:=n4_;clear n0_ n1_ n2_ n3_ n4_;(try clear hb);(try clear hb2);(try clear hk);(try clear hi);(try clear ho0)) | ((with_reducible refine gate_dst (N:=5) rfl ?_);refine box_event ?hg (N:=5) ?hd (cs:=#[.float .f64 0,.bool false,.slice none 0 0,.int .i64 0,.int .i64 0,.int .i64 0]) (t:=30) ?hr ?_;(case hd => rfl);(case hg => rfl);(case hr => first | (go_simp;done) | (go_simp;rfl));intro gb515 hg w53 hbox hb;have n0_:=Aside0.mk (Kd.R_below (by (with_reducible repeat (first | apply Kd.R_alloc | apply Kd.R_drewN | apply Kd.R_drew));exact HO495.out) hb);have n1_:=Aside0.mk (Kd.R_below (by (with_reducible repeat (first | apply Kd.R_alloc | apply Kd.R_drewN | apply Kd.R_drew));exact HO500.out) hb);have n2_:=Aside0.mk (Kd.R_below (by (with_reducible repeat (first | apply Kd.R_alloc | apply Kd.R_drewN | apply Kd.R_drew));exact HO510.out) hb);have n3_:=Aside0.mk (blk_below (g:=gb505) (o:=.cells #[.float .f64 t496,.bool t497,.slice Ao51 t498.length co51,.int .i64 t501,.int .i64 t502,.int .i64 t503] 30 (0,0)) (by (with_reducible repeat (first | refine blk_drewN ?_ _ | refine blk_drew ?_ | refine blk_alloc ?_ _));exact BK505.out) hb);have n4_:=Aside0.mk (below_step (by repeat (first | (with_reducible first | exact HB.out | apply below_alloc | apply pw_below_drewN | apply below_drew1 | refine below_set ?_ GE505.out) | exact HB.out)) hb);have n5_:=Aside0.mk (hbox);have n6_:=Aside0.mk ((by rw [hg];exact (below_size (by repeat (first | (with_reducible first | exact HB.out | apply below_alloc | apply pw_below_drewN | apply below_drew1 | refine below_set ?_ GE505.out) | exact HB.out))) : w.heap.size ≤ gb515));have n7_:=Aside0.mk ((by rw [hg];exact (below_size (by repeat (first | (with_reducible first | exact HB.out | apply below_alloc | apply pw_below_drewN | apply below_drew1 | refine below_set ?_ GE505.out) | exact HB.out))) : w.heap.size ≤ gb515));have n8_:=Aside0.mk ((by rw [hg];exact Nat.ne_of_lt (blk_lt (g:=gb505) (o:=.cells #[.float .f64 t496,.bool t497,.slice Ao51 t498.length co51,.int .i64 t501,.int .i64 t502,.int .i64 t503] 30 (0,0)) (by (with_reducible repeat (first | refine blk_drewN ?_ _ | refine blk_drew ?_ | refine blk_alloc ?_ _));exact BK505.out)) : gb505 ≠ gb515));have n9_:=Aside0.mk ((by rw [hg];exact Nat.ne_of_gt (blk_lt (g:=gb505) (o:=.cells #[.float .f64 t496,.bool t497,.slice Ao51 t498.length co51,.int .i64 t501,.int .i64 t502,.int .i64 t503] 30 (0,0)) (by (with_reducible repeat (first | refine blk_drewN ?_ _ | refine blk_drew ?_ | refine blk_alloc ?_ _));exact BK505.out)) : gb515 ≠ gb505));clear HO495;clear HO500;clear HO510;clear BK505;clear HB;have HO495:=n0_;have HO500:=n1_;have HO510:=n2_;have BK505:=n3_;have HB:=n4_;have BK515:=n5_;have GW515:=n6_;have GE515:=n7_;have NB505_515:=n8_;have NB515_505:=n9_;clear n0_ n1_ n2_ n3_ n4_ n5_ n6_ n7_ n8_ n9_;clear hb hbox hg;have hnb54:=NB515_505.out;have hnc54:=NB505_515.out;have hcz55_0 : w53.cell? ⟨gb515,0,none⟩ = some (.float .f64 0):=(blk_cell BK515.out 0).trans rfl;have hcz55_1 : w53.cell? ⟨gb515,1,none⟩ = some (.bool false):=(blk_cell BK515.out 1).trans rfl;have hcz55_2 : w53.cell? ⟨gb515,2,none⟩ = some (.slice none 0 0):=(blk_cell BK515.out 2).trans rfl;have hcz55_3 : w53.cell? ⟨gb515,3,none⟩ = some (.int .i64 0):=(blk_cell BK515.out 3).trans rfl;have hcz55_4 : w53.cell? ⟨gb515,4,none⟩ = some (.int .i64 0):=(blk_cell BK515.out 4).trans rfl;have hcz55_5 : w53.cell? ⟨gb515,5,none⟩ = some (.int .i64 0):=(blk_cell BK515.out 5).trans rfl;have hfz55_0:=blk_frozen BK515.out 0;have hfz55_1:=blk_frozen BK515.out 1;have hfz55_2:=blk_frozen BK515.out 2;have hfz55_3:=blk_frozen BK515.out 3;have hfz55_4:=blk_frozen BK515.out 4;have hfz55_5:=blk_frozen BK515.out 5;obtain ⟨Ao56,co56,eo56⟩:=Kd.R_slice HO510.out;subst eo56))
          go_ret
          exact ⟨by first | rfl | (simp [errW_none,errW_some] <;> rfl) | (simp [*,errW_none,errW_some] <;> rfl),by repeat (first | (with_reducible first | exact HB.out | apply below_alloc | apply pw_below_drewN | apply below_drew1 | refine below_set ?_ GE505.out | refine below_set ?_ GE515.out) | exact HB.out)⟩
      · replace c8:=Bool.eq_false_iff.mpr c8
        subst c8
        have H1 : (if t504 = 4 then ((humusref04_Same.f k t496 t497 t498 t501 t502 t503 0 false ([] : List Nat) 0 0 0).bind fun t518 => (if t518 = true then ((humuslaw04_awake.f k).bind fun t519 => (some t519)) else (some false))) else (some false)) = some r:=by rw [if_neg (show ¬ (false = true) by decide)] at H;exact H
        clear H
        have H:=H1
        clear H1
        by_cases c57 : t504 = 4
        · rw [if_pos c57] at H
          have c57b0 : (t504 == 4) = true:=beq_iff_eq.mpr c57
          have c57b1 : (t504 != 4) = false:=bne_eq_false_iff_eq.mpr c57
          clear c57
          replace H:=Option.bind_eq_some_iff.mp H
          obtain ⟨t518,A580,H⟩:=H
          replace H : (if t518 = true then ((humuslaw04_awake.f k).bind fun t519 => (some t519)) else (some false)) = some r:=H
          have A58:=Aside0.mk A580
          clear A580
          by_cases c59 : t518 = true
          · subst c59
            have H1 : ((humuslaw04_awake.f k).bind fun t519 => (some t519)) = some r:=by rw [if_pos rfl] at H;exact H
            clear H
            have H:=H1
            clear H1
            replace H:=Option.bind_eq_some_iff.mp H
            obtain ⟨t519,A600,H⟩:=H
            replace H : (some t519) = some r:=H
            have A60:=Aside0.mk A600
            clear A600
            obtain rfl:=Option.some.inj H
            go_enter Try.func7,Try.ntmps7
            go_wp2_with (first | ((with_reducible refine gate_dst (N:=12) rfl ?_);refine Kd.R_lit (Kd.int .u8) _ 5 ?hg (N:=12) ?hd (xs:=([] : List Int)) (inner:=[]) (ok:=fun _ => True) (okp:=fun _ => True) ?hr ?hp (fun _ hk => hk) trivial (Below.refl _ _) (Nat.le_refl _) (by simp) ?_;(case hd => rfl);(case hg => rfl);(case hr => first | (go_simp;done) | (go_simp;rfl));(case hp => exact (Reps.none _ _));intro v491 w61 ho62 hb hg_ hnew_;clear hg_ hnew_;(first | rw [← Ny490.out] at ho62 | (simp only [Int.reduceToNat] at ho62;rw [← Ny490.out] at ho62));have n0_:=Aside0.mk (Kd.R_lower ho62 (below_size (by repeat (first | (with_reducible first | exact HB.out | apply below_alloc | apply pw_below_drewN | apply below_drew1) | exact HB.out))));have n1_:=Aside0.mk (below_step (by repeat (first | (with_reducible first | exact HB.out | apply below_alloc | apply pw_below_drewN | apply below_drew1) | exact HB.out)) hb);clear HB;have HO492:=n0_;have HB:=n1_;clear n0_ n1_;clear hb ho62) | ((with_reducible refine gate_builtin (b:=.append) (xs:=#[.tmp 12,.tmp 13]) rfl ?_);at_builtin;refine Kd.R_append_rows (Kd.int .u8) (w0:=w) w.heap.size rfl (.tmp 12) (.tmp 13) 23 5 (.int .u8 0) 1 rfl Try.underlying23 info5 rfl (by decide) (by omega) v491 y490 l0 _ _ _ (fun _ => True) (fun _ => False) rfl rfl ?aO ?aR (fun _ _ h => h) (fun _ h => h.elim) ?aF ?aB ?aS ?aL ?_;(case aR => repeat (first | exact (Kd.C_below HR0.out HB.out) | (with_reducible refine Kd.C_alloc ?_ _) | (with_reducible refine Kd.C_drewN ?_ _) | (with_reducible refine Kd.C_drew ?_)));(case aB => exact (by repeat (first | (with_reducible first | exact HB.out | apply below_alloc | apply pw_below_drewN | apply below_drew1) | exact HB.out)));(case aF => exact (fun _ _ => trivial));(case aO => exact (by (with_reducible repeat (first | apply Kd.R_alloc | apply Kd.R_drewN | apply Kd.R_drew));exact HO492.out));(case aS => exact (below_size (by repeat (first | (with_reducible first | exact HB.out | apply below_alloc | apply pw_below_drewN | apply below_drew1) | exact HB.out))));(case aL => have:=LMc5.out;omega);intro v494 w63 ho hb hg hat;rw [← Ny493.out] at ho;have n0_:=Aside0.mk (hb);have n1_:=Aside0.mk (ho);clear HB;clear HO492;have HB:=n0_;have HO495:=n1_;clear n0_ n1_;clear ho hb hg hat;obtain ⟨Ao64,co64,eo64⟩:=Kd.R_slice HO495.out;subst eo64) | ((with_reducible refine gate_callee (f:=35) rfl ?_);refine goesL_ (some 15) rfl rfl Try.func35 (by kernel_rfl) rfl #[.slice Ao64 y493.length co64] rfl (by (try simp only [List.map_toArray,List.map_cons,List.map_nil]);first | done | rfl | (simp only [List.length_drop,List.length_take];rfl)) ?_;(with_reducible refine (row_Decode.calls k _ _ y493 t496 t497 t498 t501 t502 t503 t504 _ ?side1 ?side2 A6.out).mono ?_);(case side1 => repeat (first | exact (Kd.R_reads' HO495.out).2.2 | (with_reducible refine Kd.C_alloc ?_ _) | (with_reducible refine Kd.C_drewN ?_ _) | (with_reducible refine Kd.C_drew ?_)));(case side2 => exact (Kd.R_reads' HO495.out).2.1);rintro e w65 ⟨v499,rfl,ho0,hb⟩;refine ⟨_,rfl,?_⟩;have n0_:=Aside0.mk (Kd.R_below (by (with_reducible repeat (first | apply Kd.R_alloc | apply Kd.R_drewN | apply Kd.R_drew));exact HO495.out) hb);have n1_:=Aside0.mk (Kd.R_lower ho0 (below_size (by repeat (first | (with_reducible first | exact HB.out | apply below_alloc | apply pw_below_drewN | apply below_drew1) | exact HB.out))));have n2_:=Aside0.mk (below_step (by repeat (first | (with_reducible first | exact HB.out | apply below_alloc | apply pw_below_drewN | apply below_drew1) | exact HB.out)) hb);clear HO495;clear HB;have HO495:=n0_;have HO500:=n1_;have HB:=n2_;clear n0_ n1_ n2_;(try clear hb);(try clear hb2);(try clear hk);(try clear hi);(try clear ho0)) | ((with_reducible refine gate_dst (N:=3) rfl ?_);refine box_event ?hg (N:=3) ?hd (cs:=#[.float .f64 0,.bool false,.slice none 0 0,.int .i64 0,.int .i64 0,.int .i64 0]) (t:=30) ?hr ?_;(case hd => rfl);(case hg => rfl);(case hr => first | (go_simp;done) | (go_simp;rfl));intro gb505 hg w66 hbox hb;have n0_:=Aside0.mk (Kd.R_below (by (with_reducible repeat (first | apply Kd.R_alloc | apply Kd.R_drewN | apply Kd.R_drew));exact HO495.out) hb);have n1_:=Aside0.mk (Kd.R_below (by (with_reducible repeat (first | apply Kd.R_alloc | apply Kd.R_drewN | apply Kd.R_drew));exact HO500.out) hb);have n2_:=Aside0.mk (below_step (by repeat (first | (with_reducible first | exact HB.out | apply below_alloc | apply pw_below_drewN | apply below_drew1) | exact HB.out)) hb);have n3_:=Aside0.mk (hbox);have n4_:=Aside0.mk ((by rw [hg];exact (below_size (by repeat (first | (with_reducible first | exact HB.out | apply below_alloc | apply pw_below_drewN | apply below_drew1) | exact HB.out))) : w.heap.size ≤ gb505));have n5_:=Aside0.mk ((by rw [hg];exact (below_size (by repeat (first | (with_reducible first | exact HB.out | apply below_alloc | apply pw_below_drewN | apply below_drew1) | exact HB.out))) : w.heap.size ≤ gb505));clear HO495;clear HO500;clear HB;have HO495:=n0_;have HO500:=n1_;have HB:=n2_;have BK505:=n3_;have GW505:=n4_;have GE505:=n5_;clear n0_ n1_ n2_ n3_ n4_ n5_;clear hb hbox hg;have hcz67_0 : w66.cell? ⟨gb505,0,none⟩ = some (.float .f64 0):=(blk_cell BK505.out 0).trans rfl;have hcz67_1 : w66.cell? ⟨gb505,1,none⟩ = some (.bool false):=(blk_cell BK505.out 1).trans rfl;have hcz67_2 : w66.cell? ⟨gb505,2,none⟩ = some (.slice none 0 0):=(blk_cell BK505.out 2).trans rfl;have hcz67_3 : w66.cell? ⟨gb505,3,none⟩ = some (.int .i64 0):=(blk_cell BK505.out 3).trans rfl;have hcz67_4 : w66.cell? ⟨gb505,4,none⟩ = some (.int .i64 0):=(blk_cell BK505.out 4).trans rfl;have hcz67_5 : w66.cell? ⟨gb505,5,none⟩ = some (.int .i64 0):=(blk_cell BK505.out 5).trans rfl;have hfz67_0:=blk_frozen BK505.out 0;have hfz67_1:=blk_frozen BK505.out 1;have hfz67_2:=blk_frozen BK505.out 2;have hfz67_3:=blk_frozen BK505.out 3;have hfz67_4:=blk_frozen BK505.out 4;have hfz67_5:=blk_frozen BK505.out 5;obtain ⟨Ao68,co68,eo68⟩:=Kd.R_slice HO500.out;subst eo68) | ((with_reducible refine gate_callee (f:=38) rfl ?_);refine goesL_ (some 20) rfl rfl Try.func38 (by kernel_rfl) rfl #[.slice A0 l0.length c0] rfl (by (try simp only [List.map_toArray,List.map_cons,List.map_nil]);first | done | rfl | (simp only [List.length_drop,List.length_take];rfl)) ?_;(with_reducible refine (humusref04_Decode.calls k _ _ l0 t506 t507 t508 t511 t512 t513 false _ ?side1 ?side2 A7.out).mono ?_);(case side1 => exact Kd.C_below HR0.out (by repeat (first | (with_reducible first | exact HB.out | apply below_alloc | apply pw_below_drewN | apply below_drew1 | refine below_set ?_ GE505.out) | exact HB.out)));(case side2 => exact HC0.out);rintro e w69 ⟨v509,rfl,ho0,hb⟩;refine ⟨_,rfl,?_⟩;have n0_:=Aside0.mk (Kd.R_below (by (with_reducible repeat (first | apply Kd.R_alloc | apply Kd.R_drewN | apply Kd.R_drew));exact (Kd.R_mono (Kd.R_far (p:=⟨gb505,5,none⟩) (Kd.R_far (p:=⟨gb505,4,none⟩) (Kd.R_far (p:=⟨gb505,3,none⟩) (Kd.R_far (p:=⟨gb505,2,none⟩) (Kd.R_far (p:=⟨gb505,1,none⟩) (Kd.R_far (p:=⟨gb505,0,none⟩) (Kd.R_types HO495.out BK505.out (by decide)) (fun _ hk => hk.2) (.float .f64 t496)) (fun _ hk => hk.2) (.bool t497)) (fun _ hk => hk.2) (.slice Ao68 t498.length co68)) (fun _ hk => hk.2) (.int .i64 t501)) (fun _ hk => hk.2) (.int .i64 t502)) (fun _ hk => hk.2) (.int .i64 t503)) (fun _ h_ => h_.1))) hb);have n1_:=Aside0.mk (Kd.R_elder' (by (with_reducible repeat (first | apply Kd.R_alloc | apply Kd.R_drewN | apply Kd.R_drew));exact (Kd.R_mono (Kd.R_far (p:=⟨gb505,5,none⟩) (Kd.R_far (p:=⟨gb505,4,none⟩) (Kd.R_far (p:=⟨gb505,3,none⟩) (Kd.R_far (p:=⟨gb505,2,none⟩) (Kd.R_far (p:=⟨gb505,1,none⟩) (Kd.R_far (p:=⟨gb505,0,none⟩) (Kd.R_types HO500.out BK505.out (by decide)) (fun _ hk => hk.2) (.float .f64 t496)) (fun _ hk => hk.2) (.bool t497)) (fun _ hk => hk.2) (.slice Ao68 t498.length co68)) (fun _ hk => hk.2) (.int .i64 t501)) (fun _ hk => hk.2) (.int .i64 t502)) (fun _ hk => hk.2) (.int .i64 t503)) (fun _ h_ => h_.1))) (Kd.R_base ho0) hb);have n2_:=Aside0.mk (Kd.R_lower (Kd.R_new' ho0 (Kd.R_lt (by (with_reducible repeat (first | apply Kd.R_alloc | apply Kd.R_drewN | apply Kd.R_drew));exact (Kd.R_mono (Kd.R_far (p:=⟨gb505,5,none⟩) (Kd.R_far (p:=⟨gb505,4,none⟩) (Kd.R_far (p:=⟨gb505,3,none⟩) (Kd.R_far (p:=⟨gb505,2,none⟩) (Kd.R_far (p:=⟨gb505,1,none⟩) (Kd.R_far (p:=⟨gb505,0,none⟩) (Kd.R_types HO500.out BK505.out (by decide)) (fun _ hk => hk.2) (.float .f64 t496)) (fun _ hk => hk.2) (.bool t497)) (fun _ hk => hk.2) (.slice Ao68 t498.length co68)) (fun _ hk => hk.2) (.int .i64 t501)) (fun _ hk => hk.2) (.int .i64 t502)) (fun _ hk => hk.2) (.int .i64 t503)) (fun _ h_ => h_.1))))) (below_size (by repeat (first | (with_reducible first | exact HB.out | apply below_alloc | apply pw_below_drewN | apply below_drew1 | refine below_set ?_ GE505.out) | exact HB.out))));have n3_:=Aside0.mk (blk_below (g:=gb505) (o:=.cells #[.float .f64 t496,.bool t497,.slice Ao68 t498.length co68,.int .i64 t501,.int .i64 t502,.int .i64 t503] 30 (0,0)) (by (with_reducible repeat (first | refine blk_drewN ?_ _ | refine blk_drew ?_ | refine blk_alloc ?_ _));refine blk_put (cs:=#[.float .f64 t496,.bool t497,.slice Ao68 t498.length co68,.int .i64 t501,.int .i64 t502,.int .i64 0]) ?_ 5 _ rfl;(with_reducible repeat (first | refine blk_drewN ?_ _ | refine blk_drew ?_ | refine blk_alloc ?_ _));refine blk_put (cs:=#[.float .f64 t496,.bool t497,.slice Ao68 t498.length co68,.int .i64 t501,.int .i64 0,.int .i64 0]) ?_ 4 _ rfl;(with_reducible repeat (first | refine blk_drewN ?_ _ | refine blk_drew ?_ | refine blk_alloc ?_ _));refine blk_put (cs:=#[.float .f64 t496,.bool t497,.slice Ao68 t498.length co68,.int .i64 0,.int .i64 0,.int .i64 0]) ?_ 3 _ rfl;(with_reducible repeat (first | refine blk_drewN ?_ _ | refine blk_drew ?_ | refine blk_alloc ?_ _));refine blk_put (cs:=#[.float .f64 t496,.bool t497,.slice none 0 0,.int .i64 0,.int .i64 0,.int .i64 0]) ?_ 2 _ rfl;(with_reducible repeat (first | refine blk_drewN ?_ _ | refine blk_drew ?_ | refine blk_alloc ?_ _));refine blk_put (cs:=#[.float .f64 t496,.bool false,.slice none 0 0,.int .i64 0,.int .i64 0,.int .i64 0]) ?_ 1 _ rfl;(with_reducible repeat (first | refine blk_drewN ?_ _ | refine blk_drew ?_ | refine blk_alloc ?_ _));refine blk_put (cs:=#[.float .f64 0,.bool false,.slice none 0 0,.int .i64 0,.int .i64 0,.int .i64 0]) ?_ 0 _ rfl;(with_reducible repeat (first | refine blk_drewN ?_ _ | refine blk_drew ?_ | refine blk_alloc ?_ _));exact BK505.out) hb);have n4_:=Aside0.mk (below_step (by repeat (first | (with_reducible first | exact HB.out | apply below_alloc | apply pw_below_drewN | apply below_drew1 | refine below_set ?_ GE505.out) | exact HB.out)) hb);clear HO495;clear HO500;clear BK505;clear HB;have HO495:=n0_;have HO500:=n1_;have HO510:=n2_;have BK505:=n3_;have HB:=n4_;clear n0_ n1_ n2_ n3_ n4_;(try clear hb);(try clear hb2);(try clear hk);(try clear hi);(try clear ho0)) | ((with_reducible refine gate_dst (N:=5) rfl ?_);refine box_event ?hg (N:=5) ?hd (cs:=#[.float .f64 0,.bool false,.slice none 0 0,.int .i64 0,.int .i64 0,.int .i64 0]) (t:=30) ?hr ?_;(case hd => rfl);(case hg => rfl);(case hr => first | (go_simp;done) | (go_simp;rfl));intro gb515 hg w70 hbox hb;have n0_:=Aside0.mk (Kd.R_below (by (with_reducible repeat (first | apply Kd.R_alloc | apply Kd.R_drewN | apply Kd.R_drew));exact HO495.out) hb);have n1_:=Aside0.mk (Kd.R_below (by (with_reducible repeat (first | apply Kd.R_alloc | apply Kd.R_drewN | apply Kd.R_drew));exact HO500.out) hb);have n2_:=Aside0.mk (Kd.R_below (by (with_reducible repeat (first | apply Kd.R_alloc | apply Kd.R_drewN | apply Kd.R_drew));exact HO510.out) hb);have n3_:=Aside0.mk (blk_below (g:=gb505) (o:=.cells #[.float .f64 t496,.bool t497,.slice Ao68 t498.length co68,.int .i64 t501,.int .i64 t502,.int .i64 t503] 30 (0,0)) (by (with_reducible repeat (first | refine blk_drewN ?_ _ | refine blk_drew ?_ | refine blk_alloc ?_ _));exact BK505.out) hb);have n4_:=Aside0.mk (below_step (by repeat (first | (with_reducible first | exact HB.out | apply below_alloc | apply pw_below_drewN | apply below_drew1 | refine below_set ?_ GE505.out) | exact HB.out)) hb);have n5_:=Aside0.mk (hbox);have n6_:=Aside0.mk ((by rw [hg];exact (below_size (by repeat (first | (with_reducible first | exact HB.out | apply below_alloc | apply pw_below_drewN | apply below_drew1 | refine below_set ?_ GE505.out) | exact HB.out))) : w.heap.size ≤ gb515));have n7_:=Aside0.mk ((by rw [hg];exact (below_size (by repeat (first | (with_reducible first | exact HB.out | apply below_alloc | apply pw_below_drewN | apply below_drew1 | refine below_set ?_ GE505.out) | exact HB.out))) : w.heap.size ≤ gb515));have n8_:=Aside0.mk ((by rw [hg];exact Nat.ne_of_lt (blk_lt (g:=gb505) (o:=.cells #[.float .f64 t496,.bool t497,.slice Ao68 t498.length co68,.int .i64 t501,.int .i64 t502,.int .i64 t503] 30 (0,0)) (by (with_reducible repeat (first | refine blk_drewN ?_ _ | refine blk_drew ?_ | refine blk_alloc ?_ _));exact BK505.out)) : gb505 ≠ gb515));have n9_:=Aside0.mk ((by rw [hg];exact Nat.ne_of_gt (blk_lt (g:=gb505) (o:=.cells #[.float .f64 t496,.bool t497,.slice Ao68 t498.length co68,.int .i64 t501,.int .i64 t502,.int .i64 t503] 30 (0,0)) (by (with_reducible repeat (first | refine blk_drewN ?_ _ | refine blk_drew ?_ | refine blk_alloc ?_ _));exact BK505.out)) : gb515 ≠ gb505));clear HO495;clear HO500;clear HO510;clear BK505;clear HB;have HO495:=n0_;have HO500:=n1_;have HO510:=n2_;have BK505:=n3_;have HB:=n4_;have BK515:=n5_;have GW515:=n6_;have GE515:=n7_;have NB505_515:=n8_;have NB515_505:=n9_;clear n0_ n1_ n2_ n3_ n4_ n5_ n6_ n7_ n8_ n9_;clear hb hbox hg;have hnb71:=NB515_505.out;have hnc71:=NB505_515.out;have hcz72_0 : w70.cell? ⟨gb515,0,none⟩ = some (.float .f64 0):=(blk_cell BK515.out 0).trans rfl;have hcz72_1 : w70.cell? ⟨gb515,1,none⟩ = some (.bool false):=(blk_cell BK515.out 1).trans rfl;have hcz72_2 : w70.cell? ⟨gb515,2,none⟩ = some (.slice none 0 0):=(blk_cell BK515.out 2).trans rfl;have hcz72_3 : w70.cell? ⟨gb515,3,none⟩ = some (.int .i64 0):=(blk_cell BK515.out 3).trans rfl;have hcz72_4 : w70.cell? ⟨gb515,4,none⟩ = some (.int .i64 0):=(blk_cell BK515.out 4).trans rfl;have hcz72_5 : w70.cell? ⟨gb515,5,none⟩ = some (.int .i64 0):=(blk_cell BK515.out 5).trans rfl;have hfz72_0:=blk_frozen BK515.out 0;have hfz72_1:=blk_frozen BK515.out 1;have hfz72_2:=blk_frozen BK515.out 2;have hfz72_3:=blk_frozen BK515.out 3;have hfz72_4:=blk_frozen BK515.out 4;have hfz72_5:=blk_frozen BK515.out 5;obtain ⟨Ao73,co73,eo73⟩:=Kd.R_slice HO510.out;subst eo73;have hcz74_0 : w70.cell? ⟨gb505,0,none⟩ = some (.float .f64 t496):=(blk_cell BK505.out 0).trans rfl;have hcz74_1 : w70.cell? ⟨gb505,1,none⟩ = some (.bool t497):=(blk_cell BK505.out 1).trans rfl;have hcz74_2 : w70.cell? ⟨gb505,2,none⟩ = some (.slice Ao68 t498.length co68):=(blk_cell BK505.out 2).trans rfl;have hcz74_3 : w70.cell? ⟨gb505,3,none⟩ = some (.int .i64 t501):=(blk_cell BK505.out 3).trans rfl;have hcz74_4 : w70.cell? ⟨gb505,4,none⟩ = some (.int .i64 t502):=(blk_cell BK505.out 4).trans rfl;have hcz74_5 : w70.cell? ⟨gb505,5,none⟩ = some (.int .i64 t503):=(blk_cell BK505.out 5).trans rfl;have hfz74_0:=blk_frozen BK505.out 0;have hfz74_1:=blk_frozen BK505.out 1;have hfz74_2:=blk_frozen BK505.out 2;have hfz74_3:=blk_frozen BK505.out 3;have hfz74_4:=blk_frozen BK505.out 4;have hfz74_5:=blk_frozen BK505.out 5) | (go_at_call 37;(refine (humusref04_Same.calls k t496 t497 _ _ t498 t501 t502 t503 0 false _ _ ([] : List Nat) 0 0 0 true _ ?side1 ?side2 ?side3 ?side4 A58.out).mono ?_);(case side1 => refine (Kd.R_reads' (e:=25) (base:=w.heap.size) (ok:=fun k_ => (True ∧ some k_ ≠ (.slice Ao73 t508.length co73 : Value).ownBlock)) (n:=t498.length) (c:=co68) ?_).2.2;exact (by (with_reducible repeat (first | apply Kd.R_alloc | apply Kd.R_drewN | apply Kd.R_drew));exact (Kd.R_mono (Kd.R_far (p:=⟨gb515,5,none⟩) (Kd.R_far (p:=⟨gb515,4,none⟩) (Kd.R_far (p:=⟨gb515,3,none⟩) (Kd.R_far (p:=⟨gb515,2,none⟩) (Kd.R_far (p:=⟨gb515,1,none⟩) (Kd.R_far (p:=⟨gb515,0,none⟩) (Kd.R_types HO500.out BK515.out (by decide)) (fun _ hk => hk.2) (.float .f64 t506)) (fun _ hk => hk.2) (.bool t507)) (fun _ hk => hk.2) (.slice Ao73 t508.length co73)) (fun _ hk => hk.2) (.int .i64 t511)) (fun _ hk => hk.2) (.int .i64 t512)) (fun _ hk => hk.2) (.int .i64 t513)) (fun _ h_ => h_.1))));(case side2 => exact (Kd.R_reads' HO500.out).2.1);(case side3 => exact Kd.C_nil _ _);(case side4 => exact Nat.le_refl _);rintro e w75 ⟨rfl,hb⟩;have n0_:=Aside0.mk (Kd.R_below (by (with_reducible repeat (first | apply Kd.R_alloc | apply Kd.R_drewN | apply Kd.R_drew));exact (Kd.R_mono (Kd.R_far (p:=⟨gb515,5,none⟩) (Kd.R_far (p:=⟨gb515,4,none⟩) (Kd.R_far (p:=⟨gb515,3,none⟩) (Kd.R_far (p:=⟨gb515,2,none⟩) (Kd.R_far (p:=⟨gb515,1,none⟩) (Kd.R_far (p:=⟨gb515,0,none⟩) (Kd.R_types HO495.out BK515.out (by decide)) (fun _ hk => hk.2) (.float .f64 t506)) (fun _ hk => hk.2) (.bool t507)) (fun _ hk => hk.2) (.slice Ao73 t508.length co73)) (fun _ hk => hk.2) (.int .i64 t511)) (fun _ hk => hk.2) (.int .i64 t512)) (fun _ hk => hk.2) (.int .i64 t513)) (fun _ h_ => h_.1))) hb);have n1_:=Aside0.mk (Kd.R_below (by (with_reducible repeat (first | apply Kd.R_alloc | apply Kd.R_drewN | apply Kd.R_drew));exact (Kd.R_mono (Kd.R_far (p:=⟨gb515,5,none⟩) (Kd.R_far (p:=⟨gb515,4,none⟩) (Kd.R_far (p:=⟨gb515,3,none⟩) (Kd.R_far (p:=⟨gb515,2,none⟩) (Kd.R_far (p:=⟨gb515,1,none⟩) (Kd.R_far (p:=⟨gb515,0,none⟩) (Kd.R_types HO500.out BK515.out (by decide)) (fun _ hk => hk.2) (.float .f64 t506)) (fun _ hk => hk.2) (.bool t507)) (fun _ hk => hk.2) (.slice Ao73 t508.length co73)) (fun _ hk => hk.2) (.int .i64 t511)) (fun _ hk => hk.2) (.int .i64 t512)) (fun _ hk => hk.2) (.int .i64 t513)) (fun _ h_ => h_.1))) hb);have n2_:=Aside0.mk (Kd.R_below (by (with_reducible repeat (first | apply Kd.R_alloc | apply Kd.R_drewN | apply Kd.R_drew));exact (Kd.R_mono (Kd.R_far (p:=⟨gb515,5,none⟩) (Kd.R_far (p:=⟨gb515,4,none⟩) (Kd.R_far (p:=⟨gb515,3,none⟩) (Kd.R_far (p:=⟨gb515,2,none⟩) (Kd.R_far (p:=⟨gb515,1,none⟩) (Kd.R_far (p:=⟨gb515,0,none⟩) (Kd.R_types HO510.out BK515.out (by decide)) (fun _ hk => hk.2) (.float .f64 t506)) (fun _ hk => hk.2) (.bool t507)) (fun _ hk => hk.2) (.slice Ao73 t508.length co73)) (fun _ hk => hk.2) (.int .i64 t511)) (fun _ hk => hk.2) (.int .i64 t512)) (fun _ hk => hk.2) (.int .i64 t513)) (fun _ h_ => h_.1))) hb);have n3_:=Aside0.mk (blk_below (g:=gb505) (o:=.cells #[.float .f64 t496,.bool t497,.slice Ao68 t498.length co68,.int .i64 t501,.int .i64 t502,.int .i64 t503] 30 (0,0)) (by (with_reducible repeat (first | refine blk_drewN ?_ _ | refine blk_drew ?_ | refine blk_alloc ?_ _));refine blk_far ?_ NB505_515.out _;(with_reducible repeat (first | refine blk_drewN ?_ _ | refine blk_drew ?_ | refine blk_alloc ?_ _));refine blk_far ?_ NB505_515.out _;(with_reducible repeat (first | refine blk_drewN ?_ _ | refine blk_drew ?_ | refine blk_alloc ?_ _));refine blk_far ?_ NB505_515.out _;(with_reducible repeat (first | refine blk_drewN ?_ _ | refine blk_drew ?_ | refine blk_alloc ?_ _));refine blk_far ?_ NB505_515.out _;(with_reducible repeat (first | refine blk_drewN ?_ _ | refine blk_drew ?_ | refine blk_alloc ?_ _));refine blk_far ?_ NB505_515.out _;(with_reducible repeat (first | refine blk_drewN ?_ _ | refine blk_drew ?_ | refine blk_alloc ?_ _));refine blk_far ?_ NB505_515.out _;(with_reducible repeat (first | refine blk_drewN ?_ _ | refine blk_drew ?_ | refine blk_alloc ?_ _));exact BK505.out) hb);have n4_:=Aside0.mk (blk_below (g:=gb515) (o:=.cells #[.float .f64 t506,.bool t507,.slice Ao73 t508.length co73,.int .i64 t511,.int .i64 t512,.int .i64 t513] 30 (0,0)) (by (with_reducible repeat (first | refine blk_drewN ?_ _ | refine blk_drew ?_ | refine blk_alloc ?_ _));refine blk_put (cs:=#[.float .f64 t506,.bool t507,.slice Ao73 t508.length co73,.int .i64 t511,.int .i64 t512,.int .i64 0]) ?_ 5 _ rfl;(with_reducible repeat (first | refine blk_drewN ?_ _ | refine blk_drew ?_ | refine blk_alloc ?_ _));refine blk_put (cs:=#[.float .f64 t506,.bool t507,.slice Ao73 t508.length co73,.int .i64 t511,.int .i64 0,.int .i64 0]) ?_ 4 _ rfl;(with_reducible repeat (first | refine blk_drewN ?_ _ | refine blk_drew ?_ | refine blk_alloc ?_ _));refine blk_put (cs:=#[.float .f64 t506,.bool t507,.slice Ao73 t508.length co73,.int .i64 0,.int .i64 0,.int .i64 0]) ?_ 3 _ rfl;(with_reducible repeat (first | refine blk_drewN ?_ _ | refine blk_drew ?_ | refine blk_alloc ?_ _));refine blk_put (cs:=#[.float .f64 t506,.bool t507,.slice none 0 0,.int .i64 0,.int .i64 0,.int .i64 0]) ?_ 2 _ rfl;(with_reducible repeat (first | refine blk_drewN ?_ _ | refine blk_drew ?_ | refine blk_alloc ?_ _));refine blk_put (cs:=#[.float .f64 t506,.bool false,.slice none 0 0,.int .i64 0,.int .i64 0,.int .i64 0]) ?_ 1 _ rfl;(with_reducible repeat (first | refine blk_drewN ?_ _ | refine blk_drew ?_ | refine blk_alloc ?_ _));refine blk_put (cs:=#[.float .f64 0,.bool false,.slice none 0 0,.int .i64 0,.int .i64 0,.int .i64 0]) ?_ 0 _ rfl;(with_reducible repeat (first | refine blk_drewN ?_ _ | refine blk_drew ?_ | refine blk_alloc ?_ _));exact BK515.out) hb);have n5_:=Aside0.mk (below_step (by repeat (first | (with_reducible first | exact HB.out | apply below_alloc | apply pw_below_drewN | apply below_drew1 | refine below_set ?_ GE505.out | refine below_set ?_ GE515.out) | exact HB.out)) hb);clear HO495;clear HO500;clear HO510;clear BK505;clear BK515;clear HB;have HO495:=n0_;have HO500:=n1_;have HO510:=n2_;have BK505:=n3_;have BK515:=n4_;have HB:=n5_;clear n0_ n1_ n2_ n3_ n4_ n5_;(try clear hb);(try clear hb2);(try clear hk);(try clear hi)) | (go_at_call 31;(with_reducible refine (humuslaw04_awake.calls k  t519 _ A60.out).mono ?_);rintro e w76 ⟨rfl,hb⟩;have n0_:=Aside0.mk (Kd.R_below (by (with_reducible repeat (first | apply Kd.R_alloc | apply Kd.R_drewN | apply Kd.R_drew));exact HO495.out) hb);have n1_:=Aside0.mk (Kd.R_below (by (with_reducible repeat (first | apply Kd.R_alloc | apply Kd.R_drewN | apply Kd.R_drew));exact HO500.out) hb);have n2_:=Aside0.mk (Kd.R_below (by (with_reducible repeat (first | apply Kd.R_alloc | apply Kd.R_drewN | apply Kd.R_drew));exact HO510.out) hb);have n3_:=Aside0.mk (blk_below (g:=gb505) (o:=.cells #[.float .f64 t496,.bool t497,.slice Ao68 t498.length co68,.int .i64 t501,.int .i64 t502,.int .i64 t503] 30 (0,0)) (by (with_reducible repeat (first | refine blk_drewN ?_ _ | refine blk_drew ?_ | refine blk_alloc ?_ _));exact BK505.out) hb);have n4_:=Aside0.mk (blk_below (g:=gb515) (o:=.cells #[.float .f64 t506,.bool t507,.slice Ao73 t508.length co73,.int .i64 t511,.int .i64 t512,.int .i64 t513] 30 (0,0)) (by (with_reducible repeat (first | refine blk_drewN ?_ _ | refine blk_drew ?_ | refine blk_alloc ?_ _));exact BK515.out) hb);have n5_:=Aside0.mk (below_step (by repeat (first | (with_reducible first | exact HB.out | apply below_alloc | apply pw_below_drewN | apply below_drew1 | refine below_set ?_ GE505.out | refine below_set ?_ GE515.out) | exact HB.out)) hb);clear HO495;clear HO500;clear HO510;clear BK505;clear BK515;clear HB;have HO495:=n0_;have HO500:=n1_;have HO510:=n2_;have BK505:=n3_;have BK515:=n4_;have HB:=n5_;clear n0_ n1_ n2_ n3_ n4_ n5_;(try clear hb);(try clear hb2);(try clear hk);(try clear hi)))
            go_ret
            exact ⟨by first | rfl | (simp [errW_none,errW_some] <;> rfl) | (simp [*,errW_none,errW_some] <;> rfl),by repeat (first | (with_reducible first | exact HB.out | apply below_alloc | apply pw_below_drewN | apply below_drew1 | refine below_set ?_ GE505.out | refine below_set ?_ GE515.out) | exact HB.out)⟩
          · replace c59:=Bool.eq_false_iff.mpr c59
            subst c59
            have H1 : (some false) = some r:=by rw [if_neg (show ¬ (false = true) by decide)] at H;exact H
            clear H
            have H:=H1
            clear H1
            obtain rfl:=Option.some.inj H
            go_enter Try.func7,Try.ntmps7
            go_wp2_with (first | ((with_reducible refine gate_dst (N:=12) rfl ?_);refine Kd.R_lit (Kd.int .u8) _ 5 ?hg (N:=12) ?hd (xs:=([] : List Int)) (inner:=[]) (ok:=fun _ => True) (okp:=fun _ => True) ?hr ?hp (fun _ hk => hk) trivial (Below.refl _ _) (Nat.le_refl _) (by simp) ?_;(case hd => rfl);(case hg => rfl);(case hr => first | (go_simp;done) | (go_simp;rfl));(case hp => exact (Reps.none _ _));intro v491 w77 ho78 hb hg_ hnew_;clear hg_ hnew_;(first | rw [← Ny490.out] at ho78 | (simp only [Int.reduceToNat] at ho78;rw [← Ny490.out] at ho78));have n0_:=Aside0.mk (Kd.R_lower ho78 (below_size (by repeat (first | (with_reducible first | exact HB.out | apply below_alloc | apply pw_below_drewN | apply below_drew1) | exact HB.out))));have n1_:=Aside0.mk (below_step (by repeat (first | (with_reducible first | exact HB.out | apply below_alloc | apply pw_below_drewN | apply below_drew1) | exact HB.out)) hb);clear HB;have HO492:=n0_;have HB:=n1_;clear n0_ n1_;clear hb ho78) | ((with_reducible refine gate_builtin (b:=.append) (xs:=#[.tmp 12,.tmp 13]) rfl ?_);at_builtin;refine Kd.R_append_rows (Kd.int .u8) (w0:=w) w.heap.size rfl (.tmp 12) (.tmp 13) 23 5 (.int .u8 0) 1 rfl Try.underlying23 info5 rfl (by decide) (by omega) v491 y490 l0 _ _ _ (fun _ => True) (fun _ => False) rfl rfl ?aO ?aR (fun _ _ h => h) (fun _ h => h.elim) ?aF ?aB ?aS ?aL ?_;(case aR => repeat (first | exact (Kd.C_below HR0.out HB.out) | (with_reducible refine Kd.C_alloc ?_ _) | (with_reducible refine Kd.C_drewN ?_ _) | (with_reducible refine Kd.C_drew ?_)));(case aB => exact (by repeat (first | (with_reducible first | exact HB.out | apply below_alloc | apply pw_below_drewN | apply below_drew1) | exact HB.out)));(case aF => exact (fun _ _ => trivial));(case aO => exact (by (with_reducible repeat (first | apply Kd.R_alloc | apply Kd.R_drewN | apply Kd.R_drew));exact HO492.out));(case aS => exact (below_size (by repeat (first | (with_reducible first | exact HB.out | apply below_alloc | apply pw_below_drewN | apply below_drew1) | exact HB.out))));(case aL => have:=LMc5.out;omega);intro v494 w79 ho hb hg hat;rw [← Ny493.out] at ho;have n0_:=Aside0.mk (hb);have n1_:=Aside0.mk (ho);clear HB;clear HO492;have HB:=n0_;have HO495:=n1_;clear n0_ n1_;clear ho hb hg hat;obtain ⟨Ao80,co80,eo80⟩:=Kd.R_slice HO495.out;subst eo80) | ((with_reducible refine gate_callee (f:=35) rfl ?_);refine goesL_ (some 15) rfl rfl Try.func35 (by kernel_rfl) rfl #[.slice Ao80 y493.length co80] rfl (by (try simp only [List.map_toArray,List.map_cons,List.map_nil]);first | done | rfl | (simp only [List.length_drop,List.length_take];rfl)) ?_;(with_reducible refine (row_Decode.calls k _ _ y493 t496 t497 t498 t501 t502 t503 t504 _ ?side1 ?side2 A6.out).mono ?_);(case side1 => repeat (first | exact (Kd.R_reads' HO495.out).2.2 | (with_reducible refine Kd.C_alloc ?_ _) | (with_reducible refine Kd.C_drewN ?_ _) | (with_reducible refine Kd.C_drew ?_)));(case side2 => exact (Kd.R_reads' HO495.out).2.1);rintro e w81 ⟨v499,rfl,ho0,hb⟩;refine ⟨_,rfl,?_⟩;have n0_:=Aside0.mk (Kd.R_below (by (with_reducible repeat (first | apply Kd.R_alloc | apply Kd.R_drewN | apply Kd.R_drew));exact HO495.out) hb);have n1_:=Aside0.mk (Kd.R_lower ho0 (below_size (by repeat (first | (with_reducible first | exact HB.out | apply below_alloc | apply pw_below_drewN | apply below_drew1) | exact HB.out))));have n2_:=Aside0.mk (below_step (by repeat (first | (with_reducible first | exact HB.out | apply below_alloc | apply pw_below_drewN | apply below_drew1) | exact HB.out)) hb);clear HO495;clear HB;have HO495:=n0_;have HO500:=n1_;have HB:=n2_;clear n0_ n1_ n2_;(try clear hb);(try clear hb2);(try clear hk);(try clear hi);(try clear ho0)) | ((with_reducible refine gate_dst (N:=3) rfl ?_);refine box_event ?hg (N:=3) ?hd (cs:=#[.float .f64 0,.bool false,.slice none 0 0,.int .i64 0,.int .i64 0,.int .i64 0]) (t:=30) ?hr ?_;(case hd => rfl);(case hg => rfl);(case hr => first | (go_simp;done) | (go_simp;rfl));intro gb505 hg w82 hbox hb;have n0_:=Aside0.mk (Kd.R_below (by (with_reducible repeat (first | apply Kd.R_alloc | apply Kd.R_drewN | apply Kd.R_drew));exact HO495.out) hb);have n1_:=Aside0.mk (Kd.R_below (by (with_reducible repeat (first | apply Kd.R_alloc | apply Kd.R_drewN | apply Kd.R_drew));exact HO500.out) hb);have n2_:=Aside0.mk (below_step (by repeat (first | (with_reducible first | exact HB.out | apply below_alloc | apply pw_below_drewN | apply below_drew1) | exact HB.out)) hb);have n3_:=Aside0.mk (hbox);have n4_:=Aside0.mk ((by rw [hg];exact (below_size (by repeat (first | (with_reducible first | exact HB.out | apply below_alloc | apply pw_below_drewN | apply below_drew1) | exact HB.out))) : w.heap.size ≤ gb505));have n5_:=Aside0.mk ((by rw [hg];exact (below_size (by repeat (first | (with_reducible first | exact HB.out | apply below_alloc | apply pw_below_drewN | apply below_drew1) | exact HB.out))) : w.heap.size ≤ gb505));clear HO495;clear HO500;clear HB;have HO495:=n0_;have HO500:=n1_;have HB:=n2_;have BK505:=n3_;have GW505:=n4_;have GE505:=n5_;clear n0_ n1_ n2_ n3_ n4_ n5_;clear hb hbox hg;have hcz83_0 : w82.cell? ⟨gb505,0,none⟩ = some (.float .f64 0):=(blk_cell BK505.out 0).trans rfl;have hcz83_1 : w82.cell? ⟨gb505,1,none⟩ = some (.bool false):=(blk_cell BK505.out 1).trans rfl;have hcz83_2 : w82.cell? ⟨gb505,2,none⟩ = some (.slice none 0 0):=(blk_cell BK505.out 2).trans rfl;have hcz83_3 : w82.cell? ⟨gb505,3,none⟩ = some (.int .i64 0):=(blk_cell BK505.out 3).trans rfl;have hcz83_4 : w82.cell? ⟨gb505,4,none⟩ = some (.int .i64 0):=(blk_cell BK505.out 4).trans rfl;have hcz83_5 : w82.cell? ⟨gb505,5,none⟩ = some (.int .i64 0):=(blk_cell BK505.out 5).trans rfl;have hfz83_0:=blk_frozen BK505.out 0;have hfz83_1:=blk_frozen BK505.out 1;have hfz83_2:=blk_frozen BK505.out 2;have hfz83_3:=blk_frozen BK505.out 3;have hfz83_4:=blk_frozen BK505.out 4;have hfz83_5:=blk_frozen BK505.out 5;obtain ⟨Ao84,co84,eo84⟩:=Kd.R_slice HO500.out;subst eo84) | ((with_reducible refine gate_callee (f:=38) rfl ?_);refine goesL_ (some 20) rfl rfl Try.func38 (by kernel_rfl) rfl #[.slice A0 l0.length c0] rfl (by (try simp only [List.map_toArray,List.map_cons,List.map_nil]);first | done | rfl | (simp only [List.length_drop,List.length_take];rfl)) ?_;(with_reducible refine (humusref04_Decode.calls k _ _ l0 t506 t507 t508 t511 t512 t513 false _ ?side1 ?side2 A7.out).mono ?_);(case side1 => exact Kd.C_below HR0.out (by repeat (first | (with_reducible first | exact HB.out | apply below_alloc | apply pw_below_drewN | apply below_drew1 | refine below_set ?_ GE505.out) | exact HB.out)));(case side2 => exact HC0.out);rintro e w85 ⟨v509,rfl,ho0,hb⟩;refine ⟨_,rfl,?_⟩;have n0_:=Aside0.mk (Kd.R_below (by (with_reducible repeat (first | apply Kd.R_alloc | apply Kd.R_drewN | apply Kd.R_drew));exact (Kd.R_mono (Kd.R_far (p:=⟨gb505,5,none⟩) (Kd.R_far (p:=⟨gb505,4,none⟩) (Kd.R_far (p:=⟨gb505,3,none⟩) (Kd.R_far (p:=⟨gb505,2,none⟩) (Kd.R_far (p:=⟨gb505,1,none⟩) (Kd.R_far (p:=⟨gb505,0,none⟩) (Kd.R_types HO495.out BK505.out (by decide)) (fun _ hk => hk.2) (.float .f64 t496)) (fun _ hk => hk.2) (.bool t497)) (fun _ hk => hk.2) (.slice Ao84 t498.length co84)) (fun _ hk => hk.2) (.int .i64 t501)) (fun _ hk => hk.2) (.int .i64 t502)) (fun _ hk => hk.2) (.int .i64 t503)) (fun _ h_ => h_.1))) hb);have n1_:=Aside0.mk (Kd.R_elder' (by (with_reducible repeat (first | apply Kd.R_alloc | apply Kd.R_drewN | apply Kd.R_drew));exact (Kd.R_mono (Kd.R_far (p:=⟨gb505,5,none⟩) (Kd.R_far (p:=⟨gb505,4,none⟩) (Kd.R_far (p:=⟨gb505,3,none⟩) (Kd.R_far (p:=⟨gb505,2,none⟩) (Kd.R_far (p:=⟨gb505,1,none⟩) (Kd.R_far (p:=⟨gb505,0,none⟩) (Kd.R_types HO500.out BK505.out (by decide)) (fun _ hk => hk.2) (.float .f64 t496)) (fun _ hk => hk.2) (.bool t497)) (fun _ hk => hk.2) (.slice Ao84 t498.length co84)) (fun _ hk => hk.2) (.int .i64 t501)) (fun _ hk => hk.2) (.int .i64 t502)) (fun _ hk => hk.2) (.int .i64 t503)) (fun _ h_ => h_.1))) (Kd.R_base ho0) hb);have n2_:=Aside0.mk (Kd.R_lower (Kd.R_new' ho0 (Kd.R_lt (by (with_reducible repeat (first | apply Kd.R_alloc | apply Kd.R_drewN | apply Kd.R_drew));exact (Kd.R_mono (Kd.R_far (p:=⟨gb505,5,none⟩) (Kd.R_far (p:=⟨gb505,4,none⟩) (Kd.R_far (p:=⟨gb505,3,none⟩) (Kd.R_far (p:=⟨gb505,2,none⟩) (Kd.R_far (p:=⟨gb505,1,none⟩) (Kd.R_far (p:=⟨gb505,0,none⟩) (Kd.R_types HO500.out BK505.out (by decide)) (fun _ hk => hk.2) (.float .f64 t496)) (fun _ hk => hk.2) (.bool t497)) (fun _ hk => hk.2) (.slice Ao84 t498.length co84)) (fun _ hk => hk.2) (.int .i64 t501)) (fun _ hk => hk.2) (.int .i64 t502)) (fun _ hk => hk.2) (.int .i64 t503)) (fun _ h_ => h_.1))))) (below_size (by repeat (first | (with_reducible first | exact HB.out | apply below_alloc | apply pw_below_drewN | apply below_drew1 | refine below_set ?_ GE505.out) | exact HB.out))));have n3_:=Aside0.mk (blk_below (g:=gb505) (o:=.cells #[.float .f64 t496,.bool t497,.slice Ao84 t498.length co84,.int .i64 t501,.int .i64 t502,.int .i64 t503] 30 (0,0)) (by (with_reducible repeat (first | refine blk_drewN ?_ _ | refine blk_drew ?_ | refine blk_alloc ?_ _));refine blk_put (cs:=#[.float .f64 t496,.bool t497,.slice Ao84 t498.length co84,.int .i64 t501,.int .i64 t502,.int .i64 0]) ?_ 5 _ rfl;(with_reducible repeat (first | refine blk_drewN ?_ _ | refine blk_drew ?_ | refine blk_alloc ?_ _));refine blk_put (cs:=#[.float .f64 t496,.bool t497,.slice Ao84 t498.length co84,.int .i64 t501,.int .i64 0,.int .i64 0]) ?_ 4 _ rfl;(with_reducible repeat (first | refine blk_drewN ?_ _ | refine blk_drew ?_ | refine blk_alloc ?_ _));refine blk_put (cs:=#[.float .f64 t496,.bool t497,.slice Ao84 t498.length co84,.int .i64 0,.int .i64 0,.int .i64 0]) ?_ 3 _ rfl;(with_reducible repeat (first | refine blk_drewN ?_ _ | refine blk_drew ?_ | refine blk_alloc ?_ _));refine blk_put (cs:=#[.float .f64 t496,.bool t497,.slice none 0 0,.int .i64 0,.int .i64 0,.int .i64 0]) ?_ 2 _ rfl;(with_reducible repeat (first | refine blk_drewN ?_ _ | refine blk_drew ?_ | refine blk_alloc ?_ _));refine blk_put (cs:=#[.float .f64 t496,.bool false,.slice none 0 0,.int .i64 0,.int .i64 0,.int .i64 0]) ?_ 1 _ rfl;(with_reducible repeat (first | refine blk_drewN ?_ _ | refine blk_drew ?_ | refine blk_alloc ?_ _));refine blk_put (cs:=#[.float .f64 0,.bool false,.slice none 0 0,.int .i64 0,.int .i64 0,.int .i64 0]) ?_ 0 _ rfl;(with_reducible repeat (first | refine blk_drewN ?_ _ | refine blk_drew ?_ | refine blk_alloc ?_ _));exact BK505.out) hb);have n4_:=Aside0.mk (below_step (by repeat (first | (with_reducible first | exact HB.out | apply below_alloc | apply pw_below_drewN | apply below_drew1 | refine below_set ?_ GE505.out) | exact HB.out)) hb);clear HO495;clear HO500;clear BK505;clear HB;have HO495:=n0_;have HO500:=n1_;have HO510:=n2_;have BK505:=n3_;have HB:=n4_;clear n0_ n1_ n2_ n3_ n4_;(try clear hb);(try clear hb2);(try clear hk);(try clear hi);(try clear ho0)) | ((with_reducible refine gate_dst (N:=5) rfl ?_);refine box_event ?hg (N:=5) ?hd (cs:=#[.float .f64 0,.bool false,.slice none 0 0,.int .i64 0,.int .i64 0,.int .i64 0]) (t:=30) ?hr ?_;(case hd => rfl);(case hg => rfl);(case hr => first | (go_simp;done) | (go_simp;rfl));intro gb515 hg w86 hbox hb;have n0_:=Aside0.mk (Kd.R_below (by (with_reducible repeat (first | apply Kd.R_alloc | apply Kd.R_drewN | apply Kd.R_drew));exact HO495.out) hb);have n1_:=Aside0.mk (Kd.R_below (by (with_reducible repeat (first | apply Kd.R_alloc | apply Kd.R_drewN | apply Kd.R_drew));exact HO500.out) hb);have n2_:=Aside0.mk (Kd.R_below (by (with_reducible repeat (first | apply Kd.R_alloc | apply Kd.R_drewN | apply Kd.R_drew));exact HO510.out) hb);have n3_:=Aside0.mk (blk_below (g:=gb505) (o:=.cells #[.float .f64 t496,.bool t497,.slice Ao84 t498.length co84,.int .i64 t501,.int .i64 t502,.int .i64 t503] 30 (0,0)) (by (with_reducible repeat (first | refine blk_drewN ?_ _ | refine blk_drew ?_ | refine blk_alloc ?_ _));exact BK505.out) hb);have n4_:=Aside0.mk (below_step (by repeat (first | (with_reducible first | exact HB.out | apply below_alloc | apply pw_below_drewN | apply below_drew1 | refine below_set ?_ GE505.out) | exact HB.out)) hb);have n5_:=Aside0.mk (hbox);have n6_:=Aside0.mk ((by rw [hg];exact (below_size (by repeat (first | (with_reducible first | exact HB.out | apply below_alloc | apply pw_below_drewN | apply below_drew1 | refine below_set ?_ GE505.out) | exact HB.out))) : w.heap.size ≤ gb515));have n7_:=Aside0.mk ((by rw [hg];exact (below_size (by repeat (first | (with_reducible first | exact HB.out | apply below_alloc | apply pw_below_drewN | apply below_drew1 | refine below_set ?_ GE505.out) | exact HB.out))) : w.heap.size ≤ gb515));have n8_:=Aside0.mk ((by rw [hg];exact Nat.ne_of_lt (blk_lt (g:=gb505) (o:=.cells #[.float .f64 t496,.bool t497,.slice Ao84 t498.length co84,.int .i64 t501,.int .i64 t502,.int .i64 t503] 30 (0,0)) (by (with_reducible repeat (first | refine blk_drewN ?_ _ | refine blk_drew ?_ | refine blk_alloc ?_ _));exact BK505.out)) : gb505 ≠ gb515));have n9_:=Aside0.mk ((by rw [hg];exact Nat.ne_of_gt (blk_lt (g:=gb505) (o:=.cells #[.float .f64 t496,.bool t497,.slice Ao84 t498.length co84,.int .i64 t501,.int .i64 t502,.int .i64 t503] 30 (0,0)) (by (with_reducible repeat (first | refine blk_drewN ?_ _ | refine blk_drew ?_ | refine blk_alloc ?_ _));exact BK505.out)) : gb515 ≠ gb505));clear HO495;clear HO500;clear HO510;clear BK505;clear HB;have HO495:=n0_;have HO500:=n1_;have HO510:=n2_;have BK505:=n3_;have HB:=n4_;have BK515:=n5_;have GW515:=n6_;have GE515:=n7_;have NB505_515:=n8_;have NB515_505:=n9_;clear n0_ n1_ n2_ n3_ n4_ n5_ n6_ n7_ n8_ n9_;clear hb hbox hg;have hnb87:=NB515_505.out;have hnc87:=NB505_515.out;have hcz88_0 : w86.cell? ⟨gb515,0,none⟩ = some (.float .f64 0):=(blk_cell BK515.out 0).trans rfl;have hcz88_1 : w86.cell? ⟨gb515,1,none⟩ = some (.bool false):=(blk_cell BK515.out 1).trans rfl;have hcz88_2 : w86.cell? ⟨gb515,2,none⟩ = some (.slice none 0 0):=(blk_cell BK515.out 2).trans rfl;have hcz88_3 : w86.cell? ⟨gb515,3,none⟩ = some (.int .i64 0):=(blk_cell BK515.out 3).trans rfl;have hcz88_4 : w86.cell? ⟨gb515,4,none⟩ = some (.int .i64 0):=(blk_cell BK515.out 4).trans rfl;have hcz88_5 : w86.cell? ⟨gb515,5,none⟩ = some (.int .i64 0):=(blk_cell BK515.out 5).trans rfl;have hfz88_0:=blk_frozen BK515.out 0;have hfz88_1:=blk_frozen BK515.out 1;have hfz88_2:=blk_frozen BK515.out 2;have hfz88_3:=blk_frozen BK515.out 3;have hfz88_4:=blk_frozen BK515.out 4;have hfz88_5:=blk_frozen BK515.out 5;obtain ⟨Ao89,co89,eo89⟩:=Kd.R_slice HO510.out;subst eo89;have hcz90_0 : w86.cell? ⟨gb505,0,none⟩ = some (.float .f64 t496):=(blk_cell BK505.out 0).trans rfl;have hcz90_1 : w86.cell? ⟨gb505,1,none⟩ = some (.bool t497):=(blk_cell BK505.out 1).trans rfl;have hcz90_2 : w86.cell? ⟨gb505,2,none⟩ = some (.slice Ao84 t498.length co84):=(blk_cell BK505.out 2).trans rfl;have hcz90_3 : w86.cell? ⟨gb505,3,none⟩ = some (.int .i64 t501):=(blk_cell BK505.out 3).trans rfl;have hcz90_4 : w86.cell? ⟨gb505,4,none⟩ = some (.int .i64 t502):=(blk_cell BK505.out 4).trans rfl;have hcz90_5 : w86.cell? ⟨gb505,5,none⟩ = some (.int .i64 t503):=(blk_cell BK505.out 5).trans rfl;have hfz90_0:=blk_frozen BK505.out 0;have hfz90_1:=blk_frozen BK505.out 1;have hfz90_2:=blk_frozen BK505.out 2;have hfz90_3:=blk_frozen BK505.out 3;have hfz90_4:=blk_frozen BK505.out 4;have hfz90_5:=blk_frozen BK505.out 5) | (go_at_call 37;(refine (humusref04_Same.calls k t496 t497 _ _ t498 t501 t502 t503 0 false _ _ ([] : List Nat) 0 0 0 false _ ?side1 ?side2 ?side3 ?side4 A58.out).mono ?_);(case side1 => refine (Kd.R_reads' (e:=25) (base:=w.heap.size) (ok:=fun k_ => (True ∧ some k_ ≠ (.slice Ao89 t508.length co89 : Value).ownBlock)) (n:=t498.length) (c:=co84) ?_).2.2;exact (by (with_reducible repeat (first | apply Kd.R_alloc | apply Kd.R_drewN | apply Kd.R_drew));exact (Kd.R_mono (Kd.R_far (p:=⟨gb515,5,none⟩) (Kd.R_far (p:=⟨gb515,4,none⟩) (Kd.R_far (p:=⟨gb515,3,none⟩) (Kd.R_far (p:=⟨gb515,2,none⟩) (Kd.R_far (p:=⟨gb515,1,none⟩) (Kd.R_far (p:=⟨gb515,0,none⟩) (Kd.R_types HO500.out BK515.out (by decide)) (fun _ hk => hk.2) (.float .f64 t506)) (fun _ hk => hk.2) (.bool t507)) (fun _ hk => hk.2) (.slice Ao89 t508.length co89)) (fun _ hk => hk.2) (.int .i64 t511)) (fun _ hk => hk.2) (.int .i64 t512)) (fun _ hk => hk.2) (.int .i64 t513)) (fun _ h_ => h_.1))));(case side2 => exact (Kd.R_reads' HO500.out).2.1);(case side3 => exact Kd.C_nil _ _);(case side4 => exact Nat.le_refl _);rintro e w91 ⟨rfl,hb⟩;have n0_:=Aside0.mk (Kd.R_below (by (with_reducible repeat (first | apply Kd.R_alloc | apply Kd.R_drewN | apply Kd.R_drew));exact (Kd.R_mono (Kd.R_far (p:=⟨gb515,5,none⟩) (Kd.R_far (p:=⟨gb515,4,none⟩) (Kd.R_far (p:=⟨gb515,3,none⟩) (Kd.R_far (p:=⟨gb515,2,none⟩) (Kd.R_far (p:=⟨gb515,1,none⟩) (Kd.R_far (p:=⟨gb515,0,none⟩) (Kd.R_types HO495.out BK515.out (by decide)) (fun _ hk => hk.2) (.float .f64 t506)) (fun _ hk => hk.2) (.bool t507)) (fun _ hk => hk.2) (.slice Ao89 t508.length co89)) (fun _ hk => hk.2) (.int .i64 t511)) (fun _ hk => hk.2) (.int .i64 t512)) (fun _ hk => hk.2) (.int .i64 t513)) (fun _ h_ => h_.1))) hb);have n1_:=Aside0.mk (Kd.R_below (by (with_reducible repeat (first | apply Kd.R_alloc | apply Kd.R_drewN | apply Kd.R_drew));exact (Kd.R_mono (Kd.R_far (p:=⟨gb515,5,none⟩) (Kd.R_far (p:=⟨gb515,4,none⟩) (Kd.R_far (p:=⟨gb515,3,none⟩) (Kd.R_far (p:=⟨gb515,2,none⟩) (Kd.R_far (p:=⟨gb515,1,none⟩) (Kd.R_far (p:=⟨gb515,0,none⟩) (Kd.R_types HO500.out BK515.out (by decide)) (fun _ hk => hk.2) (.float .f64 t506)) (fun _ hk => hk.2) (.bool t507)) (fun _ hk => hk.2) (.slice Ao89 t508.length co89)) (fun _ hk => hk.2) (.int .i64 t511)) (fun _ hk => hk.2) (.int .i64 t512)) (fun _ hk => hk.2) (.int .i64 t513)) (fun _ h_ => h_.1))) hb);have n2_:=Aside0.mk (Kd.R_below (by (with_reducible repeat (first | apply Kd.R_alloc | apply Kd.R_drewN | apply Kd.R_drew));exact (Kd.R_mono (Kd.R_far (p:=⟨gb515,5,none⟩) (Kd.R_far (p:=⟨gb515,4,none⟩) (Kd.R_far (p:=⟨gb515,3,none⟩) (Kd.R_far (p:=⟨gb515,2,none⟩) (Kd.R_far (p:=⟨gb515,1,none⟩) (Kd.R_far (p:=⟨gb515,0,none⟩) (Kd.R_types HO510.out BK515.out (by decide)) (fun _ hk => hk.2) (.float .f64 t506)) (fun _ hk => hk.2) (.bool t507)) (fun _ hk => hk.2) (.slice Ao89 t508.length co89)) (fun _ hk => hk.2) (.int .i64 t511)) (fun _ hk => hk.2) (.int .i64 t512)) (fun _ hk => hk.2) (.int .i64 t513)) (fun _ h_ => h_.1))) hb);have n3_:=Aside0.mk (blk_below (g:=gb505) (o:=.cells #[.float .f64 t496,.bool t497,.slice Ao84 t498.length co84,.int .i64 t501,.int .i64 t502,.int .i64 t503] 30 (0,0)) (by (with_reducible repeat (first | refine blk_drewN ?_ _ | refine blk_drew ?_ | refine blk_alloc ?_ _));refine blk_far ?_ NB505_515.out _;(with_reducible repeat (first | refine blk_drewN ?_ _ | refine blk_drew ?_ | refine blk_alloc ?_ _));refine blk_far ?_ NB505_515.out _;(with_reducible repeat (first | refine blk_drewN ?_ _ | refine blk_drew ?_ | refine blk_alloc ?_ _));refine blk_far ?_ NB505_515.out _;(with_reducible repeat (first | refine blk_drewN ?_ _ | refine blk_drew ?_ | refine blk_alloc ?_ _));refine blk_far ?_ NB505_515.out _;(with_reducible repeat (first | refine blk_drewN ?_ _ | refine blk_drew ?_ | refine blk_alloc ?_ _));refine blk_far ?_ NB505_515.out _;(with_reducible repeat (first | refine blk_drewN ?_ _ | refine blk_drew ?_ | refine blk_alloc ?_ _));refine blk_far ?_ NB505_515.out _;(with_reducible repeat (first | refine blk_drewN ?_ _ | refine blk_drew ?_ | refine blk_alloc ?_ _));exact BK505.out) hb);have n4_:=Aside0.mk (blk_below (g:=gb515) (o:=.cells #[.float .f64 t506,.bool t507,.slice Ao89 t508.length co89,.int .i64 t511,.int .i64 t512,.int .i64 t513] 30 (0,0)) (by (with_reducible repeat (first | refine blk_drewN ?_ _ | refine blk_drew ?_ | refine blk_alloc ?_ _));refine blk_put (cs:=#[.float .f64 t506,.bool t507,.slice Ao89 t508.length co89,.int .i64 t511,.int .i64 t512,.int .i64 0]) ?_ 5 _ rfl;(with_reducible repeat (first | refine blk_drewN ?_ _ | refine blk_drew ?_ | refine blk_alloc ?_ _));refine blk_put (cs:=#[.float .f64 t506,.bool t507,.slice Ao89 t508.length co89,.int .i64 t511,.int .i64 0,.int .i64 0]) ?_ 4 _ rfl;(with_reducible repeat (first | refine blk_drewN ?_ _ | refine blk_drew ?_ | refine blk_alloc ?_ _));refine blk_put (cs:=#[.float .f64 t506,.bool t507,.slice Ao89 t508.length co89,.int .i64 0,.int .i64 0,.int .i64 0]) ?_ 3 _ rfl;(with_reducible repeat (first | refine blk_drewN ?_ _ | refine blk_drew ?_ | refine blk_alloc ?_ _));refine blk_put (cs:=#[.float .f64 t506,.bool t507,.slice none 0 0,.int .i64 0,.int .i64 0,.int .i64 0]) ?_ 2 _ rfl;(with_reducible repeat (first | refine blk_drewN ?_ _ | refine blk_drew ?_ | refine blk_alloc ?_ _));refine blk_put (cs:=#[.float .f64 t506,.bool false,.slice none 0 0,.int .i64 0,.int .i64 0,.int .i64 0]) ?_ 1 _ rfl;(with_reducible repeat (first | refine blk_drewN ?_ _ | refine blk_drew ?_ | refine blk_alloc ?_ _));refine blk_put (cs:=#[.float .f64 0,.bool false,.slice none 0 0,.int .i64 0,.int .i64 0,.int .i64 0]) ?_ 0 _ rfl;(with_reducible repeat (first | refine blk_drewN ?_ _ | refine blk_drew ?_ | refine blk_alloc ?_ _));exact BK515.out) hb);have n5_:=Aside0.mk (below_step (by repeat (first | (with_reducible first | exact HB.out | apply below_alloc | apply pw_below_drewN | apply below_drew1 | refine below_set ?_ GE505.out | refine below_set ?_ GE515.out) | exact HB.out)) hb);clear HO495;clear HO500;clear HO510;clear BK505;clear BK515;clear HB;have HO495:=n0_;have HO500:=n1_;have HO510:=n2_;have BK505:=n3_;have BK515:=n4_;have HB:=n5_;clear n0_ n1_ n2_ n3_ n4_ n5_;(try clear hb);(try clear hb2);(try clear hk);(try clear hi)))
            go_ret
            exact ⟨by first | rfl | (simp [errW_none,errW_some] <;> rfl) | (simp [*,errW_none,errW_some] <;> rfl),by repeat (first | (with_reducible first | exact HB.out | apply below_alloc | apply pw_below_drewN | apply below_drew1 | refine below_set ?_ GE505.out | refine below_set ?_ GE515.out) | exact HB.out)⟩
        · rw [if_neg c57] at H
          have c57b0 : (t504 == 4) = false:=beq_eq_false_iff_ne.mpr c57
          have c57b1 : (t504 != 4) = true:=bne_iff_ne.mpr c57
          obtain rfl:=Option.some.inj H
          go_enter Try.func7,Try.ntmps7
          go_wp2_with (first | ((with_reducible refine gate_dst (N:=12) rfl ?_);refine Kd.R_lit (Kd.int .u8) _ 5 ?hg (N:=12) ?hd (xs:=([] : List Int)) (inner:=[]) (ok:=fun _ => True) (okp:=fun _ => True) ?hr ?hp (fun _ hk => hk) trivial (Below.refl _ _) (Nat.le_refl _) (by simp) ?_;(case hd => rfl);(case hg => rfl);(case hr => first | (go_simp;done) | (go_simp;rfl));(case hp => exact (Reps.none _ _));intro v491 w92 ho93 hb hg_ hnew_;clear hg_ hnew_;(first | rw [← Ny490.out] at ho93 | (simp only [Int.reduceToNat] at ho93;rw [← Ny490.out] at ho93));have n0_:=Aside0.mk (Kd.R_lower ho93 (below_size (by repeat (first | (with_reducible first | exact HB.out | apply below_alloc | apply pw_below_drewN | apply below_drew1) | exact HB.out))));have n1_:=Aside0.mk (below_step (by repeat (first | (with_reducible first | exact HB.out | apply below_alloc | apply pw_below_drewN | apply below_drew1) | exact HB.out)) hb);clear HB;have HO492:=n0_;have HB:=n1_;clear n0_ n1_;clear hb ho93) | ((with_reducible refine gate_builtin (b:=.append) (xs:=#[.tmp 12,.tmp 13]) rfl ?_);at_builtin;refine Kd.R_append_rows (Kd.int .u8) (w0:=w) w.heap.size rfl (.tmp 12) (.tmp 13) 23 5 (.int .u8 0) 1 rfl Try.underlying23 info5 rfl (by decide) (by omega) v491 y490 l0 _ _ _ (fun _ => True) (fun _ => False) rfl rfl ?aO ?aR (fun _ _ h => h) (fun _ h => h.elim) ?aF ?aB ?aS ?aL ?_;(case aR => repeat (first | exact (Kd.C_below HR0.out HB.out) | (with_reducible refine Kd.C_alloc ?_ _) | (with_reducible refine Kd.C_drewN ?_ _) | (with_reducible refine Kd.C_drew ?_)));(case aB => exact (by repeat (first | (with_reducible first | exact HB.out | apply below_alloc | apply pw_below_drewN | apply below_drew1) | exact HB.out)));(case aF => exact (fun _ _ => trivial));(case aO => exact (by (with_reducible repeat (first | apply Kd.R_alloc | apply Kd.R_drewN | apply Kd.R_drew));exact HO492.out));(case aS => exact (below_size (by repeat (first | (with_reducible first | exact HB.out | apply below_alloc | apply pw_below_drewN | apply below_drew1) | exact HB.out))));(case aL => have:=LMc5.out;omega);intro v494 w94 ho hb hg hat;rw [← Ny493.out] at ho;have n0_:=Aside0.mk (hb);have n1_:=Aside0.mk (ho);clear HB;clear HO492;have HB:=n0_;have HO495:=n1_;clear n0_ n1_;clear ho hb hg hat;obtain ⟨Ao95,co95,eo95⟩:=Kd.R_slice HO495.out;subst eo95) | ((with_reducible refine gate_callee (f:=35) rfl ?_);refine goesL_ (some 15) rfl rfl Try.func35 (by kernel_rfl) rfl #[.slice Ao95 y493.length co95] rfl (by (try simp only [List.map_toArray,List.map_cons,List.map_nil]);first | done | rfl | (simp only [List.length_drop,List.length_take];rfl)) ?_;(with_reducible refine (row_Decode.calls k _ _ y493 t496 t497 t498 t501 t502 t503 t504 _ ?side1 ?side2 A6.out).mono ?_);(case side1 => repeat (first | exact (Kd.R_reads' HO495.out).2.2 | (with_reducible refine Kd.C_alloc ?_ _) | (with_reducible refine Kd.C_drewN ?_ _) | (with_reducible refine Kd.C_drew ?_)));(case side2 => exact (Kd.R_reads' HO495.out).2.1);rintro e w96 ⟨v499,rfl,ho0,hb⟩;refine ⟨_,rfl,?_⟩;have n0_:=Aside0.mk (Kd.R_below (by (with_reducible repeat (first | apply Kd.R_alloc | apply Kd.R_drewN | apply Kd.R_drew));exact HO495.out) hb);have n1_:=Aside0.mk (Kd.R_lower ho0 (below_size (by repeat (first | (with_reducible first | exact HB.out | apply below_alloc | apply pw_below_drewN | apply below_drew1) | exact HB.out))));have n2_:=Aside0.mk (below_step (by repeat (first | (with_reducible first | exact HB.out | apply below_alloc | apply pw_below_drewN | apply below_drew1) | exact HB.out)) hb);clear HO495;clear HB;have HO495:=n0_;have HO500:=n1_;have HB:=n2_;clear n0_ n1_ n2_;(try clear hb);(try clear hb2);(try clear hk);(try clear hi);(try clear ho0)) | ((with_reducible refine gate_dst (N:=3) rfl ?_);refine box_event ?hg (N:=3) ?hd (cs:=#[.float .f64 0,.bool false,.slice none 0 0,.int .i64 0,.int .i64 0,.int .i64 0]) (t:=30) ?hr ?_;(case hd => rfl);(case hg => rfl);(case hr => first | (go_simp;done) | (go_simp;rfl));intro gb505 hg w97 hbox hb;have n0_:=Aside0.mk (Kd.R_below (by (with_reducible repeat (first | apply Kd.R_alloc | apply Kd.R_drewN | apply Kd.R_drew));exact HO495.out) hb);have n1_:=Aside0.mk (Kd.R_below (by (with_reducible repeat (first | apply Kd.R_alloc | apply Kd.R_drewN | apply Kd.R_drew));exact HO500.out) hb);have n2_:=Aside0.mk (below_step (by repeat (first | (with_reducible first | exact HB.out | apply below_alloc | apply pw_below_drewN | apply below_drew1) | exact HB.out)) hb);have n3_:=Aside0.mk (hbox);have n4_:=Aside0.mk ((by rw [hg];exact (below_size (by repeat (first | (with_reducible first | exact HB.out | apply below_alloc | apply pw_below_drewN | apply below_drew1) | exact HB.out))) : w.heap.size ≤ gb505));have n5_:=Aside0.mk ((by rw [hg];exact (below_size (by repeat (first | (with_reducible first | exact HB.out | apply below_alloc | apply pw_below_drewN | apply below_drew1) | exact HB.out))) : w.heap.size ≤ gb505));clear HO495;clear HO500;clear HB;have HO495:=n0_;have HO500:=n1_;have HB:=n2_;have BK505:=n3_;have GW505:=n4_;have GE505:=n5_;clear n0_ n1_ n2_ n3_ n4_ n5_;clear hb hbox hg;have hcz98_0 : w97.cell? ⟨gb505,0,none⟩ = some (.float .f64 0):=(blk_cell BK505.out 0).trans rfl;have hcz98_1 : w97.cell? ⟨gb505,1,none⟩ = some (.bool false):=(blk_cell BK505.out 1).trans rfl;have hcz98_2 : w97.cell? ⟨gb505,2,none⟩ = some (.slice none 0 0):=(blk_cell BK505.out 2).trans rfl;have hcz98_3 : w97.cell? ⟨gb505,3,none⟩ = some (.int .i64 0):=(blk_cell BK505.out 3).trans rfl;have hcz98_4 : w97.cell? ⟨gb505,4,none⟩ = some (.int .i64 0):=(blk_cell BK505.out 4).trans rfl;have hcz98_5 : w97.cell? ⟨gb505,5,none⟩ = some (.int .i64 0):=(blk_cell BK505.out 5).trans rfl;have hfz98_0:=blk_frozen BK505.out 0;have hfz98_1:=blk_frozen BK505.out 1;have hfz98_2:=blk_frozen BK505.out 2;have hfz98_3:=blk_frozen BK505.out 3;have hfz98_4:=blk_frozen BK505.out 4;have hfz98_5:=blk_frozen BK505.out 5;obtain ⟨Ao99,co99,eo99⟩:=Kd.R_slice HO500.out;subst eo99) | ((with_reducible refine gate_callee (f:=38) rfl ?_);refine goesL_ (some 20) rfl rfl Try.func38 (by kernel_rfl) rfl #[.slice A0 l0.length c0] rfl (by (try simp only [List.map_toArray,List.map_cons,List.map_nil]);first | done | rfl | (simp only [List.length_drop,List.length_take];rfl)) ?_;(with_reducible refine (humusref04_Decode.calls k _ _ l0 t506 t507 t508 t511 t512 t513 false _ ?side1 ?side2 A7.out).mono ?_);(case side1 => exact Kd.C_below HR0.out (by repeat (first | (with_reducible first | exact HB.out | apply below_alloc | apply pw_below_drewN | apply below_drew1 | refine below_set ?_ GE505.out) | exact HB.out)));(case side2 => exact HC0.out);rintro e w100 ⟨v509,rfl,ho0,hb⟩;refine ⟨_,rfl,?_⟩;have n0_:=Aside0.mk (Kd.R_below (by (with_reducible repeat (first | apply Kd.R_alloc | apply Kd.R_drewN | apply Kd.R_drew));exact (Kd.R_mono (Kd.R_far (p:=⟨gb505,5,none⟩) (Kd.R_far (p:=⟨gb505,4,none⟩) (Kd.R_far (p:=⟨gb505,3,none⟩) (Kd.R_far (p:=⟨gb505,2,none⟩) (Kd.R_far (p:=⟨gb505,1,none⟩) (Kd.R_far (p:=⟨gb505,0,none⟩) (Kd.R_types HO495.out BK505.out (by decide)) (fun _ hk => hk.2) (.float .f64 t496)) (fun _ hk => hk.2) (.bool t497)) (fun _ hk => hk.2) (.slice Ao99 t498.length co99)) (fun _ hk => hk.2) (.int .i64 t501)) (fun _ hk => hk.2) (.int .i64 t502)) (fun _ hk => hk.2) (.int .i64 t503)) (fun _ h_ => h_.1))) hb);have n1_:=Aside0.mk (Kd.R_elder' (by (with_reducible repeat (first | apply Kd.R_alloc | apply Kd.R_drewN | apply Kd.R_drew));exact (Kd.R_mono (Kd.R_far (p:=⟨gb505,5,none⟩) (Kd.R_far (p:=⟨gb505,4,none⟩) (Kd.R_far (p:=⟨gb505,3,none⟩) (Kd.R_far (p:=⟨gb505,2,none⟩) (Kd.R_far (p:=⟨gb505,1,none⟩) (Kd.R_far (p:=⟨gb505,0,none⟩) (Kd.R_types HO500.out BK505.out (by decide)) (fun _ hk => hk.2) (.float .f64 t496)) (fun _ hk => hk.2) (.bool t497)) (fun _ hk => hk.2) (.slice Ao99 t498.length co99)) (fun _ hk => hk.2) (.int .i64 t501)) (fun _ hk => hk.2) (.int .i64 t502)) (fun _ hk => hk.2) (.int .i64 t503)) (fun _ h_ => h_.1))) (Kd.R_base ho0) hb);have n2_:=Aside0.mk (Kd.R_lower (Kd.R_new' ho0 (Kd.R_lt (by (with_reducible repeat (first | apply Kd.R_alloc | apply Kd.R_drewN | apply Kd.R_drew));exact (Kd.R_mono (Kd.R_far (p:=⟨gb505,5,none⟩) (Kd.R_far (p:=⟨gb505,4,none⟩) (Kd.R_far (p:=⟨gb505,3,none⟩) (Kd.R_far (p:=⟨gb505,2,none⟩) (Kd.R_far (p:=⟨gb505,1,none⟩) (Kd.R_far (p:=⟨gb505,0,none⟩) (Kd.R_types HO500.out BK505.out (by decide)) (fun _ hk => hk.2) (.float .f64 t496)) (fun _ hk => hk.2) (.bool t497)) (fun _ hk => hk.2) (.slice Ao99 t498.length co99)) (fun _ hk => hk.2) (.int .i64 t501)) (fun _ hk => hk.2) (.int .i64 t502)) (fun _ hk => hk.2) (.int .i64 t503)) (fun _ h_ => h_.1))))) (below_size (by repeat (first | (with_reducible first | exact HB.out | apply below_alloc | apply pw_below_drewN | apply below_drew1 | refine below_set ?_ GE505.out) | exact HB.out))));have n3_:=Aside0.mk (blk_below (g:=gb505) (o:=.cells #[.float .f64 t496,.bool t497,.slice Ao99 t498.length co99,.int .i64 t501,.int .i64 t502,.int .i64 t503] 30 (0,0)) (by (with_reducible repeat (first | refine blk_drewN ?_ _ | refine blk_drew ?_ | refine blk_alloc ?_ _));refine blk_put (cs:=#[.float .f64 t496,.bool t497,.slice Ao99 t498.length co99,.int .i64 t501,.int .i64 t502,.int .i64 0]) ?_ 5 _ rfl;(with_reducible repeat (first | refine blk_drewN ?_ _ | refine blk_drew ?_ | refine blk_alloc ?_ _));refine blk_put (cs:=#[.float .f64 t496,.bool t497,.slice Ao99 t498.length co99,.int .i64 t501,.int .i64 0,.int .i64 0]) ?_ 4 _ rfl;(with_reducible repeat (first | refine blk_drewN ?_ _ | refine blk_drew ?_ | refine blk_alloc ?_ _));refine blk_put (cs:=#[.float .f64 t496,.bool t497,.slice Ao99 t498.length co99,.int .i64 0,.int .i64 0,.int .i64 0]) ?_ 3 _ rfl;(with_reducible repeat (first | refine blk_drewN ?_ _ | refine blk_drew ?_ | refine blk_alloc ?_ _));refine blk_put (cs:=#[.float .f64 t496,.bool t497,.slice none 0 0,.int .i64 0,.int .i64 0,.int .i64 0]) ?_ 2 _ rfl;(with_reducible repeat (first | refine blk_drewN ?_ _ | refine blk_drew ?_ | refine blk_alloc ?_ _));refine blk_put (cs:=#[.float .f64 t496,.bool false,.slice none 0 0,.int .i64 0,.int .i64 0,.int .i64 0]) ?_ 1 _ rfl;(with_reducible repeat (first | refine blk_drewN ?_ _ | refine blk_drew ?_ | refine blk_alloc ?_ _));refine blk_put (cs:=#[.float .f64 0,.bool false,.slice none 0 0,.int .i64 0,.int .i64 0,.int .i64 0]) ?_ 0 _ rfl;(with_reducible repeat (first | refine blk_drewN ?_ _ | refine blk_drew ?_ | refine blk_alloc ?_ _));exact BK505.out) hb);have n4_:=Aside0.mk (below_step (by repeat (first | (with_reducible first | exact HB.out | apply below_alloc | apply pw_below_drewN | apply below_drew1 | refine below_set ?_ GE505.out) | exact HB.out)) hb);clear HO495;clear HO500;clear BK505;clear HB;have HO495:=n0_;have HO500:=n1_;have HO510:=n2_;have BK505:=n3_;have HB:=n4_;clear n0_ n1_ n2_ n3_ n4_;(try clear hb);(try clear hb2);(try clear hk);(try clear hi);(try clear ho0)) | ((with_reducible refine gate_dst (N:=5) rfl ?_);refine box_event ?hg (N:=5) ?hd (cs:=#[.float .f64 0,.bool false,.slice none 0 0,.int .i64 0,.int .i64 0,.int .i64 0]) (t:=30) ?hr ?_;(case hd => rfl);(case hg => rfl);(case hr => first | (go_simp;done) | (go_simp;rfl));intro gb515 hg w101 hbox hb;have n0_:=Aside0.mk (Kd.R_below (by (with_reducible repeat (first | apply Kd.R_alloc | apply Kd.R_drewN | apply Kd.R_drew));exact HO495.out) hb);have n1_:=Aside0.mk (Kd.R_below (by (with_reducible repeat (first | apply Kd.R_alloc | apply Kd.R_drewN | apply Kd.R_drew));exact HO500.out) hb);have n2_:=Aside0.mk (Kd.R_below (by (with_reducible repeat (first | apply Kd.R_alloc | apply Kd.R_drewN | apply Kd.R_drew));exact HO510.out) hb);have n3_:=Aside0.mk (blk_below (g:=gb505) (o:=.cells #[.float .f64 t496,.bool t497,.slice Ao99 t498.length co99,.int .i64 t501,.int .i64 t502,.int .i64 t503] 30 (0,0)) (by (with_reducible repeat (first | refine blk_drewN ?_ _ | refine blk_drew ?_ | refine blk_alloc ?_ _));exact BK505.out) hb);have n4_:=Aside0.mk (below_step (by repeat (first | (with_reducible first | exact HB.out | apply below_alloc | apply pw_below_drewN | apply below_drew1 | refine below_set ?_ GE505.out) | exact HB.out)) hb);have n5_:=Aside0.mk (hbox);have n6_:=Aside0.mk ((by rw [hg];exact (below_size (by repeat (first | (with_reducible first | exact HB.out | apply below_alloc | apply pw_below_drewN | apply below_drew1 | refine below_set ?_ GE505.out) | exact HB.out))) : w.heap.size ≤ gb515));have n7_:=Aside0.mk ((by rw [hg];exact (below_size (by repeat (first | (with_reducible first | exact HB.out | apply below_alloc | apply pw_below_drewN | apply below_drew1 | refine below_set ?_ GE505.out) | exact HB.out))) : w.heap.size ≤ gb515));have n8_:=Aside0.mk ((by rw [hg];exact Nat.ne_of_lt (blk_lt (g:=gb505) (o:=.cells #[.float .f64 t496,.bool t497,.slice Ao99 t498.length co99,.int .i64 t501,.int .i64 t502,.int .i64 t503] 30 (0,0)) (by (with_reducible repeat (first | refine blk_drewN ?_ _ | refine blk_drew ?_ | refine blk_alloc ?_ _));exact BK505.out)) : gb505 ≠ gb515));have n9_:=Aside0.mk ((by rw [hg];exact Nat.ne_of_gt (blk_lt (g:=gb505) (o:=.cells #[.float .f64 t496,.bool t497,.slice Ao99 t498.length co99,.int .i64 t501,.int .i64 t502,.int .i64 t503] 30 (0,0)) (by (with_reducible repeat (first | refine blk_drewN ?_ _ | refine blk_drew ?_ | refine blk_alloc ?_ _));exact BK505.out)) : gb515 ≠ gb505));clear HO495;clear HO500;clear HO510;clear BK505;clear HB;have HO495:=n0_;have HO500:=n1_;have HO510:=n2_;have BK505:=n3_;have HB:=n4_;have BK515:=n5_;have GW515:=n6_;have GE515:=n7_;have NB505_515:=n8_;have NB515_505:=n9_;clear n0_ n1_ n2_ n3_ n4_ n5_ n6_ n7_ n8_ n9_;clear hb hbox hg;have hnb102:=NB515_505.out;have hnc102:=NB505_515.out;have hcz103_0 : w101.cell? ⟨gb515,0,none⟩ = some (.float .f64 0):=(blk_cell BK515.out 0).trans rfl;have hcz103_1 : w101.cell? ⟨gb515,1,none⟩ = some (.bool false):=(blk_cell BK515.out 1).trans rfl;have hcz103_2 : w101.cell? ⟨gb515,2,none⟩ = some (.slice none 0 0):=(blk_cell BK515.out 2).trans rfl;have hcz103_3 : w101.cell? ⟨gb515,3,none⟩ = some (.int .i64 0):=(blk_cell BK515.out 3).trans rfl;have hcz103_4 : w101.cell? ⟨gb515,4,none⟩ = some (.int .i64 0):=(blk_cell BK515.out 4).trans rfl;have hcz103_5 : w101.cell? ⟨gb515,5,none⟩ = some (.int .i64 0):=(blk_cell BK515.out 5).trans rfl;have hfz103_0:=blk_frozen BK515.out 0;have hfz103_1:=blk_frozen BK515.out 1;have hfz103_2:=blk_frozen BK515.out 2;have hfz103_3:=blk_frozen BK515.out 3;have hfz103_4:=blk_frozen BK515.out 4;have hfz103_5:=blk_frozen BK515.out 5;obtain ⟨Ao104,co104,eo104⟩:=Kd.R_slice HO510.out;subst eo104))
          go_ret
          exact ⟨by first | rfl | (simp [errW_none,errW_some] <;> rfl) | (simp [*,errW_none,errW_some] <;> rfl),by repeat (first | (with_reducible first | exact HB.out | apply below_alloc | apply pw_below_drewN | apply below_drew1 | refine below_set ?_ GE505.out | refine below_set ?_ GE515.out) | exact HB.out)⟩
    · rw [if_neg c5] at H
      exact absurd H (by simp)
def humuslaw04_RowDecodes.Pure : Prop:=∀ (l0 : List Int),l0.length ≤ maxLen → l0.length * 1 ≤ 140737488351232 → (∀ x ∈ l0,(Lit.int .u8 x).wf = true) → ∃ k,humuslaw04_RowDecodes.f k l0 = some true
theorem humuslaw04_RowDecodes.walk (P : humuslaw04_RowDecodes.Pure) (a0 : Option Addr) (len0 cap0 : Nat) (z0 : List Int) (w : World) (w0 : (a0 = none ∧ len0 = 0 ∧ cap0 = 0 ∧ z0 = []) ∨ ∃ x,a0 = some x ∧ len0 ≤ cap0 ∧ cap0 ≤ maxLen ∧ z0.length = cap0 ∧ (∀ i,i < z0.length → w.cell? (x.add i) = some (.int .u8 (z0.getD i 0))) ∧ ∀ n ∈ z0,(Lit.int .u8 n).wf = true) (y0 : len0 * 1 ≤ 140737488351232) :
    Calls Try.prog 7 #[.slice a0 len0 cap0] w fun e w' => e = .returned (.bool true) ∧ Below w.heap.size w w':=by
  obtain ⟨l0,rfl,hr0,hm0,hw0,hc0⟩:=ReadsInt.ofRowC w0
  obtain ⟨k,h⟩:=P l0 hm0 y0 hw0
  refine (humuslaw04_RowDecodes.calls k _ _ l0 true w (Kd.C_of_reads (d:=(0 : Int)) (h1:=fun _ => rfl) hr0) hc0 h).mono ?_
  rintro e w' ⟨rfl,hd⟩
  exact ⟨rfl,hd⟩
end Go.Proofs.Ytdcllbhkjcdnoaa.P
set_option linter.unusedVariables false
set_option linter.unusedSimpArgs false
namespace Go.Proofs.Ytdcllbhkjcdnoaa.P
open Go.RowKit Go.Proofs.Ytdcllbhkjcdnoaa Go.Proofs.Ytdcllbhkjcdnoaa.Mem Go.Proofs.YtdcllbhkjcdnoaaW.PrintWords Go.Proofs.YtdcllbhkjcdnoaaW.PrintLast Go.Proofs.YtdcllbhkjcdnoaaW.PrintMore
def valsB (co : List Nat) : Bool := co.all (fun x => decide (x = Flt.val x))
theorem any_bad (co : List Nat) : co.any badC = !valsB co := by
  unfold valsB
  induction co with
  | nil => rfl
  | cons x co ih =>
    rw [List.any_cons, List.all_cons, ih, Bool.not_and]
    congr 1
    unfold badC
    congr 1
    by_cases h : x = Flt.val x
    · rw [decide_eq_true h, beq_iff_eq]; exact congrArg _ h
    · rw [decide_eq_false h, beq_eq_false_iff_ne]; omega
def mayRow (ke : Nat) (de : Bool) (co : List Nat) (wr ce no : Int) : Bool :=
  decide (ke = Flt.key ke) && decide (co.length ≤ 4) && !(de && decide (0 < co.length)) && valsB co && (decide (0 ≤ wr) && decide (wr ≤ 2147483647)) && (decide (0 ≤ ce) && decide (ce < 65536)) && (decide (0 ≤ no) && decide (no ≤ 2147483647)) && (decide (0 < ce) || decide (no = 0))
theorem mayRow_iff {ke : Nat} {de : Bool} {co : List Nat} {wr ce no : Int} : mayRow ke de co wr ce no = true ↔ ke = Flt.key ke ∧ co.length ≤ 4 ∧ (de = true → co.length = 0) ∧ valsB co = true ∧ (0 ≤ wr ∧ wr ≤ 2147483647) ∧ (0 ≤ ce ∧ ce < 65536) ∧ (0 ≤ no ∧ no ≤ 2147483647) ∧ (0 < ce ∨ no = 0) := by
  unfold mayRow
  cases de <;> simp [and_assoc] <;> omega
theorem same_nat (x y : Nat) : ((x : Int) == (y : Int)) = decide (x = y) := by
  by_cases h : x = y
  · rw [decide_eq_true h, beq_iff_eq]; exact congrArg _ h
  · rw [decide_eq_false h, beq_eq_false_iff_ne]; omega
theorem row_Check_ev {k : Nat} (hk : 2 ≤ k) {ke : Nat} {de : Bool} {co : List Nat} {wr ce no : Int} (hl : co.length ≤ 1000000) : row_Check.f k ke de co wr ce no = some (if mayRow ke de co wr ce no = true then 0 else 1) := by
  obtain ⟨k, rfl⟩ : ∃ m, k = m + 2 := ⟨k - 2, by omega⟩
  unfold row_Check.f containsFunc_row_Check_1.f num_Key.f num_Same.f
  rw [if_pos hl]
  simp only [Option.bind_some, any_bad, same_nat]
  by_cases hm : mayRow ke de co wr ce no = true
  · rw [if_pos hm]
    obtain ⟨h1, h2, h3, h4, h5, h6, h7, h8⟩ := mayRow_iff.1 hm
    rw [if_neg (by rw [h4]; decide), if_pos (by simpa using h1), if_neg (by omega)]
    have hj : row_Check.j0 (k + 2) false ke de co wr ce no = some 0 := by
      simp only [row_Check.j0, row_Check.j1]
      rw [if_neg (by decide), if_neg (by omega), if_neg (by omega), if_neg (by omega), if_neg (by simp; omega), if_neg (by omega), if_neg (by omega)]
      split
      · rw [if_neg (by omega)]
      · rfl
    cases de with
    | true =>
      rw [if_pos rfl]
      rw [show decide ((co.length : Int) > 0) = false from decide_eq_false (by have := h3 rfl; omega)]
      exact hj
    | false => rw [if_neg (by decide)]; exact hj
  · rw [if_neg hm]
    have hT : ∀ co wr, row_Check.j0 (k + 2) true ke de co wr ce no = some 1 := fun co wr => by simp only [row_Check.j0, if_true]
    by_cases h4 : valsB co = true
    · rw [if_neg (by rw [h4]; decide)]
      by_cases h1 : ke = Flt.key ke
      · rw [if_pos (by simpa using h1)]
        by_cases h2 : co.length ≤ 4
        · rw [if_neg (by omega)]
          have hF : ∀ b : Bool, (b = false → ¬((0 ≤ wr ∧ wr ≤ 2147483647) ∧ (0 ≤ ce ∧ ce < 65536) ∧ (0 ≤ no ∧ no ≤ 2147483647) ∧ (0 < ce ∨ no = 0))) → row_Check.j0 (k + 2) b ke de co wr ce no = some 1 := by
            intro b hb
            cases b with
            | true => exact hT _ _
            | false =>
              have hb := hb rfl
              simp only [row_Check.j0, row_Check.j1]
              rw [if_neg (by decide)]
              by_cases a1 : wr < 0
              · rw [if_pos a1]; rfl
              rw [if_neg a1]
              by_cases a2 : wr > 2147483647
              · rw [if_pos a2]; rfl
              rw [if_neg a2]
              by_cases a3 : ce < 0
              · rw [if_pos a3]; rfl
              rw [if_neg a3]
              by_cases a4 : ce ≥ 65536
              · rw [if_pos (by simpa using a4)]
              rw [if_neg (by simpa using a4)]
              by_cases a5 : no < 0
              · rw [if_pos a5]
              rw [if_neg a5]
              by_cases a6 : no > 2147483647
              · rw [if_pos a6]
              rw [if_neg a6]
              by_cases a7 : ce = 0
              · rw [if_pos a7, if_pos (by omega)]
              · exfalso; omega
          cases de with
          | true =>
            rw [if_pos rfl]
            refine hF _ (fun hb => ?_)
            have h0 : co.length = 0 := by have := of_decide_eq_false hb; omega
            intro h
            exact hm (mayRow_iff.2 ⟨h1, h2, fun _ => h0, h4, h.1, h.2.1, h.2.2.1, h.2.2.2⟩)
          | false =>
            rw [if_neg (by decide)]
            refine hF _ (fun _ h => hm (mayRow_iff.2 ⟨h1, h2, fun e => by (cases e), h4, h.1, h.2.1, h.2.2.1, h.2.2.2⟩))
        · rw [if_pos (by omega)]; exact hT _ _
      · rw [if_neg (by simpa using h1)]; exact hT _ _
    · rw [if_pos (by simpa using h4)]; exact hT _ _
theorem valsB_take {co : List Nat} {i : Nat} (hi : i < co.length) : valsB (co.drop i) = (decide (rdF co i = Flt.val (rdF co i)) && valsB (co.drop (i + 1))) := by
  rw [rdF_of (List.getElem?_eq_getElem hi)]
  rw [List.drop_eq_getElem_cons hi]
  rfl
theorem May04_loop (ke : Nat) (de : Bool) (co : List Nat) (wr ce no : Int) (hl : co.length ≤ 1000000) : ∀ (d i k : Nat), i ≤ co.length → co.length - i = d → d < k → humusref04_May.l0 k (i : Int) ke de co wr ce no = some (valsB (co.drop i) && (decide (0 ≤ wr) && decide (wr ≤ 2147483647)) && (decide (0 ≤ ce) && decide (ce < 65536)) && (decide (0 ≤ no) && decide (no ≤ 2147483647)) && (decide (0 < ce) || decide (no = 0))) := by
  intro d
  induction d with
  | zero =>
    intro i k hi hd hk
    obtain ⟨k, rfl⟩ : ∃ m, k = m + 1 := ⟨k - 1, by omega⟩
    obtain rfl : i = co.length := by omega
    simp only [humusref04_May.l0]
    rw [if_neg (by omega), List.drop_length]
    rw [show valsB [] = true from rfl, Bool.true_and]
    by_cases a1 : wr ≥ 0
    · rw [if_pos a1]
      by_cases a2 : wr < 2147483648
      · rw [if_pos a2]
        by_cases a3 : ce ≥ 0
        · rw [if_pos a3]
          by_cases a4 : ce < 65536
          · rw [if_pos a4]
            by_cases a5 : no ≥ 0
            · rw [if_pos a5]
              by_cases a6 : no < 2147483648
              · rw [if_pos a6]
                by_cases a7 : ce > 0
                · rw [if_pos a7]; congr 1; symm; simp; omega
                · rw [if_neg a7]; congr 1
                  by_cases a8 : no = 0
                  · rw [beq_iff_eq.2 a8]; symm; simp; omega
                  · rw [beq_eq_false_iff_ne.2 a8]; symm; simp; omega
              · rw [if_neg a6]; congr 1; symm; simp; omega
            · rw [if_neg a5]; congr 1; symm; simp; omega
          · rw [if_neg a4]; congr 1; symm; simp; omega
        · rw [if_neg a3]; congr 1; symm; simp; omega
      · rw [if_neg a2]; congr 1; symm; simp; omega
    · rw [if_neg a1]; congr 1; symm; simp; omega
  | succ d ih =>
    intro i k hi hd hk
    obtain ⟨k, rfl⟩ : ∃ m, k = m + 1 := ⟨k - 1, by omega⟩
    have hlt : i < co.length := by omega
    simp only [humusref04_May.l0]
    rw [if_pos (by omega), if_pos (by omega), valsB_take hlt]
    unfold humusref01_Value.f
    simp only [Option.bind_some]
    by_cases hv : rdF co i = Flt.val (rdF co i)
    · rw [if_pos (by exact congrArg _ hv), decide_eq_true hv, Bool.true_and]
      rw [show wrap64 ((i : Int) + 1) = ((i + 1 : Nat) : Int) by unfold wrap64; omega]
      exact ih (i + 1) k (by omega) (by omega) (by omega)
    · rw [if_neg (by omega), decide_eq_false hv]; rfl
theorem May04_ev {k : Nat} {ke : Nat} {de : Bool} {co : List Nat} {wr ce no : Int} (hk : co.length + 2 ≤ k) (hx : ke < 18446744073709551616) (hl : co.length ≤ 1000000) : humusref04_May.f k ke de co wr ce no = some (mayRow ke de co wr ce no) := by
  obtain ⟨k, rfl⟩ : ∃ m, k = m + 1 := ⟨k - 1, by omega⟩
  have hL := May04_loop ke de co wr ce no hl co.length 0 k (by omega) (by omega) (by omega)
  rw [List.drop_zero] at hL
  unfold humusref04_May.f humusref01_Key.f mayRow
  rw [if_pos hx]
  simp only [Option.bind_some, humusref04_May.j0]
  have hL2 : humusref04_May.l0 k 0 ke de co wr ce no = _ := hL
  by_cases h1 : ke = Flt.key ke
  · rw [if_pos (by exact congrArg _ h1), decide_eq_true h1]
    by_cases h2 : co.length ≤ 4
    · rw [if_neg (by omega), decide_eq_true h2, hL2]
      cases de with
      | true =>
        rw [if_pos rfl]
        by_cases h3 : 0 < co.length
        · rw [show decide ((co.length : Int) > 0) = true from decide_eq_true (by omega), if_pos rfl]; simp [h3]
        · rw [show decide ((co.length : Int) > 0) = false from decide_eq_false (by omega), if_neg (by decide)]; simp [h3]
      | false => rw [if_neg (by decide), if_neg (by decide)]; simp
    · rw [if_pos (by omega)]; simp [h2]
  · rw [if_neg (fun e => h1 (by exact_mod_cast e))]; simp [h1]
theorem List01_loop (l m : List Nat) (hlm : l.length = m.length) (hl : l.length ≤ 1000000) : ∀ (d i k : Nat), i ≤ l.length → l.length - i = d → d < k → humusref01_List.l0 k l m (i : Int) = some (decide (l.drop i = m.drop i)) := by
  intro d
  induction d with
  | zero =>
    intro i k hi hd hk
    obtain ⟨k, rfl⟩ : ∃ m, k = m + 1 := ⟨k - 1, by omega⟩
    obtain rfl : i = l.length := by omega
    simp only [humusref01_List.l0]
    rw [if_neg (by omega), List.drop_length, hlm, List.drop_length]
    rfl
  | succ d ih =>
    intro i k hi hd hk
    obtain ⟨k, rfl⟩ : ∃ m, k = m + 1 := ⟨k - 1, by omega⟩
    have hlt : i < l.length := by omega
    have hlt2 : i < m.length := by omega
    simp only [humusref01_List.l0]
    rw [List.drop_eq_getElem_cons hlt, List.drop_eq_getElem_cons hlt2]
    unfold humusref01_Same.f
    simp only [Option.bind_some, same_nat, rdF_of (List.getElem?_eq_getElem hlt), rdF_of (List.getElem?_eq_getElem hlt2)]
    rw [if_pos (by omega), if_pos (by omega), if_pos (by omega)]
    by_cases hv : l[i] = m[i]
    · rw [if_pos (by simpa using hv)]
      rw [show wrap64 ((i : Int) + 1) = ((i + 1 : Nat) : Int) by unfold wrap64; omega]
      rw [ih (i + 1) k (by omega) (by omega) (by omega)]
      congr 1
      rw [decide_eq_decide, List.cons.injEq]
      exact ⟨fun h => ⟨hv, h⟩, fun h => h.2⟩
    · rw [if_neg (by simpa using hv)]
      congr 1
      symm
      rw [decide_eq_false_iff_not, List.cons.injEq]
      exact fun h => hv h.1
theorem List01_ev {k : Nat} {l m : List Nat} (hk : l.length + 1 ≤ k) (hl : l.length ≤ 1000000) : humusref01_List.f k l m = some (decide (l = m)) := by
  unfold humusref01_List.f
  by_cases h : l.length = m.length
  · rw [if_pos (by omega)]
    have := List01_loop l m h hl l.length 0 k (by omega) (by omega) (by omega)
    rw [List.drop_zero, List.drop_zero] at this
    exact this
  · rw [if_neg (by omega)]
    congr 1
    symm
    rw [decide_eq_false_iff_not]
    exact fun e => h (by rw [e])
def sameRow (ke : Nat) (de : Bool) (co : List Nat) (wr ce no : Int) (ke' : Nat) (de' : Bool) (co' : List Nat) (wr' ce' no' : Int) : Bool :=
  decide (ke = ke' ∧ de = de' ∧ co = co' ∧ wr = wr' ∧ ce = ce' ∧ no = no')
theorem same_chain {ke : Nat} {de : Bool} {co : List Nat} {wr ce no : Int} {ke' : Nat} {de' : Bool} {co' : List Nat} {wr' ce' no' : Int} :
    (if decide (ke = ke') = true then (if (de == de') = true then (if wr = wr' then (if (ce == ce' && (no == no')) = true then some (decide (co = co')) else some false) else some false) else some false) else some false) = some (sameRow ke de co wr ce no ke' de' co' wr' ce' no') := by
  unfold sameRow
  by_cases a1 : ke = ke'
  · rw [if_pos (by simpa using a1)]
    by_cases a2 : de = de'
    · rw [if_pos (by simpa using a2)]
      by_cases a3 : wr = wr'
      · rw [if_pos a3]
        by_cases a4 : ce = ce' ∧ no = no'
        · rw [if_pos (by simpa using a4)]; congr 1; rw [decide_eq_decide]; constructor
          · intro h; exact ⟨a1, a2, h, a3, a4⟩
          · intro h; exact h.2.2.1
        · rw [if_neg (by simpa using a4)]; congr 1; symm; rw [decide_eq_false_iff_not]; exact fun h => a4 h.2.2.2.2
      · rw [if_neg a3]; congr 1; symm; rw [decide_eq_false_iff_not]; exact fun h => a3 h.2.2.2.1
    · rw [if_neg (by simpa using a2)]; congr 1; symm; rw [decide_eq_false_iff_not]; exact fun h => a2 h.2.1
  · rw [if_neg (by simpa using a1)]; congr 1; symm; rw [decide_eq_false_iff_not]; exact fun h => a1 h.1
theorem row_Same_ev {ke : Nat} {de : Bool} {co : List Nat} {wr ce no : Int} {ke' : Nat} {de' : Bool} {co' : List Nat} {wr' ce' no' : Int} (hl : co.length ≤ 1000000) : row_Same.f ke de co wr ce no ke' de' co' wr' ce' no' = some (sameRow ke de co wr ce no ke' de' co' wr' ce' no') := by
  unfold row_Same.f num_Same.f equalFunc_num_Same.f
  simp only [Option.bind_some, same_nat, if_pos hl]
  exact same_chain
theorem Same04_ev {k : Nat} {ke : Nat} {de : Bool} {co : List Nat} {wr ce no : Int} {ke' : Nat} {de' : Bool} {co' : List Nat} {wr' ce' no' : Int} (hk : co.length + 1 ≤ k) (hl : co.length ≤ 1000000) : humusref04_Same.f k ke de co wr ce no ke' de' co' wr' ce' no' = some (sameRow ke de co wr ce no ke' de' co' wr' ce' no') := by
  unfold humusref04_Same.f humusref01_Same.f
  simp only [Option.bind_some, same_nat, List01_ev hk hl]
  exact same_chain
theorem sameRow_self (ke : Nat) (de : Bool) (co : List Nat) (wr ce no : Int) : sameRow ke de co wr ce no ke de co wr ce no = true := decide_eq_true ⟨rfl, rfl, rfl, rfl, rfl, rfl⟩
end Go.Proofs.Ytdcllbhkjcdnoaa.P
set_option linter.unusedVariables false
set_option linter.unusedSimpArgs false
namespace Go.Proofs.Ytdcllbhkjcdnoaa.Pac
open Go.RowKit Go.Proofs.Ytdcllbhkjcdnoaa Go.Proofs.Ytdcllbhkjcdnoaa.Mem Go.Proofs.YtdcllbhkjcdnoaaW.PrintWords Go.Proofs.YtdcllbhkjcdnoaaW.PrintLast Go.Proofs.YtdcllbhkjcdnoaaW.PrintMore
theorem nil_str : (⟨#[]⟩ : ByteArray).toList = [] := by kernel_rfl
theorem item1_spec {b : List Int} {p q : Nat} {k : Int} {a : It} (hb : Bytes b) (h : item1 b p k = some (a, q)) (hk : 1 ≤ k ∧ k ≤ 5) :
    p ≤ q ∧ q ≤ b.length ∧ a.k = k ∧ may a = true ∧ norm a = a ∧ a.x < 18446744073709551616 ∧ one a = (b.drop p).take (q - p) := by
  have hx := item1_x hb h
  have hq := item1_le h
  have hv0 := val0
  unfold item1 at h
  split at h
  · rename_i hk4
    split at h
    · rename_i h1
      injection h with h; injection h with h2 h3
      subst h2 h3
      refine ⟨by omega, hq, hk4.symm, ?_, ?_, hx, ?_⟩
      · rw [may_4, nil_str]; rfl
      · unfold norm; simp only [h1.2]
      · have := rt4 hb h1.1
        rw [decide_eq_true h1.2] at this
        rw [of_decide_eq_true this, show p + 8 - p = 8 by omega]
    · cases h
  · split at h
    · rename_i hk4 hk5
      split at h
      · rename_i h1
        injection h with h; injection h with h2 h3
        subst h2 h3
        have hn := num_bd ((hb.drop p).take 1)
        have hl1 : ((b.drop p).take 1).length = 1 := by rw [List.length_take, List.length_drop]; omega
        rw [hl1] at hn
        have hm : num ((b.drop p).take 1) = (((num ((b.drop p).take 1)).toNat : Nat) : Int) := by omega
        generalize (num ((b.drop p).take 1)).toNat = m at *
        have hsz : (strOfNums ((b.drop (p + 1)).take m)).size = m := by rw [size_strOf, List.length_take, List.length_drop]; omega
        refine ⟨by omega, hq, hk5.symm, ?_, ?_, hx, ?_⟩
        · rw [may_5, hsz]; simp; omega
        · unfold norm; simp only [hv0]
        · rw [rt5 hb h1.2 hm, show p + 1 + m - p = 1 + m by omega]
      · cases h
    · rename_i hk4 hk5
      split at h
      · rename_i h1
        injection h with h; injection h with h2 h3
        subst h2 h3
        have hk3 : k = 1 ∨ k = 2 ∨ k = 3 := by omega
        refine ⟨by omega, hq, rfl, h1.2, ?_, hx, ?_⟩
        · unfold norm; simp only [hv0]
        · have hw : wid k = (((wid k).toNat : Nat) : Int) := by unfold wid; rcases hk3 with rfl | rfl | rfl <;> rfl
          rw [rt3 hb h1.1 hk3 hw, show p + (wid k).toNat - p = (wid k).toNat by omega]
      · cases h
theorem takes_spec {b : List Int} (hb : Bytes b) : ∀ (ks : List Int) (p r : Nat) (l : List It), p ≤ b.length → kindsOk ks = true → takes b p ks = some (l, r) →
    p ≤ r ∧ r ≤ b.length ∧ l.map (·.k) = ks ∧ (∀ a ∈ l, may a = true) ∧ l.map norm = l ∧ (∀ a ∈ l, a.x < 18446744073709551616) ∧ ones l = (b.drop p).take (r - p) := by
  intro ks
  induction ks with
  | nil =>
    intro p r l hp _ h
    simp only [takes] at h
    injection h with h; injection h with h1 h2
    subst h1 h2
    exact ⟨Nat.le_refl _, hp, rfl, (fun a h => by cases h), rfl, (fun a h => by cases h), by simp [ones]⟩
  | cons k ks ih =>
    intro p r l hp hks h
    simp only [takes] at h
    split at h
    · cases h
    rename_i a q hi
    split at h
    · cases h
    rename_i m r' ht
    injection h with h; injection h with h1 h2
    subst h1 h2
    unfold kindsOk at hks
    rw [List.all_cons, Bool.and_eq_true] at hks
    have hk1 : 1 ≤ k ∧ k ≤ 5 := by simpa using hks.1
    obtain ⟨a1, a2, a3, a4, a5, a6, a7⟩ := item1_spec hb hi hk1
    obtain ⟨b1, b2, b3, b4, b5, b6, b7⟩ := ih q r' m a2 hks.2 ht
    refine ⟨by omega, b2, by rw [List.map_cons, a3, b3], ?_, by rw [List.map_cons, a5, b5], ?_, ?_⟩
    · intro x hx; rcases List.mem_cons.1 hx with rfl | hx
      · exact a4
      · exact b4 x hx
    · intro x hx; rcases List.mem_cons.1 hx with rfl | hx
      · exact a6
      · exact b6 x hx
    · unfold ones at b7 ⊢
      rw [List.flatMap_cons, a7, b7]
      rw [show r' - p = (q - p) + (r' - q) by omega, ← List.take_append_drop (q - p) ((b.drop p).take ((q - p) + (r' - q)))]
      rw [List.take_take, Nat.min_eq_left (by omega), List.drop_take, List.drop_drop, show p + (q - p) = q by omega, show (q - p) + (r' - q) - (q - p) = r' - q by omega]
theorem takes_len {ks : List Int} {b : List Int} {p r : Nat} {l : List It} (hb : Bytes b) (hp : p ≤ b.length) (hks : kindsOk ks = true) (h : takes b p ks = some (l, r)) : l.length = ks.length := by
  have := (takes_spec hb ks p r l hp hks h).2.2.1
  rw [← this, List.length_map]
theorem form123 {a : It} (h : may a = true) (hk : a.k = 1 ∨ a.k = 2 ∨ a.k = 3) : a = ⟨a.k, a.n, 0, ⟨#[]⟩⟩ ∧ 0 ≤ a.n ∧ a.n ≤ lim a.k := by
  obtain ⟨k, n, x, s⟩ := a
  rcases hk with rfl | rfl | rfl
  · rw [may_1] at h
    simp only [Bool.and_eq_true, decide_eq_true_eq, beq_iff_eq] at h
    obtain ⟨⟨⟨h1, h2⟩, h3⟩, h4⟩ := h
    rw [sz0 h4, show x = 0 by omega]
    exact ⟨rfl, h1, by show n ≤ 255; omega⟩
  · rw [may_2] at h
    simp only [Bool.and_eq_true, decide_eq_true_eq, beq_iff_eq] at h
    obtain ⟨⟨⟨h1, h2⟩, h3⟩, h4⟩ := h
    rw [sz0 h4, show x = 0 by omega]
    exact ⟨rfl, h1, by show n ≤ 65535; omega⟩
  · rw [may_3] at h
    simp only [Bool.and_eq_true, decide_eq_true_eq, beq_iff_eq] at h
    obtain ⟨⟨⟨h1, h2⟩, h3⟩, h4⟩ := h
    rw [sz0 h4, show x = 0 by omega]
    exact ⟨rfl, h1, by show n ≤ 2147483647; omega⟩
theorem form4 {a : It} (h : may a = true) (hk : a.k = 4) : a = ⟨4, 0, a.x, ⟨#[]⟩⟩ := by
  obtain ⟨k, n, x, s⟩ := a
  simp only at hk
  subst hk
  rw [may_4] at h
  simp only [Bool.and_eq_true, beq_iff_eq] at h
  rw [sz0 h.2, h.1]
theorem ones_append (l m : List It) : ones (l ++ m) = ones l ++ ones m := by unfold ones; rw [List.flatMap_append]
end Go.Proofs.Ytdcllbhkjcdnoaa.Pac
set_option linter.unusedVariables false
set_option linter.unusedSimpArgs false
namespace Go.Proofs.Ytdcllbhkjcdnoaa.P
open Go.RowKit Go.Proofs.Ytdcllbhkjcdnoaa Go.Proofs.Ytdcllbhkjcdnoaa.Mem Go.Proofs.Ytdcllbhkjcdnoaa.Pac Go.Proofs.YtdcllbhkjcdnoaaW.PrintWords Go.Proofs.YtdcllbhkjcdnoaaW.PrintLast Go.Proofs.YtdcllbhkjcdnoaaW.PrintMore
def headIt (ke : Nat) (d wr ce no n : Int) : List It := [⟨1, d, 0, ⟨#[]⟩⟩, ⟨4, 0, ke, ⟨#[]⟩⟩, ⟨3, wr, 0, ⟨#[]⟩⟩, ⟨2, ce, 0, ⟨#[]⟩⟩, ⟨3, no, 0, ⟨#[]⟩⟩, ⟨1, n, 0, ⟨#[]⟩⟩]
def colIt (co : List Nat) : List It := co.map (fun x => ⟨4, 0, x, ⟨#[]⟩⟩)
def dN (de : Bool) : Int := if de = true then 1 else 0
def rowIt (ke : Nat) (de : Bool) (co : List Nat) (wr ce no : Int) : List It := headIt ke (dN de) wr ce no (co.length : Int) ++ colIt co
theorem mem6 {α : Type} {P : α → Prop} {a b c d e f : α} (ha : P a) (hb : P b) (hc : P c) (hd : P d) (he : P e) (hf : P f) : ∀ x ∈ [a, b, c, d, e, f], P x := by
  intro x hx
  simp only [List.mem_cons, List.not_mem_nil, or_false] at hx
  rcases hx with rfl | rfl | rfl | rfl | rfl | rfl <;> assumption
theorem head_may {ke : Nat} {d wr ce no n : Int} (h1 : 0 ≤ d ∧ d < 256) (h2 : 0 ≤ wr ∧ wr ≤ 2147483647) (h3 : 0 ≤ ce ∧ ce < 65536) (h4 : 0 ≤ no ∧ no ≤ 2147483647) (h5 : 0 ≤ n ∧ n < 256) : ∀ a ∈ headIt ke d wr ce no n, may a = true := by
  refine mem6 ?_ ?_ ?_ ?_ ?_ ?_
  · rw [may_1, nil_str]; simp; exact h1
  · rw [may_4, nil_str]; rfl
  · rw [may_3, nil_str]; simp; omega
  · rw [may_2, nil_str]; simp; exact h3
  · rw [may_3, nil_str]; simp; omega
  · rw [may_1, nil_str]; simp; exact h5
theorem col_may (co : List Nat) : ∀ a ∈ colIt co, may a = true := by
  intro a ha
  obtain ⟨x, _, rfl⟩ := List.mem_map.1 ha
  rw [may_4, nil_str]; rfl
theorem dN_bd (de : Bool) : 0 ≤ dN de ∧ dN de < 256 := by cases de <;> decide
theorem rowIt_may {ke : Nat} {de : Bool} {co : List Nat} {wr ce no : Int} (h : mayRow ke de co wr ce no = true) : ∀ a ∈ rowIt ke de co wr ce no, may a = true := by
  obtain ⟨h1, h2, h3, h4, h5, h6, h7, h8⟩ := mayRow_iff.1 h
  intro a ha
  rcases List.mem_append.1 ha with ha | ha
  · exact head_may (dN_bd de) h5 h6 h7 (by omega) a ha
  · exact col_may co a ha
theorem rowIt_x {ke : Nat} {de : Bool} {co : List Nat} {wr ce no : Int} (hk : ke < 18446744073709551616) (hc : ∀ x ∈ co, x < 18446744073709551616) : ∀ a ∈ rowIt ke de co wr ce no, a.x < 18446744073709551616 := by
  intro a ha
  rcases List.mem_append.1 ha with ha | ha
  · exact mem6 (P := fun a => a.x < 18446744073709551616) (show 0 < 18446744073709551616 by decide) hk (show 0 < 18446744073709551616 by decide) (show 0 < 18446744073709551616 by decide) (show 0 < 18446744073709551616 by decide) (show 0 < 18446744073709551616 by decide) a ha
  · obtain ⟨x, hx, rfl⟩ := List.mem_map.1 ha
    exact hc x hx
theorem val_of_key {x : Nat} (h : x = Flt.key x) : Flt.val x = x := by
  unfold Flt.key at h
  split at h
  · subst h; exact val0
  · exact h.symm
theorem rowIt_norm {ke : Nat} {de : Bool} {co : List Nat} {wr ce no : Int} (h : mayRow ke de co wr ce no = true) : (rowIt ke de co wr ce no).map norm = rowIt ke de co wr ce no := by
  obtain ⟨h1, h2, h3, h4, h5, h6, h7, h8⟩ := mayRow_iff.1 h
  unfold rowIt
  rw [List.map_append]
  congr 1
  · unfold headIt norm
    simp only [List.map_cons, List.map_nil, val0, val_of_key h1]
  · unfold colIt
    rw [List.map_map]
    refine List.map_congr_left (fun x hx => ?_)
    have hv := of_decide_eq_true ((List.all_eq_true.1 h4) x hx)
    show (⟨4, 0, Flt.val x, ⟨#[]⟩⟩ : It) = _
    rw [← hv]
def headS (ke : Nat) (d wr ce no n : Int) : List SIt := [⟨1, d, 0, ⟨#[]⟩⟩, ⟨4, 0, ke, ⟨#[]⟩⟩, ⟨3, wr, 0, ⟨#[]⟩⟩, ⟨2, ce, 0, ⟨#[]⟩⟩, ⟨3, no, 0, ⟨#[]⟩⟩, ⟨1, n, 0, ⟨#[]⟩⟩]
def colS (co : List Nat) : List SIt := co.map (fun x => ⟨4, 0, x, ⟨#[]⟩⟩)
theorem rowS_it (ke : Nat) (de : Bool) (co : List Nat) (wr ce no : Int) : (headS ke (dN de) wr ce no (co.length : Int) ++ colS co).map itOf = rowIt ke de co wr ce no := by
  rw [List.map_append]
  unfold rowIt colS colIt
  rw [List.map_map]
  rfl
theorem bd_of {l : List SIt} (h : ∀ a ∈ l.map itOf, a.x < 18446744073709551616) : bdX l = true := by
  unfold bdX
  rw [List.all_eq_true]
  intro x hx
  exact decide_eq_true (h (itOf x) (List.mem_map.2 ⟨x, hx, rfl⟩))
theorem put_rows {l : List SIt} (hl : l.length ≤ 1000) (hm : ∀ a ∈ l.map itOf, may a = true) (hx : ∀ a ∈ l.map itOf, a.x < 18446744073709551616) : pack_Put.f l = some (ones (l.map itOf), 0) ∧ humusref03_Put.f l = some (ones (l.map itOf), true) := by
  have ha : (l.map itOf).all may = true := by rw [List.all_eq_true]; exact hm
  unfold pack_Put.f humusref03_Put.f
  have hb : l.length ≤ 1000 ∧ bdX l = true := ⟨hl, bd_of hx⟩
  rw [if_pos hb, if_pos hb, ha, if_pos rfl]
  exact ⟨rfl, rfl⟩
theorem colS_drop {co : List Nat} {i : Nat} (hi : i < co.length) : colS (co.drop i) = ⟨4, 0, rdF co i, ⟨#[]⟩⟩ :: colS (co.drop (i + 1)) := by
  rw [rdF_of (List.getElem?_eq_getElem hi), List.drop_eq_getElem_cons hi]
  rfl
theorem enc_l1 (co : List Nat) (hl : co.length ≤ 1000) (r : List Int × Int) : ∀ (d i k : Nat) (xs : List SIt), i + d = co.length → d < k → xs.length + d ≤ 2000 → pack_Put.f (xs ++ colS (co.drop i)) = some r → row_Encode.l1 k xs co (co.length : Int) (i : Int) = some r := by
  intro d
  induction d with
  | zero =>
    intro i k xs hi hk hx h
    obtain ⟨k, rfl⟩ : ∃ m, k = m + 1 := ⟨k - 1, by omega⟩
    obtain rfl : i = co.length := by omega
    simp only [row_Encode.l1]
    rw [if_neg (by omega)]
    rw [List.drop_length, show colS [] = [] from rfl, List.append_nil] at h
    rw [h]; rfl
  | succ d ih =>
    intro i k xs hi hk hx h
    obtain ⟨k, rfl⟩ : ∃ m, k = m + 1 := ⟨k - 1, by omega⟩
    simp only [row_Encode.l1]
    rw [if_pos (by omega), if_pos (by omega), if_pos (by omega), if_pos (by omega)]
    rw [show wrap64 ((i : Int) + 1) = ((i + 1 : Nat) : Int) by unfold wrap64; omega]
    rw [colS_drop (by omega), List.append_cons] at h
    exact ih (i + 1) k _ (by omega) (by omega) (by rw [List.length_append, List.length_singleton]; omega) h
theorem enc_l0 (k : Nat) (ke : Nat) (d wr ce no n : Int) (ke' : Nat) (de : Bool) (co : List Nat) (wr' ce' no' : Int) :
    row_Encode.l0 (k + 7) ([(⟨0, d, 0, (⟨#[]⟩ : ByteArray)⟩ : SIt), (⟨0, 0, ke, (⟨#[]⟩ : ByteArray)⟩ : SIt), (⟨0, wr, 0, (⟨#[]⟩ : ByteArray)⟩ : SIt), (⟨0, ce, 0, (⟨#[]⟩ : ByteArray)⟩ : SIt), (⟨0, no, 0, (⟨#[]⟩ : ByteArray)⟩ : SIt), (⟨0, n, 0, (⟨#[]⟩ : ByteArray)⟩ : SIt)] : List SIt) [1, 4, 3, 2, 3, 1] 6 0 ke' de co wr' ce' no' = row_Encode.l1 k (headS ke d wr ce no n) co (co.length : Int) 0 := by
  unfold headS
  have w0 : wrap64 1 = 1 := by unfold wrap64; omega
  have w1 : wrap64 2 = 2 := by unfold wrap64; omega
  have w2 : wrap64 3 = 3 := by unfold wrap64; omega
  have w3 : wrap64 4 = 4 := by unfold wrap64; omega
  have w4 : wrap64 5 = 5 := by unfold wrap64; omega
  have w5 : wrap64 6 = 6 := by unfold wrap64; omega
  simp [row_Encode.l0, w0, w1, w2, w3, w4, w5, rd, rd_T86]
theorem row_Encode_ev {k : Nat} {ke : Nat} {de : Bool} {co : List Nat} {wr ce no : Int} (hk : co.length + 20 ≤ k) (hl : co.length ≤ 900) (hx : ke < 18446744073709551616) (hc : ∀ x ∈ co, x < 18446744073709551616) :
    row_Encode.f k ke de co wr ce no = some (if mayRow ke de co wr ce no = true then (ones (rowIt ke de co wr ce no), 0) else ([], 1)) := by
  unfold row_Encode.f
  rw [row_Check_ev (by omega) (by omega)]
  simp only [Option.bind_some]
  by_cases hm : mayRow ke de co wr ce no = true
  · rw [if_pos hm, if_pos hm, if_pos rfl]
    have hlen : co.length ≤ 4 := (mayRow_iff.1 hm).2.1
    obtain ⟨k, rfl⟩ : ∃ m, k = m + 8 := ⟨k - 8, by omega⟩
    have hp := (put_rows (l := headS ke (dN de) wr ce no (co.length : Int) ++ colS co) (by rw [List.length_append]; show 6 + (co.map _).length ≤ 1000; rw [List.length_map]; omega) (by rw [rowS_it]; exact rowIt_may hm) (by rw [rowS_it]; exact rowIt_x hx hc)).1
    rw [rowS_it] at hp
    have hj : ∀ d, d = dN de → row_Encode.j0 (k + 8) d ke de co wr ce no = some (ones (rowIt ke de co wr ce no), 0) := by
      rintro d rfl
      simp only [row_Encode.j0, row_head.f, Option.bind_some]
      rw [show (([1, 4, 3, 2, 3, 1] : List Int).length : Int) = 6 from rfl, enc_l0]
      exact enc_l1 co (by omega) _ co.length 0 k _ (by omega) (by omega) (by show 6 + co.length ≤ 2000; omega) (by rw [List.drop_zero]; exact hp)
    cases de with
    | true => rw [if_pos rfl]; exact hj 1 rfl
    | false => rw [if_neg (by decide)]; exact hj 0 rfl
  · rw [if_neg hm, if_neg hm, if_neg (by decide)]
theorem byt_l0 (ke : Nat) (de : Bool) (co : List Nat) (wr ce no : Int) (hl : co.length ≤ 1000) (r : List Int × Bool) : ∀ (d i k : Nat) (xs : List SIt), i + d = co.length → d < k → xs.length + d ≤ 2000 → humusref03_Put.f (xs ++ colS (co.drop i)) = some r → humusref04_Bytes.l0 k xs (i : Int) ke de co wr ce no = some r.1 := by
  intro d
  induction d with
  | zero =>
    intro i k xs hi hk hx h
    obtain ⟨k, rfl⟩ : ∃ m, k = m + 1 := ⟨k - 1, by omega⟩
    obtain rfl : i = co.length := by omega
    simp only [humusref04_Bytes.l0]
    rw [if_neg (by omega)]
    rw [List.drop_length, show colS [] = [] from rfl, List.append_nil] at h
    rw [h]; rfl
  | succ d ih =>
    intro i k xs hi hk hx h
    obtain ⟨k, rfl⟩ : ∃ m, k = m + 1 := ⟨k - 1, by omega⟩
    simp only [humusref04_Bytes.l0]
    rw [if_pos (by omega), if_pos (by omega), if_pos (by omega)]
    rw [show wrap64 ((i : Int) + 1) = ((i + 1 : Nat) : Int) by unfold wrap64; omega]
    rw [colS_drop (by omega), List.append_cons] at h
    exact ih (i + 1) k _ (by omega) (by omega) (by rw [List.length_append, List.length_singleton]; omega) h
theorem Bytes04_ev {k : Nat} {ke : Nat} {de : Bool} {co : List Nat} {wr ce no : Int} (hk : co.length + 3 ≤ k) (hx : ke < 18446744073709551616) (hc : ∀ x ∈ co, x < 18446744073709551616) (hm : mayRow ke de co wr ce no = true) :
    humusref04_Bytes.f k ke de co wr ce no = some (ones (rowIt ke de co wr ce no)) := by
  unfold humusref04_Bytes.f
  have hlen : co.length ≤ 4 := (mayRow_iff.1 hm).2.1
  obtain ⟨k, rfl⟩ : ∃ m, k = m + 1 := ⟨k - 1, by omega⟩
  have hp := (put_rows (l := headS ke (dN de) wr ce no (co.length : Int) ++ colS co) (by rw [List.length_append]; show 6 + (co.map _).length ≤ 1000; rw [List.length_map]; omega) (by rw [rowS_it]; exact rowIt_may hm) (by rw [rowS_it]; exact rowIt_x hx hc)).2
  rw [rowS_it] at hp
  have hj : ∀ d, d = dN de → humusref04_Bytes.j0 (k + 1) d ke de co wr ce no = some (ones (rowIt ke de co wr ce no)) := by
    rintro d rfl
    simp only [humusref04_Bytes.j0]
    exact byt_l0 ke de co wr ce no (by omega) _ co.length 0 k (headS ke (dN de) wr ce no (co.length : Int)) (by omega) (by omega) (by show 6 + co.length ≤ 2000; omega) (by rw [List.drop_zero]; exact hp)
  cases de with
  | true => rw [if_pos rfl]; exact hj 1 rfl
  | false => rw [if_neg (by decide)]; exact hj 0 rfl
end Go.Proofs.Ytdcllbhkjcdnoaa.P
set_option linter.unusedVariables false
set_option linter.unusedSimpArgs false
namespace Go.Proofs.Ytdcllbhkjcdnoaa.P
open Go.RowKit Go.Proofs.Ytdcllbhkjcdnoaa Go.Proofs.Ytdcllbhkjcdnoaa.Mem Go.Proofs.Ytdcllbhkjcdnoaa.Pac Go.Proofs.YtdcllbhkjcdnoaaW.PrintWords Go.Proofs.YtdcllbhkjcdnoaaW.PrintLast Go.Proofs.YtdcllbhkjcdnoaaW.PrintMore
abbrev DecT := Nat × Bool × List Nat × Int × Int × Int × Int
def decErr : DecT := (0, false, [], 0, 0, 0, 4)
theorem dec_l0 (x0 : List Int) (x5 x6 x8 : Int) (xs : List SIt) (ke : Nat) (de : Bool) (wr ce no : Int) (hl : xs.length ≤ 900) : ∀ (d i k : Nat) (co : List Nat), i + d = xs.length → d + 3 < k → co.length + d ≤ 900 →
    row_Decode.l0 k x0 x5 x6 x8 xs (xs.length : Int) (i : Int) ke de co wr ce no = some (if x6 = 0 ∧ wrap64 (x5 + x8) = (x0.length : Int) ∧ mayRow ke de (co ++ (xs.drop i).map (·.f2)) wr ce no = true then (ke, de, co ++ (xs.drop i).map (·.f2), wr, ce, no, 0) else decErr) := by
  intro d
  induction d with
  | zero =>
    intro i k co hi hk hc
    obtain ⟨k, rfl⟩ : ∃ m, k = m + 1 := ⟨k - 1, by omega⟩
    obtain rfl : i = xs.length := by omega
    simp only [row_Decode.l0]
    rw [if_neg (by omega), List.drop_length, List.map_nil, List.append_nil]
    by_cases h6 : x6 = 0
    · rw [if_pos h6]
      by_cases h8 : wrap64 (x5 + x8) = (x0.length : Int)
      · rw [if_pos h8, row_Check_ev (by omega) (by omega)]
        simp only [Option.bind_some]
        by_cases hm : mayRow ke de co wr ce no = true
        · rw [if_pos hm, if_pos rfl, if_pos ⟨h6, h8, hm⟩]
        · rw [if_neg hm, if_neg (by decide), if_neg (fun h => hm h.2.2)]; rfl
      · rw [if_neg h8, if_neg (fun h => h8 h.2.1)]; rfl
    · rw [if_neg h6, if_neg (fun h => h6 h.1)]; rfl
  | succ d ih =>
    intro i k co hi hk hc
    obtain ⟨k, rfl⟩ : ∃ m, k = m + 1 := ⟨k - 1, by omega⟩
    have hlt : i < xs.length := by omega
    simp only [row_Decode.l0]
    rw [if_pos (by omega), if_pos (by omega), if_pos (by omega), if_pos (by omega)]
    rw [show wrap64 ((i : Int) + 1) = ((i + 1 : Nat) : Int) by unfold wrap64; omega]
    rw [ih (i + 1) k _ (by omega) (by omega) (by rw [List.length_append, List.length_singleton]; omega)]
    have e : co ++ [(rd_T86 xs (i : Int)).f2] ++ (xs.drop (i + 1)).map (·.f2) = co ++ (xs.drop i).map (·.f2) := by
      rw [List.drop_eq_getElem_cons hlt, List.map_cons, List.append_assoc]
      congr 1
      unfold rd_T86
      rw [Int.toNat_natCast, List.getD_eq_getElem?_getD, List.getElem?_eq_getElem hlt]; rfl
    rw [e]
theorem reps4 (m : Nat) : reps m [4] = List.replicate m 4 := by
  unfold reps
  induction m with
  | zero => rfl
  | succ m ih => rw [List.replicate_succ, List.flatten_cons, ih, List.replicate_succ]; rfl
theorem kinds_rep (m : Nat) : kindsOk (List.replicate m 4) = true := by
  unfold kindsOk
  rw [List.all_eq_true]
  intro x hx
  rw [List.eq_of_mem_replicate hx]; decide
theorem byB_drop {b : List Int} (h : byB b = true) (n : Nat) : byB (b.drop n) = true := byB_bytes.2 ((byB_bytes.1 h).drop n)
theorem fin_if {A : Type} {n m c : Nat} {P : Prop} [Decidable P] (x y : A) : (if (0 : Int) = 0 ∧ ((n + m : Nat) : Int) = (c : Int) ∧ P then x else y) = (if n + m = c ∧ P then x else y) := by
  by_cases h : n + m = c ∧ P
  · rw [if_pos h, if_pos ⟨rfl, by omega, h.2⟩]
  · rw [if_neg h, if_neg (fun h2 => h ⟨by omega, h2.2.2⟩)]
set_option maxHeartbeats 4000000 in
theorem dec_any {k : Nat} {b : List Int} (hk : 40 ≤ k) (hb : byB b = true) (hl : b.length ≤ 100000) :
    row_Decode.f k b = some (match takes b 0 [1, 4, 3, 2, 3, 1] with
      | some ([i0, i1, i2, i3, i4, i5], n) => if i0.n > 1 then decErr else if i5.n > 4 then decErr else
          (match takes (b.drop n) 0 (List.replicate i5.n.toNat 4) with
          | none => decErr
          | some (l2, m) => if n + m = b.length ∧ mayRow i1.x (i0.n == 1) (l2.map (·.x)) i2.n i3.n i4.n = true then (i1.x, (i0.n == 1), l2.map (·.x), i2.n, i3.n, i4.n, 0) else decErr)
      | _ => decErr) := by
  have hby := byB_bytes.1 hb
  obtain ⟨k, rfl⟩ : ∃ m, k = m + 2 := ⟨k - 2, by omega⟩
  unfold row_Decode.f row_head.f
  simp only [Option.bind_some]
  unfold pack_Take.f takeF
  rw [if_pos ⟨hb, by omega, by decide⟩]
  simp only [Option.bind_some]
  have hj : ∀ l n, row_Decode.j0 (k + 2) b l n true = some decErr := fun l n => by simp only [row_Decode.j0, if_true]; rfl
  unfold takeR
  rw [if_pos (show kindsOk [1, 4, 3, 2, 3, 1] = true by decide)]
  cases ht : takes b 0 [1, 4, 3, 2, 3, 1] with
  | none =>
    simp only
    rw [if_neg (by decide)]
    exact hj _ _
  | some p =>
    obtain ⟨l, n⟩ := p
    obtain ⟨t1, t2, t3, t4, t5, t6, t7⟩ := takes_spec hby _ _ _ _ (Nat.zero_le _) (by decide) ht
    have h6 : l.length = 6 := by rw [← List.length_map (f := (·.k)), t3]; rfl
    obtain ⟨i0, i1, i2, i3, i4, i5, rfl⟩ : ∃ a b c d e f, l = [a, b, c, d, e, f] := by
      match l, h6 with
      | [a, b, c, d, e, f], _ => exact ⟨a, b, c, d, e, f, rfl⟩
    simp only [List.map_cons, List.map_nil]
    rw [if_pos trivial]
    have r0 : rd_T86 [ofIt i0, ofIt i1, ofIt i2, ofIt i3, ofIt i4, ofIt i5] 0 = ofIt i0 := rfl
    have r1 : rd_T86 [ofIt i0, ofIt i1, ofIt i2, ofIt i3, ofIt i4, ofIt i5] 1 = ofIt i1 := rfl
    have r2 : rd_T86 [ofIt i0, ofIt i1, ofIt i2, ofIt i3, ofIt i4, ofIt i5] 2 = ofIt i2 := rfl
    have r3 : rd_T86 [ofIt i0, ofIt i1, ofIt i2, ofIt i3, ofIt i4, ofIt i5] 3 = ofIt i3 := rfl
    have r4 : rd_T86 [ofIt i0, ofIt i1, ofIt i2, ofIt i3, ofIt i4, ofIt i5] 4 = ofIt i4 := rfl
    have r5 : rd_T86 [ofIt i0, ofIt i1, ofIt i2, ofIt i3, ofIt i4, ofIt i5] 5 = ofIt i5 := rfl
    have hlen : (([ofIt i0, ofIt i1, ofIt i2, ofIt i3, ofIt i4, ofIt i5] : List SIt).length : Int) = 6 := rfl
    simp only [r0, r5, hlen]
    rw [if_pos (by decide)]
    have e0 : (ofIt i0).f1 = i0.n := rfl
    have e1 : (ofIt i1).f2 = i1.x := rfl
    have e2 : (ofIt i2).f1 = i2.n := rfl
    have e3 : (ofIt i3).f1 = i3.n := rfl
    have e4 : (ofIt i4).f1 = i4.n := rfl
    have e5 : (ofIt i5).f1 = i5.n := rfl
    rw [e0, e5]
    by_cases hn0 : i0.n > 1
    · rw [if_pos hn0, if_pos hn0]; exact hj _ _
    rw [if_neg hn0, if_neg hn0, if_pos (by decide)]
    by_cases hn5 : i5.n > 4
    · rw [if_pos hn5, decide_eq_true hn5]; exact hj _ _
    rw [if_neg hn5, decide_eq_false hn5]
    have hm5 : may i5 = true := t4 i5 (by simp)
    have hk5 : i5.k = 1 := by have := congrArg (fun z => z[5]?) t3; simpa using this
    have h5 := (form123 hm5 (.inl hk5)).2.1
    simp only [row_Decode.j0]
    rw [if_neg (by decide), if_pos (by omega), if_pos (by omega), if_pos (show (5 : Int) < (([ofIt i0, ofIt i1, ofIt i2, ofIt i3, ofIt i4, ofIt i5] : List SIt).length : Int) by rw [hlen]; decide)]
    unfold slices_Repeat_int_int.f
    simp only [r0, r1, r2, r3, r4, r5, e0, e1, e2, e3, e4, e5, hlen]
    rw [if_pos ⟨h5, by omega, by decide⟩]
    simp only [Option.bind_some]
    unfold pack_Take.f takeF
    rw [reps4]
    rw [if_pos ⟨byB_drop hb _, by rw [List.length_drop]; omega, by rw [List.length_replicate]; omega⟩]
    simp only [Option.bind_some]
    rw [if_pos (by decide), if_pos (by decide), if_pos (by decide), if_pos (by decide), if_pos (by decide)]
    unfold takeR
    rw [if_pos (kinds_rep _), Int.toNat_natCast]
    cases ht2 : takes (b.drop n) 0 (List.replicate i5.n.toNat 4) with
    | none =>
      simp only [List.map_nil]
      have := dec_l0 b (n : Int) 4 0 [] i1.x (i0.n == 1) i2.n i3.n i4.n (by decide) 0 0 (k + 1) [] rfl (by omega) (by decide)
      rw [if_neg (by intro h; exact absurd h.1 (by decide))] at this
      exact this
    | some q =>
      obtain ⟨l2, m⟩ := q
      have hs2 := takes_spec (hby.drop n) _ _ _ _ (Nat.zero_le _) (kinds_rep _) ht2
      have hl2 := takes_len (hby.drop n) (Nat.zero_le _) (kinds_rep _) ht2
      rw [List.length_replicate] at hl2
      simp only
      have := dec_l0 b (n : Int) 0 (m : Int) (l2.map ofIt) i1.x (i0.n == 1) i2.n i3.n i4.n (by rw [List.length_map]; omega) (l2.map ofIt).length 0 (k + 1) [] (by omega) (by rw [List.length_map]; omega) (by rw [List.length_map, List.length_nil]; omega)
      have ex : (l2.map ofIt).map (·.f2) = l2.map (·.x) := by rw [List.map_map]; rfl
      rw [List.drop_zero, List.nil_append, ex] at this
      rw [List.length_drop] at hs2
      have hw : wrap64 ((n : Int) + (m : Int)) = ((n + m : Nat) : Int) := by unfold wrap64; omega
      rw [hw] at this
      rw [fin_if] at this
      exact this
set_option maxHeartbeats 4000000 in
theorem dec_two {b : List Int} (hb : byB b = true) (hl : b.length ≤ 100000) : (∀ k, 40 ≤ k → row_Decode.f k b = some decErr) ∨ ∃ ke de co wr ce no, (∀ k, 40 ≤ k → row_Decode.f k b = some (ke, de, co, wr, ce, no, 0)) ∧ mayRow ke de co wr ce no = true ∧ ke < 18446744073709551616 ∧ (∀ x ∈ co, x < 18446744073709551616) ∧ b = ones (rowIt ke de co wr ce no) := by
  have hA := fun k (hk : 40 ≤ k) => dec_any hk hb hl
  have hby := byB_bytes.1 hb
  cases ht : takes b 0 [1, 4, 3, 2, 3, 1] with
  | none => rw [ht] at hA; exact .inl hA
  | some p =>
    obtain ⟨l, n⟩ := p
    obtain ⟨t1, t2, t3, t4, t5, t6, t7⟩ := takes_spec hby _ _ _ _ (Nat.zero_le _) (by decide) ht
    have h6 : l.length = 6 := by rw [← List.length_map (f := (·.k)), t3]; rfl
    obtain ⟨i0, i1, i2, i3, i4, i5, rfl⟩ : ∃ a b c d e f, l = [a, b, c, d, e, f] := by
      match l, h6 with
      | [a, b, c, d, e, f], _ => exact ⟨a, b, c, d, e, f, rfl⟩
    rw [ht] at hA
    simp only at hA
    by_cases hn0 : i0.n > 1
    · left; simp only [if_pos hn0] at hA; exact hA
    by_cases hn5 : i5.n > 4
    · left; simp only [if_neg hn0, if_pos hn5] at hA; exact hA
    simp only [if_neg hn0, if_neg hn5] at hA
    simp only [List.map_cons, List.map_nil, List.cons.injEq, and_true] at t3
    obtain ⟨k0, k1, k2, k3, k4, k5⟩ := t3
    have f0 := form123 (t4 i0 (by simp)) (.inl k0)
    have f1 := form4 (t4 i1 (by simp)) k1
    have f2 := form123 (t4 i2 (by simp)) (.inr (.inr k2))
    have f3 := form123 (t4 i3 (by simp)) (.inr (.inl k3))
    have f4 := form123 (t4 i4 (by simp)) (.inr (.inr k4))
    have f5 := form123 (t4 i5 (by simp)) (.inl k5)
    cases ht2 : takes (b.drop n) 0 (List.replicate i5.n.toNat 4) with
    | none => rw [ht2] at hA; exact .inl hA
    | some q =>
      obtain ⟨l2, m⟩ := q
      rw [ht2] at hA
      simp only at hA
      obtain ⟨s1, s2, s3, s4, s5, s6, s7⟩ := takes_spec (hby.drop n) _ _ _ _ (Nat.zero_le _) (kinds_rep _) ht2
      have hl2 := takes_len (hby.drop n) (Nat.zero_le _) (kinds_rep _) ht2
      rw [List.length_replicate] at hl2
      by_cases hc : n + m = b.length ∧ mayRow i1.x (i0.n == 1) (l2.map (·.x)) i2.n i3.n i4.n = true
      · right
        simp only [if_pos hc] at hA
        refine ⟨_, _, _, _, _, _, hA, hc.2, t6 i1 (by simp), ?_, ?_⟩
        · intro x hx
          obtain ⟨a, ha, rfl⟩ := List.mem_map.1 hx
          exact s6 a ha
        · have hcol : colIt (l2.map (·.x)) = l2 := by
            unfold colIt
            rw [List.map_map]
            conv => rhs; rw [← List.map_id l2]
            refine List.map_congr_left (fun a ha => ?_)
            have hk : a.k = 4 := by
              have : a.k ∈ l2.map (·.k) := List.mem_map.2 ⟨a, ha, rfl⟩
              rw [s3] at this
              exact List.eq_of_mem_replicate this
            exact (form4 (s4 a ha) hk).symm
          have hd : dN (i0.n == 1) = i0.n := by
            unfold dN
            have := f0.2.1
            by_cases h1 : i0.n = 1
            · rw [if_pos (by simpa using h1), h1]
            · rw [if_neg (by simpa using h1)]; omega
          have hhead : headIt i1.x (dN (i0.n == 1)) i2.n i3.n i4.n ((l2.map (·.x)).length : Int) = [i0, i1, i2, i3, i4, i5] := by
            rw [hd, List.length_map, hl2]
            have h5 := f5.2.1
            rw [Int.toNat_of_nonneg h5]
            unfold headIt
            rw [← k0, ← k1, ← k2, ← k3] at *
            rw [f0.1, f1, f2.1, f3.1, f4.1, f5.1]
            simp only [k1, k4, k5]
          unfold rowIt
          rw [hhead, hcol, ones_append, t7, s7, List.drop_zero, Nat.sub_zero, Nat.sub_zero, List.drop_zero]
          rw [List.take_of_length_le (l := b.drop n) (by rw [List.length_drop]; omega), List.take_append_drop]
      · left; simp only [if_neg hc] at hA; exact hA
end Go.Proofs.Ytdcllbhkjcdnoaa.P
set_option linter.unusedVariables false
set_option linter.unusedSimpArgs false
namespace Go.Proofs.Ytdcllbhkjcdnoaa.P
open Go.RowKit Go.Proofs.Ytdcllbhkjcdnoaa Go.Proofs.Ytdcllbhkjcdnoaa.Mem Go.Proofs.Ytdcllbhkjcdnoaa.Pac Go.Proofs.YtdcllbhkjcdnoaaW.PrintWords Go.Proofs.YtdcllbhkjcdnoaaW.PrintLast Go.Proofs.YtdcllbhkjcdnoaaW.PrintMore
theorem colIt_k (co : List Nat) : (colIt co).map (·.k) = List.replicate co.length 4 := by
  unfold colIt
  rw [List.map_map]
  induction co with
  | nil => rfl
  | cons x co ih => rw [List.map_cons, ih, List.length_cons, List.replicate_succ]; rfl
theorem colIt_x (co : List Nat) : (colIt co).map (·.x) = co := by
  unfold colIt
  rw [List.map_map]
  conv => rhs; rw [← List.map_id co]
  rfl
theorem rowIt_parts {ke : Nat} {de : Bool} {co : List Nat} {wr ce no : Int} (h : mayRow ke de co wr ce no = true) :
    (headIt ke (dN de) wr ce no (co.length : Int)).map norm = headIt ke (dN de) wr ce no (co.length : Int) ∧ (colIt co).map norm = colIt co := by
  have := rowIt_norm h
  unfold rowIt at this
  rw [List.map_append] at this
  exact List.append_inj this (by rw [List.length_map])
theorem ones_byB {l : List It} (h : ∀ a ∈ l, may a = true) : byB (ones l) = true := byB_bytes.2 (ones_bytes h)
theorem dec_row {k : Nat} {ke : Nat} {de : Bool} {co : List Nat} {wr ce no : Int} (hk : 40 ≤ k) (hm : mayRow ke de co wr ce no = true) (hx : ke < 18446744073709551616) (hc : ∀ x ∈ co, x < 18446744073709551616) :
    row_Decode.f k (ones (rowIt ke de co wr ce no)) = some (ke, de, co, wr, ce, no, 0) := by
  have hmay := rowIt_may hm
  have hxx := rowIt_x (de := de) (wr := wr) (ce := ce) (no := no) hx hc
  have hlen : co.length ≤ 4 := (mayRow_iff.1 hm).2.1
  have hll : (ones (rowIt ke de co wr ce no)).length ≤ 100000 := by
    have := ones_length hmay
    have h2 : (rowIt ke de co wr ce no).length = 6 + co.length := by
      unfold rowIt colIt
      rw [List.length_append, List.length_map]; rfl
    omega
  rw [dec_any hk (ones_byB hmay) hll]
  obtain ⟨n1, n2⟩ := rowIt_parts hm
  have hH := takes_ones (headIt ke (dN de) wr ce no (co.length : Int)) (fun a ha => hmay a (List.mem_append.2 (.inl ha))) (fun a ha => hxx a (List.mem_append.2 (.inl ha))) [] (ones (colIt co))
  rw [n1, List.nil_append, List.length_nil, Nat.zero_add] at hH
  have hC := takes_ones (colIt co) (fun a ha => hmay a (List.mem_append.2 (.inr ha))) (fun a ha => hxx a (List.mem_append.2 (.inr ha))) [] []
  rw [n2, List.nil_append, List.append_nil, List.length_nil, Nat.zero_add, colIt_k] at hC
  have hb : ones (rowIt ke de co wr ce no) = ones (headIt ke (dN de) wr ce no (co.length : Int)) ++ ones (colIt co) := by unfold rowIt; rw [ones_append]
  rw [hb]
  have hk6 : (headIt ke (dN de) wr ce no (co.length : Int)).map (·.k) = [1, 4, 3, 2, 3, 1] := rfl
  rw [hk6] at hH
  rw [hH]
  have hd : (dN de == 1) = de := by cases de <;> rfl
  have hnot : ¬ (dN de > 1) := by cases de <;> decide
  congr 1
  unfold headIt
  simp only
  rw [if_neg hnot, if_neg (by omega), Int.toNat_natCast]
  rw [List.drop_left' rfl]
  rw [hC]
  simp only
  rw [hd, colIt_x, if_pos ⟨by rw [List.length_append], hm⟩]
abbrev RDecT := Nat × Bool × List Nat × Int × Int × Int × Bool
def rdecErr : RDecT := (0, false, [], 0, 0, 0, false)
theorem rdec_l1 (x0 : List Int) (hb : byB x0 = true) (xs : List SIt) (ke : Nat) (de : Bool) (wr ce no : Int) (hl : xs.length ≤ 900) (hx : ke < 18446744073709551616) (hxs : ∀ a ∈ xs, a.f2 < 18446744073709551616) : ∀ (d i k : Nat) (co : List Nat), i + d = xs.length → d + 1010 < k → co.length + d ≤ 900 → (∀ x ∈ co, x < 18446744073709551616) →
    humusref04_Decode.l1 k x0 xs (i : Int) ke de co wr ce no = some (if mayRow ke de (co ++ (xs.drop i).map (·.f2)) wr ce no = true ∧ x0 = ones (rowIt ke de (co ++ (xs.drop i).map (·.f2)) wr ce no) then (ke, de, co ++ (xs.drop i).map (·.f2), wr, ce, no, true) else rdecErr) := by
  intro d
  induction d with
  | zero =>
    intro i k co hi hk hc hco
    obtain ⟨k, rfl⟩ : ∃ m, k = m + 1 := ⟨k - 1, by omega⟩
    obtain rfl : i = xs.length := by omega
    simp only [humusref04_Decode.l1]
    rw [if_neg (by omega), List.drop_length, List.map_nil, List.append_nil, May04_ev (by omega) hx (by omega)]
    simp only [Option.bind_some]
    by_cases hm : mayRow ke de co wr ce no = true
    · rw [if_pos hm, Bytes04_ev (by omega) hx hco hm]
      simp only [Option.bind_some]
      by_cases he : x0 = ones (rowIt ke de co wr ce no)
      · rw [if_pos (by rw [← he]), if_pos ⟨hm, he⟩]
      · rw [if_neg (fun h => he (str_inj (byB_bytes.1 hb) (ones_bytes (rowIt_may hm)) h.symm)), if_neg (fun h => he h.2)]; rfl
    · rw [if_neg hm, if_neg (fun h => hm h.1)]; rfl
  | succ d ih =>
    intro i k co hi hk hc hco
    obtain ⟨k, rfl⟩ : ∃ m, k = m + 1 := ⟨k - 1, by omega⟩
    have hlt : i < xs.length := by omega
    simp only [humusref04_Decode.l1]
    rw [if_pos (by omega), if_pos (by omega), if_pos (by omega)]
    rw [show wrap64 ((i : Int) + 1) = ((i + 1 : Nat) : Int) by unfold wrap64; omega]
    have ef : (rd_T86 xs (i : Int)).f2 = (xs[i]).f2 := by
      unfold rd_T86
      rw [Int.toNat_natCast, List.getD_eq_getElem?_getD, List.getElem?_eq_getElem hlt]; rfl
    rw [ih (i + 1) k _ (by omega) (by omega) (by rw [List.length_append, List.length_singleton]; omega) (by
      intro x hx
      rcases List.mem_append.1 hx with h | h
      · exact hco x h
      · rw [List.mem_singleton.1 h, ef]; exact hxs _ (List.getElem_mem hlt))]
    have e : co ++ [(rd_T86 xs (i : Int)).f2] ++ (xs.drop (i + 1)).map (·.f2) = co ++ (xs.drop i).map (·.f2) := by
      rw [List.drop_eq_getElem_cons hlt, List.map_cons, List.append_assoc, ef]; rfl
    rw [e]
def rfin (b : List Int) : Option (List It × Nat) → RDecT
  | some (i0 :: i1 :: i2 :: i3 :: i4 :: i5 :: r, _) => if mayRow i1.x (i0.n == 1) (r.map (·.x)) i2.n i3.n i4.n = true ∧ b = ones (rowIt i1.x (i0.n == 1) (r.map (·.x)) i2.n i3.n i4.n) then (i1.x, (i0.n == 1), r.map (·.x), i2.n, i3.n, i4.n, true) else rdecErr
  | _ => rdecErr
theorem rep_snoc (i : Nat) : ([1, 4, 3, 2, 3, 1] ++ List.replicate i 4 : List Int) ++ [4] = [1, 4, 3, 2, 3, 1] ++ List.replicate (i + 1) 4 := by
  rw [List.append_assoc, ← List.replicate_succ']
theorem rdec_l0 (b : List Int) (hb : byB b = true) (h20 : 20 ≤ b.length) (hl : b.length ≤ 100000) (m : Nat) (hm : rd b 19 = (m : Int)) (hm4 : m ≤ 4) : ∀ (d i k : Nat), i + d = m → d + 1030 < k →
    humusref04_Decode.l0 k b ([1, 4, 3, 2, 3, 1] ++ List.replicate i 4) (i : Int) = some (rfin b (takes b 0 ([1, 4, 3, 2, 3, 1] ++ List.replicate m 4))) := by
  have hw : wrap64 (rd b 19) = (m : Int) := by rw [hm]; unfold wrap64; omega
  intro d
  induction d with
  | zero =>
    intro i k hi hk
    obtain ⟨k, rfl⟩ : ∃ m, k = m + 1 := ⟨k - 1, by omega⟩
    obtain rfl : i = m := by omega
    simp only [humusref04_Decode.l0]
    rw [if_pos (by omega), hw, if_neg (by omega)]
    have hko : kindsOk ([1, 4, 3, 2, 3, 1] ++ List.replicate i 4) = true := by
      unfold kindsOk
      rw [List.all_append, Bool.and_eq_true]
      exact ⟨by decide, kinds_rep i⟩
    unfold humusref03_Take.f takeF
    rw [if_pos ⟨hb, by omega, by rw [List.length_append, List.length_replicate]; show 6 + i ≤ _; omega⟩]
    simp only [Option.bind_some]
    unfold takeR
    rw [if_pos hko]
    cases ht : takes b 0 ([1, 4, 3, 2, 3, 1] ++ List.replicate i 4) with
    | none =>
      simp only
      rw [if_neg (by decide)]; rfl
    | some p =>
      obtain ⟨l, n⟩ := p
      obtain ⟨t1, t2, t3, t4, t5, t6, t7⟩ := takes_spec (byB_bytes.1 hb) _ _ _ _ (Nat.zero_le _) hko ht
      have hlen : l.length = 6 + i := by rw [← List.length_map (f := (·.k)), t3, List.length_append, List.length_replicate]; rfl
      obtain ⟨i0, i1, i2, i3, i4, i5, r, rfl⟩ : ∃ a b c d e f r, l = a :: b :: c :: d :: e :: f :: r := by
        match l, hlen with
        | a :: b :: c :: d :: e :: f :: r, _ => exact ⟨a, b, c, d, e, f, r, rfl⟩
        | [], h => simp at h; omega
        | [_], h => simp at h; omega
        | [_, _], h => simp at h; omega
        | [_, _, _], h => simp at h; omega
        | [_, _, _, _], h => simp at h; omega
        | [_, _, _, _, _], h => simp at h; omega
      have hr : r.length = i := by simp at hlen; omega
      have hfl : (((i0 :: i1 :: i2 :: i3 :: i4 :: i5 :: r).map ofIt).length : Int) = 6 + i := by rw [List.length_map, hlen]; omega
      simp only [hfl]
      rw [if_pos trivial, if_pos (by omega), if_pos (by omega), if_pos (by omega), if_pos (by omega), if_pos (by omega)]
      have hL := rdec_l1 b hb ((i0 :: i1 :: i2 :: i3 :: i4 :: i5 :: r).map ofIt) i1.x (i0.n == 1) i2.n i3.n i4.n (by rw [List.length_map, hlen]; omega) (t6 i1 (by simp)) (by
        intro a ha
        obtain ⟨z, hz, rfl⟩ := List.mem_map.1 ha
        exact t6 z hz) i 6 k [] (by rw [List.length_map, hlen]) (by omega) (by rw [List.length_nil]; omega) (by intro x hx; cases hx)
      have ex : (((i0 :: i1 :: i2 :: i3 :: i4 :: i5 :: r).map ofIt).drop 6).map (·.f2) = r.map (·.x) := by
        show (r.map ofIt).map (·.f2) = _
        rw [List.map_map]; rfl
      rw [ex, List.nil_append] at hL
      exact hL
  | succ d ih =>
    intro i k hi hk
    obtain ⟨k, rfl⟩ : ∃ m, k = m + 1 := ⟨k - 1, by omega⟩
    simp only [humusref04_Decode.l0]
    rw [if_pos (by omega), hw, if_pos (by omega), if_pos (by rw [List.length_append, List.length_replicate]; show 6 + i < _; omega)]
    rw [show wrap64 ((i : Int) + 1) = ((i + 1 : Nat) : Int) by unfold wrap64; omega, rep_snoc]
    exact ih (i + 1) k (by omega) (by omega)
theorem rd_bd {b : List Int} (hb : byB b = true) {j : Nat} (hj : j < b.length) : 0 ≤ rd b (j : Int) ∧ rd b (j : Int) ≤ 255 := by
  have h := byB_bytes.1 hb
  have := h.at_ j hj
  exact this
theorem rdec_any {k : Nat} {b : List Int} (hk : 1100 ≤ k) (hb : byB b = true) (hl : b.length ≤ 100000) :
    humusref04_Decode.f k b = some (if b.length < 20 ∨ rd b 19 > 4 then rdecErr else rfin b (takes b 0 ([1, 4, 3, 2, 3, 1] ++ List.replicate (rd b 19).toNat 4))) := by
  obtain ⟨k, rfl⟩ : ∃ m, k = m + 1 := ⟨k - 1, by omega⟩
  unfold humusref04_Decode.f
  have hj : humusref04_Decode.j0 (k + 1) b true = some rdecErr := by simp only [humusref04_Decode.j0, if_true]; rfl
  by_cases h20 : b.length < 20
  · rw [if_pos (by omega), if_pos (.inl h20), hj]
  rw [if_neg (by omega), if_pos (by omega)]
  have hbd := rd_bd hb (j := 19) (by omega)
  by_cases h4 : rd b 19 > 4
  · rw [decide_eq_true h4, if_pos (.inr h4), hj]
  rw [decide_eq_false h4, if_neg (by intro h; rcases h with h | h; exact h20 h; exact h4 h)]
  simp only [humusref04_Decode.j0]
  rw [if_neg (by decide)]
  have hbd' : 0 ≤ rd b 19 := hbd.1
  have := rdec_l0 b hb (by omega) hl (rd b 19).toNat (by omega) (by omega) (rd b 19).toNat 0 k (by omega) (by omega)
  rw [List.replicate_zero, List.append_nil] at this
  exact this
end Go.Proofs.Ytdcllbhkjcdnoaa.P
set_option linter.unusedVariables false
set_option linter.unusedSimpArgs false
namespace Go.Proofs.Ytdcllbhkjcdnoaa.P
open Go.RowKit Go.Proofs.Ytdcllbhkjcdnoaa Go.Proofs.Ytdcllbhkjcdnoaa.Mem Go.Proofs.Ytdcllbhkjcdnoaa.Pac Go.Proofs.YtdcllbhkjcdnoaaW.PrintWords Go.Proofs.YtdcllbhkjcdnoaaW.PrintLast Go.Proofs.YtdcllbhkjcdnoaaW.PrintMore
theorem one1 (n : Int) : one ⟨1, n, 0, ⟨#[]⟩⟩ = [n % 256] := by
  show bigs n 1 = _
  simp [bigs]
theorem head19 (ke : Nat) (d wr ce no n : Int) : ∃ pre : List Int, ones (headIt ke d wr ce no n) = pre ++ [n % 256] ∧ pre.length = 19 := by
  refine ⟨one ⟨1, d, 0, ⟨#[]⟩⟩ ++ (one ⟨4, 0, ke, ⟨#[]⟩⟩ ++ (one ⟨3, wr, 0, ⟨#[]⟩⟩ ++ (one ⟨2, ce, 0, ⟨#[]⟩⟩ ++ one ⟨3, no, 0, ⟨#[]⟩⟩))), ?_, ?_⟩
  · unfold headIt ones
    simp only [List.flatMap_cons, List.flatMap_nil, List.append_nil, List.append_assoc]
    rw [one1 n]
  · have h1 : (one ⟨1, d, 0, ⟨#[]⟩⟩).length = 1 := bigs_length _ _
    have h2 : (one ⟨4, 0, ke, ⟨#[]⟩⟩).length = 8 := bigs_length _ _
    have h3 : ∀ z, (one ⟨3, z, 0, ⟨#[]⟩⟩).length = 4 := fun z => bigs_length _ _
    have h4 : (one ⟨2, ce, 0, ⟨#[]⟩⟩).length = 2 := bigs_length _ _
    simp only [List.length_append, h1, h2, h3, h4]
theorem colIt_len (co : List Nat) : (ones (colIt co)).length = 8 * co.length := by
  unfold colIt ones
  induction co with
  | nil => rfl
  | cons x co ih =>
    rw [List.map_cons, List.flatMap_cons, List.length_append, ih]
    have : (one ⟨4, 0, x, ⟨#[]⟩⟩).length = 8 := bigs_length _ _
    rw [this, List.length_cons]; omega
theorem rowIt_len (ke : Nat) (de : Bool) (co : List Nat) (wr ce no : Int) : (ones (rowIt ke de co wr ce no)).length = 20 + 8 * co.length := by
  unfold rowIt
  obtain ⟨pre, h1, h2⟩ := head19 ke (dN de) wr ce no (co.length : Int)
  rw [ones_append, List.length_append, h1, List.length_append, h2, colIt_len]; rfl
theorem rowIt_rd {ke : Nat} {de : Bool} {co : List Nat} {wr ce no : Int} (hl : co.length ≤ 255) : rd (ones (rowIt ke de co wr ce no)) 19 = (co.length : Int) := by
  unfold rowIt
  obtain ⟨pre, h1, h2⟩ := head19 ke (dN de) wr ce no (co.length : Int)
  rw [ones_append, h1, List.append_assoc]
  unfold rd
  rw [List.getD_eq_getElem?_getD, show (19 : Int).toNat = 19 from rfl, List.getElem?_append_right (by omega), h2]
  show ((co.length : Int) % 256) = _
  omega
theorem rdec_row {k : Nat} {ke : Nat} {de : Bool} {co : List Nat} {wr ce no : Int} (hk : 1100 ≤ k) (hm : mayRow ke de co wr ce no = true) (hx : ke < 18446744073709551616) (hc : ∀ x ∈ co, x < 18446744073709551616) :
    humusref04_Decode.f k (ones (rowIt ke de co wr ce no)) = some (ke, de, co, wr, ce, no, true) := by
  have hmay := rowIt_may hm
  have hxx := rowIt_x (de := de) (wr := wr) (ce := ce) (no := no) hx hc
  have hlen : co.length ≤ 4 := (mayRow_iff.1 hm).2.1
  have hL := rowIt_len ke de co wr ce no
  rw [rdec_any hk (ones_byB hmay) (by omega), rowIt_rd (by omega), if_neg (by omega), Int.toNat_natCast]
  have hT := takes_ones (rowIt ke de co wr ce no) hmay hxx [] []
  rw [rowIt_norm hm, List.nil_append, List.append_nil, List.length_nil, Nat.zero_add] at hT
  have hks : (rowIt ke de co wr ce no).map (·.k) = [1, 4, 3, 2, 3, 1] ++ List.replicate co.length 4 := by
    unfold rowIt
    rw [List.map_append, colIt_k]; rfl
  rw [hks] at hT
  rw [hT]
  have hd : (dN de == 1) = de := by cases de <;> rfl
  have hr : rfin (ones (rowIt ke de co wr ce no)) (some (rowIt ke de co wr ce no, (ones (rowIt ke de co wr ce no)).length)) = (ke, de, co, wr, ce, no, true) := by
    show (if mayRow ke (dN de == 1) ((colIt co).map (·.x)) wr ce no = true ∧ ones (rowIt ke de co wr ce no) = ones (rowIt ke (dN de == 1) ((colIt co).map (·.x)) wr ce no) then (ke, (dN de == 1), (colIt co).map (·.x), wr, ce, no, true) else rdecErr) = _
    rw [hd, colIt_x, if_pos ⟨hm, rfl⟩]
  rw [hr]
theorem rdec_two {b : List Int} (hb : byB b = true) (hl : b.length ≤ 100000) : (∀ k, 1100 ≤ k → humusref04_Decode.f k b = some rdecErr) ∨ ∃ ke de co wr ce no, (∀ k, 1100 ≤ k → humusref04_Decode.f k b = some (ke, de, co, wr, ce, no, true)) ∧ mayRow ke de co wr ce no = true ∧ ke < 18446744073709551616 ∧ (∀ x ∈ co, x < 18446744073709551616) ∧ b = ones (rowIt ke de co wr ce no) := by
  have hA := fun k (hk : 1100 ≤ k) => rdec_any hk hb hl
  by_cases h0 : b.length < 20 ∨ rd b 19 > 4
  · simp only [if_pos h0] at hA; exact .inl hA
  simp only [if_neg h0] at hA
  have hko : kindsOk ([1, 4, 3, 2, 3, 1] ++ List.replicate (rd b 19).toNat 4) = true := by
    unfold kindsOk
    rw [List.all_append, Bool.and_eq_true]
    exact ⟨by decide, kinds_rep _⟩
  cases ht : takes b 0 ([1, 4, 3, 2, 3, 1] ++ List.replicate (rd b 19).toNat 4) with
  | none => rw [ht] at hA; exact .inl hA
  | some p =>
    obtain ⟨l, n⟩ := p
    obtain ⟨t1, t2, t3, t4, t5, t6, t7⟩ := takes_spec (byB_bytes.1 hb) _ _ _ _ (Nat.zero_le _) hko ht
    rw [ht] at hA
    match l, t6, hA with
    | i0 :: i1 :: i2 :: i3 :: i4 :: i5 :: r, t6, hA =>
      by_cases h : mayRow i1.x (i0.n == 1) (r.map (·.x)) i2.n i3.n i4.n = true ∧ b = ones (rowIt i1.x (i0.n == 1) (r.map (·.x)) i2.n i3.n i4.n)
      · right
        refine ⟨_, _, _, _, _, _, fun k hk => (hA k hk).trans (congrArg some (if_pos h)), h.1, t6 i1 (by simp), ?_, h.2⟩
        intro x hx
        obtain ⟨a, ha, rfl⟩ := List.mem_map.1 hx
        exact t6 a (by simp [ha])
      · left
        exact fun k hk => (hA k hk).trans (congrArg some (if_neg h))
    | [], _, hA => exact .inl hA
    | [_], _, hA => exact .inl hA
    | [_, _], _, hA => exact .inl hA
    | [_, _, _], _, hA => exact .inl hA
    | [_, _, _, _], _, hA => exact .inl hA
    | [_, _, _, _, _], _, hA => exact .inl hA
theorem of_l0 (co : List Nat) (hl : co.length ≤ 900) (ke : Nat) (de : Bool) (wr ce no : Int) : ∀ (d i k : Nat) (xs : List Nat), i + d = co.length → d < k → xs.length + d ≤ 900 →
    row_Of.l0 k co (co.length : Int) (i : Int) ke de xs wr ce no = some (ke, de, xs ++ (co.drop i).map Flt.val, wr, ce, no, 0) := by
  intro d
  induction d with
  | zero =>
    intro i k xs hi hk hx
    obtain ⟨k, rfl⟩ : ∃ m, k = m + 1 := ⟨k - 1, by omega⟩
    obtain rfl : i = co.length := by omega
    simp only [row_Of.l0]
    rw [if_neg (by omega), List.drop_length, List.map_nil, List.append_nil]
  | succ d ih =>
    intro i k xs hi hk hx
    obtain ⟨k, rfl⟩ : ∃ m, k = m + 1 := ⟨k - 1, by omega⟩
    have hlt : i < co.length := by omega
    simp only [row_Of.l0, num_Value.f, Option.bind_some]
    rw [if_pos (by omega), if_pos (by omega), if_pos (by omega), if_pos (by omega)]
    rw [show wrap64 ((i : Int) + 1) = ((i + 1 : Nat) : Int) by unfold wrap64; omega]
    rw [ih (i + 1) k _ (by omega) (by omega) (by rw [List.length_append, List.length_singleton]; omega)]
    rw [rdF_of (List.getElem?_eq_getElem hlt), List.drop_eq_getElem_cons hlt, List.map_cons, List.append_assoc]; rfl
theorem row_Of_ev {k : Nat} {ke : Nat} {co : List Nat} (hk : 10 ≤ k) : row_Of.f k ke co = some (if co.length > 4 then (0, false, [], 0, 0, 0, 1) else (Flt.key ke, false, co.map Flt.val, 0, 0, 0, 0)) := by
  unfold row_Of.f num_Key.f
  by_cases h : co.length > 4
  · rw [if_pos (by omega), if_pos h]
  · rw [if_neg (by omega), if_neg h]
    simp only [Option.bind_some]
    have := of_l0 co (by omega) (Flt.key ke) false 0 0 0 co.length 0 k [] (by omega) (by omega) (by rw [List.length_nil]; omega)
    rw [List.drop_zero, List.nil_append] at this
    exact this
theorem awake04_ev {k : Nat} (hk : 60 ≤ k) : humuslaw04_awake.f k = some true := by
  have hm : mayRow 4611686018427387904 false [4619567317775286272] 0 0 0 = true := by kernel_rfl
  have hkey : Flt.key 4611686018427387904 = 4611686018427387904 := by kernel_rfl
  have hval : Flt.val 4619567317775286272 = 4619567317775286272 := by kernel_rfl
  have hc : ∀ x ∈ [4619567317775286272], x < 18446744073709551616 := by intro x hx; rw [List.mem_singleton.1 hx]; decide
  unfold humuslaw04_awake.f
  rw [row_Of_ev (by omega), if_neg (by decide), hkey]
  simp only [Option.bind_some, List.map_cons, List.map_nil, hval]
  rw [row_Encode_ev (by show 1 + 20 ≤ k; omega) (by decide) (by decide) hc, if_pos hm]
  simp only [Option.bind_some]
  rw [dec_row (by omega) hm (by decide) hc]
  simp only [Option.bind_some]
  rw [if_pos trivial, if_pos trivial, if_pos trivial, rowIt_len, if_pos (by decide), row_Same_ev (by decide), sameRow_self]
  obtain ⟨m, rfl⟩ : ∃ m, k = m + 1 := ⟨k - 1, by omega⟩
  rfl
end Go.Proofs.Ytdcllbhkjcdnoaa.P
set_option linter.unusedVariables false
namespace Go.Proofs.Ytdcllbhkjcdnoaa.Pure
open Go.RowKit Go.Proofs.Ytdcllbhkjcdnoaa Go.Proofs.Ytdcllbhkjcdnoaa.P Go.Proofs.Ytdcllbhkjcdnoaa.Mem Go.Proofs.Ytdcllbhkjcdnoaa.Pac Go.Proofs.YtdcllbhkjcdnoaaW.PrintWords Go.Proofs.YtdcllbhkjcdnoaaW.PrintLast
theorem RowDecodes : humuslaw04_RowDecodes.Pure := by
  intro b hm1 hm2 hw
  refine ⟨2000, ?_⟩
  unfold humuslaw04_RowDecodes.f
  have haw : (humuslaw04_awake.f 2000).bind (fun t => some t) = some true := by rw [awake04_ev (by omega)]; rfl
  by_cases hl : b.length > 1000
  · rw [if_pos (by omega)]; exact haw
  rw [if_neg (by omega)]
  simp only [Option.bind_some, List.nil_append]
  rw [if_pos (by rw [List.length_nil]; omega)]
  have hb : byB b = true := byB_bytes.2 (wf_bytes hw)
  rcases dec_two hb (by omega) with hP | ⟨ke, de, co, wr, ce, no, hP, hm, hx, hc, he⟩
  · rw [hP 2000 (by omega)]
    rcases rdec_two hb (by omega) with hR | ⟨ke, de, co, wr, ce, no, hR, hm, hx, hc, he⟩
    · rw [hR 2000 (by omega)]
      unfold decErr rdecErr
      simp only [Option.bind_some]
      rw [if_neg (by decide), if_pos trivial, Same04_ev (by decide) (by decide), sameRow_self]
      simp only [Option.bind_some]
      rw [if_pos trivial]
      exact haw
    · exfalso
      have h1 := dec_row (k := 2000) (by omega) hm hx hc
      rw [← he, hP 2000 (by omega)] at h1
      injection h1 with h1
      have := congrArg (fun z : DecT => z.2.2.2.2.2.2) h1
      exact absurd (show (4 : Int) = 0 from this) (by decide)
  · have hR := rdec_row (k := 2000) (by omega) hm hx hc
    rw [← he] at hR
    have hlen := (mayRow_iff.1 hm).2.1
    rw [hP 2000 (by omega), hR]
    simp only [Option.bind_some]
    rw [if_pos trivial, if_pos trivial, Same04_ev (by omega) (by omega), sameRow_self]
    simp only [Option.bind_some]
    rw [if_pos trivial]
    exact haw
end Go.Proofs.Ytdcllbhkjcdnoaa.Pure
