/- Put together by wip/prune.py out of this claim's texts. -/
import Derived.Test.YtdcllbhkjcdnoaaMUndoTurns5
import Derived.Test.YtdcllbhkjcdnoaaMUndoTurns16
import Derived.Test.YtdcllbhkjcdnoaaMUndoTurns17
import Derived.Test.YtdcllbhkjcdnoaaMUndoTurns18
import Derived.Test.YtdcllbhkjcdnoaaMUndoTurns19
import Derived.Test.YtdcllbhkjcdnoaaMUndoTurns20
import Derived.Test.YtdcllbhkjcdnoaaMUndoTurns21
import Derived.Test.YtdcllbhkjcdnoaaMUndoTurns22
namespace Go.Proofs.Ytdcllbhkjcdnoaa.P
open Go.RowKit Go.Proofs.YtdcllbhkjcdnoaaW.PrintWords Go.Proofs.YtdcllbhkjcdnoaaW.PrintLast Go.Proofs.YtdcllbhkjcdnoaaW.PrintMore
attribute [local go_sem] max2_int min2_int max_two min_two max_three min_three max_four min_four   -- for this text's walks alone
attribute [local go_sem] run_store_float
set_option linter.unusedVariables false
set_option linter.unusedSimpArgs false
mutual
def humuslaw14_UndoTurns.j0 : Nat → List (S32) → Int → Bool → Int → Int → Int → Int → Int → Int → Nat → Bool → List Nat → Int → Int → Int → Option (Bool)
 | 0,_,_,_,_,_,_,_,_,_,_,_,_,_,_,_ => none
 | k + 1,x0,x2,x24,x945000,x945001,x945002,x945003,x945004,x945005,x945006,x945007,x945008,x945009,x945010,x945011 => if x24 = true then ((humuslaw14_awake.f k).bind fun t946 => (some t946)) else ((undo_Put.f k x0 x945000 x945001 x945002 x945003 x945004 x945005 x945006 x945007 x945008 x945009 x945010 x945011).bind fun bt947 => ((undo_Drop.f x0 x2).bind fun bt952 => ((humusref14_May.f k x0).bind fun t956 => (if t956 = true then ((humusref14_Put.f k x0 x945000 x945001 x945002 x945003 x945004 x945005 x945006 x945007 x945008 x945009 x945010 x945011).bind fun bt961 => ((humusref09_List.f k bt947.1 bt961.1).bind fun t966 => (if t966 = true then (if bt947.2.1 = bt961.2.1 then (if bt947.2.2 = bt961.2.2 then ((humusref14_May.f k bt947.1).bind fun t967 => (humuslaw14_UndoTurns.j2 k x0 x2 bt952.1 bt952.2 (!t967))) else (humuslaw14_UndoTurns.j2 k x0 x2 bt952.1 bt952.2 true)) else (humuslaw14_UndoTurns.j2 k x0 x2 bt952.1 bt952.2 true)) else (humuslaw14_UndoTurns.j2 k x0 x2 bt952.1 bt952.2 true)))) else ((undo_Check.f x0).bind fun t957 => (if t957 = 1 then ((undo_Free.f x0).bind fun t958 => (if t958 = 0 then ((undo_Used.f k x0).bind fun t959 => (if t959 = 0 then (if bt947.2.2 = 1 then (if bt947.2.1 = 0 then (if (bt947.1.length : Int) = 0 then (if bt952.2 = 1 then (if (bt952.1.length : Int) = 0 then ((humuslaw14_awake.f k).bind fun t960 => (humuslaw14_UndoTurns.j1 k t960)) else (none)) else (none)) else (none)) else (none)) else (none)) else (none))) else (none))) else (none)))))))
def humuslaw14_UndoTurns.j2 : Nat → List (S32) → Int → List (S32) → Int → Bool → Option (Bool)
 | 0,_,_,_,_,_ => none
 | k + 1,x0,x2,x10,x11,x105 => if x105 = true then (none) else ((humusref14_Drop.f k x0 x2).bind fun bt968 => ((humusref09_List.f k x10 bt968.1).bind fun t972 => (if t972 = true then (if x11 = bt968.2 then ((undo_Check.f x0).bind fun t973 => (if t973 = 0 then ((undo_Free.f x0).bind fun t974 => ((humusref14_Free.f k x0).bind fun t975 => (if t974 = t975 then ((undo_Used.f k x0).bind fun t976 => ((humusref14_Used.f k x0).bind fun t977 => (if t976 = t977 then ((humuslaw14_awake.f k).bind fun t978 => (humuslaw14_UndoTurns.j4 k t978)) else (none)))) else (none)))) else (none))) else (none)) else (none))))
def humuslaw14_UndoTurns.j4 : Nat → Bool → Option (Bool)
 | 0,_ => none
 | k + 1,x6 => some x6
def humuslaw14_UndoTurns.j1 : Nat → Bool → Option (Bool)
 | 0,_ => none
 | k + 1,x6 => some x6
end
def humuslaw14_UndoTurns.f (k : Nat) (l0 : List (S32)) (a1_0 : Int) (a1_1 : Int) (a1_2 : Int) (a1_3 : Int) (a1_4 : Int) (a1_5 : Int) (a1_6 : Nat) (a1_7 : Bool) (l1_8 : List Nat) (a1_9 : Int) (a1_10 : Int) (a1_11 : Int) (a2 : Int) : Option (Bool):=(humuslaw14_Light.f k l0).bind fun t945 => (if t945 = true then (humuslaw14_UndoTurns.j0 k l0 a2 (decide ((l1_8.length : Int) > 20)) a1_0 a1_1 a1_2 a1_3 a1_4 a1_5 a1_6 a1_7 l1_8 a1_9 a1_10 a1_11) else (humuslaw14_UndoTurns.j0 k l0 a2 true a1_0 a1_1 a1_2 a1_3 a1_4 a1_5 a1_6 a1_7 l1_8 a1_9 a1_10 a1_11))
set_option maxHeartbeats 8000000 in
set_option maxRecDepth 100000 in
theorem humuslaw14_UndoTurns.calls (k : Nat) (A0 : Option Addr) (c0 : Nat) (l0 : List (S32)) (a1_0 : Int) (a1_1 : Int) (a1_2 : Int) (a1_3 : Int) (a1_4 : Int) (a1_5 : Int) (a1_6 : Nat) (a1_7 : Bool) (A1_8 : Option Addr) (c1_8 : Nat) (l1_8 : List Nat) (a1_9 : Int) (a1_10 : Int) (a1_11 : Int) (a2 : Int) (r : Bool) (w : World) (hr0 : Kd.C k32 w A0 l0.length l0) (hc0 : l0.length ≤ c0) (hr1_8 : Kd.C Kd.f64 w A1_8 l1_8.length l1_8) (hc1_8 : l1_8.length ≤ c1_8) (h : humuslaw14_UndoTurns.f k l0 a1_0 a1_1 a1_2 a1_3 a1_4 a1_5 a1_6 a1_7 l1_8 a1_9 a1_10 a1_11 a2 = some r) :
  Calls Try.prog 4 #[.slice A0 l0.length c0,.agg #[.int .i64 a1_0,.int .i64 a1_1,.int .i64 a1_2,.int .i64 a1_3,.int .i64 a1_4,.int .i64 a1_5,.float .f64 a1_6,.bool a1_7,.slice A1_8 l1_8.length c1_8,.int .i64 a1_9,.int .i64 a1_10,.int .i64 a1_11],.int .i64 a2] w fun e w' => e = .returned (.bool r) ∧ Below w.heap.size w w':=by
 have hu32:=Try.underlying32
 have HR0:=Aside0.mk hr0
 have HC0:=Aside0.mk hc0
 clear hr0 hc0
 have HR1_8:=Aside0.mk hr1_8
 have HC1_8:=Aside0.mk hc1_8
 clear hr1_8 hc1_8
 have HB:=Aside0.mk (Below.refl w.heap.size w)
 have H : ((humuslaw14_Light.f k l0).bind fun t945 => (if t945 = true then (humuslaw14_UndoTurns.j0 k l0 a2 (decide ((l1_8.length : Int) > 20)) a1_0 a1_1 a1_2 a1_3 a1_4 a1_5 a1_6 a1_7 l1_8 a1_9 a1_10 a1_11) else (humuslaw14_UndoTurns.j0 k l0 a2 true a1_0 a1_1 a1_2 a1_3 a1_4 a1_5 a1_6 a1_7 l1_8 a1_9 a1_10 a1_11))) = some r:=h
 clear h
 have HC4:=Aside0.mk H
 clear H
 go_enter Try.func4,Try.ntmps4
 go_upto_region 1 with (first | ((with_reducible refine gate_dst (N:=4) rfl ?_);(try (refine gate_guard (by rfl) ?_;dsimp only));refine box_event ?hg (N:=4) ?hd (cs:=#[.int .i64 a1_0,.int .i64 a1_1,.int .i64 a1_2,.int .i64 a1_3,.int .i64 a1_4,.int .i64 a1_5,.float .f64 a1_6,.bool a1_7,.slice A1_8 l1_8.length c1_8,.int .i64 a1_9,.int .i64 a1_10,.int .i64 a1_11]) (t:=32) ?hr ?_;(case hd => rfl);(case hg => rfl);(case hr => first | (go_simp;done) | (go_simp;rfl));intro gb944 hg w5 hbox hb;have n0_:=Aside0.mk (below_step (by repeat (first | (with_reducible first | exact HB.out | apply below_alloc | apply pw_below_drewN | apply below_drew1) | exact HB.out)) hb);have n1_:=Aside0.mk (hbox);have n2_:=Aside0.mk ((by rw [hg];exact (below_size (by repeat (first | (with_reducible first | exact HB.out | apply below_alloc | apply pw_below_drewN | apply below_drew1) | exact HB.out))) : w.heap.size ≤ gb944));have n3_:=Aside0.mk ((by rw [hg];exact (below_size (by repeat (first | (with_reducible first | exact HB.out | apply below_alloc | apply pw_below_drewN | apply below_drew1) | exact HB.out))) : w.heap.size ≤ gb944));clear HB;have HB:=n0_;have BK944:=n1_;have GW944:=n2_;have GE944:=n3_;clear n0_ n1_ n2_ n3_;clear hb hbox hg))
 (try simp only [Act.put,List.setIfInBounds_toArray,List.set_cons_zero,List.set_cons_succ])
 go_cut [24] (fun v24 wc => ∃ (kq : Nat) (x24_3 : Bool),v24 = .bool x24_3 ∧ Aside0 (humuslaw14_UndoTurns.j0 kq l0 a2 x24_3 a1_0 a1_1 a1_2 a1_3 a1_4 a1_5 a1_6 a1_7 l1_8 a1_9 a1_10 a1_11 = some r) ∧ Aside0 (kq ≤ k) ∧ Aside0 (wc.heap[gb944]? = some (.cells #[.int .i64 a1_0,.int .i64 a1_1,.int .i64 a1_2,.int .i64 a1_3,.int .i64 a1_4,.int .i64 a1_5,.float .f64 a1_6,.bool a1_7,(.slice A1_8 l1_8.length c1_8),.int .i64 a1_9,.int .i64 a1_10,.int .i64 a1_11] 32 (0,0))) ∧ Aside0 (Below w.heap.size w wc))
 case first =>
  have H:=HC4.out
  clear HC4
  replace H:=Option.bind_eq_some_iff.mp H
  obtain ⟨t945,A60,H⟩:=H
  replace H : (if t945 = true then (humuslaw14_UndoTurns.j0 k l0 a2 (decide ((l1_8.length : Int) > 20)) a1_0 a1_1 a1_2 a1_3 a1_4 a1_5 a1_6 a1_7 l1_8 a1_9 a1_10 a1_11) else (humuslaw14_UndoTurns.j0 k l0 a2 true a1_0 a1_1 a1_2 a1_3 a1_4 a1_5 a1_6 a1_7 l1_8 a1_9 a1_10 a1_11)) = some r:=H
  have A6:=Aside0.mk A60
  clear A60
  by_cases c7 : t945 = true
  ·subst c7
   have H1 : (humuslaw14_UndoTurns.j0 k l0 a2 (decide ((l1_8.length : Int) > 20)) a1_0 a1_1 a1_2 a1_3 a1_4 a1_5 a1_6 a1_7 l1_8 a1_9 a1_10 a1_11) = some r:=by rw [if_pos rfl] at H;exact H
   clear H
   have H:=H1
   clear H1
   have H':=Aside0.mk H
   clear H
   go_wp2_with (first | ((with_reducible refine gate_callee (f:=20) rfl ?_);refine goesL_ (some 16) rfl rfl Try.func20 (by kernel_rfl) rfl #[.slice A0 l0.length c0] rfl (by (try simp only [List.map_toArray,List.map_cons,List.map_nil]);first | done | rfl | (simp only [List.length_drop,List.length_take];rfl)) ?_;(with_reducible refine (humuslaw14_Light.calls k _ _ l0 true _ ?side1 ?side2 A6.out).mono ?_);(case side1 => repeat (first | exact (Kd.C_below HR0.out HB.out) | (with_reducible refine Kd.C_alloc ?_ _) | (with_reducible refine Kd.C_drewN ?_ _) | (with_reducible refine Kd.C_drew ?_)));(case side2 => exact HC0.out);rintro e w' ⟨rfl,⟨nd,rfl⟩⟩;refine ⟨_,rfl,?_⟩;obtain ⟨hcz8_0,hcz8_1,hcz8_2,hcz8_3,hcz8_4,hcz8_5,hcz8_6,hcz8_7,hcz8_8,hcz8_9,hcz8_10,hcz8_11⟩:=blkc_12 BK944.out;obtain ⟨hfz8_0,hfz8_1,hfz8_2,hfz8_3,hfz8_4,hfz8_5,hfz8_6,hfz8_7,hfz8_8,hfz8_9,hfz8_10⟩:=blkz_11 BK944.out;have hfz8_11:=blk_frozen BK944.out 11))
   go_meet
   case rel => exact ⟨_,(decide ((l1_8.length : Int) > 20)),(by first | rfl | (simp;done) | (simp [*];done)),H',⟨by first | omega | exact Nat.le_refl _⟩,⟨by (with_reducible repeat (first | refine blk_drewN ?_ _ | refine blk_drew ?_ | refine blk_alloc ?_ _));exact BK944.out⟩,⟨by repeat (first | (with_reducible first | exact HB.out | apply below_alloc | apply pw_below_drewN | apply below_drew1 | refine below_set ?_ GE944.out) | exact HB.out)⟩⟩
  ·replace c7:=Bool.eq_false_iff.mpr c7
   subst c7
   have H1 : (humuslaw14_UndoTurns.j0 k l0 a2 true a1_0 a1_1 a1_2 a1_3 a1_4 a1_5 a1_6 a1_7 l1_8 a1_9 a1_10 a1_11) = some r:=by rw [if_neg (show ¬ (false = true) by decide)] at H;exact H
   clear H
   have H:=H1
   clear H1
   have H':=Aside0.mk H
   clear H
   go_wp2_with (first | ((with_reducible refine gate_callee (f:=20) rfl ?_);refine goesL_ (some 16) rfl rfl Try.func20 (by kernel_rfl) rfl #[.slice A0 l0.length c0] rfl (by (try simp only [List.map_toArray,List.map_cons,List.map_nil]);first | done | rfl | (simp only [List.length_drop,List.length_take];rfl)) ?_;(with_reducible refine (humuslaw14_Light.calls k _ _ l0 false _ ?side1 ?side2 A6.out).mono ?_);(case side1 => repeat (first | exact (Kd.C_below HR0.out HB.out) | (with_reducible refine Kd.C_alloc ?_ _) | (with_reducible refine Kd.C_drewN ?_ _) | (with_reducible refine Kd.C_drew ?_)));(case side2 => exact HC0.out);rintro e w' ⟨rfl,⟨nd,rfl⟩⟩;refine ⟨_,rfl,?_⟩))
   go_meet
   case rel => exact ⟨_,(true),(by first | rfl | (simp;done) | (simp [*];done)),H',⟨by first | omega | exact Nat.le_refl _⟩,⟨by (with_reducible repeat (first | refine blk_drewN ?_ _ | refine blk_drew ?_ | refine blk_alloc ?_ _));exact BK944.out⟩,⟨by repeat (first | (with_reducible first | exact HB.out | apply below_alloc | apply pw_below_drewN | apply below_drew1 | refine below_set ?_ GE944.out) | exact HB.out)⟩⟩
 case rest =>
  clear HC4
  try clear c1
  try clear c2
  try clear p2
  try clear c4
  try clear c7
  try clear hcz8_0
  try clear hcz8_1
  try clear hcz8_10
  try clear hcz8_11
  try clear hcz8_2
  try clear hcz8_3
  try clear hcz8_4
  try clear hcz8_5
  try clear hcz8_6
  try clear hcz8_7
  try clear hcz8_8
  try clear hcz8_9
  try clear hfz8_0
  try clear hfz8_1
  try clear hfz8_10
  try clear hfz8_11
  try clear hfz8_2
  try clear hfz8_3
  try clear hfz8_4
  try clear hfz8_5
  try clear hfz8_6
  try clear hfz8_7
  try clear hfz8_8
  try clear hfz8_9
  obtain ⟨kq,x24_3,rfl,HA,HJ3,BK944,HB⟩:=hcut
  cases kq with
  | zero => exact absurd HA.out (by simp [humuslaw14_UndoTurns.j0])
  | succ kj3 =>
   have H:=HA.out
   clear HA
   simp only [humuslaw14_UndoTurns.j0] at H
   by_cases c9 : x24_3 = true
   ·subst c9
    have H1 : ((humuslaw14_awake.f kj3).bind fun t946 => (some t946)) = some r:=by rw [if_pos rfl] at H;exact H
    clear H
    have H:=H1
    clear H1
    replace H:=Option.bind_eq_some_iff.mp H
    obtain ⟨t946,A100,H⟩:=H
    replace H : (some t946) = some r:=H
    have A10:=Aside0.mk A100
    clear A100
    obtain rfl:=Option.some.inj H
    go_wp2_with (first | ((with_reducible refine gate_callee (f:=19) rfl ?_);refine goesL_ (some 25) rfl rfl Try.func19 (by kernel_rfl) rfl #[] rfl (by (try simp only [List.map_toArray,List.map_cons,List.map_nil]);first | done | rfl | (simp only [List.length_drop,List.length_take];rfl)) ?_;(with_reducible refine (humuslaw14_awake.calls kj3  t946 _ A10.out).mono ?_);rintro e w11 ⟨rfl,hb⟩;refine ⟨_,rfl,?_⟩;have n0_:=Aside0.mk (blk_below (g:=gb944) (o:=.cells #[.int .i64 a1_0,.int .i64 a1_1,.int .i64 a1_2,.int .i64 a1_3,.int .i64 a1_4,.int .i64 a1_5,.float .f64 a1_6,.bool a1_7,.slice A1_8 l1_8.length c1_8,.int .i64 a1_9,.int .i64 a1_10,.int .i64 a1_11] 32 (0,0)) (by (with_reducible repeat (first | refine blk_drewN ?_ _ | refine blk_drew ?_ | refine blk_alloc ?_ _));exact BK944.out) hb);have n1_:=Aside0.mk (below_step (by repeat (first | (with_reducible first | exact HB.out | apply below_alloc | apply pw_below_drewN | apply below_drew1 | refine below_set ?_ GE944.out) | exact HB.out)) hb);clear BK944;clear HB;have BK944:=n0_;have HB:=n1_;clear n0_ n1_;(try clear hb);(try clear hb2);(try clear hk);(try clear hi)))
    go_ret
    exact ⟨by first | rfl | (simp [errW_none,errW_some] <;> rfl) | (simp [*,errW_none,errW_some] <;> rfl),by repeat (first | (with_reducible first | exact HB.out | apply below_alloc | apply pw_below_drewN | apply below_drew1 | refine below_set ?_ GE944.out) | exact HB.out)⟩
   ·replace c9:=Bool.eq_false_iff.mpr c9
    subst c9
    have H1 : ((undo_Put.f kj3 l0 a1_0 a1_1 a1_2 a1_3 a1_4 a1_5 a1_6 a1_7 l1_8 a1_9 a1_10 a1_11).bind fun bt947 => ((undo_Drop.f l0 a2).bind fun bt952 => ((humusref14_May.f kj3 l0).bind fun t956 => (if t956 = true then ((humusref14_Put.f kj3 l0 a1_0 a1_1 a1_2 a1_3 a1_4 a1_5 a1_6 a1_7 l1_8 a1_9 a1_10 a1_11).bind fun bt961 => ((humusref09_List.f kj3 bt947.1 bt961.1).bind fun t966 => (if t966 = true then (if bt947.2.1 = bt961.2.1 then (if bt947.2.2 = bt961.2.2 then ((humusref14_May.f kj3 bt947.1).bind fun t967 => (humuslaw14_UndoTurns.j2 kj3 l0 a2 bt952.1 bt952.2 (!t967))) else (humuslaw14_UndoTurns.j2 kj3 l0 a2 bt952.1 bt952.2 true)) else (humuslaw14_UndoTurns.j2 kj3 l0 a2 bt952.1 bt952.2 true)) else (humuslaw14_UndoTurns.j2 kj3 l0 a2 bt952.1 bt952.2 true)))) else ((undo_Check.f l0).bind fun t957 => (if t957 = 1 then ((undo_Free.f l0).bind fun t958 => (if t958 = 0 then ((undo_Used.f kj3 l0).bind fun t959 => (if t959 = 0 then (if bt947.2.2 = 1 then (if bt947.2.1 = 0 then (if (bt947.1.length : Int) = 0 then (if bt952.2 = 1 then (if (bt952.1.length : Int) = 0 then ((humuslaw14_awake.f kj3).bind fun t960 => (humuslaw14_UndoTurns.j1 kj3 t960)) else (none)) else (none)) else (none)) else (none)) else (none)) else (none))) else (none))) else (none))))))) = some r:=by rw [if_neg (show ¬ (false = true) by decide)] at H;exact H
    clear H
    have H:=H1
    clear H1
    replace H:=Option.bind_eq_some_iff.mp H
    obtain ⟨⟨t947,t950,t951⟩,A120,H⟩:=H
    replace H : ((undo_Drop.f l0 a2).bind fun bt952 => ((humusref14_May.f kj3 l0).bind fun t956 => (if t956 = true then ((humusref14_Put.f kj3 l0 a1_0 a1_1 a1_2 a1_3 a1_4 a1_5 a1_6 a1_7 l1_8 a1_9 a1_10 a1_11).bind fun bt961 => ((humusref09_List.f kj3 t947 bt961.1).bind fun t966 => (if t966 = true then (if t950 = bt961.2.1 then (if t951 = bt961.2.2 then ((humusref14_May.f kj3 t947).bind fun t967 => (humuslaw14_UndoTurns.j2 kj3 l0 a2 bt952.1 bt952.2 (!t967))) else (humuslaw14_UndoTurns.j2 kj3 l0 a2 bt952.1 bt952.2 true)) else (humuslaw14_UndoTurns.j2 kj3 l0 a2 bt952.1 bt952.2 true)) else (humuslaw14_UndoTurns.j2 kj3 l0 a2 bt952.1 bt952.2 true)))) else ((undo_Check.f l0).bind fun t957 => (if t957 = 1 then ((undo_Free.f l0).bind fun t958 => (if t958 = 0 then ((undo_Used.f kj3 l0).bind fun t959 => (if t959 = 0 then (if t951 = 1 then (if t950 = 0 then (if (t947.length : Int) = 0 then (if bt952.2 = 1 then (if (bt952.1.length : Int) = 0 then ((humuslaw14_awake.f kj3).bind fun t960 => (humuslaw14_UndoTurns.j1 kj3 t960)) else (none)) else (none)) else (none)) else (none)) else (none)) else (none))) else (none))) else (none)))))) = some r:=H
    have A12:=Aside0.mk A120
    clear A120
    replace H:=Option.bind_eq_some_iff.mp H
    obtain ⟨⟨t952,t955⟩,A130,H⟩:=H
    replace H : ((humusref14_May.f kj3 l0).bind fun t956 => (if t956 = true then ((humusref14_Put.f kj3 l0 a1_0 a1_1 a1_2 a1_3 a1_4 a1_5 a1_6 a1_7 l1_8 a1_9 a1_10 a1_11).bind fun bt961 => ((humusref09_List.f kj3 t947 bt961.1).bind fun t966 => (if t966 = true then (if t950 = bt961.2.1 then (if t951 = bt961.2.2 then ((humusref14_May.f kj3 t947).bind fun t967 => (humuslaw14_UndoTurns.j2 kj3 l0 a2 t952 t955 (!t967))) else (humuslaw14_UndoTurns.j2 kj3 l0 a2 t952 t955 true)) else (humuslaw14_UndoTurns.j2 kj3 l0 a2 t952 t955 true)) else (humuslaw14_UndoTurns.j2 kj3 l0 a2 t952 t955 true)))) else ((undo_Check.f l0).bind fun t957 => (if t957 = 1 then ((undo_Free.f l0).bind fun t958 => (if t958 = 0 then ((undo_Used.f kj3 l0).bind fun t959 => (if t959 = 0 then (if t951 = 1 then (if t950 = 0 then (if (t947.length : Int) = 0 then (if t955 = 1 then (if (t952.length : Int) = 0 then ((humuslaw14_awake.f kj3).bind fun t960 => (humuslaw14_UndoTurns.j1 kj3 t960)) else (none)) else (none)) else (none)) else (none)) else (none)) else (none))) else (none))) else (none))))) = some r:=H
    have A13:=Aside0.mk A130
    clear A130
    replace H:=Option.bind_eq_some_iff.mp H
    obtain ⟨t956,A140,H⟩:=H
    replace H : (if t956 = true then ((humusref14_Put.f kj3 l0 a1_0 a1_1 a1_2 a1_3 a1_4 a1_5 a1_6 a1_7 l1_8 a1_9 a1_10 a1_11).bind fun bt961 => ((humusref09_List.f kj3 t947 bt961.1).bind fun t966 => (if t966 = true then (if t950 = bt961.2.1 then (if t951 = bt961.2.2 then ((humusref14_May.f kj3 t947).bind fun t967 => (humuslaw14_UndoTurns.j2 kj3 l0 a2 t952 t955 (!t967))) else (humuslaw14_UndoTurns.j2 kj3 l0 a2 t952 t955 true)) else (humuslaw14_UndoTurns.j2 kj3 l0 a2 t952 t955 true)) else (humuslaw14_UndoTurns.j2 kj3 l0 a2 t952 t955 true)))) else ((undo_Check.f l0).bind fun t957 => (if t957 = 1 then ((undo_Free.f l0).bind fun t958 => (if t958 = 0 then ((undo_Used.f kj3 l0).bind fun t959 => (if t959 = 0 then (if t951 = 1 then (if t950 = 0 then (if (t947.length : Int) = 0 then (if t955 = 1 then (if (t952.length : Int) = 0 then ((humuslaw14_awake.f kj3).bind fun t960 => (humuslaw14_UndoTurns.j1 kj3 t960)) else (none)) else (none)) else (none)) else (none)) else (none)) else (none))) else (none))) else (none)))) = some r:=H
    have A14:=Aside0.mk A140
    clear A140
    by_cases c15 : t956 = true
    ·subst c15
     have H1 : ((humusref14_Put.f kj3 l0 a1_0 a1_1 a1_2 a1_3 a1_4 a1_5 a1_6 a1_7 l1_8 a1_9 a1_10 a1_11).bind fun bt961 => ((humusref09_List.f kj3 t947 bt961.1).bind fun t966 => (if t966 = true then (if t950 = bt961.2.1 then (if t951 = bt961.2.2 then ((humusref14_May.f kj3 t947).bind fun t967 => (humuslaw14_UndoTurns.j2 kj3 l0 a2 t952 t955 (!t967))) else (humuslaw14_UndoTurns.j2 kj3 l0 a2 t952 t955 true)) else (humuslaw14_UndoTurns.j2 kj3 l0 a2 t952 t955 true)) else (humuslaw14_UndoTurns.j2 kj3 l0 a2 t952 t955 true)))) = some r:=by rw [if_pos rfl] at H;exact H
     clear H
     have H:=H1
     clear H1
     replace H:=Option.bind_eq_some_iff.mp H
     obtain ⟨⟨t961,t964,t965⟩,A160,H⟩:=H
     replace H : ((humusref09_List.f kj3 t947 t961).bind fun t966 => (if t966 = true then (if t950 = t964 then (if t951 = t965 then ((humusref14_May.f kj3 t947).bind fun t967 => (humuslaw14_UndoTurns.j2 kj3 l0 a2 t952 t955 (!t967))) else (humuslaw14_UndoTurns.j2 kj3 l0 a2 t952 t955 true)) else (humuslaw14_UndoTurns.j2 kj3 l0 a2 t952 t955 true)) else (humuslaw14_UndoTurns.j2 kj3 l0 a2 t952 t955 true))) = some r:=H
     have A16:=Aside0.mk A160
     clear A160
     have HC17:=Aside0.mk H
     clear H
     obtain ⟨hcz18_0,hcz18_1,hcz18_2,hcz18_3,hcz18_4,hcz18_5,hcz18_6,hcz18_7,hcz18_8,hcz18_9,hcz18_10,hcz18_11⟩:=blkc_12 BK944.out
     obtain ⟨hfz18_0,hfz18_1,hfz18_2,hfz18_3,hfz18_4,hfz18_5,hfz18_6,hfz18_7,hfz18_8,hfz18_9,hfz18_10,hfz18_11⟩:=blkz_12 BK944.out
     go_upto_region 8 with (first | ((with_reducible refine gate_callee (f:=15) rfl ?_);refine goesL_ (some 29) rfl rfl Try.func15 (by kernel_rfl) rfl #[.slice A0 l0.length c0,.agg #[.int .i64 a1_0,.int .i64 a1_1,.int .i64 a1_2,.int .i64 a1_3,.int .i64 a1_4,.int .i64 a1_5,.float .f64 a1_6,.bool a1_7,.slice A1_8 l1_8.length c1_8,.int .i64 a1_9,.int .i64 a1_10,.int .i64 a1_11]] rfl (by (try simp only [List.map_toArray,List.map_cons,List.map_nil]);first | done | rfl | (simp only [List.length_drop,List.length_take];rfl)) ?_;(with_reducible refine (undo_Put.calls kj3 (fun k_ => k_ < w.heap.size) _ _ l0 a1_0 a1_1 a1_2 a1_3 a1_4 a1_5 a1_6 a1_7 _ _ l1_8 a1_9 a1_10 a1_11 t947 t950 t951 _ ?side1 ?side2 ?side3 A12.out).mono ?_);(case side1 => exact Kd.V_mk HC0.out (Kd.F_below (Kd.C_F k32_heap HR0.out) (by repeat (first | (with_reducible first | exact HB.out | apply below_alloc | apply pw_below_drewN | apply below_drew1 | refine below_set ?_ GE944.out) | exact HB.out))));(case side2 => repeat (first | exact (Kd.C_below HR1_8.out HB.out) | (with_reducible refine Kd.C_alloc ?_ _) | (with_reducible refine Kd.C_drewN ?_ _) | (with_reducible refine Kd.C_drew ?_)));(case side3 => exact HC1_8.out);rintro e w19 ⟨v948,rfl,ho0,hb⟩;refine ⟨_,rfl,?_⟩;have n0_:=Aside0.mk (Kd.N_lower (Kd.N_mono (ok':=fun k_ => k_ ≠ gb944) ho0 (fun k_ hk_ => Or.elim hk_ (fun hs_ => fun e_ => Nat.not_le.2 hs_ (by rw [e_];exact GW944.out)) (fun hn_ => (Kd.freshB (g:=gb944) (o:=.cells #[.int .i64 a1_0,.int .i64 a1_1,.int .i64 a1_2,.int .i64 a1_3,.int .i64 a1_4,.int .i64 a1_5,.float .f64 a1_6,.bool a1_7,.slice A1_8 l1_8.length c1_8,.int .i64 a1_9,.int .i64 a1_10,.int .i64 a1_11] 32 (0,0)) (by (with_reducible repeat (first | refine blk_drewN ?_ _ | refine blk_drew ?_ | refine blk_alloc ?_ _));exact BK944.out) k_ hn_)))) (below_size (by repeat (first | (with_reducible first | exact HB.out | apply below_alloc | apply pw_below_drewN | apply below_drew1 | refine below_set ?_ GE944.out) | exact HB.out))));have n1_:=Aside0.mk (blk_below (g:=gb944) (o:=.cells #[.int .i64 a1_0,.int .i64 a1_1,.int .i64 a1_2,.int .i64 a1_3,.int .i64 a1_4,.int .i64 a1_5,.float .f64 a1_6,.bool a1_7,.slice A1_8 l1_8.length c1_8,.int .i64 a1_9,.int .i64 a1_10,.int .i64 a1_11] 32 (0,0)) (by (with_reducible repeat (first | refine blk_drewN ?_ _ | refine blk_drew ?_ | refine blk_alloc ?_ _));exact BK944.out) hb);have n2_:=Aside0.mk (below_step (by repeat (first | (with_reducible first | exact HB.out | apply below_alloc | apply pw_below_drewN | apply below_drew1 | refine below_set ?_ GE944.out) | exact HB.out)) hb);clear BK944;clear HB;have HO949:=n0_;have BK944:=n1_;have HB:=n2_;clear n0_ n1_ n2_;(try clear hb);(try clear hb2);(try clear hk);(try clear hi);(try clear ho0)) | ((with_reducible refine gate_callee (f:=16) rfl ?_);refine goesL_ (some 36) rfl rfl Try.func16 (by kernel_rfl) rfl #[.slice A0 l0.length c0,.int .i64 a2] rfl (by (try simp only [List.map_toArray,List.map_cons,List.map_nil]);first | done | rfl | (simp only [List.length_drop,List.length_take];rfl)) ?_;(with_reducible refine (undo_Drop.calls (fun k_ => k_ < w.heap.size) _ _ l0 a2 t952 t955 _ ?side1 A13.out).mono ?_);(case side1 => exact Kd.V_mk HC0.out (Kd.F_below (Kd.C_F k32_heap HR0.out) (by repeat (first | (with_reducible first | exact HB.out | apply below_alloc | apply pw_below_drewN | apply below_drew1 | refine below_set ?_ GE944.out) | exact HB.out))));rintro e w20 ⟨v953,rfl,ho0,hb⟩;refine ⟨_,rfl,?_⟩;have n0_:=Aside0.mk (Kd.N_elder' (by (with_reducible repeat (first | apply Kd.N_alloc | apply Kd.N_drewN | apply Kd.N_drew));exact HO949.out) (Kd.N_base ho0) hb);have n1_:=Aside0.mk (Kd.N_lower (Kd.N_mono (ok':=fun k_ => some k_ ≠ (v948 : Value).ownBlock ∧ k_ ≠ gb944) ho0 (fun k_ hk_ => ⟨Or.elim hk_ (fun hs_ => fun e_ => Nat.not_le.2 hs_ (Kd.N_base HO949.out k_ e_.symm)) (fun hn_ => (Kd.fresh' (Kd.N_lt (by (with_reducible repeat (first | apply Kd.N_alloc | apply Kd.N_drewN | apply Kd.N_drew));exact HO949.out)) k_ hn_)),Or.elim hk_ (fun hs_ => fun e_ => Nat.not_le.2 hs_ (by rw [e_];exact GW944.out)) (fun hn_ => (Kd.freshB (g:=gb944) (o:=.cells #[.int .i64 a1_0,.int .i64 a1_1,.int .i64 a1_2,.int .i64 a1_3,.int .i64 a1_4,.int .i64 a1_5,.float .f64 a1_6,.bool a1_7,.slice A1_8 l1_8.length c1_8,.int .i64 a1_9,.int .i64 a1_10,.int .i64 a1_11] 32 (0,0)) (by (with_reducible repeat (first | refine blk_drewN ?_ _ | refine blk_drew ?_ | refine blk_alloc ?_ _));exact BK944.out) k_ hn_))⟩)) (below_size (by repeat (first | (with_reducible first | exact HB.out | apply below_alloc | apply pw_below_drewN | apply below_drew1 | refine below_set ?_ GE944.out) | exact HB.out))));have n2_:=Aside0.mk (blk_below (g:=gb944) (o:=.cells #[.int .i64 a1_0,.int .i64 a1_1,.int .i64 a1_2,.int .i64 a1_3,.int .i64 a1_4,.int .i64 a1_5,.float .f64 a1_6,.bool a1_7,.slice A1_8 l1_8.length c1_8,.int .i64 a1_9,.int .i64 a1_10,.int .i64 a1_11] 32 (0,0)) (by (with_reducible repeat (first | refine blk_drewN ?_ _ | refine blk_drew ?_ | refine blk_alloc ?_ _));exact BK944.out) hb);have n3_:=Aside0.mk (below_step (by repeat (first | (with_reducible first | exact HB.out | apply below_alloc | apply pw_below_drewN | apply below_drew1 | refine below_set ?_ GE944.out) | exact HB.out)) hb);clear HO949;clear BK944;clear HB;have HO949:=n0_;have HO954:=n1_;have BK944:=n2_;have HB:=n3_;clear n0_ n1_ n2_ n3_;(try clear hb);(try clear hb2);(try clear hk);(try clear hi);(try clear ho0)) | ((with_reducible refine gate_callee (f:=21) rfl ?_);refine goesL_ (some 40) rfl rfl Try.func21 (by kernel_rfl) rfl #[.slice A0 l0.length c0] rfl (by (try simp only [List.map_toArray,List.map_cons,List.map_nil]);first | done | rfl | (simp only [List.length_drop,List.length_take];rfl)) ?_;(with_reducible refine (humusref14_May.calls kj3 _ _ l0 true _ ?side1 ?side2 A14.out).mono ?_);(case side1 => repeat (first | exact (Kd.C_below HR0.out HB.out) | (with_reducible refine Kd.C_alloc ?_ _) | (with_reducible refine Kd.C_drewN ?_ _) | (with_reducible refine Kd.C_drew ?_)));(case side2 => exact HC0.out);rintro e w21 ⟨rfl,hb⟩;refine ⟨_,rfl,?_⟩;have n0_:=Aside0.mk (Kd.N_below (by (with_reducible repeat (first | apply Kd.N_alloc | apply Kd.N_drewN | apply Kd.N_drew));exact HO949.out) hb);have n1_:=Aside0.mk (Kd.N_below (by (with_reducible repeat (first | apply Kd.N_alloc | apply Kd.N_drewN | apply Kd.N_drew));exact HO954.out) hb);have n2_:=Aside0.mk (blk_below (g:=gb944) (o:=.cells #[.int .i64 a1_0,.int .i64 a1_1,.int .i64 a1_2,.int .i64 a1_3,.int .i64 a1_4,.int .i64 a1_5,.float .f64 a1_6,.bool a1_7,.slice A1_8 l1_8.length c1_8,.int .i64 a1_9,.int .i64 a1_10,.int .i64 a1_11] 32 (0,0)) (by (with_reducible repeat (first | refine blk_drewN ?_ _ | refine blk_drew ?_ | refine blk_alloc ?_ _));exact BK944.out) hb);have n3_:=Aside0.mk (below_step (by repeat (first | (with_reducible first | exact HB.out | apply below_alloc | apply pw_below_drewN | apply below_drew1 | refine below_set ?_ GE944.out) | exact HB.out)) hb);clear HO949;clear HO954;clear BK944;clear HB;have HO949:=n0_;have HO954:=n1_;have BK944:=n2_;have HB:=n3_;clear n0_ n1_ n2_ n3_;(try clear hb);(try clear hb2);(try clear hk);(try clear hi);obtain ⟨hcz22_0,hcz22_1,hcz22_2,hcz22_3,hcz22_4,hcz22_5,hcz22_6,hcz22_7,hcz22_8,hcz22_9,hcz22_10,hcz22_11⟩:=blkc_12 BK944.out;obtain ⟨hfz22_0,hfz22_1,hfz22_2,hfz22_3,hfz22_4,hfz22_5,hfz22_6,hfz22_7,hfz22_8,hfz22_9,hfz22_10⟩:=blkz_11 BK944.out;have hfz22_11:=blk_frozen BK944.out 11) | ((with_reducible refine gate_callee (f:=25) rfl ?_);refine goesL_ (some 83) rfl rfl Try.func25 (by kernel_rfl) rfl #[.slice A0 l0.length c0,.agg #[.int .i64 a1_0,.int .i64 a1_1,.int .i64 a1_2,.int .i64 a1_3,.int .i64 a1_4,.int .i64 a1_5,.float .f64 a1_6,.bool a1_7,.slice A1_8 l1_8.length c1_8,.int .i64 a1_9,.int .i64 a1_10,.int .i64 a1_11]] rfl (by (try simp only [List.map_toArray,List.map_cons,List.map_nil]);first | done | rfl | (simp only [List.length_drop,List.length_take];rfl)) ?_;(with_reducible refine (humusref14_Put.calls kj3 (fun k_ => k_ < w.heap.size) _ _ l0 a1_0 a1_1 a1_2 a1_3 a1_4 a1_5 a1_6 a1_7 (fun k_ => k_ < w.heap.size) _ _ l1_8 a1_9 a1_10 a1_11 t961 t964 t965 _ ?side1 ?side2 A16.out).mono ?_);(case side1 => exact Kd.V_mk HC0.out (Kd.F_below (Kd.C_F k32_heap HR0.out) (by repeat (first | (with_reducible first | exact HB.out | apply below_alloc | apply pw_below_drewN | apply below_drew1 | refine below_set ?_ GE944.out) | exact HB.out))));(case side2 => exact Kd.V_mk HC1_8.out (Kd.F_below (Kd.C_F Kd.heap_f64 HR1_8.out) (by repeat (first | (with_reducible first | exact HB.out | apply below_alloc | apply pw_below_drewN | apply below_drew1 | refine below_set ?_ GE944.out) | exact HB.out))));rintro e w23 ⟨v962,rfl,ho0,hb⟩;refine ⟨_,rfl,?_⟩;have n0_:=Aside0.mk (Kd.N_below (by (with_reducible repeat (first | apply Kd.N_alloc | apply Kd.N_drewN | apply Kd.N_drew));exact HO949.out) hb);have n1_:=Aside0.mk (Kd.N_below (by (with_reducible repeat (first | apply Kd.N_alloc | apply Kd.N_drewN | apply Kd.N_drew));exact HO954.out) hb);have n2_:=Aside0.mk (Kd.V_lower (Kd.V_mono (ok':=fun k_ => some k_ ≠ (v948 : Value).ownBlock ∧ some k_ ≠ (v953 : Value).ownBlock ∧ k_ ≠ gb944) ho0 (fun k_ hk_ => ⟨Or.elim hk_ (fun hs_ => Or.elim hs_ (fun hs_ => fun e_ => Nat.not_le.2 hs_ (Kd.N_base HO949.out k_ e_.symm)) (fun hs_ => fun e_ => Nat.not_le.2 hs_ (Kd.N_base HO949.out k_ e_.symm))) (fun hn_ => (Kd.fresh' (Kd.N_lt (by (with_reducible repeat (first | apply Kd.N_alloc | apply Kd.N_drewN | apply Kd.N_drew));exact HO949.out)) k_ hn_)),Or.elim hk_ (fun hs_ => Or.elim hs_ (fun hs_ => fun e_ => Nat.not_le.2 hs_ (Kd.N_base HO954.out k_ e_.symm)) (fun hs_ => fun e_ => Nat.not_le.2 hs_ (Kd.N_base HO954.out k_ e_.symm))) (fun hn_ => (Kd.fresh' (Kd.N_lt (by (with_reducible repeat (first | apply Kd.N_alloc | apply Kd.N_drewN | apply Kd.N_drew));exact HO954.out)) k_ hn_)),Or.elim hk_ (fun hs_ => Or.elim hs_ (fun hs_ => fun e_ => Nat.not_le.2 hs_ (by rw [e_];exact GW944.out)) (fun hs_ => fun e_ => Nat.not_le.2 hs_ (by rw [e_];exact GW944.out))) (fun hn_ => (Kd.freshB (g:=gb944) (o:=.cells #[.int .i64 a1_0,.int .i64 a1_1,.int .i64 a1_2,.int .i64 a1_3,.int .i64 a1_4,.int .i64 a1_5,.float .f64 a1_6,.bool a1_7,.slice A1_8 l1_8.length c1_8,.int .i64 a1_9,.int .i64 a1_10,.int .i64 a1_11] 32 (0,0)) (by (with_reducible repeat (first | refine blk_drewN ?_ _ | refine blk_drew ?_ | refine blk_alloc ?_ _));exact BK944.out) k_ hn_))⟩)) (below_size (by repeat (first | (with_reducible first | exact HB.out | apply below_alloc | apply pw_below_drewN | apply below_drew1 | refine below_set ?_ GE944.out) | exact HB.out))));have n3_:=Aside0.mk (blk_below (g:=gb944) (o:=.cells #[.int .i64 a1_0,.int .i64 a1_1,.int .i64 a1_2,.int .i64 a1_3,.int .i64 a1_4,.int .i64 a1_5,.float .f64 a1_6,.bool a1_7,.slice A1_8 l1_8.length c1_8,.int .i64 a1_9,.int .i64 a1_10,.int .i64 a1_11] 32 (0,0)) (by (with_reducible repeat (first | refine blk_drewN ?_ _ | refine blk_drew ?_ | refine blk_alloc ?_ _));exact BK944.out) hb);have n4_:=Aside0.mk (below_step (by repeat (first | (with_reducible first | exact HB.out | apply below_alloc | apply pw_below_drewN | apply below_drew1 | refine below_set ?_ GE944.out) | exact HB.out)) hb);clear HO949;clear HO954;clear BK944;clear HB;have HO949:=n0_;have HO954:=n1_;have HO963:=n2_;have BK944:=n3_;have HB:=n4_;clear n0_ n1_ n2_ n3_ n4_;(try clear hb);(try clear hb2);(try clear hk);(try clear hi);(try clear ho0)))
     (try simp only [Act.put,List.setIfInBounds_toArray,List.set_cons_zero,List.set_cons_succ])
     go_cut [105] (fun v105 wc => ∃ (kq : Nat) (x105_16 : Bool),v105 = .bool x105_16 ∧ Aside0 (humuslaw14_UndoTurns.j2 kq l0 a2 t952 t955 x105_16 = some r) ∧ Aside0 (kq ≤ kj3) ∧ Aside0 (Kd.N k32 32 wc w.heap.size (fun k_ => k_ ≠ gb944) v953 t952) ∧ Aside0 (wc.heap[gb944]? = some (.cells #[.int .i64 a1_0,.int .i64 a1_1,.int .i64 a1_2,.int .i64 a1_3,.int .i64 a1_4,.int .i64 a1_5,.float .f64 a1_6,.bool a1_7,(.slice A1_8 l1_8.length c1_8),.int .i64 a1_9,.int .i64 a1_10,.int .i64 a1_11] 32 (0,0))) ∧ Aside0 (Below w.heap.size w wc))
     case first =>
      have H:=HC17.out
      clear HC17
      replace H:=Option.bind_eq_some_iff.mp H
      obtain ⟨t966,A240,H⟩:=H
      replace H : (if t966 = true then (if t950 = t964 then (if t951 = t965 then ((humusref14_May.f kj3 t947).bind fun t967 => (humuslaw14_UndoTurns.j2 kj3 l0 a2 t952 t955 (!t967))) else (humuslaw14_UndoTurns.j2 kj3 l0 a2 t952 t955 true)) else (humuslaw14_UndoTurns.j2 kj3 l0 a2 t952 t955 true)) else (humuslaw14_UndoTurns.j2 kj3 l0 a2 t952 t955 true)) = some r:=H
      have A24:=Aside0.mk A240
      clear A240
      by_cases c25 : t966 = true
      ·subst c25
       have H1 : (if t950 = t964 then (if t951 = t965 then ((humusref14_May.f kj3 t947).bind fun t967 => (humuslaw14_UndoTurns.j2 kj3 l0 a2 t952 t955 (!t967))) else (humuslaw14_UndoTurns.j2 kj3 l0 a2 t952 t955 true)) else (humuslaw14_UndoTurns.j2 kj3 l0 a2 t952 t955 true)) = some r:=by rw [if_pos rfl] at H;exact H
       clear H
       have H:=H1
       clear H1
       by_cases c26 : t950 = t964
       ·rw [if_pos c26] at H
        have c26b0 : (t950 == t964) = true:=beq_iff_eq.mpr c26
        have c26b1 : (t950 != t964) = false:=bne_eq_false_iff_eq.mpr c26
        clear c26
        (first | rw [c26b0] | (simp only [i64_w,i32_w];rw [c26b0]) | skip)
        by_cases c27 : t951 = t965
        ·rw [if_pos c27] at H
         have c27b0 : (t951 == t965) = true:=beq_iff_eq.mpr c27
         have c27b1 : (t951 != t965) = false:=bne_eq_false_iff_eq.mpr c27
         clear c27
         replace H:=Option.bind_eq_some_iff.mp H
         obtain ⟨t967,A280,H⟩:=H
         replace H : (humuslaw14_UndoTurns.j2 kj3 l0 a2 t952 t955 (!t967)) = some r:=H
         have A28:=Aside0.mk A280
         clear A280
         have H':=Aside0.mk H
         clear H
         obtain ⟨Ao29,co29,eo29⟩:=Kd.N_slice HO949.out
         subst eo29
         obtain ⟨Ao30,co30,eo30⟩:=Kd.V_slice HO963.out
         subst eo30
         go_wp2_with (first | ((with_reducible refine gate_callee (f:=26) rfl ?_);refine goesL_ (some 89) rfl rfl Try.func26 (by kernel_rfl) rfl #[.slice Ao29 t947.length co29,.slice Ao30 t961.length co30] rfl (by (try simp only [List.map_toArray,List.map_cons,List.map_nil]);first | done | rfl | (simp only [List.length_drop,List.length_take];rfl)) ?_;(with_reducible refine (humusref09_List.calls kj3 _ _ t947 _ _ t961 true _ ?side1 ?side2 ?side3 ?side4 A24.out).mono ?_);(case side1 => repeat (first | exact (Kd.N_reads' HO949.out).2.2 | (with_reducible refine Kd.C_alloc ?_ _) | (with_reducible refine Kd.C_drewN ?_ _) | (with_reducible refine Kd.C_drew ?_)));(case side2 => exact (Kd.N_reads' HO949.out).2.1);(case side3 => repeat (first | exact (Kd.V_reads' HO963.out).2.2 | (with_reducible refine Kd.C_alloc ?_ _) | (with_reducible refine Kd.C_drewN ?_ _) | (with_reducible refine Kd.C_drew ?_)));(case side4 => exact (Kd.V_reads' HO963.out).2.1);rintro e w31 ⟨rfl,hb⟩;refine ⟨_,rfl,?_⟩;have n0_:=Aside0.mk (Kd.N_below (by (with_reducible repeat (first | apply Kd.N_alloc | apply Kd.N_drewN | apply Kd.N_drew));exact HO949.out) hb);have n1_:=Aside0.mk (Kd.N_below (by (with_reducible repeat (first | apply Kd.N_alloc | apply Kd.N_drewN | apply Kd.N_drew));exact HO954.out) hb);have n2_:=Aside0.mk (Kd.V_below (by (with_reducible repeat (first | apply Kd.V_alloc | apply Kd.V_drewN | apply Kd.V_drew));exact HO963.out) hb);have n3_:=Aside0.mk (blk_below (g:=gb944) (o:=.cells #[.int .i64 a1_0,.int .i64 a1_1,.int .i64 a1_2,.int .i64 a1_3,.int .i64 a1_4,.int .i64 a1_5,.float .f64 a1_6,.bool a1_7,.slice A1_8 l1_8.length c1_8,.int .i64 a1_9,.int .i64 a1_10,.int .i64 a1_11] 32 (0,0)) (by (with_reducible repeat (first | refine blk_drewN ?_ _ | refine blk_drew ?_ | refine blk_alloc ?_ _));exact BK944.out) hb);have n4_:=Aside0.mk (below_step (by repeat (first | (with_reducible first | exact HB.out | apply below_alloc | apply pw_below_drewN | apply below_drew1 | refine below_set ?_ GE944.out) | exact HB.out)) hb);clear HO949;clear HO954;clear HO963;clear BK944;clear HB;have HO949:=n0_;have HO954:=n1_;have HO963:=n2_;have BK944:=n3_;have HB:=n4_;clear n0_ n1_ n2_ n3_ n4_;(try clear hb);(try clear hb2);(try clear hk);(try clear hi)) | (go_at_call 21;(with_reducible refine (humusref14_May.calls kj3 _ _ t947 t967 _ ?side1 ?side2 A28.out).mono ?_);(case side1 => repeat (first | exact (Kd.N_reads' HO949.out).2.2 | (with_reducible refine Kd.C_alloc ?_ _) | (with_reducible refine Kd.C_drewN ?_ _) | (with_reducible refine Kd.C_drew ?_)));(case side2 => exact (Kd.N_reads' HO949.out).2.1);rintro e w32 ⟨rfl,hb⟩;have n0_:=Aside0.mk (Kd.N_below (by (with_reducible repeat (first | apply Kd.N_alloc | apply Kd.N_drewN | apply Kd.N_drew));exact HO949.out) hb);have n1_:=Aside0.mk (Kd.N_below (by (with_reducible repeat (first | apply Kd.N_alloc | apply Kd.N_drewN | apply Kd.N_drew));exact HO954.out) hb);have n2_:=Aside0.mk (Kd.V_below (by (with_reducible repeat (first | apply Kd.V_alloc | apply Kd.V_drewN | apply Kd.V_drew));exact HO963.out) hb);have n3_:=Aside0.mk (blk_below (g:=gb944) (o:=.cells #[.int .i64 a1_0,.int .i64 a1_1,.int .i64 a1_2,.int .i64 a1_3,.int .i64 a1_4,.int .i64 a1_5,.float .f64 a1_6,.bool a1_7,.slice A1_8 l1_8.length c1_8,.int .i64 a1_9,.int .i64 a1_10,.int .i64 a1_11] 32 (0,0)) (by (with_reducible repeat (first | refine blk_drewN ?_ _ | refine blk_drew ?_ | refine blk_alloc ?_ _));exact BK944.out) hb);have n4_:=Aside0.mk (below_step (by repeat (first | (with_reducible first | exact HB.out | apply below_alloc | apply pw_below_drewN | apply below_drew1 | refine below_set ?_ GE944.out) | exact HB.out)) hb);clear HO949;clear HO954;clear HO963;clear BK944;clear HB;have HO949:=n0_;have HO954:=n1_;have HO963:=n2_;have BK944:=n3_;have HB:=n4_;clear n0_ n1_ n2_ n3_ n4_;(try clear hb);(try clear hb2);(try clear hk);(try clear hi)))
         go_meet
         case rel => exact ⟨_,(!t967),(by first | rfl | (simp;done) | (simp [*];done)),H',⟨by have:=HJ3.out;first | omega | exact Nat.le_refl _⟩,⟨by (with_reducible repeat (first | apply Kd.N_alloc | apply Kd.N_drewN | apply Kd.N_drew));exact Kd.N_mono HO954.out (fun _ hk => hk.2)⟩,⟨by (with_reducible repeat (first | refine blk_drewN ?_ _ | refine blk_drew ?_ | refine blk_alloc ?_ _));exact BK944.out⟩,⟨by repeat (first | (with_reducible first | exact HB.out | apply below_alloc | apply pw_below_drewN | apply below_drew1 | refine below_set ?_ GE944.out) | exact HB.out)⟩⟩
        ·rw [if_neg c27] at H
         have c27b0 : (t951 == t965) = false:=beq_eq_false_iff_ne.mpr c27
         have c27b1 : (t951 != t965) = true:=bne_iff_ne.mpr c27
         have H':=Aside0.mk H
         clear H
         obtain ⟨Ao33,co33,eo33⟩:=Kd.N_slice HO949.out
         subst eo33
         obtain ⟨Ao34,co34,eo34⟩:=Kd.V_slice HO963.out
         subst eo34
         go_wp2_with (first | ((with_reducible refine gate_callee (f:=26) rfl ?_);refine goesL_ (some 89) rfl rfl Try.func26 (by kernel_rfl) rfl #[.slice Ao33 t947.length co33,.slice Ao34 t961.length co34] rfl (by (try simp only [List.map_toArray,List.map_cons,List.map_nil]);first | done | rfl | (simp only [List.length_drop,List.length_take];rfl)) ?_;(with_reducible refine (humusref09_List.calls kj3 _ _ t947 _ _ t961 true _ ?side1 ?side2 ?side3 ?side4 A24.out).mono ?_);(case side1 => repeat (first | exact (Kd.N_reads' HO949.out).2.2 | (with_reducible refine Kd.C_alloc ?_ _) | (with_reducible refine Kd.C_drewN ?_ _) | (with_reducible refine Kd.C_drew ?_)));(case side2 => exact (Kd.N_reads' HO949.out).2.1);(case side3 => repeat (first | exact (Kd.V_reads' HO963.out).2.2 | (with_reducible refine Kd.C_alloc ?_ _) | (with_reducible refine Kd.C_drewN ?_ _) | (with_reducible refine Kd.C_drew ?_)));(case side4 => exact (Kd.V_reads' HO963.out).2.1);rintro e w35 ⟨rfl,hb⟩;refine ⟨_,rfl,?_⟩;have n0_:=Aside0.mk (Kd.N_below (by (with_reducible repeat (first | apply Kd.N_alloc | apply Kd.N_drewN | apply Kd.N_drew));exact HO949.out) hb);have n1_:=Aside0.mk (Kd.N_below (by (with_reducible repeat (first | apply Kd.N_alloc | apply Kd.N_drewN | apply Kd.N_drew));exact HO954.out) hb);have n2_:=Aside0.mk (Kd.V_below (by (with_reducible repeat (first | apply Kd.V_alloc | apply Kd.V_drewN | apply Kd.V_drew));exact HO963.out) hb);have n3_:=Aside0.mk (blk_below (g:=gb944) (o:=.cells #[.int .i64 a1_0,.int .i64 a1_1,.int .i64 a1_2,.int .i64 a1_3,.int .i64 a1_4,.int .i64 a1_5,.float .f64 a1_6,.bool a1_7,.slice A1_8 l1_8.length c1_8,.int .i64 a1_9,.int .i64 a1_10,.int .i64 a1_11] 32 (0,0)) (by (with_reducible repeat (first | refine blk_drewN ?_ _ | refine blk_drew ?_ | refine blk_alloc ?_ _));exact BK944.out) hb);have n4_:=Aside0.mk (below_step (by repeat (first | (with_reducible first | exact HB.out | apply below_alloc | apply pw_below_drewN | apply below_drew1 | refine below_set ?_ GE944.out) | exact HB.out)) hb);clear HO949;clear HO954;clear HO963;clear BK944;clear HB;have HO949:=n0_;have HO954:=n1_;have HO963:=n2_;have BK944:=n3_;have HB:=n4_;clear n0_ n1_ n2_ n3_ n4_;(try clear hb);(try clear hb2);(try clear hk);(try clear hi)))
         go_meet
         case rel => exact ⟨_,(true),(by first | rfl | (simp;done) | (simp [*];done)),H',⟨by have:=HJ3.out;first | omega | exact Nat.le_refl _⟩,⟨by (with_reducible repeat (first | apply Kd.N_alloc | apply Kd.N_drewN | apply Kd.N_drew));exact Kd.N_mono HO954.out (fun _ hk => hk.2)⟩,⟨by (with_reducible repeat (first | refine blk_drewN ?_ _ | refine blk_drew ?_ | refine blk_alloc ?_ _));exact BK944.out⟩,⟨by repeat (first | (with_reducible first | exact HB.out | apply below_alloc | apply pw_below_drewN | apply below_drew1 | refine below_set ?_ GE944.out) | exact HB.out)⟩⟩
       ·rw [if_neg c26] at H
        have c26b0 : (t950 == t964) = false:=beq_eq_false_iff_ne.mpr c26
        have c26b1 : (t950 != t964) = true:=bne_iff_ne.mpr c26
        (first | rw [c26b0] | (simp only [i64_w,i32_w];rw [c26b0]) | skip)
        have H':=Aside0.mk H
        clear H
        obtain ⟨Ao36,co36,eo36⟩:=Kd.N_slice HO949.out
        subst eo36
        obtain ⟨Ao37,co37,eo37⟩:=Kd.V_slice HO963.out
        subst eo37
        go_wp2_with (first | ((with_reducible refine gate_callee (f:=26) rfl ?_);refine goesL_ (some 89) rfl rfl Try.func26 (by kernel_rfl) rfl #[.slice Ao36 t947.length co36,.slice Ao37 t961.length co37] rfl (by (try simp only [List.map_toArray,List.map_cons,List.map_nil]);first | done | rfl | (simp only [List.length_drop,List.length_take];rfl)) ?_;(with_reducible refine (humusref09_List.calls kj3 _ _ t947 _ _ t961 true _ ?side1 ?side2 ?side3 ?side4 A24.out).mono ?_);(case side1 => repeat (first | exact (Kd.N_reads' HO949.out).2.2 | (with_reducible refine Kd.C_alloc ?_ _) | (with_reducible refine Kd.C_drewN ?_ _) | (with_reducible refine Kd.C_drew ?_)));(case side2 => exact (Kd.N_reads' HO949.out).2.1);(case side3 => repeat (first | exact (Kd.V_reads' HO963.out).2.2 | (with_reducible refine Kd.C_alloc ?_ _) | (with_reducible refine Kd.C_drewN ?_ _) | (with_reducible refine Kd.C_drew ?_)));(case side4 => exact (Kd.V_reads' HO963.out).2.1);rintro e w38 ⟨rfl,hb⟩;refine ⟨_,rfl,?_⟩;have n0_:=Aside0.mk (Kd.N_below (by (with_reducible repeat (first | apply Kd.N_alloc | apply Kd.N_drewN | apply Kd.N_drew));exact HO949.out) hb);have n1_:=Aside0.mk (Kd.N_below (by (with_reducible repeat (first | apply Kd.N_alloc | apply Kd.N_drewN | apply Kd.N_drew));exact HO954.out) hb);have n2_:=Aside0.mk (Kd.V_below (by (with_reducible repeat (first | apply Kd.V_alloc | apply Kd.V_drewN | apply Kd.V_drew));exact HO963.out) hb);have n3_:=Aside0.mk (blk_below (g:=gb944) (o:=.cells #[.int .i64 a1_0,.int .i64 a1_1,.int .i64 a1_2,.int .i64 a1_3,.int .i64 a1_4,.int .i64 a1_5,.float .f64 a1_6,.bool a1_7,.slice A1_8 l1_8.length c1_8,.int .i64 a1_9,.int .i64 a1_10,.int .i64 a1_11] 32 (0,0)) (by (with_reducible repeat (first | refine blk_drewN ?_ _ | refine blk_drew ?_ | refine blk_alloc ?_ _));exact BK944.out) hb);have n4_:=Aside0.mk (below_step (by repeat (first | (with_reducible first | exact HB.out | apply below_alloc | apply pw_below_drewN | apply below_drew1 | refine below_set ?_ GE944.out) | exact HB.out)) hb);clear HO949;clear HO954;clear HO963;clear BK944;clear HB;have HO949:=n0_;have HO954:=n1_;have HO963:=n2_;have BK944:=n3_;have HB:=n4_;clear n0_ n1_ n2_ n3_ n4_;(try clear hb);(try clear hb2);(try clear hk);(try clear hi)))
        go_meet
        case rel => exact ⟨_,(true),(by first | rfl | (simp;done) | (simp [*];done)),H',⟨by have:=HJ3.out;first | omega | exact Nat.le_refl _⟩,⟨by (with_reducible repeat (first | apply Kd.N_alloc | apply Kd.N_drewN | apply Kd.N_drew));exact Kd.N_mono HO954.out (fun _ hk => hk.2)⟩,⟨by (with_reducible repeat (first | refine blk_drewN ?_ _ | refine blk_drew ?_ | refine blk_alloc ?_ _));exact BK944.out⟩,⟨by repeat (first | (with_reducible first | exact HB.out | apply below_alloc | apply pw_below_drewN | apply below_drew1 | refine below_set ?_ GE944.out) | exact HB.out)⟩⟩
      ·replace c25:=Bool.eq_false_iff.mpr c25
       subst c25
       have H1 : (humuslaw14_UndoTurns.j2 kj3 l0 a2 t952 t955 true) = some r:=by rw [if_neg (show ¬ (false = true) by decide)] at H;exact H
       clear H
       have H:=H1
       clear H1
       have H':=Aside0.mk H
       clear H
       obtain ⟨Ao39,co39,eo39⟩:=Kd.N_slice HO949.out
       subst eo39
       obtain ⟨Ao40,co40,eo40⟩:=Kd.V_slice HO963.out
       subst eo40
       go_wp2_with (first | ((with_reducible refine gate_callee (f:=26) rfl ?_);refine goesL_ (some 89) rfl rfl Try.func26 (by kernel_rfl) rfl #[.slice Ao39 t947.length co39,.slice Ao40 t961.length co40] rfl (by (try simp only [List.map_toArray,List.map_cons,List.map_nil]);first | done | rfl | (simp only [List.length_drop,List.length_take];rfl)) ?_;(with_reducible refine (humusref09_List.calls kj3 _ _ t947 _ _ t961 false _ ?side1 ?side2 ?side3 ?side4 A24.out).mono ?_);(case side1 => repeat (first | exact (Kd.N_reads' HO949.out).2.2 | (with_reducible refine Kd.C_alloc ?_ _) | (with_reducible refine Kd.C_drewN ?_ _) | (with_reducible refine Kd.C_drew ?_)));(case side2 => exact (Kd.N_reads' HO949.out).2.1);(case side3 => repeat (first | exact (Kd.V_reads' HO963.out).2.2 | (with_reducible refine Kd.C_alloc ?_ _) | (with_reducible refine Kd.C_drewN ?_ _) | (with_reducible refine Kd.C_drew ?_)));(case side4 => exact (Kd.V_reads' HO963.out).2.1);rintro e w41 ⟨rfl,hb⟩;refine ⟨_,rfl,?_⟩;have n0_:=Aside0.mk (Kd.N_below (by (with_reducible repeat (first | apply Kd.N_alloc | apply Kd.N_drewN | apply Kd.N_drew));exact HO949.out) hb);have n1_:=Aside0.mk (Kd.N_below (by (with_reducible repeat (first | apply Kd.N_alloc | apply Kd.N_drewN | apply Kd.N_drew));exact HO954.out) hb);have n2_:=Aside0.mk (Kd.V_below (by (with_reducible repeat (first | apply Kd.V_alloc | apply Kd.V_drewN | apply Kd.V_drew));exact HO963.out) hb);have n3_:=Aside0.mk (blk_below (g:=gb944) (o:=.cells #[.int .i64 a1_0,.int .i64 a1_1,.int .i64 a1_2,.int .i64 a1_3,.int .i64 a1_4,.int .i64 a1_5,.float .f64 a1_6,.bool a1_7,.slice A1_8 l1_8.length c1_8,.int .i64 a1_9,.int .i64 a1_10,.int .i64 a1_11] 32 (0,0)) (by (with_reducible repeat (first | refine blk_drewN ?_ _ | refine blk_drew ?_ | refine blk_alloc ?_ _));exact BK944.out) hb);have n4_:=Aside0.mk (below_step (by repeat (first | (with_reducible first | exact HB.out | apply below_alloc | apply pw_below_drewN | apply below_drew1 | refine below_set ?_ GE944.out) | exact HB.out)) hb);clear HO949;clear HO954;clear HO963;clear BK944;clear HB;have HO949:=n0_;have HO954:=n1_;have HO963:=n2_;have BK944:=n3_;have HB:=n4_;clear n0_ n1_ n2_ n3_ n4_;(try clear hb);(try clear hb2);(try clear hk);(try clear hi)))
       go_meet
       case rel => exact ⟨_,(true),(by first | rfl | (simp;done) | (simp [*];done)),H',⟨by have:=HJ3.out;first | omega | exact Nat.le_refl _⟩,⟨by (with_reducible repeat (first | apply Kd.N_alloc | apply Kd.N_drewN | apply Kd.N_drew));exact Kd.N_mono HO954.out (fun _ hk => hk.2)⟩,⟨by (with_reducible repeat (first | refine blk_drewN ?_ _ | refine blk_drew ?_ | refine blk_alloc ?_ _));exact BK944.out⟩,⟨by repeat (first | (with_reducible first | exact HB.out | apply below_alloc | apply pw_below_drewN | apply below_drew1 | refine below_set ?_ GE944.out) | exact HB.out)⟩⟩
     case rest =>
      clear HC17
      try clear c1
      try clear c2
      try clear p2
      try clear c4
      try clear c7
      try clear c9
      try clear c15
      try clear c16
      try clear c19
      try clear c20
      try clear c21
      try clear c25
      try clear c26
      try clear c26b0
      try clear c26b1
      try clear c27
      try clear c27b0
      try clear c27b1
      try clear hcz18_0
      try clear hcz18_1
      try clear hcz18_10
      try clear hcz18_11
      try clear hcz18_2
      try clear hcz18_3
      try clear hcz18_4
      try clear hcz18_5
      try clear hcz18_6
      try clear hcz18_7
      try clear hcz18_8
      try clear hcz18_9
      try clear hcz22_0
      try clear hcz22_1
      try clear hcz22_10
      try clear hcz22_11
      try clear hcz22_2
      try clear hcz22_3
      try clear hcz22_4
      try clear hcz22_5
      try clear hcz22_6
      try clear hcz22_7
      try clear hcz22_8
      try clear hcz22_9
      try clear hcz8_0
      try clear hcz8_1
      try clear hcz8_10
      try clear hcz8_11
      try clear hcz8_2
      try clear hcz8_3
      try clear hcz8_4
      try clear hcz8_5
      try clear hcz8_6
      try clear hcz8_7
      try clear hcz8_8
      try clear hcz8_9
      try clear hfz18_0
      try clear hfz18_1
      try clear hfz18_10
      try clear hfz18_11
      try clear hfz18_2
      try clear hfz18_3
      try clear hfz18_4
      try clear hfz18_5
      try clear hfz18_6
      try clear hfz18_7
      try clear hfz18_8
      try clear hfz18_9
      try clear hfz22_0
      try clear hfz22_1
      try clear hfz22_10
      try clear hfz22_11
      try clear hfz22_2
      try clear hfz22_3
      try clear hfz22_4
      try clear hfz22_5
      try clear hfz22_6
      try clear hfz22_7
      try clear hfz22_8
      try clear hfz22_9
      try clear hfz8_0
      try clear hfz8_1
      try clear hfz8_10
      try clear hfz8_11
      try clear hfz8_2
      try clear hfz8_3
      try clear hfz8_4
      try clear hfz8_5
      try clear hfz8_6
      try clear hfz8_7
      try clear hfz8_8
      try clear hfz8_9
      try clear p2
      obtain ⟨kq,x105_16,rfl,HA,HJ16,HO_10,BK944,HB⟩:=hcut
      cases kq with
      | zero => exact absurd HA.out (by simp [humuslaw14_UndoTurns.j2])
      | succ kj16 =>
       have H:=HA.out
       clear HA
       simp only [humuslaw14_UndoTurns.j2] at H
       by_cases c42 : x105_16 = true
       ·subst c42
        have H1 : (none) = some r:=by rw [if_pos rfl] at H;exact H
        clear H
        have H:=H1
        clear H1
        exact absurd H (by simp)
       ·replace c42:=Bool.eq_false_iff.mpr c42
        subst c42
        have H1 : ((humusref14_Drop.f kj16 l0 a2).bind fun bt968 => ((humusref09_List.f kj16 t952 bt968.1).bind fun t972 => (if t972 = true then (if t955 = bt968.2 then ((undo_Check.f l0).bind fun t973 => (if t973 = 0 then ((undo_Free.f l0).bind fun t974 => ((humusref14_Free.f kj16 l0).bind fun t975 => (if t974 = t975 then ((undo_Used.f kj16 l0).bind fun t976 => ((humusref14_Used.f kj16 l0).bind fun t977 => (if t976 = t977 then ((humuslaw14_awake.f kj16).bind fun t978 => (humuslaw14_UndoTurns.j4 kj16 t978)) else (none)))) else (none)))) else (none))) else (none)) else (none)))) = some r:=by rw [if_neg (show ¬ (false = true) by decide)] at H;exact H
        clear H
        have H:=H1
        clear H1
        replace H:=Option.bind_eq_some_iff.mp H
        obtain ⟨⟨t968,t971⟩,A430,H⟩:=H
        replace H : ((humusref09_List.f kj16 t952 t968).bind fun t972 => (if t972 = true then (if t955 = t971 then ((undo_Check.f l0).bind fun t973 => (if t973 = 0 then ((undo_Free.f l0).bind fun t974 => ((humusref14_Free.f kj16 l0).bind fun t975 => (if t974 = t975 then ((undo_Used.f kj16 l0).bind fun t976 => ((humusref14_Used.f kj16 l0).bind fun t977 => (if t976 = t977 then ((humuslaw14_awake.f kj16).bind fun t978 => (humuslaw14_UndoTurns.j4 kj16 t978)) else (none)))) else (none)))) else (none))) else (none)) else (none))) = some r:=H
        have A43:=Aside0.mk A430
        clear A430
        have HC44:=Aside0.mk H
        clear H
        go_upto_region 11 with (first | ((with_reducible refine gate_callee (f:=27) rfl ?_);refine goesL_ (some 109) rfl rfl Try.func27 (by kernel_rfl) rfl #[.slice A0 l0.length c0,.int .i64 a2] rfl (by (try simp only [List.map_toArray,List.map_cons,List.map_nil]);first | done | rfl | (simp only [List.length_drop,List.length_take];rfl)) ?_;(with_reducible refine (humusref14_Drop.calls kj16 (fun k_ => k_ < w.heap.size) _ _ l0 a2 t968 t971 _ ?side1 A43.out).mono ?_);(case side1 => exact Kd.V_mk HC0.out (Kd.F_below (Kd.C_F k32_heap HR0.out) (by repeat (first | (with_reducible first | exact HB.out | apply below_alloc | apply pw_below_drewN | apply below_drew1 | refine below_set ?_ GE944.out) | exact HB.out))));rintro e w45 ⟨v969,rfl,ho0,hb⟩;refine ⟨_,rfl,?_⟩;have n0_:=Aside0.mk (Kd.N_below (by (with_reducible repeat (first | apply Kd.N_alloc | apply Kd.N_drewN | apply Kd.N_drew));exact HO_10.out) hb);have n1_:=Aside0.mk (Kd.V_lower (Kd.V_mono (ok':=fun k_ => some k_ ≠ (v953 : Value).ownBlock ∧ k_ ≠ gb944) ho0 (fun k_ hk_ => ⟨Or.elim hk_ (fun hs_ => fun e_ => Nat.not_le.2 hs_ (Kd.N_base HO_10.out k_ e_.symm)) (fun hn_ => (Kd.fresh' (Kd.N_lt (by (with_reducible repeat (first | apply Kd.N_alloc | apply Kd.N_drewN | apply Kd.N_drew));exact HO_10.out)) k_ hn_)),Or.elim hk_ (fun hs_ => fun e_ => Nat.not_le.2 hs_ (by rw [e_];exact GW944.out)) (fun hn_ => (Kd.freshB (g:=gb944) (o:=.cells #[.int .i64 a1_0,.int .i64 a1_1,.int .i64 a1_2,.int .i64 a1_3,.int .i64 a1_4,.int .i64 a1_5,.float .f64 a1_6,.bool a1_7,.slice A1_8 l1_8.length c1_8,.int .i64 a1_9,.int .i64 a1_10,.int .i64 a1_11] 32 (0,0)) (by (with_reducible repeat (first | refine blk_drewN ?_ _ | refine blk_drew ?_ | refine blk_alloc ?_ _));exact BK944.out) k_ hn_))⟩)) (below_size (by repeat (first | (with_reducible first | exact HB.out | apply below_alloc | apply pw_below_drewN | apply below_drew1 | refine below_set ?_ GE944.out) | exact HB.out))));have n2_:=Aside0.mk (blk_below (g:=gb944) (o:=.cells #[.int .i64 a1_0,.int .i64 a1_1,.int .i64 a1_2,.int .i64 a1_3,.int .i64 a1_4,.int .i64 a1_5,.float .f64 a1_6,.bool a1_7,.slice A1_8 l1_8.length c1_8,.int .i64 a1_9,.int .i64 a1_10,.int .i64 a1_11] 32 (0,0)) (by (with_reducible repeat (first | refine blk_drewN ?_ _ | refine blk_drew ?_ | refine blk_alloc ?_ _));exact BK944.out) hb);have n3_:=Aside0.mk (below_step (by repeat (first | (with_reducible first | exact HB.out | apply below_alloc | apply pw_below_drewN | apply below_drew1 | refine below_set ?_ GE944.out) | exact HB.out)) hb);clear HO_10;clear BK944;clear HB;have HO_10:=n0_;have HO970:=n1_;have BK944:=n2_;have HB:=n3_;clear n0_ n1_ n2_ n3_;(try clear hb);(try clear hb2);(try clear hk);(try clear hi);(try clear ho0)))
        (try simp only [Act.put,List.setIfInBounds_toArray,List.set_cons_zero,List.set_cons_succ])
        go_cut [6] (fun v6 wc => ∃ (kq : Nat) (x6_43 : Bool),v6 = .bool x6_43 ∧ Aside0 (humuslaw14_UndoTurns.j4 kq x6_43 = some r) ∧ Aside0 (kq ≤ kj16) ∧ Aside0 (wc.heap[gb944]? = some (.cells #[.int .i64 a1_0,.int .i64 a1_1,.int .i64 a1_2,.int .i64 a1_3,.int .i64 a1_4,.int .i64 a1_5,.float .f64 a1_6,.bool a1_7,(.slice A1_8 l1_8.length c1_8),.int .i64 a1_9,.int .i64 a1_10,.int .i64 a1_11] 32 (0,0))) ∧ Aside0 (Below w.heap.size w wc))
        case first =>
         have H:=HC44.out
         clear HC44
         replace H:=Option.bind_eq_some_iff.mp H
         obtain ⟨t972,A460,H⟩:=H
         replace H : (if t972 = true then (if t955 = t971 then ((undo_Check.f l0).bind fun t973 => (if t973 = 0 then ((undo_Free.f l0).bind fun t974 => ((humusref14_Free.f kj16 l0).bind fun t975 => (if t974 = t975 then ((undo_Used.f kj16 l0).bind fun t976 => ((humusref14_Used.f kj16 l0).bind fun t977 => (if t976 = t977 then ((humuslaw14_awake.f kj16).bind fun t978 => (humuslaw14_UndoTurns.j4 kj16 t978)) else (none)))) else (none)))) else (none))) else (none)) else (none)) = some r:=H
         have A46:=Aside0.mk A460
         clear A460
         by_cases c47 : t972 = true
         ·subst c47
          have H1 : (if t955 = t971 then ((undo_Check.f l0).bind fun t973 => (if t973 = 0 then ((undo_Free.f l0).bind fun t974 => ((humusref14_Free.f kj16 l0).bind fun t975 => (if t974 = t975 then ((undo_Used.f kj16 l0).bind fun t976 => ((humusref14_Used.f kj16 l0).bind fun t977 => (if t976 = t977 then ((humuslaw14_awake.f kj16).bind fun t978 => (humuslaw14_UndoTurns.j4 kj16 t978)) else (none)))) else (none)))) else (none))) else (none)) = some r:=by rw [if_pos rfl] at H;exact H
          clear H
          have H:=H1
          clear H1
          by_cases c48 : t955 = t971
          ·rw [if_pos c48] at H
           have c48b0 : (t955 == t971) = true:=beq_iff_eq.mpr c48
           have c48b1 : (t955 != t971) = false:=bne_eq_false_iff_eq.mpr c48
           clear c48
           (first | rw [c48b0] | (simp only [i64_w,i32_w];rw [c48b0]) | skip)
           replace H:=Option.bind_eq_some_iff.mp H
           obtain ⟨t973,A490,H⟩:=H
           replace H : (if t973 = 0 then ((undo_Free.f l0).bind fun t974 => ((humusref14_Free.f kj16 l0).bind fun t975 => (if t974 = t975 then ((undo_Used.f kj16 l0).bind fun t976 => ((humusref14_Used.f kj16 l0).bind fun t977 => (if t976 = t977 then ((humuslaw14_awake.f kj16).bind fun t978 => (humuslaw14_UndoTurns.j4 kj16 t978)) else (none)))) else (none)))) else (none)) = some r:=H
           have A49:=Aside0.mk A490
           clear A490
           by_cases c50 : t973 = 0
           ·rw [if_pos c50] at H
            have c50b0 : (t973 == 0) = true:=beq_iff_eq.mpr c50
            have c50b1 : (t973 != 0) = false:=bne_eq_false_iff_eq.mpr c50
            clear c50
            replace H:=Option.bind_eq_some_iff.mp H
            obtain ⟨t974,A510,H⟩:=H
            replace H : ((humusref14_Free.f kj16 l0).bind fun t975 => (if t974 = t975 then ((undo_Used.f kj16 l0).bind fun t976 => ((humusref14_Used.f kj16 l0).bind fun t977 => (if t976 = t977 then ((humuslaw14_awake.f kj16).bind fun t978 => (humuslaw14_UndoTurns.j4 kj16 t978)) else (none)))) else (none))) = some r:=H
            have A51:=Aside0.mk A510
            clear A510
            replace H:=Option.bind_eq_some_iff.mp H
            obtain ⟨t975,A520,H⟩:=H
            replace H : (if t974 = t975 then ((undo_Used.f kj16 l0).bind fun t976 => ((humusref14_Used.f kj16 l0).bind fun t977 => (if t976 = t977 then ((humuslaw14_awake.f kj16).bind fun t978 => (humuslaw14_UndoTurns.j4 kj16 t978)) else (none)))) else (none)) = some r:=H
            have A52:=Aside0.mk A520
            clear A520
            by_cases c53 : t974 = t975
            ·rw [if_pos c53] at H
             have c53b0 : (t974 == t975) = true:=beq_iff_eq.mpr c53
             have c53b1 : (t974 != t975) = false:=bne_eq_false_iff_eq.mpr c53
             clear c53
             replace H:=Option.bind_eq_some_iff.mp H
             obtain ⟨t976,A540,H⟩:=H
             replace H : ((humusref14_Used.f kj16 l0).bind fun t977 => (if t976 = t977 then ((humuslaw14_awake.f kj16).bind fun t978 => (humuslaw14_UndoTurns.j4 kj16 t978)) else (none))) = some r:=H
             have A54:=Aside0.mk A540
             clear A540
             replace H:=Option.bind_eq_some_iff.mp H
             obtain ⟨t977,A550,H⟩:=H
             replace H : (if t976 = t977 then ((humuslaw14_awake.f kj16).bind fun t978 => (humuslaw14_UndoTurns.j4 kj16 t978)) else (none)) = some r:=H
             have A55:=Aside0.mk A550
             clear A550
             by_cases c56 : t976 = t977
             ·rw [if_pos c56] at H
              have c56b0 : (t976 == t977) = true:=beq_iff_eq.mpr c56
              have c56b1 : (t976 != t977) = false:=bne_eq_false_iff_eq.mpr c56
              clear c56
              replace H:=Option.bind_eq_some_iff.mp H
              obtain ⟨t978,A570,H⟩:=H
              replace H : (humuslaw14_UndoTurns.j4 kj16 t978) = some r:=H
              have A57:=Aside0.mk A570
              clear A570
              have H':=Aside0.mk H
              clear H
              obtain ⟨Ao58,co58,eo58⟩:=Kd.N_slice HO_10.out
              subst eo58
              obtain ⟨Ao59,co59,eo59⟩:=Kd.V_slice HO970.out
              subst eo59
              go_wp2_with (first | ((with_reducible refine gate_callee (f:=26) rfl ?_);refine goesL_ (some 114) rfl rfl Try.func26 (by kernel_rfl) rfl #[.slice Ao58 t952.length co58,.slice Ao59 t968.length co59] rfl (by (try simp only [List.map_toArray,List.map_cons,List.map_nil]);first | done | rfl | (simp only [List.length_drop,List.length_take];rfl)) ?_;(with_reducible refine (humusref09_List.calls kj16 _ _ t952 _ _ t968 true _ ?side1 ?side2 ?side3 ?side4 A46.out).mono ?_);(case side1 => repeat (first | exact (Kd.N_reads' HO_10.out).2.2 | (with_reducible refine Kd.C_alloc ?_ _) | (with_reducible refine Kd.C_drewN ?_ _) | (with_reducible refine Kd.C_drew ?_)));(case side2 => exact (Kd.N_reads' HO_10.out).2.1);(case side3 => repeat (first | exact (Kd.V_reads' HO970.out).2.2 | (with_reducible refine Kd.C_alloc ?_ _) | (with_reducible refine Kd.C_drewN ?_ _) | (with_reducible refine Kd.C_drew ?_)));(case side4 => exact (Kd.V_reads' HO970.out).2.1);rintro e w60 ⟨rfl,hb⟩;refine ⟨_,rfl,?_⟩;have n0_:=Aside0.mk (Kd.N_below (by (with_reducible repeat (first | apply Kd.N_alloc | apply Kd.N_drewN | apply Kd.N_drew));exact HO_10.out) hb);have n1_:=Aside0.mk (Kd.V_below (by (with_reducible repeat (first | apply Kd.V_alloc | apply Kd.V_drewN | apply Kd.V_drew));exact HO970.out) hb);have n2_:=Aside0.mk (blk_below (g:=gb944) (o:=.cells #[.int .i64 a1_0,.int .i64 a1_1,.int .i64 a1_2,.int .i64 a1_3,.int .i64 a1_4,.int .i64 a1_5,.float .f64 a1_6,.bool a1_7,.slice A1_8 l1_8.length c1_8,.int .i64 a1_9,.int .i64 a1_10,.int .i64 a1_11] 32 (0,0)) (by (with_reducible repeat (first | refine blk_drewN ?_ _ | refine blk_drew ?_ | refine blk_alloc ?_ _));exact BK944.out) hb);have n3_:=Aside0.mk (below_step (by repeat (first | (with_reducible first | exact HB.out | apply below_alloc | apply pw_below_drewN | apply below_drew1 | refine below_set ?_ GE944.out) | exact HB.out)) hb);clear HO_10;clear HO970;clear BK944;clear HB;have HO_10:=n0_;have HO970:=n1_;have BK944:=n2_;have HB:=n3_;clear n0_ n1_ n2_ n3_;(try clear hb);(try clear hb2);(try clear hk);(try clear hi)) | (go_at_call 22;(with_reducible refine (undo_Check.calls _ _ l0 t973 _ ?side1 ?side2 A49.out).mono ?_);(case side1 => repeat (first | exact (Kd.C_below HR0.out HB.out) | (with_reducible refine Kd.C_alloc ?_ _) | (with_reducible refine Kd.C_drewN ?_ _) | (with_reducible refine Kd.C_drew ?_)));(case side2 => exact HC0.out);rintro e w61 ⟨rfl,hb⟩;have n0_:=Aside0.mk (Kd.N_below (by (with_reducible repeat (first | apply Kd.N_alloc | apply Kd.N_drewN | apply Kd.N_drew));exact HO_10.out) hb);have n1_:=Aside0.mk (Kd.V_below (by (with_reducible repeat (first | apply Kd.V_alloc | apply Kd.V_drewN | apply Kd.V_drew));exact HO970.out) hb);have n2_:=Aside0.mk (blk_below (g:=gb944) (o:=.cells #[.int .i64 a1_0,.int .i64 a1_1,.int .i64 a1_2,.int .i64 a1_3,.int .i64 a1_4,.int .i64 a1_5,.float .f64 a1_6,.bool a1_7,.slice A1_8 l1_8.length c1_8,.int .i64 a1_9,.int .i64 a1_10,.int .i64 a1_11] 32 (0,0)) (by (with_reducible repeat (first | refine blk_drewN ?_ _ | refine blk_drew ?_ | refine blk_alloc ?_ _));exact BK944.out) hb);have n3_:=Aside0.mk (below_step (by repeat (first | (with_reducible first | exact HB.out | apply below_alloc | apply pw_below_drewN | apply below_drew1 | refine below_set ?_ GE944.out) | exact HB.out)) hb);clear HO_10;clear HO970;clear BK944;clear HB;have HO_10:=n0_;have HO970:=n1_;have BK944:=n2_;have HB:=n3_;clear n0_ n1_ n2_ n3_;(try clear hb);(try clear hb2);(try clear hk);(try clear hi)) | (go_at_call 23;(with_reducible refine (undo_Free.calls _ _ l0 t974 _ ?side1 ?side2 A51.out).mono ?_);(case side1 => repeat (first | exact (Kd.C_below HR0.out HB.out) | (with_reducible refine Kd.C_alloc ?_ _) | (with_reducible refine Kd.C_drewN ?_ _) | (with_reducible refine Kd.C_drew ?_)));(case side2 => exact HC0.out);rintro e w62 ⟨rfl,hb⟩;have n0_:=Aside0.mk (Kd.N_below (by (with_reducible repeat (first | apply Kd.N_alloc | apply Kd.N_drewN | apply Kd.N_drew));exact HO_10.out) hb);have n1_:=Aside0.mk (Kd.V_below (by (with_reducible repeat (first | apply Kd.V_alloc | apply Kd.V_drewN | apply Kd.V_drew));exact HO970.out) hb);have n2_:=Aside0.mk (blk_below (g:=gb944) (o:=.cells #[.int .i64 a1_0,.int .i64 a1_1,.int .i64 a1_2,.int .i64 a1_3,.int .i64 a1_4,.int .i64 a1_5,.float .f64 a1_6,.bool a1_7,.slice A1_8 l1_8.length c1_8,.int .i64 a1_9,.int .i64 a1_10,.int .i64 a1_11] 32 (0,0)) (by (with_reducible repeat (first | refine blk_drewN ?_ _ | refine blk_drew ?_ | refine blk_alloc ?_ _));exact BK944.out) hb);have n3_:=Aside0.mk (below_step (by repeat (first | (with_reducible first | exact HB.out | apply below_alloc | apply pw_below_drewN | apply below_drew1 | refine below_set ?_ GE944.out) | exact HB.out)) hb);clear HO_10;clear HO970;clear BK944;clear HB;have HO_10:=n0_;have HO970:=n1_;have BK944:=n2_;have HB:=n3_;clear n0_ n1_ n2_ n3_;(try clear hb);(try clear hb2);(try clear hk);(try clear hi)) | (go_at_call 28;(with_reducible refine (humusref14_Free.calls kj16 _ _ l0 t975 _ ?side1 ?side2 A52.out).mono ?_);(case side1 => repeat (first | exact (Kd.C_below HR0.out HB.out) | (with_reducible refine Kd.C_alloc ?_ _) | (with_reducible refine Kd.C_drewN ?_ _) | (with_reducible refine Kd.C_drew ?_)));(case side2 => exact HC0.out);rintro e w63 ⟨rfl,hb⟩;have n0_:=Aside0.mk (Kd.N_below (by (with_reducible repeat (first | apply Kd.N_alloc | apply Kd.N_drewN | apply Kd.N_drew));exact HO_10.out) hb);have n1_:=Aside0.mk (Kd.V_below (by (with_reducible repeat (first | apply Kd.V_alloc | apply Kd.V_drewN | apply Kd.V_drew));exact HO970.out) hb);have n2_:=Aside0.mk (blk_below (g:=gb944) (o:=.cells #[.int .i64 a1_0,.int .i64 a1_1,.int .i64 a1_2,.int .i64 a1_3,.int .i64 a1_4,.int .i64 a1_5,.float .f64 a1_6,.bool a1_7,.slice A1_8 l1_8.length c1_8,.int .i64 a1_9,.int .i64 a1_10,.int .i64 a1_11] 32 (0,0)) (by (with_reducible repeat (first | refine blk_drewN ?_ _ | refine blk_drew ?_ | refine blk_alloc ?_ _));exact BK944.out) hb);have n3_:=Aside0.mk (below_step (by repeat (first | (with_reducible first | exact HB.out | apply below_alloc | apply pw_below_drewN | apply below_drew1 | refine below_set ?_ GE944.out) | exact HB.out)) hb);clear HO_10;clear HO970;clear BK944;clear HB;have HO_10:=n0_;have HO970:=n1_;have BK944:=n2_;have HB:=n3_;clear n0_ n1_ n2_ n3_;(try clear hb);(try clear hb2);(try clear hk);(try clear hi)) | (go_at_call 24;(with_reducible refine (undo_Used.calls kj16 _ _ l0 t976 _ ?side1 ?side2 A54.out).mono ?_);(case side1 => repeat (first | exact (Kd.C_below HR0.out HB.out) | (with_reducible refine Kd.C_alloc ?_ _) | (with_reducible refine Kd.C_drewN ?_ _) | (with_reducible refine Kd.C_drew ?_)));(case side2 => exact HC0.out);rintro e w64 ⟨rfl,hb⟩;have n0_:=Aside0.mk (Kd.N_below (by (with_reducible repeat (first | apply Kd.N_alloc | apply Kd.N_drewN | apply Kd.N_drew));exact HO_10.out) hb);have n1_:=Aside0.mk (Kd.V_below (by (with_reducible repeat (first | apply Kd.V_alloc | apply Kd.V_drewN | apply Kd.V_drew));exact HO970.out) hb);have n2_:=Aside0.mk (blk_below (g:=gb944) (o:=.cells #[.int .i64 a1_0,.int .i64 a1_1,.int .i64 a1_2,.int .i64 a1_3,.int .i64 a1_4,.int .i64 a1_5,.float .f64 a1_6,.bool a1_7,.slice A1_8 l1_8.length c1_8,.int .i64 a1_9,.int .i64 a1_10,.int .i64 a1_11] 32 (0,0)) (by (with_reducible repeat (first | refine blk_drewN ?_ _ | refine blk_drew ?_ | refine blk_alloc ?_ _));exact BK944.out) hb);have n3_:=Aside0.mk (below_step (by repeat (first | (with_reducible first | exact HB.out | apply below_alloc | apply pw_below_drewN | apply below_drew1 | refine below_set ?_ GE944.out) | exact HB.out)) hb);clear HO_10;clear HO970;clear BK944;clear HB;have HO_10:=n0_;have HO970:=n1_;have BK944:=n2_;have HB:=n3_;clear n0_ n1_ n2_ n3_;(try clear hb);(try clear hb2);(try clear hk);(try clear hi)) | (go_at_call 29;(with_reducible refine (humusref14_Used.calls kj16 _ _ l0 t977 _ ?side1 ?side2 A55.out).mono ?_);(case side1 => repeat (first | exact (Kd.C_below HR0.out HB.out) | (with_reducible refine Kd.C_alloc ?_ _) | (with_reducible refine Kd.C_drewN ?_ _) | (with_reducible refine Kd.C_drew ?_)));(case side2 => exact HC0.out);rintro e w65 ⟨rfl,hb⟩;have n0_:=Aside0.mk (Kd.N_below (by (with_reducible repeat (first | apply Kd.N_alloc | apply Kd.N_drewN | apply Kd.N_drew));exact HO_10.out) hb);have n1_:=Aside0.mk (Kd.V_below (by (with_reducible repeat (first | apply Kd.V_alloc | apply Kd.V_drewN | apply Kd.V_drew));exact HO970.out) hb);have n2_:=Aside0.mk (blk_below (g:=gb944) (o:=.cells #[.int .i64 a1_0,.int .i64 a1_1,.int .i64 a1_2,.int .i64 a1_3,.int .i64 a1_4,.int .i64 a1_5,.float .f64 a1_6,.bool a1_7,.slice A1_8 l1_8.length c1_8,.int .i64 a1_9,.int .i64 a1_10,.int .i64 a1_11] 32 (0,0)) (by (with_reducible repeat (first | refine blk_drewN ?_ _ | refine blk_drew ?_ | refine blk_alloc ?_ _));exact BK944.out) hb);have n3_:=Aside0.mk (below_step (by repeat (first | (with_reducible first | exact HB.out | apply below_alloc | apply pw_below_drewN | apply below_drew1 | refine below_set ?_ GE944.out) | exact HB.out)) hb);clear HO_10;clear HO970;clear BK944;clear HB;have HO_10:=n0_;have HO970:=n1_;have BK944:=n2_;have HB:=n3_;clear n0_ n1_ n2_ n3_;(try clear hb);(try clear hb2);(try clear hk);(try clear hi)) | (go_at_call 19;(with_reducible refine (humuslaw14_awake.calls kj16  t978 _ A57.out).mono ?_);rintro e w66 ⟨rfl,hb⟩;have n0_:=Aside0.mk (Kd.N_below (by (with_reducible repeat (first | apply Kd.N_alloc | apply Kd.N_drewN | apply Kd.N_drew));exact HO_10.out) hb);have n1_:=Aside0.mk (Kd.V_below (by (with_reducible repeat (first | apply Kd.V_alloc | apply Kd.V_drewN | apply Kd.V_drew));exact HO970.out) hb);have n2_:=Aside0.mk (blk_below (g:=gb944) (o:=.cells #[.int .i64 a1_0,.int .i64 a1_1,.int .i64 a1_2,.int .i64 a1_3,.int .i64 a1_4,.int .i64 a1_5,.float .f64 a1_6,.bool a1_7,.slice A1_8 l1_8.length c1_8,.int .i64 a1_9,.int .i64 a1_10,.int .i64 a1_11] 32 (0,0)) (by (with_reducible repeat (first | refine blk_drewN ?_ _ | refine blk_drew ?_ | refine blk_alloc ?_ _));exact BK944.out) hb);have n3_:=Aside0.mk (below_step (by repeat (first | (with_reducible first | exact HB.out | apply below_alloc | apply pw_below_drewN | apply below_drew1 | refine below_set ?_ GE944.out) | exact HB.out)) hb);clear HO_10;clear HO970;clear BK944;clear HB;have HO_10:=n0_;have HO970:=n1_;have BK944:=n2_;have HB:=n3_;clear n0_ n1_ n2_ n3_;(try clear hb);(try clear hb2);(try clear hk);(try clear hi)))
              go_meet
              case rel => exact ⟨_,(t978),(by first | rfl | (simp;done) | (simp [*];done)),H',⟨by have:=HJ3.out;have:=HJ16.out;first | omega | exact Nat.le_refl _⟩,⟨by (with_reducible repeat (first | refine blk_drewN ?_ _ | refine blk_drew ?_ | refine blk_alloc ?_ _));exact BK944.out⟩,⟨by repeat (first | (with_reducible first | exact HB.out | apply below_alloc | apply pw_below_drewN | apply below_drew1 | refine below_set ?_ GE944.out) | exact HB.out)⟩⟩
             ·rw [if_neg c56] at H
              exact absurd H (by simp)
            ·rw [if_neg c53] at H
             exact absurd H (by simp)
           ·rw [if_neg c50] at H
            exact absurd H (by simp)
          ·rw [if_neg c48] at H
           exact absurd H (by simp)
         ·replace c47:=Bool.eq_false_iff.mpr c47
          subst c47
          have H1 : (none) = some r:=by rw [if_neg (show ¬ (false = true) by decide)] at H;exact H
          clear H
          have H:=H1
          clear H1
          exact absurd H (by simp)
        case rest =>
         clear HC44
         try clear c1
         try clear c2
         try clear p2
         try clear c4
         try clear c5
         try clear c7
         try clear c9
         try clear c15
         try clear c16
         try clear c19
         try clear c20
         try clear c21
         try clear c25
         try clear c26
         try clear c26b0
         try clear c26b1
         try clear c27
         try clear c27b0
         try clear c27b1
         try clear c42
         try clear c47
         try clear c48
         try clear c48b0
         try clear c48b1
         try clear c50
         try clear c50b0
         try clear c50b1
         try clear c53
         try clear c53b0
         try clear c53b1
         try clear c56
         try clear c56b0
         try clear c56b1
         try clear hcz18_0
         try clear hcz18_1
         try clear hcz18_10
         try clear hcz18_11
         try clear hcz18_2
         try clear hcz18_3
         try clear hcz18_4
         try clear hcz18_5
         try clear hcz18_6
         try clear hcz18_7
         try clear hcz18_8
         try clear hcz18_9
         try clear hcz22_0
         try clear hcz22_1
         try clear hcz22_10
         try clear hcz22_11
         try clear hcz22_2
         try clear hcz22_3
         try clear hcz22_4
         try clear hcz22_5
         try clear hcz22_6
         try clear hcz22_7
         try clear hcz22_8
         try clear hcz22_9
         try clear hcz8_0
         try clear hcz8_1
         try clear hcz8_10
         try clear hcz8_11
         try clear hcz8_2
         try clear hcz8_3
         try clear hcz8_4
         try clear hcz8_5
         try clear hcz8_6
         try clear hcz8_7
         try clear hcz8_8
         try clear hcz8_9
         try clear hfz18_0
         try clear hfz18_1
         try clear hfz18_10
         try clear hfz18_11
         try clear hfz18_2
         try clear hfz18_3
         try clear hfz18_4
         try clear hfz18_5
         try clear hfz18_6
         try clear hfz18_7
         try clear hfz18_8
         try clear hfz18_9
         try clear hfz22_0
         try clear hfz22_1
         try clear hfz22_10
         try clear hfz22_11
         try clear hfz22_2
         try clear hfz22_3
         try clear hfz22_4
         try clear hfz22_5
         try clear hfz22_6
         try clear hfz22_7
         try clear hfz22_8
         try clear hfz22_9
         try clear hfz8_0
         try clear hfz8_1
         try clear hfz8_10
         try clear hfz8_11
         try clear hfz8_2
         try clear hfz8_3
         try clear hfz8_4
         try clear hfz8_5
         try clear hfz8_6
         try clear hfz8_7
         try clear hfz8_8
         try clear hfz8_9
         try clear p2
         obtain ⟨kq,x6_43,rfl,HA,HJ43,BK944,HB⟩:=hcut
         cases kq with
         | zero => exact absurd HA.out (by simp [humuslaw14_UndoTurns.j4])
         | succ kj43 =>
          have H:=HA.out
          clear HA
          simp only [humuslaw14_UndoTurns.j4] at H
          obtain rfl:=Option.some.inj H
          go_wp2
          go_ret
          exact ⟨by first | rfl | (simp [errW_none,errW_some] <;> rfl) | (simp [*,errW_none,errW_some] <;> rfl),by repeat (first | (with_reducible first | exact HB.out | apply below_alloc | apply pw_below_drewN | apply below_drew1 | refine below_set ?_ GE944.out) | exact HB.out)⟩
    ·replace c15:=Bool.eq_false_iff.mpr c15
     subst c15
     have H1 : ((undo_Check.f l0).bind fun t957 => (if t957 = 1 then ((undo_Free.f l0).bind fun t958 => (if t958 = 0 then ((undo_Used.f kj3 l0).bind fun t959 => (if t959 = 0 then (if t951 = 1 then (if t950 = 0 then (if (t947.length : Int) = 0 then (if t955 = 1 then (if (t952.length : Int) = 0 then ((humuslaw14_awake.f kj3).bind fun t960 => (humuslaw14_UndoTurns.j1 kj3 t960)) else (none)) else (none)) else (none)) else (none)) else (none)) else (none))) else (none))) else (none))) = some r:=by rw [if_neg (show ¬ (false = true) by decide)] at H;exact H
     clear H
     have H:=H1
     clear H1
     have HC67:=Aside0.mk H
     clear H
     obtain ⟨hcz68_0,hcz68_1,hcz68_2,hcz68_3,hcz68_4,hcz68_5,hcz68_6,hcz68_7,hcz68_8,hcz68_9,hcz68_10,hcz68_11⟩:=blkc_12 BK944.out
     obtain ⟨hfz68_0,hfz68_1,hfz68_2,hfz68_3,hfz68_4,hfz68_5,hfz68_6,hfz68_7,hfz68_8,hfz68_9,hfz68_10,hfz68_11⟩:=blkz_12 BK944.out
     go_upto_region 6 with (first | ((with_reducible refine gate_callee (f:=15) rfl ?_);refine goesL_ (some 29) rfl rfl Try.func15 (by kernel_rfl) rfl #[.slice A0 l0.length c0,.agg #[.int .i64 a1_0,.int .i64 a1_1,.int .i64 a1_2,.int .i64 a1_3,.int .i64 a1_4,.int .i64 a1_5,.float .f64 a1_6,.bool a1_7,.slice A1_8 l1_8.length c1_8,.int .i64 a1_9,.int .i64 a1_10,.int .i64 a1_11]] rfl (by (try simp only [List.map_toArray,List.map_cons,List.map_nil]);first | done | rfl | (simp only [List.length_drop,List.length_take];rfl)) ?_;(with_reducible refine (undo_Put.calls kj3 (fun k_ => k_ < w.heap.size) _ _ l0 a1_0 a1_1 a1_2 a1_3 a1_4 a1_5 a1_6 a1_7 _ _ l1_8 a1_9 a1_10 a1_11 t947 t950 t951 _ ?side1 ?side2 ?side3 A12.out).mono ?_);(case side1 => exact Kd.V_mk HC0.out (Kd.F_below (Kd.C_F k32_heap HR0.out) (by repeat (first | (with_reducible first | exact HB.out | apply below_alloc | apply pw_below_drewN | apply below_drew1 | refine below_set ?_ GE944.out) | exact HB.out))));(case side2 => repeat (first | exact (Kd.C_below HR1_8.out HB.out) | (with_reducible refine Kd.C_alloc ?_ _) | (with_reducible refine Kd.C_drewN ?_ _) | (with_reducible refine Kd.C_drew ?_)));(case side3 => exact HC1_8.out);rintro e w69 ⟨v948,rfl,ho0,hb⟩;refine ⟨_,rfl,?_⟩;have n0_:=Aside0.mk (Kd.N_lower (Kd.N_mono (ok':=fun k_ => k_ ≠ gb944) ho0 (fun k_ hk_ => Or.elim hk_ (fun hs_ => fun e_ => Nat.not_le.2 hs_ (by rw [e_];exact GW944.out)) (fun hn_ => (Kd.freshB (g:=gb944) (o:=.cells #[.int .i64 a1_0,.int .i64 a1_1,.int .i64 a1_2,.int .i64 a1_3,.int .i64 a1_4,.int .i64 a1_5,.float .f64 a1_6,.bool a1_7,.slice A1_8 l1_8.length c1_8,.int .i64 a1_9,.int .i64 a1_10,.int .i64 a1_11] 32 (0,0)) (by (with_reducible repeat (first | refine blk_drewN ?_ _ | refine blk_drew ?_ | refine blk_alloc ?_ _));exact BK944.out) k_ hn_)))) (below_size (by repeat (first | (with_reducible first | exact HB.out | apply below_alloc | apply pw_below_drewN | apply below_drew1 | refine below_set ?_ GE944.out) | exact HB.out))));have n1_:=Aside0.mk (blk_below (g:=gb944) (o:=.cells #[.int .i64 a1_0,.int .i64 a1_1,.int .i64 a1_2,.int .i64 a1_3,.int .i64 a1_4,.int .i64 a1_5,.float .f64 a1_6,.bool a1_7,.slice A1_8 l1_8.length c1_8,.int .i64 a1_9,.int .i64 a1_10,.int .i64 a1_11] 32 (0,0)) (by (with_reducible repeat (first | refine blk_drewN ?_ _ | refine blk_drew ?_ | refine blk_alloc ?_ _));exact BK944.out) hb);have n2_:=Aside0.mk (below_step (by repeat (first | (with_reducible first | exact HB.out | apply below_alloc | apply pw_below_drewN | apply below_drew1 | refine below_set ?_ GE944.out) | exact HB.out)) hb);clear BK944;clear HB;have HO949:=n0_;have BK944:=n1_;have HB:=n2_;clear n0_ n1_ n2_;(try clear hb);(try clear hb2);(try clear hk);(try clear hi);(try clear ho0)) | ((with_reducible refine gate_callee (f:=16) rfl ?_);refine goesL_ (some 36) rfl rfl Try.func16 (by kernel_rfl) rfl #[.slice A0 l0.length c0,.int .i64 a2] rfl (by (try simp only [List.map_toArray,List.map_cons,List.map_nil]);first | done | rfl | (simp only [List.length_drop,List.length_take];rfl)) ?_;(with_reducible refine (undo_Drop.calls (fun k_ => k_ < w.heap.size) _ _ l0 a2 t952 t955 _ ?side1 A13.out).mono ?_);(case side1 => exact Kd.V_mk HC0.out (Kd.F_below (Kd.C_F k32_heap HR0.out) (by repeat (first | (with_reducible first | exact HB.out | apply below_alloc | apply pw_below_drewN | apply below_drew1 | refine below_set ?_ GE944.out) | exact HB.out))));rintro e w70 ⟨v953,rfl,ho0,hb⟩;refine ⟨_,rfl,?_⟩;have n0_:=Aside0.mk (Kd.N_elder' (by (with_reducible repeat (first | apply Kd.N_alloc | apply Kd.N_drewN | apply Kd.N_drew));exact HO949.out) (Kd.N_base ho0) hb);have n1_:=Aside0.mk (Kd.N_lower (Kd.N_mono (ok':=fun k_ => some k_ ≠ (v948 : Value).ownBlock ∧ k_ ≠ gb944) ho0 (fun k_ hk_ => ⟨Or.elim hk_ (fun hs_ => fun e_ => Nat.not_le.2 hs_ (Kd.N_base HO949.out k_ e_.symm)) (fun hn_ => (Kd.fresh' (Kd.N_lt (by (with_reducible repeat (first | apply Kd.N_alloc | apply Kd.N_drewN | apply Kd.N_drew));exact HO949.out)) k_ hn_)),Or.elim hk_ (fun hs_ => fun e_ => Nat.not_le.2 hs_ (by rw [e_];exact GW944.out)) (fun hn_ => (Kd.freshB (g:=gb944) (o:=.cells #[.int .i64 a1_0,.int .i64 a1_1,.int .i64 a1_2,.int .i64 a1_3,.int .i64 a1_4,.int .i64 a1_5,.float .f64 a1_6,.bool a1_7,.slice A1_8 l1_8.length c1_8,.int .i64 a1_9,.int .i64 a1_10,.int .i64 a1_11] 32 (0,0)) (by (with_reducible repeat (first | refine blk_drewN ?_ _ | refine blk_drew ?_ | refine blk_alloc ?_ _));exact BK944.out) k_ hn_))⟩)) (below_size (by repeat (first | (with_reducible first | exact HB.out | apply below_alloc | apply pw_below_drewN | apply below_drew1 | refine below_set ?_ GE944.out) | exact HB.out))));have n2_:=Aside0.mk (blk_below (g:=gb944) (o:=.cells #[.int .i64 a1_0,.int .i64 a1_1,.int .i64 a1_2,.int .i64 a1_3,.int .i64 a1_4,.int .i64 a1_5,.float .f64 a1_6,.bool a1_7,.slice A1_8 l1_8.length c1_8,.int .i64 a1_9,.int .i64 a1_10,.int .i64 a1_11] 32 (0,0)) (by (with_reducible repeat (first | refine blk_drewN ?_ _ | refine blk_drew ?_ | refine blk_alloc ?_ _));exact BK944.out) hb);have n3_:=Aside0.mk (below_step (by repeat (first | (with_reducible first | exact HB.out | apply below_alloc | apply pw_below_drewN | apply below_drew1 | refine below_set ?_ GE944.out) | exact HB.out)) hb);clear HO949;clear BK944;clear HB;have HO949:=n0_;have HO954:=n1_;have BK944:=n2_;have HB:=n3_;clear n0_ n1_ n2_ n3_;(try clear hb);(try clear hb2);(try clear hk);(try clear hi);(try clear ho0)) | ((with_reducible refine gate_callee (f:=21) rfl ?_);refine goesL_ (some 40) rfl rfl Try.func21 (by kernel_rfl) rfl #[.slice A0 l0.length c0] rfl (by (try simp only [List.map_toArray,List.map_cons,List.map_nil]);first | done | rfl | (simp only [List.length_drop,List.length_take];rfl)) ?_;(with_reducible refine (humusref14_May.calls kj3 _ _ l0 false _ ?side1 ?side2 A14.out).mono ?_);(case side1 => repeat (first | exact (Kd.C_below HR0.out HB.out) | (with_reducible refine Kd.C_alloc ?_ _) | (with_reducible refine Kd.C_drewN ?_ _) | (with_reducible refine Kd.C_drew ?_)));(case side2 => exact HC0.out);rintro e w71 ⟨rfl,hb⟩;refine ⟨_,rfl,?_⟩;have n0_:=Aside0.mk (Kd.N_below (by (with_reducible repeat (first | apply Kd.N_alloc | apply Kd.N_drewN | apply Kd.N_drew));exact HO949.out) hb);have n1_:=Aside0.mk (Kd.N_below (by (with_reducible repeat (first | apply Kd.N_alloc | apply Kd.N_drewN | apply Kd.N_drew));exact HO954.out) hb);have n2_:=Aside0.mk (blk_below (g:=gb944) (o:=.cells #[.int .i64 a1_0,.int .i64 a1_1,.int .i64 a1_2,.int .i64 a1_3,.int .i64 a1_4,.int .i64 a1_5,.float .f64 a1_6,.bool a1_7,.slice A1_8 l1_8.length c1_8,.int .i64 a1_9,.int .i64 a1_10,.int .i64 a1_11] 32 (0,0)) (by (with_reducible repeat (first | refine blk_drewN ?_ _ | refine blk_drew ?_ | refine blk_alloc ?_ _));exact BK944.out) hb);have n3_:=Aside0.mk (below_step (by repeat (first | (with_reducible first | exact HB.out | apply below_alloc | apply pw_below_drewN | apply below_drew1 | refine below_set ?_ GE944.out) | exact HB.out)) hb);clear HO949;clear HO954;clear BK944;clear HB;have HO949:=n0_;have HO954:=n1_;have BK944:=n2_;have HB:=n3_;clear n0_ n1_ n2_ n3_;(try clear hb);(try clear hb2);(try clear hk);(try clear hi)))
     (try simp only [Act.put,List.setIfInBounds_toArray,List.set_cons_zero,List.set_cons_succ])
     go_cut [6] (fun v6 wc => ∃ (kq : Nat) (x6_66 : Bool),v6 = .bool x6_66 ∧ Aside0 (humuslaw14_UndoTurns.j1 kq x6_66 = some r) ∧ Aside0 (kq ≤ kj3) ∧ Aside0 (wc.heap[gb944]? = some (.cells #[.int .i64 a1_0,.int .i64 a1_1,.int .i64 a1_2,.int .i64 a1_3,.int .i64 a1_4,.int .i64 a1_5,.float .f64 a1_6,.bool a1_7,(.slice A1_8 l1_8.length c1_8),.int .i64 a1_9,.int .i64 a1_10,.int .i64 a1_11] 32 (0,0))) ∧ Aside0 (Below w.heap.size w wc))
     case first =>
      have H:=HC67.out
      clear HC67
      replace H:=Option.bind_eq_some_iff.mp H
      obtain ⟨t957,A720,H⟩:=H
      replace H : (if t957 = 1 then ((undo_Free.f l0).bind fun t958 => (if t958 = 0 then ((undo_Used.f kj3 l0).bind fun t959 => (if t959 = 0 then (if t951 = 1 then (if t950 = 0 then (if (t947.length : Int) = 0 then (if t955 = 1 then (if (t952.length : Int) = 0 then ((humuslaw14_awake.f kj3).bind fun t960 => (humuslaw14_UndoTurns.j1 kj3 t960)) else (none)) else (none)) else (none)) else (none)) else (none)) else (none))) else (none))) else (none)) = some r:=H
      have A72:=Aside0.mk A720
      clear A720
      by_cases c73 : t957 = 1
      ·rw [if_pos c73] at H
       have c73b0 : (t957 == 1) = true:=beq_iff_eq.mpr c73
       have c73b1 : (t957 != 1) = false:=bne_eq_false_iff_eq.mpr c73
       clear c73
       (first | rw [c73b0] | (simp only [i64_w,i32_w];rw [c73b0]) | skip)
       replace H:=Option.bind_eq_some_iff.mp H
       obtain ⟨t958,A740,H⟩:=H
       replace H : (if t958 = 0 then ((undo_Used.f kj3 l0).bind fun t959 => (if t959 = 0 then (if t951 = 1 then (if t950 = 0 then (if (t947.length : Int) = 0 then (if t955 = 1 then (if (t952.length : Int) = 0 then ((humuslaw14_awake.f kj3).bind fun t960 => (humuslaw14_UndoTurns.j1 kj3 t960)) else (none)) else (none)) else (none)) else (none)) else (none)) else (none))) else (none)) = some r:=H
       have A74:=Aside0.mk A740
       clear A740
       by_cases c75 : t958 = 0
       ·rw [if_pos c75] at H
        have c75b0 : (t958 == 0) = true:=beq_iff_eq.mpr c75
        have c75b1 : (t958 != 0) = false:=bne_eq_false_iff_eq.mpr c75
        clear c75
        replace H:=Option.bind_eq_some_iff.mp H
        obtain ⟨t959,A760,H⟩:=H
        replace H : (if t959 = 0 then (if t951 = 1 then (if t950 = 0 then (if (t947.length : Int) = 0 then (if t955 = 1 then (if (t952.length : Int) = 0 then ((humuslaw14_awake.f kj3).bind fun t960 => (humuslaw14_UndoTurns.j1 kj3 t960)) else (none)) else (none)) else (none)) else (none)) else (none)) else (none)) = some r:=H
        have A76:=Aside0.mk A760
        clear A760
        by_cases c77 : t959 = 0
        ·rw [if_pos c77] at H
         have c77b0 : (t959 == 0) = true:=beq_iff_eq.mpr c77
         have c77b1 : (t959 != 0) = false:=bne_eq_false_iff_eq.mpr c77
         clear c77
         by_cases c78 : t951 = 1
         ·rw [if_pos c78] at H
          have c78b0 : (t951 == 1) = true:=beq_iff_eq.mpr c78
          have c78b1 : (t951 != 1) = false:=bne_eq_false_iff_eq.mpr c78
          clear c78
          by_cases c79 : t950 = 0
          ·rw [if_pos c79] at H
           have c79b0 : (t950 == 0) = true:=beq_iff_eq.mpr c79
           have c79b1 : (t950 != 0) = false:=bne_eq_false_iff_eq.mpr c79
           clear c79
           by_cases c80 : (t947.length : Int) = 0
           ·rw [if_pos c80] at H
            have c80b0 : ((t947.length : Int) == 0) = true:=beq_iff_eq.mpr c80
            have c80b1 : ((t947.length : Int) != 0) = false:=bne_eq_false_iff_eq.mpr c80
            clear c80
            by_cases c81 : t955 = 1
            ·rw [if_pos c81] at H
             have c81b0 : (t955 == 1) = true:=beq_iff_eq.mpr c81
             have c81b1 : (t955 != 1) = false:=bne_eq_false_iff_eq.mpr c81
             clear c81
             by_cases c82 : (t952.length : Int) = 0
             ·rw [if_pos c82] at H
              have c82b0 : ((t952.length : Int) == 0) = true:=beq_iff_eq.mpr c82
              have c82b1 : ((t952.length : Int) != 0) = false:=bne_eq_false_iff_eq.mpr c82
              clear c82
              replace H:=Option.bind_eq_some_iff.mp H
              obtain ⟨t960,A830,H⟩:=H
              replace H : (humuslaw14_UndoTurns.j1 kj3 t960) = some r:=H
              have A83:=Aside0.mk A830
              clear A830
              have H':=Aside0.mk H
              clear H
              go_wp2_with (first | ((with_reducible refine gate_callee (f:=22) rfl ?_);refine goesL_ (some 43) rfl rfl Try.func22 (by kernel_rfl) rfl #[.slice A0 l0.length c0] rfl (by (try simp only [List.map_toArray,List.map_cons,List.map_nil]);first | done | rfl | (simp only [List.length_drop,List.length_take];rfl)) ?_;(with_reducible refine (undo_Check.calls _ _ l0 t957 _ ?side1 ?side2 A72.out).mono ?_);(case side1 => repeat (first | exact (Kd.C_below HR0.out HB.out) | (with_reducible refine Kd.C_alloc ?_ _) | (with_reducible refine Kd.C_drewN ?_ _) | (with_reducible refine Kd.C_drew ?_)));(case side2 => exact HC0.out);rintro e w84 ⟨rfl,hb⟩;refine ⟨_,rfl,?_⟩;have n0_:=Aside0.mk (Kd.N_below (by (with_reducible repeat (first | apply Kd.N_alloc | apply Kd.N_drewN | apply Kd.N_drew));exact HO949.out) hb);have n1_:=Aside0.mk (Kd.N_below (by (with_reducible repeat (first | apply Kd.N_alloc | apply Kd.N_drewN | apply Kd.N_drew));exact HO954.out) hb);have n2_:=Aside0.mk (blk_below (g:=gb944) (o:=.cells #[.int .i64 a1_0,.int .i64 a1_1,.int .i64 a1_2,.int .i64 a1_3,.int .i64 a1_4,.int .i64 a1_5,.float .f64 a1_6,.bool a1_7,.slice A1_8 l1_8.length c1_8,.int .i64 a1_9,.int .i64 a1_10,.int .i64 a1_11] 32 (0,0)) (by (with_reducible repeat (first | refine blk_drewN ?_ _ | refine blk_drew ?_ | refine blk_alloc ?_ _));exact BK944.out) hb);have n3_:=Aside0.mk (below_step (by repeat (first | (with_reducible first | exact HB.out | apply below_alloc | apply pw_below_drewN | apply below_drew1 | refine below_set ?_ GE944.out) | exact HB.out)) hb);clear HO949;clear HO954;clear BK944;clear HB;have HO949:=n0_;have HO954:=n1_;have BK944:=n2_;have HB:=n3_;clear n0_ n1_ n2_ n3_;(try clear hb);(try clear hb2);(try clear hk);(try clear hi)) | (go_at_call 23;(with_reducible refine (undo_Free.calls _ _ l0 t958 _ ?side1 ?side2 A74.out).mono ?_);(case side1 => repeat (first | exact (Kd.C_below HR0.out HB.out) | (with_reducible refine Kd.C_alloc ?_ _) | (with_reducible refine Kd.C_drewN ?_ _) | (with_reducible refine Kd.C_drew ?_)));(case side2 => exact HC0.out);rintro e w85 ⟨rfl,hb⟩;have n0_:=Aside0.mk (Kd.N_below (by (with_reducible repeat (first | apply Kd.N_alloc | apply Kd.N_drewN | apply Kd.N_drew));exact HO949.out) hb);have n1_:=Aside0.mk (Kd.N_below (by (with_reducible repeat (first | apply Kd.N_alloc | apply Kd.N_drewN | apply Kd.N_drew));exact HO954.out) hb);have n2_:=Aside0.mk (blk_below (g:=gb944) (o:=.cells #[.int .i64 a1_0,.int .i64 a1_1,.int .i64 a1_2,.int .i64 a1_3,.int .i64 a1_4,.int .i64 a1_5,.float .f64 a1_6,.bool a1_7,.slice A1_8 l1_8.length c1_8,.int .i64 a1_9,.int .i64 a1_10,.int .i64 a1_11] 32 (0,0)) (by (with_reducible repeat (first | refine blk_drewN ?_ _ | refine blk_drew ?_ | refine blk_alloc ?_ _));exact BK944.out) hb);have n3_:=Aside0.mk (below_step (by repeat (first | (with_reducible first | exact HB.out | apply below_alloc | apply pw_below_drewN | apply below_drew1 | refine below_set ?_ GE944.out) | exact HB.out)) hb);clear HO949;clear HO954;clear BK944;clear HB;have HO949:=n0_;have HO954:=n1_;have BK944:=n2_;have HB:=n3_;clear n0_ n1_ n2_ n3_;(try clear hb);(try clear hb2);(try clear hk);(try clear hi)) | (go_at_call 24;(with_reducible refine (undo_Used.calls kj3 _ _ l0 t959 _ ?side1 ?side2 A76.out).mono ?_);(case side1 => repeat (first | exact (Kd.C_below HR0.out HB.out) | (with_reducible refine Kd.C_alloc ?_ _) | (with_reducible refine Kd.C_drewN ?_ _) | (with_reducible refine Kd.C_drew ?_)));(case side2 => exact HC0.out);rintro e w86 ⟨rfl,hb⟩;have n0_:=Aside0.mk (Kd.N_below (by (with_reducible repeat (first | apply Kd.N_alloc | apply Kd.N_drewN | apply Kd.N_drew));exact HO949.out) hb);have n1_:=Aside0.mk (Kd.N_below (by (with_reducible repeat (first | apply Kd.N_alloc | apply Kd.N_drewN | apply Kd.N_drew));exact HO954.out) hb);have n2_:=Aside0.mk (blk_below (g:=gb944) (o:=.cells #[.int .i64 a1_0,.int .i64 a1_1,.int .i64 a1_2,.int .i64 a1_3,.int .i64 a1_4,.int .i64 a1_5,.float .f64 a1_6,.bool a1_7,.slice A1_8 l1_8.length c1_8,.int .i64 a1_9,.int .i64 a1_10,.int .i64 a1_11] 32 (0,0)) (by (with_reducible repeat (first | refine blk_drewN ?_ _ | refine blk_drew ?_ | refine blk_alloc ?_ _));exact BK944.out) hb);have n3_:=Aside0.mk (below_step (by repeat (first | (with_reducible first | exact HB.out | apply below_alloc | apply pw_below_drewN | apply below_drew1 | refine below_set ?_ GE944.out) | exact HB.out)) hb);clear HO949;clear HO954;clear BK944;clear HB;have HO949:=n0_;have HO954:=n1_;have BK944:=n2_;have HB:=n3_;clear n0_ n1_ n2_ n3_;(try clear hb);(try clear hb2);(try clear hk);(try clear hi);obtain ⟨Ao87,co87,eo87⟩:=Kd.N_slice HO949.out;subst eo87;obtain ⟨Ao88,co88,eo88⟩:=Kd.N_slice HO954.out;subst eo88) | (go_at_call 19;(with_reducible refine (humuslaw14_awake.calls kj3  t960 _ A83.out).mono ?_);rintro e w89 ⟨rfl,hb⟩;have n0_:=Aside0.mk (Kd.N_below (by (with_reducible repeat (first | apply Kd.N_alloc | apply Kd.N_drewN | apply Kd.N_drew));exact HO949.out) hb);have n1_:=Aside0.mk (Kd.N_below (by (with_reducible repeat (first | apply Kd.N_alloc | apply Kd.N_drewN | apply Kd.N_drew));exact HO954.out) hb);have n2_:=Aside0.mk (blk_below (g:=gb944) (o:=.cells #[.int .i64 a1_0,.int .i64 a1_1,.int .i64 a1_2,.int .i64 a1_3,.int .i64 a1_4,.int .i64 a1_5,.float .f64 a1_6,.bool a1_7,.slice A1_8 l1_8.length c1_8,.int .i64 a1_9,.int .i64 a1_10,.int .i64 a1_11] 32 (0,0)) (by (with_reducible repeat (first | refine blk_drewN ?_ _ | refine blk_drew ?_ | refine blk_alloc ?_ _));exact BK944.out) hb);have n3_:=Aside0.mk (below_step (by repeat (first | (with_reducible first | exact HB.out | apply below_alloc | apply pw_below_drewN | apply below_drew1 | refine below_set ?_ GE944.out) | exact HB.out)) hb);clear HO949;clear HO954;clear BK944;clear HB;have HO949:=n0_;have HO954:=n1_;have BK944:=n2_;have HB:=n3_;clear n0_ n1_ n2_ n3_;(try clear hb);(try clear hb2);(try clear hk);(try clear hi)))
              go_meet
              case rel => exact ⟨_,(t960),(by first | rfl | (simp;done) | (simp [*];done)),H',⟨by have:=HJ3.out;first | omega | exact Nat.le_refl _⟩,⟨by (with_reducible repeat (first | refine blk_drewN ?_ _ | refine blk_drew ?_ | refine blk_alloc ?_ _));exact BK944.out⟩,⟨by repeat (first | (with_reducible first | exact HB.out | apply below_alloc | apply pw_below_drewN | apply below_drew1 | refine below_set ?_ GE944.out) | exact HB.out)⟩⟩
             ·rw [if_neg c82] at H
              exact absurd H (by simp)
            ·rw [if_neg c81] at H
             exact absurd H (by simp)
           ·rw [if_neg c80] at H
            exact absurd H (by simp)
          ·rw [if_neg c79] at H
           exact absurd H (by simp)
         ·rw [if_neg c78] at H
          exact absurd H (by simp)
        ·rw [if_neg c77] at H
         exact absurd H (by simp)
       ·rw [if_neg c75] at H
        exact absurd H (by simp)
      ·rw [if_neg c73] at H
       exact absurd H (by simp)
     case rest =>
      clear HC67
      try clear c1
      try clear c2
      try clear p2
      try clear c4
      try clear c5
      try clear c7
      try clear c8
      try clear c9
      try clear c15
      try clear c16
      try clear c19
      try clear c20
      try clear c21
      try clear c22
      try clear c25
      try clear c26
      try clear c26b0
      try clear c26b1
      try clear c27
      try clear c27b0
      try clear c27b1
      try clear c42
      try clear c47
      try clear c48
      try clear c48b0
      try clear c48b1
      try clear c50
      try clear c50b0
      try clear c50b1
      try clear c53
      try clear c53b0
      try clear c53b1
      try clear c56
      try clear c56b0
      try clear c56b1
      try clear c73
      try clear c73b0
      try clear c73b1
      try clear c75
      try clear c75b0
      try clear c75b1
      try clear c77
      try clear c77b0
      try clear c77b1
      try clear c78
      try clear c78b0
      try clear c78b1
      try clear c79
      try clear c79b0
      try clear c79b1
      try clear c80
      try clear c80b0
      try clear c80b1
      try clear c81
      try clear c81b0
      try clear c81b1
      try clear c82
      try clear c82b0
      try clear c82b1
      try clear hcz18_0
      try clear hcz18_1
      try clear hcz18_10
      try clear hcz18_11
      try clear hcz18_2
      try clear hcz18_3
      try clear hcz18_4
      try clear hcz18_5
      try clear hcz18_6
      try clear hcz18_7
      try clear hcz18_8
      try clear hcz18_9
      try clear hcz22_0
      try clear hcz22_1
      try clear hcz22_10
      try clear hcz22_11
      try clear hcz22_2
      try clear hcz22_3
      try clear hcz22_4
      try clear hcz22_5
      try clear hcz22_6
      try clear hcz22_7
      try clear hcz22_8
      try clear hcz22_9
      try clear hcz68_0
      try clear hcz68_1
      try clear hcz68_10
      try clear hcz68_11
      try clear hcz68_2
      try clear hcz68_3
      try clear hcz68_4
      try clear hcz68_5
      try clear hcz68_6
      try clear hcz68_7
      try clear hcz68_8
      try clear hcz68_9
      try clear hcz8_0
      try clear hcz8_1
      try clear hcz8_10
      try clear hcz8_11
      try clear hcz8_2
      try clear hcz8_3
      try clear hcz8_4
      try clear hcz8_5
      try clear hcz8_6
      try clear hcz8_7
      try clear hcz8_8
      try clear hcz8_9
      try clear hfz18_0
      try clear hfz18_1
      try clear hfz18_10
      try clear hfz18_11
      try clear hfz18_2
      try clear hfz18_3
      try clear hfz18_4
      try clear hfz18_5
      try clear hfz18_6
      try clear hfz18_7
      try clear hfz18_8
      try clear hfz18_9
      try clear hfz22_0
      try clear hfz22_1
      try clear hfz22_10
      try clear hfz22_11
      try clear hfz22_2
      try clear hfz22_3
      try clear hfz22_4
      try clear hfz22_5
      try clear hfz22_6
      try clear hfz22_7
      try clear hfz22_8
      try clear hfz22_9
      try clear hfz68_0
      try clear hfz68_1
      try clear hfz68_10
      try clear hfz68_11
      try clear hfz68_2
      try clear hfz68_3
      try clear hfz68_4
      try clear hfz68_5
      try clear hfz68_6
      try clear hfz68_7
      try clear hfz68_8
      try clear hfz68_9
      try clear hfz8_0
      try clear hfz8_1
      try clear hfz8_10
      try clear hfz8_11
      try clear hfz8_2
      try clear hfz8_3
      try clear hfz8_4
      try clear hfz8_5
      try clear hfz8_6
      try clear hfz8_7
      try clear hfz8_8
      try clear hfz8_9
      try clear p2
      obtain ⟨kq,x6_66,rfl,HA,HJ66,BK944,HB⟩:=hcut
      cases kq with
      | zero => exact absurd HA.out (by simp [humuslaw14_UndoTurns.j1])
      | succ kj66 =>
       have H:=HA.out
       clear HA
       simp only [humuslaw14_UndoTurns.j1] at H
       obtain rfl:=Option.some.inj H
       go_wp2
       go_ret
       exact ⟨by first | rfl | (simp [errW_none,errW_some] <;> rfl) | (simp [*,errW_none,errW_some] <;> rfl),by repeat (first | (with_reducible first | exact HB.out | apply below_alloc | apply pw_below_drewN | apply below_drew1 | refine below_set ?_ GE944.out) | exact HB.out)⟩
end Go.Proofs.Ytdcllbhkjcdnoaa.P
set_option linter.unusedVariables false
set_option linter.unusedSimpArgs false
namespace Go.Proofs.Ytdcllbhkjcdnoaa.P
open Go.RowKit Go.Proofs.Ytdcllbhkjcdnoaa Go.Proofs.Ytdcllbhkjcdnoaa.Mem Go.Proofs.Ytdcllbhkjcdnoaa.Pac Go.Proofs.YtdcllbhkjcdnoaaW.PrintWords Go.Proofs.YtdcllbhkjcdnoaaW.PrintLast
theorem LightU.put {l : List Und} {u : Und} (h : LightU l) (hm : mayC l = true) (hu : u.f6.f2.length ≤ 20) (hx : u.f6.f0 < 18446744073709551616) : LightU (putU l u).1 :=
  ⟨by rw [(putU_may hm).2]; exact h.1, fun e he => by
    rcases putU_mem e he with h1 | rfl
    · exact h.2.1 e h1
    · exact hu, fun e he => by
    rcases putU_mem e he with h1 | rfl
    · exact h.2.2 e h1
    · exact hx⟩
theorem LightU.drop {l : List Und} {c : Int} (h : LightU l) (hm : mayC l = true) : LightU (dropU l c).1 := by
  have hlen : (dropU l c).1.length = l.length := by
    unfold dropU; rw [if_pos hm]
    split
    · rfl
    · exact List.length_set ..
  exact ⟨by rw [hlen]; exact h.1, fun e he => by
    rcases dropU_mem e he with h1 | rfl
    · exact h.2.1 e h1
    · decide, fun e he => by
    rcases dropU_mem e he with h1 | rfl
    · exact h.2.2 e h1
    · decide⟩
theorem turns_j0 {l : List Und} {u : Und} (c : Int) (hL : LightU l) (hu : u.f6.f2.length ≤ 20) (hx : u.f6.f0 < 18446744073709551616) : ∃ K, ∀ k, K ≤ k → humuslaw14_UndoTurns.j0 k l c false u.f0 u.f1 u.f2 u.f3 u.f4 u.f5 u.f6.f0 u.f6.f1 u.f6.f2 u.f6.f3 u.f6.f4.f0 u.f6.f4.f1 = some true := by
  obtain ⟨K1, h1⟩ := rMay_ev hL
  by_cases hm : mayC l = true
  rotate_left
  · obtain ⟨K2, h2⟩ := used_ev hL
    refine ⟨K1 + K2 + 60, fun k hk => ?_⟩
    obtain ⟨k, rfl⟩ : ∃ m, k = m + 2 := ⟨k - 2, by omega⟩
    have hp : putU l u = ([], 0, 1) := by unfold putU; rw [if_neg hm]
    have hd : dropU l c = ([], 1) := by unfold dropU; rw [if_neg hm]
    have hl := hL.1
    simp only [humuslaw14_UndoTurns.j0, Bool.false_eq_true, if_false]
    rw [put_ev hL.short (by omega) (by omega), drop_ev c hL.short, h1 (k + 1) (by omega), check_ev hL.short, free_ev hL.short, (h2 (k + 1) (by omega)).1, hp, hd, if_neg hm, if_neg hm, if_neg hm]
    simp only [Option.bind_some]
    have e0 : ((([] : List S32).length : Nat) : Int) = 0 := rfl
    rw [if_neg hm]
    simp only [e0, if_true]
    rw [awake14_ev (by omega)]
    simp only [Option.bind_some, humuslaw14_UndoTurns.j1]
  · have hLp := hL.put (u := u) hm hu hx
    have hLd := hL.drop (c := c) hm
    obtain ⟨K2, h2⟩ := used_ev hL
    obtain ⟨K3, h3⟩ := rPut_ev hL hm hu hx
    obtain ⟨K4, h4⟩ := rDrop_ev c hL hm
    obtain ⟨K5, h5⟩ := rList_self hLp
    obtain ⟨K6, h6⟩ := rList_self hLd
    obtain ⟨K7, h7⟩ := rMay_ev hLp
    obtain ⟨K8, h8⟩ := rFree_ev hL
    refine ⟨K1 + K2 + K3 + K4 + K5 + K6 + K7 + K8 + 60, fun k hk => ?_⟩
    obtain ⟨k, rfl⟩ : ∃ m, k = m + 3 := ⟨k - 3, by omega⟩
    have hl := hL.1
    simp only [humuslaw14_UndoTurns.j0, Bool.false_eq_true, if_false]
    rw [put_ev hL.short (by omega) (by omega), drop_ev c hL.short, h1 (k + 2) (by omega), h3 (k + 2) (by omega)]
    simp only [Option.bind_some]
    rw [if_pos hm, h5 (k + 2) (by omega)]
    simp only [Option.bind_some]
    simp only [if_true]
    rw [h7 (k + 2) (by omega)]
    simp only [Option.bind_some, humuslaw14_UndoTurns.j2]
    rw [(putU_may hm).1, if_neg (by decide), h4 (k + 1) (by omega)]
    simp only [Option.bind_some]
    rw [h6 (k + 1) (by omega)]
    simp only [Option.bind_some]
    simp only [if_true]
    rw [check_ev hL.short, free_ev hL.short, h8 (k + 1) (by omega), (h2 (k + 1) (by omega)).1, (h2 (k + 1) (by omega)).2, if_pos hm, if_pos hm, if_pos hm]
    simp only [Option.bind_some]
    simp only [if_true]
    rw [awake14_ev (by omega)]
    simp only [Option.bind_some, humuslaw14_UndoTurns.j4]
theorem undoTurns_ev {l : List Und} {u : Und} (c : Int) (hl : True) (hg : ∀ e ∈ l, e.f6.f0 < 18446744073709551616) (hx : u.f6.f0 < 18446744073709551616) : ∃ k, humuslaw14_UndoTurns.f k l u.f0 u.f1 u.f2 u.f3 u.f4 u.f5 u.f6.f0 u.f6.f1 u.f6.f2 u.f6.f3 u.f6.f4.f0 u.f6.f4.f1 c = some true := by
  obtain ⟨K, b, hK, hb⟩ := light_ev hl hg
  have hT : ∀ k, 40 ≤ k → humuslaw14_UndoTurns.j0 k l c true u.f0 u.f1 u.f2 u.f3 u.f4 u.f5 u.f6.f0 u.f6.f1 u.f6.f2 u.f6.f3 u.f6.f4.f0 u.f6.f4.f1 = some true := fun k hk => by
    obtain ⟨k, rfl⟩ : ∃ m, k = m + 1 := ⟨k - 1, by omega⟩
    simp only [humuslaw14_UndoTurns.j0, if_true]
    rw [awake14_ev (by omega)]
    simp only [Option.bind_some]
  cases b with
  | false =>
    refine ⟨K + 40, ?_⟩
    unfold humuslaw14_UndoTurns.f
    rw [hK _ (by omega)]
    simp only [Option.bind_some, Bool.false_eq_true, if_false]
    exact hT _ (by omega)
  | true =>
    have hL := hb rfl
    by_cases hu : u.f6.f2.length ≤ 20
    · obtain ⟨K2, h2⟩ := turns_j0 c hL hu hx
      refine ⟨K + K2, ?_⟩
      unfold humuslaw14_UndoTurns.f
      rw [hK _ (by omega)]
      simp only [Option.bind_some, if_true]
      rw [decide_eq_false (by omega)]
      exact h2 _ (by omega)
    · refine ⟨K + 40, ?_⟩
      unfold humuslaw14_UndoTurns.f
      rw [hK _ (by omega)]
      simp only [Option.bind_some, if_true]
      rw [decide_eq_true (by omega)]
      exact hT _ (by omega)
theorem UndoTurns_walk {w : World} (a : List S32) (A : Option Addr) (c : Nat) (hc : a.length ≤ c) (hr : Kd.C k32 w A a.length a) (ga : ∀ x ∈ a, good_undo x) (ma : a.length ≤ maxLen) (u : S32) (B : Option Addr) (d : Nat) (hd : u.f6.f2.length ≤ d) (hs : Kd.C Kd.f64 w B u.f6.f2.length u.f6.f2) (gu : good_undo u) (n : Int) (hn : (Lit.int .i64 n).wf = true) :
    Calls Try.prog 4 #[.slice A a.length c, .agg #[.int .i64 u.f0, .int .i64 u.f1, .int .i64 u.f2, .int .i64 u.f3, .int .i64 u.f4, .int .i64 u.f5, .float .f64 u.f6.f0, .bool u.f6.f1, .slice B u.f6.f2.length d, .int .i64 u.f6.f3, .int .i64 u.f6.f4.f0, .int .i64 u.f6.f4.f1], .int .i64 n] w fun e w' => e = .returned (.bool true) ∧ Below w.heap.size w w' := by
  obtain ⟨k, hk⟩ := undoTurns_ev (l := a) (u := u) n (trivial) (fun e he => (ga e he).2.2.2.2.2.2.1) gu.2.2.2.2.2.2.1
  exact humuslaw14_UndoTurns.calls k _ _ _ _ _ _ _ _ _ _ _ _ _ _ _ _ _ _ true w hr hc hs hd hk
end Go.Proofs.Ytdcllbhkjcdnoaa.P
