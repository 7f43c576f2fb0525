/- Put together by wip/prune.py out of this claim's texts. -/
import Derived.Test.YtdcllbhkjcdnoaaMUndoOnce5
import Derived.Test.YtdcllbhkjcdnoaaMUndoOnce7
import Derived.Test.YtdcllbhkjcdnoaaMUndoOnce9
import Derived.Test.YtdcllbhkjcdnoaaMUndoOnce10
import Derived.Test.YtdcllbhkjcdnoaaMUndoOnce12
import Derived.Test.YtdcllbhkjcdnoaaMUndoOnce13
namespace Go.Proofs.Ytdcllbhkjcdnoaa.P
open Go.RowKit Go.Proofs.YtdcllbhkjcdnoaaW.PrintWords Go.Proofs.YtdcllbhkjcdnoaaW.PrintLast Go.Proofs.YtdcllbhkjcdnoaaW.PrintMore
attribute [local go_sem] max2_int min2_int max_two min_two max_three min_three max_four min_four   -- for this text's walks alone
attribute [local go_sem] run_store_float
set_option linter.unusedVariables false
set_option linter.unusedSimpArgs false
def undorec_in.f (a0 : Int) (a1 : Int) (a2 : Int) : Option (Bool):=if a0 ≥ a1 then (some (decide (a0 ≤ a2))) else (some false)
set_option maxHeartbeats 8000000 in
set_option maxRecDepth 100000 in
theorem undorec_in.calls (a0 : Int) (a1 : Int) (a2 : Int) (r : Bool) (w : World) (h : undorec_in.f a0 a1 a2 = some r) :
  Calls Try.prog 83 #[.int .i64 a0,.int .i64 a1,.int .i64 a2] w fun e w' => e = .returned (.bool r) ∧ Drawn0 w w':=by
 have H : (if a0 ≥ a1 then (some (decide (a0 ≤ a2))) else (some false)) = some r:=h
 clear h
 by_cases c4 : a0 ≥ a1
 ·rw [if_pos c4] at H
  have c4b0 : decide (a1 ≤ a0) = true:=decide_eq_true c4
  clear c4
  obtain rfl:=Option.some.inj H
  go_enter Try.func83,Try.ntmps83
  go_wp2
  go_ret
  exact ⟨by first | rfl | (simp;done) | (simp [*];done),by repeat (first | exact Drawn0.refl _ | apply Drawn0.step)⟩
 ·rw [if_neg c4] at H
  have c4b0 : decide (a1 ≤ a0) = false:=decide_eq_false c4
  clear c4
  obtain rfl:=Option.some.inj H
  go_enter Try.func83,Try.ntmps83
  go_wp2
  go_ret
  exact ⟨by first | rfl | (simp;done) | (simp [*];done),by repeat (first | exact Drawn0.refl _ | apply Drawn0.step)⟩
end Go.Proofs.Ytdcllbhkjcdnoaa.P
namespace Go.Proofs.Ytdcllbhkjcdnoaa.P
open Go.RowKit Go.Proofs.YtdcllbhkjcdnoaaW.PrintWords Go.Proofs.YtdcllbhkjcdnoaaW.PrintLast Go.Proofs.YtdcllbhkjcdnoaaW.PrintMore
attribute [local go_sem] max2_int min2_int max_two min_two max_three min_three max_four min_four   -- for this text's walks alone
attribute [local go_sem] run_store_float
set_option linter.unusedVariables false
set_option linter.unusedSimpArgs false
mutual
def undorec_Check.j0 : Nat → Bool → Int → Int → Int → Int → Int → Int → Nat → Bool → List Nat → Int → Int → Int → Option (Int)
 | 0,_,_,_,_,_,_,_,_,_,_,_,_,_ => none
 | k + 1,x3,x437000,x437001,x437002,x437003,x437004,x437005,x437006,x437007,x437008,x437009,x437010,x437011 => undorec_Check.j1 k x3 x437003 x437000 x437001 x437002 x437003 x437004 x437005 x437006 x437007 x437008 x437009 x437010 x437011
def undorec_Check.j1 : Nat → Bool → Int → Int → Int → Int → Int → Int → Int → Nat → Bool → List Nat → Int → Int → Int → Option (Int)
 | 0,_,_,_,_,_,_,_,_,_,_,_,_,_,_ => none
 | k + 1,x3,x28,x437000,x437001,x437002,x437003,x437004,x437005,x437006,x437007,x437008,x437009,x437010,x437011 => if x28 = 1 then (if x3 = true then ((row_Same.f x437006 x437007 x437008 x437009 x437010 x437011 0 false ([] : List Nat) 0 0 0).bind fun t442 => (undorec_Check.j2 k (!t442))) else (some 1)) else (if x28 = 2 then (if x3 = true then ((row_Check.f k x437006 x437007 x437008 x437009 x437010 x437011).bind fun t443 => (undorec_Check.j3 k (!(t443 == 0)))) else (some 1)) else (some 1))
def undorec_Check.j2 : Nat → Bool → Option (Int)
 | 0,_ => none
 | k + 1,x48 => if x48 = true then (some 1) else (some 0)
def undorec_Check.j3 : Nat → Bool → Option (Int)
 | 0,_ => none
 | k + 1,x48 => if x48 = true then (some 1) else (some 0)
end
def undorec_Check.f (k : Nat) (a0_0 : Int) (a0_1 : Int) (a0_2 : Int) (a0_3 : Int) (a0_4 : Int) (a0_5 : Int) (a0_6 : Nat) (a0_7 : Bool) (l0_8 : List Nat) (a0_9 : Int) (a0_10 : Int) (a0_11 : Int) : Option (Int):=(undorec_in.f a0_0 1 2147483647).bind fun t437 => (if t437 = true then ((undorec_in.f a0_1 1 2147483647).bind fun t438 => (if t438 = true then ((undorec_in.f a0_2 0 65535).bind fun t439 => (if t439 = true then ((undorec_in.f a0_4 0 255).bind fun t440 => (if t440 = true then ((undorec_in.f a0_5 0 255).bind fun t441 => (undorec_Check.j0 k t441 a0_0 a0_1 a0_2 a0_3 a0_4 a0_5 a0_6 a0_7 l0_8 a0_9 a0_10 a0_11)) else (undorec_Check.j0 k false a0_0 a0_1 a0_2 a0_3 a0_4 a0_5 a0_6 a0_7 l0_8 a0_9 a0_10 a0_11))) else (undorec_Check.j0 k false a0_0 a0_1 a0_2 a0_3 a0_4 a0_5 a0_6 a0_7 l0_8 a0_9 a0_10 a0_11))) else (undorec_Check.j0 k false a0_0 a0_1 a0_2 a0_3 a0_4 a0_5 a0_6 a0_7 l0_8 a0_9 a0_10 a0_11))) else (undorec_Check.j0 k false a0_0 a0_1 a0_2 a0_3 a0_4 a0_5 a0_6 a0_7 l0_8 a0_9 a0_10 a0_11))
set_option maxHeartbeats 8000000 in
set_option maxRecDepth 100000 in
theorem undorec_Check.calls (k : Nat) (a0_0 : Int) (a0_1 : Int) (a0_2 : Int) (a0_3 : Int) (a0_4 : Int) (a0_5 : Int) (a0_6 : Nat) (a0_7 : Bool) (A0_8 : Option Addr) (c0_8 : Nat) (l0_8 : List Nat) (a0_9 : Int) (a0_10 : Int) (a0_11 : Int) (r : Int) (w : World) (hr0_8 : Kd.C Kd.f64 w A0_8 l0_8.length l0_8) (hc0_8 : l0_8.length ≤ c0_8) (h : undorec_Check.f k a0_0 a0_1 a0_2 a0_3 a0_4 a0_5 a0_6 a0_7 l0_8 a0_9 a0_10 a0_11 = some r) :
  Calls Try.prog 47 #[.agg #[.int .i64 a0_0,.int .i64 a0_1,.int .i64 a0_2,.int .i64 a0_3,.int .i64 a0_4,.int .i64 a0_5,.float .f64 a0_6,.bool a0_7,.slice A0_8 l0_8.length c0_8,.int .i64 a0_9,.int .i64 a0_10,.int .i64 a0_11]] w fun e w' => e = .returned (.int .i64 r) ∧ Below w.heap.size w w':=by
 have hu32:=Try.underlying32
 have hu30:=Try.underlying30
 have HR0_8:=Aside0.mk hr0_8
 have HC0_8:=Aside0.mk hc0_8
 clear hr0_8 hc0_8
 have HB:=Aside0.mk (Below.refl w.heap.size w)
 have H : ((undorec_in.f a0_0 1 2147483647).bind fun t437 => (if t437 = true then ((undorec_in.f a0_1 1 2147483647).bind fun t438 => (if t438 = true then ((undorec_in.f a0_2 0 65535).bind fun t439 => (if t439 = true then ((undorec_in.f a0_4 0 255).bind fun t440 => (if t440 = true then ((undorec_in.f a0_5 0 255).bind fun t441 => (undorec_Check.j0 k t441 a0_0 a0_1 a0_2 a0_3 a0_4 a0_5 a0_6 a0_7 l0_8 a0_9 a0_10 a0_11)) else (undorec_Check.j0 k false a0_0 a0_1 a0_2 a0_3 a0_4 a0_5 a0_6 a0_7 l0_8 a0_9 a0_10 a0_11))) else (undorec_Check.j0 k false a0_0 a0_1 a0_2 a0_3 a0_4 a0_5 a0_6 a0_7 l0_8 a0_9 a0_10 a0_11))) else (undorec_Check.j0 k false a0_0 a0_1 a0_2 a0_3 a0_4 a0_5 a0_6 a0_7 l0_8 a0_9 a0_10 a0_11))) else (undorec_Check.j0 k false a0_0 a0_1 a0_2 a0_3 a0_4 a0_5 a0_6 a0_7 l0_8 a0_9 a0_10 a0_11))) = some r:=h
 clear h
 have HC2:=Aside0.mk H
 clear H
 go_enter Try.func47,Try.ntmps47
 go_upto_region 1 with (first | ((with_reducible refine gate_dst (N:=1) rfl ?_);refine box_event ?hg (N:=1) ?hd (cs:=#[.int .i64 a0_0,.int .i64 a0_1,.int .i64 a0_2,.int .i64 a0_3,.int .i64 a0_4,.int .i64 a0_5,.float .f64 a0_6,.bool a0_7,.slice A0_8 l0_8.length c0_8,.int .i64 a0_9,.int .i64 a0_10,.int .i64 a0_11]) (t:=32) ?hr ?_;(case hd => rfl);(case hg => rfl);(case hr => first | (go_simp;done) | (go_simp;rfl));intro gb436 hg w3 hbox hb;have n0_:=Aside0.mk (below_step (by repeat (first | (with_reducible first | exact HB.out | apply below_alloc | apply pw_below_drewN | apply below_drew1) | exact HB.out)) hb);have n1_:=Aside0.mk (hbox);have n2_:=Aside0.mk ((by rw [hg];exact (below_size (by repeat (first | (with_reducible first | exact HB.out | apply below_alloc | apply pw_below_drewN | apply below_drew1) | exact HB.out))) : w.heap.size ≤ gb436));have n3_:=Aside0.mk ((by rw [hg];exact (below_size (by repeat (first | (with_reducible first | exact HB.out | apply below_alloc | apply pw_below_drewN | apply below_drew1) | exact HB.out))) : w.heap.size ≤ gb436));clear HB;have HB:=n0_;have BK436:=n1_;have GW436:=n2_;have GE436:=n3_;clear n0_ n1_ n2_ n3_;clear hb hbox hg))
 (try simp only [Act.put,List.setIfInBounds_toArray,List.set_cons_zero,List.set_cons_succ])
 go_cut [3] (fun v3 wc => ∃ (kq : Nat) (x3_1 : Bool),v3 = .bool x3_1 ∧ Aside0 (undorec_Check.j0 kq x3_1 a0_0 a0_1 a0_2 a0_3 a0_4 a0_5 a0_6 a0_7 l0_8 a0_9 a0_10 a0_11 = some r) ∧ Aside0 (kq ≤ k) ∧ Aside0 (wc.heap[gb436]? = some (.cells #[.int .i64 a0_0,.int .i64 a0_1,.int .i64 a0_2,.int .i64 a0_3,.int .i64 a0_4,.int .i64 a0_5,.float .f64 a0_6,.bool a0_7,(.slice A0_8 l0_8.length c0_8),.int .i64 a0_9,.int .i64 a0_10,.int .i64 a0_11] 32 (0,0))) ∧ Aside0 (Below w.heap.size w wc))
 case first =>
  have H:=HC2.out
  clear HC2
  replace H:=Option.bind_eq_some_iff.mp H
  obtain ⟨t437,A40,H⟩:=H
  replace H : (if t437 = true then ((undorec_in.f a0_1 1 2147483647).bind fun t438 => (if t438 = true then ((undorec_in.f a0_2 0 65535).bind fun t439 => (if t439 = true then ((undorec_in.f a0_4 0 255).bind fun t440 => (if t440 = true then ((undorec_in.f a0_5 0 255).bind fun t441 => (undorec_Check.j0 k t441 a0_0 a0_1 a0_2 a0_3 a0_4 a0_5 a0_6 a0_7 l0_8 a0_9 a0_10 a0_11)) else (undorec_Check.j0 k false a0_0 a0_1 a0_2 a0_3 a0_4 a0_5 a0_6 a0_7 l0_8 a0_9 a0_10 a0_11))) else (undorec_Check.j0 k false a0_0 a0_1 a0_2 a0_3 a0_4 a0_5 a0_6 a0_7 l0_8 a0_9 a0_10 a0_11))) else (undorec_Check.j0 k false a0_0 a0_1 a0_2 a0_3 a0_4 a0_5 a0_6 a0_7 l0_8 a0_9 a0_10 a0_11))) else (undorec_Check.j0 k false a0_0 a0_1 a0_2 a0_3 a0_4 a0_5 a0_6 a0_7 l0_8 a0_9 a0_10 a0_11)) = some r:=H
  have A4:=Aside0.mk A40
  clear A40
  by_cases c5 : t437 = true
  ·subst c5
   have H1 : ((undorec_in.f a0_1 1 2147483647).bind fun t438 => (if t438 = true then ((undorec_in.f a0_2 0 65535).bind fun t439 => (if t439 = true then ((undorec_in.f a0_4 0 255).bind fun t440 => (if t440 = true then ((undorec_in.f a0_5 0 255).bind fun t441 => (undorec_Check.j0 k t441 a0_0 a0_1 a0_2 a0_3 a0_4 a0_5 a0_6 a0_7 l0_8 a0_9 a0_10 a0_11)) else (undorec_Check.j0 k false a0_0 a0_1 a0_2 a0_3 a0_4 a0_5 a0_6 a0_7 l0_8 a0_9 a0_10 a0_11))) else (undorec_Check.j0 k false a0_0 a0_1 a0_2 a0_3 a0_4 a0_5 a0_6 a0_7 l0_8 a0_9 a0_10 a0_11))) else (undorec_Check.j0 k false a0_0 a0_1 a0_2 a0_3 a0_4 a0_5 a0_6 a0_7 l0_8 a0_9 a0_10 a0_11))) = some r:=by rw [if_pos rfl] at H;exact H
   clear H
   have H:=H1
   clear H1
   replace H:=Option.bind_eq_some_iff.mp H
   obtain ⟨t438,A60,H⟩:=H
   replace H : (if t438 = true then ((undorec_in.f a0_2 0 65535).bind fun t439 => (if t439 = true then ((undorec_in.f a0_4 0 255).bind fun t440 => (if t440 = true then ((undorec_in.f a0_5 0 255).bind fun t441 => (undorec_Check.j0 k t441 a0_0 a0_1 a0_2 a0_3 a0_4 a0_5 a0_6 a0_7 l0_8 a0_9 a0_10 a0_11)) else (undorec_Check.j0 k false a0_0 a0_1 a0_2 a0_3 a0_4 a0_5 a0_6 a0_7 l0_8 a0_9 a0_10 a0_11))) else (undorec_Check.j0 k false a0_0 a0_1 a0_2 a0_3 a0_4 a0_5 a0_6 a0_7 l0_8 a0_9 a0_10 a0_11))) else (undorec_Check.j0 k false a0_0 a0_1 a0_2 a0_3 a0_4 a0_5 a0_6 a0_7 l0_8 a0_9 a0_10 a0_11)) = some r:=H
   have A6:=Aside0.mk A60
   clear A60
   by_cases c7 : t438 = true
   ·subst c7
    have H1 : ((undorec_in.f a0_2 0 65535).bind fun t439 => (if t439 = true then ((undorec_in.f a0_4 0 255).bind fun t440 => (if t440 = true then ((undorec_in.f a0_5 0 255).bind fun t441 => (undorec_Check.j0 k t441 a0_0 a0_1 a0_2 a0_3 a0_4 a0_5 a0_6 a0_7 l0_8 a0_9 a0_10 a0_11)) else (undorec_Check.j0 k false a0_0 a0_1 a0_2 a0_3 a0_4 a0_5 a0_6 a0_7 l0_8 a0_9 a0_10 a0_11))) else (undorec_Check.j0 k false a0_0 a0_1 a0_2 a0_3 a0_4 a0_5 a0_6 a0_7 l0_8 a0_9 a0_10 a0_11))) = some r:=by rw [if_pos rfl] at H;exact H
    clear H
    have H:=H1
    clear H1
    replace H:=Option.bind_eq_some_iff.mp H
    obtain ⟨t439,A80,H⟩:=H
    replace H : (if t439 = true then ((undorec_in.f a0_4 0 255).bind fun t440 => (if t440 = true then ((undorec_in.f a0_5 0 255).bind fun t441 => (undorec_Check.j0 k t441 a0_0 a0_1 a0_2 a0_3 a0_4 a0_5 a0_6 a0_7 l0_8 a0_9 a0_10 a0_11)) else (undorec_Check.j0 k false a0_0 a0_1 a0_2 a0_3 a0_4 a0_5 a0_6 a0_7 l0_8 a0_9 a0_10 a0_11))) else (undorec_Check.j0 k false a0_0 a0_1 a0_2 a0_3 a0_4 a0_5 a0_6 a0_7 l0_8 a0_9 a0_10 a0_11)) = some r:=H
    have A8:=Aside0.mk A80
    clear A80
    by_cases c9 : t439 = true
    ·subst c9
     have H1 : ((undorec_in.f a0_4 0 255).bind fun t440 => (if t440 = true then ((undorec_in.f a0_5 0 255).bind fun t441 => (undorec_Check.j0 k t441 a0_0 a0_1 a0_2 a0_3 a0_4 a0_5 a0_6 a0_7 l0_8 a0_9 a0_10 a0_11)) else (undorec_Check.j0 k false a0_0 a0_1 a0_2 a0_3 a0_4 a0_5 a0_6 a0_7 l0_8 a0_9 a0_10 a0_11))) = some r:=by rw [if_pos rfl] at H;exact H
     clear H
     have H:=H1
     clear H1
     replace H:=Option.bind_eq_some_iff.mp H
     obtain ⟨t440,A100,H⟩:=H
     replace H : (if t440 = true then ((undorec_in.f a0_5 0 255).bind fun t441 => (undorec_Check.j0 k t441 a0_0 a0_1 a0_2 a0_3 a0_4 a0_5 a0_6 a0_7 l0_8 a0_9 a0_10 a0_11)) else (undorec_Check.j0 k false a0_0 a0_1 a0_2 a0_3 a0_4 a0_5 a0_6 a0_7 l0_8 a0_9 a0_10 a0_11)) = some r:=H
     have A10:=Aside0.mk A100
     clear A100
     by_cases c11 : t440 = true
     ·subst c11
      have H1 : ((undorec_in.f a0_5 0 255).bind fun t441 => (undorec_Check.j0 k t441 a0_0 a0_1 a0_2 a0_3 a0_4 a0_5 a0_6 a0_7 l0_8 a0_9 a0_10 a0_11)) = some r:=by rw [if_pos rfl] at H;exact H
      clear H
      have H:=H1
      clear H1
      replace H:=Option.bind_eq_some_iff.mp H
      obtain ⟨t441,A120,H⟩:=H
      replace H : (undorec_Check.j0 k t441 a0_0 a0_1 a0_2 a0_3 a0_4 a0_5 a0_6 a0_7 l0_8 a0_9 a0_10 a0_11) = some r:=H
      have A12:=Aside0.mk A120
      clear A120
      have H':=Aside0.mk H
      clear H
      obtain ⟨hcz13_0,hcz13_1,hcz13_2,hcz13_3,hcz13_4,hcz13_5,hcz13_6,hcz13_7,hcz13_8,hcz13_9,hcz13_10,hcz13_11⟩:=blkc_12 BK436.out
      obtain ⟨hfz13_0,hfz13_1,hfz13_2,hfz13_3,hfz13_4,hfz13_5,hfz13_6,hfz13_7,hfz13_8,hfz13_9,hfz13_10,hfz13_11⟩:=blkz_12 BK436.out
      go_wp2_with (first | ((with_reducible refine gate_callee (f:=83) rfl ?_);refine goesL_ (some 6) rfl rfl Try.func83 (by kernel_rfl) rfl #[.int .i64 a0_0,.int .i64 1,.int .i64 2147483647] rfl (by (try simp only [List.map_toArray,List.map_cons,List.map_nil]);first | done | rfl | (simp only [List.length_drop,List.length_take];rfl)) ?_;(with_reducible refine (undorec_in.calls a0_0 1 2147483647 true _ A4.out).mono ?_);rintro e w' ⟨rfl,⟨nd,rfl⟩⟩;refine ⟨_,rfl,?_⟩) | (go_at_call 83;(with_reducible refine (undorec_in.calls a0_1 1 2147483647 true _ A6.out).mono ?_);rintro e w' ⟨rfl,⟨nd,rfl⟩⟩) | (go_at_call 83;(with_reducible refine (undorec_in.calls a0_2 0 65535 true _ A8.out).mono ?_);rintro e w' ⟨rfl,⟨nd,rfl⟩⟩) | (go_at_call 83;(with_reducible refine (undorec_in.calls a0_4 0 255 true _ A10.out).mono ?_);rintro e w' ⟨rfl,⟨nd,rfl⟩⟩) | (go_at_call 83;(with_reducible refine (undorec_in.calls a0_5 0 255 t441 _ A12.out).mono ?_);rintro e w' ⟨rfl,⟨nd,rfl⟩⟩))
      go_meet
      case rel => exact ⟨_,(t441),(by first | rfl | (simp;done) | (simp [*];done)),H',⟨by first | omega | exact Nat.le_refl _⟩,⟨by (with_reducible repeat (first | refine blk_drewN ?_ _ | refine blk_drew ?_ | refine blk_alloc ?_ _));exact BK436.out⟩,⟨by repeat (first | (with_reducible first | exact HB.out | apply below_alloc | apply pw_below_drewN | apply below_drew1 | refine below_set ?_ GE436.out) | exact HB.out)⟩⟩
     ·replace c11:=Bool.eq_false_iff.mpr c11
      subst c11
      have H1 : (undorec_Check.j0 k false a0_0 a0_1 a0_2 a0_3 a0_4 a0_5 a0_6 a0_7 l0_8 a0_9 a0_10 a0_11) = some r:=by rw [if_neg (show ¬ (false = true) by decide)] at H;exact H
      clear H
      have H:=H1
      clear H1
      have H':=Aside0.mk H
      clear H
      obtain ⟨hcz14_0,hcz14_1,hcz14_2,hcz14_3,hcz14_4,hcz14_5,hcz14_6,hcz14_7,hcz14_8,hcz14_9,hcz14_10,hcz14_11⟩:=blkc_12 BK436.out
      obtain ⟨hfz14_0,hfz14_1,hfz14_2,hfz14_3,hfz14_4,hfz14_5,hfz14_6,hfz14_7,hfz14_8,hfz14_9,hfz14_10,hfz14_11⟩:=blkz_12 BK436.out
      go_wp2_with (first | ((with_reducible refine gate_callee (f:=83) rfl ?_);refine goesL_ (some 6) rfl rfl Try.func83 (by kernel_rfl) rfl #[.int .i64 a0_0,.int .i64 1,.int .i64 2147483647] rfl (by (try simp only [List.map_toArray,List.map_cons,List.map_nil]);first | done | rfl | (simp only [List.length_drop,List.length_take];rfl)) ?_;(with_reducible refine (undorec_in.calls a0_0 1 2147483647 true _ A4.out).mono ?_);rintro e w' ⟨rfl,⟨nd,rfl⟩⟩;refine ⟨_,rfl,?_⟩) | (go_at_call 83;(with_reducible refine (undorec_in.calls a0_1 1 2147483647 true _ A6.out).mono ?_);rintro e w' ⟨rfl,⟨nd,rfl⟩⟩) | (go_at_call 83;(with_reducible refine (undorec_in.calls a0_2 0 65535 true _ A8.out).mono ?_);rintro e w' ⟨rfl,⟨nd,rfl⟩⟩) | (go_at_call 83;(with_reducible refine (undorec_in.calls a0_4 0 255 false _ A10.out).mono ?_);rintro e w' ⟨rfl,⟨nd,rfl⟩⟩))
      go_meet
      case rel => exact ⟨_,(false),(by first | rfl | (simp;done) | (simp [*];done)),H',⟨by first | omega | exact Nat.le_refl _⟩,⟨by (with_reducible repeat (first | refine blk_drewN ?_ _ | refine blk_drew ?_ | refine blk_alloc ?_ _));exact BK436.out⟩,⟨by repeat (first | (with_reducible first | exact HB.out | apply below_alloc | apply pw_below_drewN | apply below_drew1 | refine below_set ?_ GE436.out) | exact HB.out)⟩⟩
    ·replace c9:=Bool.eq_false_iff.mpr c9
     subst c9
     have H1 : (undorec_Check.j0 k false a0_0 a0_1 a0_2 a0_3 a0_4 a0_5 a0_6 a0_7 l0_8 a0_9 a0_10 a0_11) = some r:=by rw [if_neg (show ¬ (false = true) by decide)] at H;exact H
     clear H
     have H:=H1
     clear H1
     have H':=Aside0.mk H
     clear H
     obtain ⟨hcz15_0,hcz15_1,hcz15_2,hcz15_3,hcz15_4,hcz15_5,hcz15_6,hcz15_7,hcz15_8,hcz15_9,hcz15_10,hcz15_11⟩:=blkc_12 BK436.out
     obtain ⟨hfz15_0,hfz15_1,hfz15_2,hfz15_3,hfz15_4,hfz15_5,hfz15_6,hfz15_7,hfz15_8,hfz15_9,hfz15_10,hfz15_11⟩:=blkz_12 BK436.out
     go_wp2_with (first | ((with_reducible refine gate_callee (f:=83) rfl ?_);refine goesL_ (some 6) rfl rfl Try.func83 (by kernel_rfl) rfl #[.int .i64 a0_0,.int .i64 1,.int .i64 2147483647] rfl (by (try simp only [List.map_toArray,List.map_cons,List.map_nil]);first | done | rfl | (simp only [List.length_drop,List.length_take];rfl)) ?_;(with_reducible refine (undorec_in.calls a0_0 1 2147483647 true _ A4.out).mono ?_);rintro e w' ⟨rfl,⟨nd,rfl⟩⟩;refine ⟨_,rfl,?_⟩) | (go_at_call 83;(with_reducible refine (undorec_in.calls a0_1 1 2147483647 true _ A6.out).mono ?_);rintro e w' ⟨rfl,⟨nd,rfl⟩⟩) | (go_at_call 83;(with_reducible refine (undorec_in.calls a0_2 0 65535 false _ A8.out).mono ?_);rintro e w' ⟨rfl,⟨nd,rfl⟩⟩))
     go_meet
     case rel => exact ⟨_,(false),(by first | rfl | (simp;done) | (simp [*];done)),H',⟨by first | omega | exact Nat.le_refl _⟩,⟨by (with_reducible repeat (first | refine blk_drewN ?_ _ | refine blk_drew ?_ | refine blk_alloc ?_ _));exact BK436.out⟩,⟨by repeat (first | (with_reducible first | exact HB.out | apply below_alloc | apply pw_below_drewN | apply below_drew1 | refine below_set ?_ GE436.out) | exact HB.out)⟩⟩
   ·replace c7:=Bool.eq_false_iff.mpr c7
    subst c7
    have H1 : (undorec_Check.j0 k false a0_0 a0_1 a0_2 a0_3 a0_4 a0_5 a0_6 a0_7 l0_8 a0_9 a0_10 a0_11) = some r:=by rw [if_neg (show ¬ (false = true) by decide)] at H;exact H
    clear H
    have H:=H1
    clear H1
    have H':=Aside0.mk H
    clear H
    obtain ⟨hcz16_0,hcz16_1,hcz16_2,hcz16_3,hcz16_4,hcz16_5,hcz16_6,hcz16_7,hcz16_8,hcz16_9,hcz16_10,hcz16_11⟩:=blkc_12 BK436.out
    obtain ⟨hfz16_0,hfz16_1,hfz16_2,hfz16_3,hfz16_4,hfz16_5,hfz16_6,hfz16_7,hfz16_8,hfz16_9,hfz16_10,hfz16_11⟩:=blkz_12 BK436.out
    go_wp2_with (first | ((with_reducible refine gate_callee (f:=83) rfl ?_);refine goesL_ (some 6) rfl rfl Try.func83 (by kernel_rfl) rfl #[.int .i64 a0_0,.int .i64 1,.int .i64 2147483647] rfl (by (try simp only [List.map_toArray,List.map_cons,List.map_nil]);first | done | rfl | (simp only [List.length_drop,List.length_take];rfl)) ?_;(with_reducible refine (undorec_in.calls a0_0 1 2147483647 true _ A4.out).mono ?_);rintro e w' ⟨rfl,⟨nd,rfl⟩⟩;refine ⟨_,rfl,?_⟩) | (go_at_call 83;(with_reducible refine (undorec_in.calls a0_1 1 2147483647 false _ A6.out).mono ?_);rintro e w' ⟨rfl,⟨nd,rfl⟩⟩))
    go_meet
    case rel => exact ⟨_,(false),(by first | rfl | (simp;done) | (simp [*];done)),H',⟨by first | omega | exact Nat.le_refl _⟩,⟨by (with_reducible repeat (first | refine blk_drewN ?_ _ | refine blk_drew ?_ | refine blk_alloc ?_ _));exact BK436.out⟩,⟨by repeat (first | (with_reducible first | exact HB.out | apply below_alloc | apply pw_below_drewN | apply below_drew1 | refine below_set ?_ GE436.out) | exact HB.out)⟩⟩
  ·replace c5:=Bool.eq_false_iff.mpr c5
   subst c5
   have H1 : (undorec_Check.j0 k false a0_0 a0_1 a0_2 a0_3 a0_4 a0_5 a0_6 a0_7 l0_8 a0_9 a0_10 a0_11) = some r:=by rw [if_neg (show ¬ (false = true) by decide)] at H;exact H
   clear H
   have H:=H1
   clear H1
   have H':=Aside0.mk H
   clear H
   obtain ⟨hcz17_0,hcz17_1,hcz17_2,hcz17_3,hcz17_4,hcz17_5,hcz17_6,hcz17_7,hcz17_8,hcz17_9,hcz17_10,hcz17_11⟩:=blkc_12 BK436.out
   obtain ⟨hfz17_0,hfz17_1,hfz17_2,hfz17_3,hfz17_4,hfz17_5,hfz17_6,hfz17_7,hfz17_8,hfz17_9,hfz17_10,hfz17_11⟩:=blkz_12 BK436.out
   go_wp2_with (first | ((with_reducible refine gate_callee (f:=83) rfl ?_);refine goesL_ (some 6) rfl rfl Try.func83 (by kernel_rfl) rfl #[.int .i64 a0_0,.int .i64 1,.int .i64 2147483647] rfl (by (try simp only [List.map_toArray,List.map_cons,List.map_nil]);first | done | rfl | (simp only [List.length_drop,List.length_take];rfl)) ?_;(with_reducible refine (undorec_in.calls a0_0 1 2147483647 false _ A4.out).mono ?_);rintro e w' ⟨rfl,⟨nd,rfl⟩⟩;refine ⟨_,rfl,?_⟩))
   go_meet
   case rel => exact ⟨_,(false),(by first | rfl | (simp;done) | (simp [*];done)),H',⟨by first | omega | exact Nat.le_refl _⟩,⟨by (with_reducible repeat (first | refine blk_drewN ?_ _ | refine blk_drew ?_ | refine blk_alloc ?_ _));exact BK436.out⟩,⟨by repeat (first | (with_reducible first | exact HB.out | apply below_alloc | apply pw_below_drewN | apply below_drew1 | refine below_set ?_ GE436.out) | exact HB.out)⟩⟩
 case rest =>
  clear HC2
  try clear c1
  try clear p2
  try clear c4
  try clear c5
  try clear c7
  try clear c8
  try clear c9
  try clear c11
  try clear hcz13_0
  try clear hcz13_1
  try clear hcz13_10
  try clear hcz13_11
  try clear hcz13_2
  try clear hcz13_3
  try clear hcz13_4
  try clear hcz13_5
  try clear hcz13_6
  try clear hcz13_7
  try clear hcz13_8
  try clear hcz13_9
  try clear hcz14_0
  try clear hcz14_1
  try clear hcz14_10
  try clear hcz14_11
  try clear hcz14_2
  try clear hcz14_3
  try clear hcz14_4
  try clear hcz14_5
  try clear hcz14_6
  try clear hcz14_7
  try clear hcz14_8
  try clear hcz14_9
  try clear hcz15_0
  try clear hcz15_1
  try clear hcz15_10
  try clear hcz15_11
  try clear hcz15_2
  try clear hcz15_3
  try clear hcz15_4
  try clear hcz15_5
  try clear hcz15_6
  try clear hcz15_7
  try clear hcz15_8
  try clear hcz15_9
  try clear hcz16_0
  try clear hcz16_1
  try clear hcz16_10
  try clear hcz16_11
  try clear hcz16_2
  try clear hcz16_3
  try clear hcz16_4
  try clear hcz16_5
  try clear hcz16_6
  try clear hcz16_7
  try clear hcz16_8
  try clear hcz16_9
  try clear hcz17_0
  try clear hcz17_1
  try clear hcz17_10
  try clear hcz17_11
  try clear hcz17_2
  try clear hcz17_3
  try clear hcz17_4
  try clear hcz17_5
  try clear hcz17_6
  try clear hcz17_7
  try clear hcz17_8
  try clear hcz17_9
  try clear hfz13_0
  try clear hfz13_1
  try clear hfz13_10
  try clear hfz13_11
  try clear hfz13_2
  try clear hfz13_3
  try clear hfz13_4
  try clear hfz13_5
  try clear hfz13_6
  try clear hfz13_7
  try clear hfz13_8
  try clear hfz13_9
  try clear hfz14_0
  try clear hfz14_1
  try clear hfz14_10
  try clear hfz14_11
  try clear hfz14_2
  try clear hfz14_3
  try clear hfz14_4
  try clear hfz14_5
  try clear hfz14_6
  try clear hfz14_7
  try clear hfz14_8
  try clear hfz14_9
  try clear hfz15_0
  try clear hfz15_1
  try clear hfz15_10
  try clear hfz15_11
  try clear hfz15_2
  try clear hfz15_3
  try clear hfz15_4
  try clear hfz15_5
  try clear hfz15_6
  try clear hfz15_7
  try clear hfz15_8
  try clear hfz15_9
  try clear hfz16_0
  try clear hfz16_1
  try clear hfz16_10
  try clear hfz16_11
  try clear hfz16_2
  try clear hfz16_3
  try clear hfz16_4
  try clear hfz16_5
  try clear hfz16_6
  try clear hfz16_7
  try clear hfz16_8
  try clear hfz16_9
  try clear hfz17_0
  try clear hfz17_1
  try clear hfz17_10
  try clear hfz17_11
  try clear hfz17_2
  try clear hfz17_3
  try clear hfz17_4
  try clear hfz17_5
  try clear hfz17_6
  try clear hfz17_7
  try clear hfz17_8
  try clear hfz17_9
  obtain ⟨kq,x3_1,rfl,HA,HJ1,BK436,HB⟩:=hcut
  cases kq with
  | zero => exact absurd HA.out (by simp [undorec_Check.j0])
  | succ kj1 =>
   have H:=HA.out
   clear HA
   simp only [undorec_Check.j0] at H
   have HC18:=Aside0.mk H
   clear H
   go_upto_region 2 with (fail)
   go_cut [28] (fun v28 wc => ∃ (kq : Nat) (x28_17 : Int),v28 = .int .i64 x28_17 ∧ Aside0 (undorec_Check.j1 kq x3_1 x28_17 a0_0 a0_1 a0_2 a0_3 a0_4 a0_5 a0_6 a0_7 l0_8 a0_9 a0_10 a0_11 = some r) ∧ Aside0 (kq ≤ kj1) ∧ Aside0 (wc.heap[gb436]? = some (.cells #[.int .i64 a0_0,.int .i64 a0_1,.int .i64 a0_2,.int .i64 a0_3,.int .i64 a0_4,.int .i64 a0_5,.float .f64 a0_6,.bool a0_7,(.slice A0_8 l0_8.length c0_8),.int .i64 a0_9,.int .i64 a0_10,.int .i64 a0_11] 32 (0,0))) ∧ Aside0 (Below w.heap.size w wc))
   case first =>
    have H:=HC18.out
    clear HC18
    have H':=Aside0.mk H
    clear H
    obtain ⟨hcz19_0,hcz19_1,hcz19_2,hcz19_3,hcz19_4,hcz19_5,hcz19_6,hcz19_7,hcz19_8,hcz19_9,hcz19_10,hcz19_11⟩:=blkc_12 BK436.out
    obtain ⟨hfz19_0,hfz19_1,hfz19_2,hfz19_3,hfz19_4,hfz19_5,hfz19_6,hfz19_7,hfz19_8,hfz19_9,hfz19_10,hfz19_11⟩:=blkz_12 BK436.out
    go_wp2
    go_meet
    case rel => exact ⟨_,(a0_3),(by first | rfl | (simp;done) | (simp [*];done)),H',⟨by have:=HJ1.out;first | omega | exact Nat.le_refl _⟩,⟨by (with_reducible repeat (first | refine blk_drewN ?_ _ | refine blk_drew ?_ | refine blk_alloc ?_ _));exact BK436.out⟩,⟨by repeat (first | (with_reducible first | exact HB.out | apply below_alloc | apply pw_below_drewN | apply below_drew1 | refine below_set ?_ GE436.out) | exact HB.out)⟩⟩
   case rest =>
    clear HC18
    try clear c1
    try clear p2
    try clear c4
    try clear c5
    try clear c7
    try clear c8
    try clear c9
    try clear c11
    try clear hcz13_0
    try clear hcz13_1
    try clear hcz13_10
    try clear hcz13_11
    try clear hcz13_2
    try clear hcz13_3
    try clear hcz13_4
    try clear hcz13_5
    try clear hcz13_6
    try clear hcz13_7
    try clear hcz13_8
    try clear hcz13_9
    try clear hcz14_0
    try clear hcz14_1
    try clear hcz14_10
    try clear hcz14_11
    try clear hcz14_2
    try clear hcz14_3
    try clear hcz14_4
    try clear hcz14_5
    try clear hcz14_6
    try clear hcz14_7
    try clear hcz14_8
    try clear hcz14_9
    try clear hcz15_0
    try clear hcz15_1
    try clear hcz15_10
    try clear hcz15_11
    try clear hcz15_2
    try clear hcz15_3
    try clear hcz15_4
    try clear hcz15_5
    try clear hcz15_6
    try clear hcz15_7
    try clear hcz15_8
    try clear hcz15_9
    try clear hcz16_0
    try clear hcz16_1
    try clear hcz16_10
    try clear hcz16_11
    try clear hcz16_2
    try clear hcz16_3
    try clear hcz16_4
    try clear hcz16_5
    try clear hcz16_6
    try clear hcz16_7
    try clear hcz16_8
    try clear hcz16_9
    try clear hcz17_0
    try clear hcz17_1
    try clear hcz17_10
    try clear hcz17_11
    try clear hcz17_2
    try clear hcz17_3
    try clear hcz17_4
    try clear hcz17_5
    try clear hcz17_6
    try clear hcz17_7
    try clear hcz17_8
    try clear hcz17_9
    try clear hcz19_0
    try clear hcz19_1
    try clear hcz19_10
    try clear hcz19_11
    try clear hcz19_2
    try clear hcz19_3
    try clear hcz19_4
    try clear hcz19_5
    try clear hcz19_6
    try clear hcz19_7
    try clear hcz19_8
    try clear hcz19_9
    try clear hfz13_0
    try clear hfz13_1
    try clear hfz13_10
    try clear hfz13_11
    try clear hfz13_2
    try clear hfz13_3
    try clear hfz13_4
    try clear hfz13_5
    try clear hfz13_6
    try clear hfz13_7
    try clear hfz13_8
    try clear hfz13_9
    try clear hfz14_0
    try clear hfz14_1
    try clear hfz14_10
    try clear hfz14_11
    try clear hfz14_2
    try clear hfz14_3
    try clear hfz14_4
    try clear hfz14_5
    try clear hfz14_6
    try clear hfz14_7
    try clear hfz14_8
    try clear hfz14_9
    try clear hfz15_0
    try clear hfz15_1
    try clear hfz15_10
    try clear hfz15_11
    try clear hfz15_2
    try clear hfz15_3
    try clear hfz15_4
    try clear hfz15_5
    try clear hfz15_6
    try clear hfz15_7
    try clear hfz15_8
    try clear hfz15_9
    try clear hfz16_0
    try clear hfz16_1
    try clear hfz16_10
    try clear hfz16_11
    try clear hfz16_2
    try clear hfz16_3
    try clear hfz16_4
    try clear hfz16_5
    try clear hfz16_6
    try clear hfz16_7
    try clear hfz16_8
    try clear hfz16_9
    try clear hfz17_0
    try clear hfz17_1
    try clear hfz17_10
    try clear hfz17_11
    try clear hfz17_2
    try clear hfz17_3
    try clear hfz17_4
    try clear hfz17_5
    try clear hfz17_6
    try clear hfz17_7
    try clear hfz17_8
    try clear hfz17_9
    try clear hfz19_0
    try clear hfz19_1
    try clear hfz19_10
    try clear hfz19_11
    try clear hfz19_2
    try clear hfz19_3
    try clear hfz19_4
    try clear hfz19_5
    try clear hfz19_6
    try clear hfz19_7
    try clear hfz19_8
    try clear hfz19_9
    try clear p2
    obtain ⟨kq,x28_17,rfl,HA,HJ17,BK436,HB⟩:=hcut
    cases kq with
    | zero => exact absurd HA.out (by simp [undorec_Check.j1])
    | succ kj17 =>
     have H:=HA.out
     clear HA
     simp only [undorec_Check.j1] at H
     by_cases c20 : x28_17 = 1
     ·rw [if_pos c20] at H
      have c20b0 : (x28_17 == 1) = true:=beq_iff_eq.mpr c20
      have c20b1 : (x28_17 != 1) = false:=bne_eq_false_iff_eq.mpr c20
      clear c20
      by_cases c21 : x3_1 = true
      ·subst c21
       have H1 : ((row_Same.f a0_6 a0_7 l0_8 a0_9 a0_10 a0_11 0 false ([] : List Nat) 0 0 0).bind fun t442 => (undorec_Check.j2 kj17 (!t442))) = some r:=by rw [if_pos rfl] at H;exact H
       clear H
       have H:=H1
       clear H1
       replace H:=Option.bind_eq_some_iff.mp H
       obtain ⟨t442,A220,H⟩:=H
       replace H : (undorec_Check.j2 kj17 (!t442)) = some r:=H
       have A22:=Aside0.mk A220
       clear A220
       have HC23:=Aside0.mk H
       clear H
       obtain ⟨hcz24_0,hcz24_1,hcz24_2,hcz24_3,hcz24_4,hcz24_5,hcz24_6,hcz24_7,hcz24_8,hcz24_9,hcz24_10,hcz24_11⟩:=blkc_12 BK436.out
       obtain ⟨hfz24_0,hfz24_1,hfz24_2,hfz24_3,hfz24_4,hfz24_5,hfz24_6,hfz24_7,hfz24_8,hfz24_9,hfz24_10,hfz24_11⟩:=blkz_12 BK436.out
       go_upto_region 8 with (first | (go_at_call 43;(refine (row_Same.calls a0_6 a0_7 _ _ l0_8 a0_9 a0_10 a0_11 0 false _ _ ([] : List Nat) 0 0 0 t442 _ ?side1 ?side2 ?side3 ?side4 A22.out).mono ?_);(case side1 => repeat (first | exact (Kd.C_below HR0_8.out HB.out) | (with_reducible refine Kd.C_alloc ?_ _) | (with_reducible refine Kd.C_drewN ?_ _) | (with_reducible refine Kd.C_drew ?_)));(case side2 => exact HC0_8.out);(case side3 => exact Kd.C_nil _ _);(case side4 => exact Nat.le_refl _);rintro e w25 ⟨rfl,hb⟩;have n0_:=Aside0.mk (blk_below (g:=gb436) (o:=.cells #[.int .i64 a0_0,.int .i64 a0_1,.int .i64 a0_2,.int .i64 a0_3,.int .i64 a0_4,.int .i64 a0_5,.float .f64 a0_6,.bool a0_7,.slice A0_8 l0_8.length c0_8,.int .i64 a0_9,.int .i64 a0_10,.int .i64 a0_11] 32 (0,0)) (by (with_reducible repeat (first | refine blk_drewN ?_ _ | refine blk_drew ?_ | refine blk_alloc ?_ _));exact BK436.out) hb);have n1_:=Aside0.mk (below_step (by repeat (first | (with_reducible first | exact HB.out | apply below_alloc | apply pw_below_drewN | apply below_drew1 | refine below_set ?_ GE436.out) | exact HB.out)) hb);clear BK436;clear HB;have BK436:=n0_;have HB:=n1_;clear n0_ n1_;(try clear hb);(try clear hb2);(try clear hk);(try clear hi)))
       (try simp only [Act.put,List.setIfInBounds_toArray,List.set_cons_zero,List.set_cons_succ])
       go_cut [48] (fun v48 wc => ∃ (kq : Nat) (x48_22 : Bool),v48 = .bool x48_22 ∧ Aside0 (undorec_Check.j2 kq x48_22 = some r) ∧ Aside0 (kq ≤ kj17) ∧ Aside0 (wc.heap[gb436]? = some (.cells #[.int .i64 a0_0,.int .i64 a0_1,.int .i64 a0_2,.int .i64 a0_3,.int .i64 a0_4,.int .i64 a0_5,.float .f64 a0_6,.bool a0_7,(.slice A0_8 l0_8.length c0_8),.int .i64 a0_9,.int .i64 a0_10,.int .i64 a0_11] 32 (0,0))) ∧ Aside0 (Below w.heap.size w wc))
       case first =>
        have H:=HC23.out
        clear HC23
        have H':=Aside0.mk H
        clear H
        go_wp2
        go_meet
        case rel => exact ⟨_,(!t442),(by first | rfl | (simp;done) | (simp [*];done)),H',⟨by have:=HJ1.out;have:=HJ17.out;first | omega | exact Nat.le_refl _⟩,⟨by (with_reducible repeat (first | refine blk_drewN ?_ _ | refine blk_drew ?_ | refine blk_alloc ?_ _));exact BK436.out⟩,⟨by repeat (first | (with_reducible first | exact HB.out | apply below_alloc | apply pw_below_drewN | apply below_drew1 | refine below_set ?_ GE436.out) | exact HB.out)⟩⟩
       case rest =>
        clear HC23
        try clear c1
        try clear c2
        try clear p2
        try clear c4
        try clear c5
        try clear c7
        try clear c8
        try clear c9
        try clear c11
        try clear c20
        try clear c20b0
        try clear c20b1
        try clear c21
        try clear hcz13_0
        try clear hcz13_1
        try clear hcz13_10
        try clear hcz13_11
        try clear hcz13_2
        try clear hcz13_3
        try clear hcz13_4
        try clear hcz13_5
        try clear hcz13_6
        try clear hcz13_7
        try clear hcz13_8
        try clear hcz13_9
        try clear hcz14_0
        try clear hcz14_1
        try clear hcz14_10
        try clear hcz14_11
        try clear hcz14_2
        try clear hcz14_3
        try clear hcz14_4
        try clear hcz14_5
        try clear hcz14_6
        try clear hcz14_7
        try clear hcz14_8
        try clear hcz14_9
        try clear hcz15_0
        try clear hcz15_1
        try clear hcz15_10
        try clear hcz15_11
        try clear hcz15_2
        try clear hcz15_3
        try clear hcz15_4
        try clear hcz15_5
        try clear hcz15_6
        try clear hcz15_7
        try clear hcz15_8
        try clear hcz15_9
        try clear hcz16_0
        try clear hcz16_1
        try clear hcz16_10
        try clear hcz16_11
        try clear hcz16_2
        try clear hcz16_3
        try clear hcz16_4
        try clear hcz16_5
        try clear hcz16_6
        try clear hcz16_7
        try clear hcz16_8
        try clear hcz16_9
        try clear hcz17_0
        try clear hcz17_1
        try clear hcz17_10
        try clear hcz17_11
        try clear hcz17_2
        try clear hcz17_3
        try clear hcz17_4
        try clear hcz17_5
        try clear hcz17_6
        try clear hcz17_7
        try clear hcz17_8
        try clear hcz17_9
        try clear hcz19_0
        try clear hcz19_1
        try clear hcz19_10
        try clear hcz19_11
        try clear hcz19_2
        try clear hcz19_3
        try clear hcz19_4
        try clear hcz19_5
        try clear hcz19_6
        try clear hcz19_7
        try clear hcz19_8
        try clear hcz19_9
        try clear hcz24_0
        try clear hcz24_1
        try clear hcz24_10
        try clear hcz24_11
        try clear hcz24_2
        try clear hcz24_3
        try clear hcz24_4
        try clear hcz24_5
        try clear hcz24_6
        try clear hcz24_7
        try clear hcz24_8
        try clear hcz24_9
        try clear hfz13_0
        try clear hfz13_1
        try clear hfz13_10
        try clear hfz13_11
        try clear hfz13_2
        try clear hfz13_3
        try clear hfz13_4
        try clear hfz13_5
        try clear hfz13_6
        try clear hfz13_7
        try clear hfz13_8
        try clear hfz13_9
        try clear hfz14_0
        try clear hfz14_1
        try clear hfz14_10
        try clear hfz14_11
        try clear hfz14_2
        try clear hfz14_3
        try clear hfz14_4
        try clear hfz14_5
        try clear hfz14_6
        try clear hfz14_7
        try clear hfz14_8
        try clear hfz14_9
        try clear hfz15_0
        try clear hfz15_1
        try clear hfz15_10
        try clear hfz15_11
        try clear hfz15_2
        try clear hfz15_3
        try clear hfz15_4
        try clear hfz15_5
        try clear hfz15_6
        try clear hfz15_7
        try clear hfz15_8
        try clear hfz15_9
        try clear hfz16_0
        try clear hfz16_1
        try clear hfz16_10
        try clear hfz16_11
        try clear hfz16_2
        try clear hfz16_3
        try clear hfz16_4
        try clear hfz16_5
        try clear hfz16_6
        try clear hfz16_7
        try clear hfz16_8
        try clear hfz16_9
        try clear hfz17_0
        try clear hfz17_1
        try clear hfz17_10
        try clear hfz17_11
        try clear hfz17_2
        try clear hfz17_3
        try clear hfz17_4
        try clear hfz17_5
        try clear hfz17_6
        try clear hfz17_7
        try clear hfz17_8
        try clear hfz17_9
        try clear hfz19_0
        try clear hfz19_1
        try clear hfz19_10
        try clear hfz19_11
        try clear hfz19_2
        try clear hfz19_3
        try clear hfz19_4
        try clear hfz19_5
        try clear hfz19_6
        try clear hfz19_7
        try clear hfz19_8
        try clear hfz19_9
        try clear hfz24_0
        try clear hfz24_1
        try clear hfz24_10
        try clear hfz24_11
        try clear hfz24_2
        try clear hfz24_3
        try clear hfz24_4
        try clear hfz24_5
        try clear hfz24_6
        try clear hfz24_7
        try clear hfz24_8
        try clear hfz24_9
        try clear p2
        obtain ⟨kq,x48_22,rfl,HA,HJ22,BK436,HB⟩:=hcut
        cases kq with
        | zero => exact absurd HA.out (by simp [undorec_Check.j2])
        | succ kj22 =>
         have H:=HA.out
         clear HA
         simp only [undorec_Check.j2] at H
         by_cases c26 : x48_22 = true
         ·subst c26
          have H1 : (some 1) = some r:=by rw [if_pos rfl] at H;exact H
          clear H
          have H:=H1
          clear H1
          obtain rfl:=Option.some.inj H
          go_wp2
          go_ret
          exact ⟨by first | rfl | (simp [errW_none,errW_some] <;> rfl) | (simp [*,errW_none,errW_some] <;> rfl),by repeat (first | (with_reducible first | exact HB.out | apply below_alloc | apply pw_below_drewN | apply below_drew1 | refine below_set ?_ GE436.out) | exact HB.out)⟩
         ·replace c26:=Bool.eq_false_iff.mpr c26
          subst c26
          have H1 : (some 0) = some r:=by rw [if_neg (show ¬ (false = true) by decide)] at H;exact H
          clear H
          have H:=H1
          clear H1
          obtain rfl:=Option.some.inj H
          go_wp2
          go_ret
          exact ⟨by first | rfl | (simp [errW_none,errW_some] <;> rfl) | (simp [*,errW_none,errW_some] <;> rfl),by repeat (first | (with_reducible first | exact HB.out | apply below_alloc | apply pw_below_drewN | apply below_drew1 | refine below_set ?_ GE436.out) | exact HB.out)⟩
      ·replace c21:=Bool.eq_false_iff.mpr c21
       subst c21
       have H1 : (some 1) = some r:=by rw [if_neg (show ¬ (false = true) by decide)] at H;exact H
       clear H
       have H:=H1
       clear H1
       obtain rfl:=Option.some.inj H
       go_wp2
       go_ret
       exact ⟨by first | rfl | (simp [errW_none,errW_some] <;> rfl) | (simp [*,errW_none,errW_some] <;> rfl),by repeat (first | (with_reducible first | exact HB.out | apply below_alloc | apply pw_below_drewN | apply below_drew1 | refine below_set ?_ GE436.out) | exact HB.out)⟩
     ·rw [if_neg c20] at H
      have c20b0 : (x28_17 == 1) = false:=beq_eq_false_iff_ne.mpr c20
      have c20b1 : (x28_17 != 1) = true:=bne_iff_ne.mpr c20
      by_cases c27 : x28_17 = 2
      ·rw [if_pos c27] at H
       have c27b0 : (x28_17 == 2) = true:=beq_iff_eq.mpr c27
       have c27b1 : (x28_17 != 2) = false:=bne_eq_false_iff_eq.mpr c27
       clear c27
       by_cases c28 : x3_1 = true
       ·subst c28
        have H1 : ((row_Check.f kj17 a0_6 a0_7 l0_8 a0_9 a0_10 a0_11).bind fun t443 => (undorec_Check.j3 kj17 (!(t443 == 0)))) = some r:=by rw [if_pos rfl] at H;exact H
        clear H
        have H:=H1
        clear H1
        replace H:=Option.bind_eq_some_iff.mp H
        obtain ⟨t443,A290,H⟩:=H
        replace H : (undorec_Check.j3 kj17 (!(t443 == 0))) = some r:=H
        have A29:=Aside0.mk A290
        clear A290
        have HC30:=Aside0.mk H
        clear H
        obtain ⟨hcz31_0,hcz31_1,hcz31_2,hcz31_3,hcz31_4,hcz31_5,hcz31_6,hcz31_7,hcz31_8,hcz31_9,hcz31_10,hcz31_11⟩:=blkc_12 BK436.out
        obtain ⟨hfz31_0,hfz31_1,hfz31_2,hfz31_3,hfz31_4,hfz31_5,hfz31_6,hfz31_7,hfz31_8,hfz31_9,hfz31_10,hfz31_11⟩:=blkz_12 BK436.out
        go_upto_region 8 with (first | (go_at_call 33;(with_reducible refine (row_Check.calls kj17 a0_6 a0_7 _ _ l0_8 a0_9 a0_10 a0_11 t443 _ ?side1 ?side2 A29.out).mono ?_);(case side1 => repeat (first | exact (Kd.C_below HR0_8.out HB.out) | (with_reducible refine Kd.C_alloc ?_ _) | (with_reducible refine Kd.C_drewN ?_ _) | (with_reducible refine Kd.C_drew ?_)));(case side2 => exact HC0_8.out);rintro e w32 ⟨rfl,hb⟩;have n0_:=Aside0.mk (blk_below (g:=gb436) (o:=.cells #[.int .i64 a0_0,.int .i64 a0_1,.int .i64 a0_2,.int .i64 a0_3,.int .i64 a0_4,.int .i64 a0_5,.float .f64 a0_6,.bool a0_7,.slice A0_8 l0_8.length c0_8,.int .i64 a0_9,.int .i64 a0_10,.int .i64 a0_11] 32 (0,0)) (by (with_reducible repeat (first | refine blk_drewN ?_ _ | refine blk_drew ?_ | refine blk_alloc ?_ _));exact BK436.out) hb);have n1_:=Aside0.mk (below_step (by repeat (first | (with_reducible first | exact HB.out | apply below_alloc | apply pw_below_drewN | apply below_drew1 | refine below_set ?_ GE436.out) | exact HB.out)) hb);clear BK436;clear HB;have BK436:=n0_;have HB:=n1_;clear n0_ n1_;(try clear hb);(try clear hb2);(try clear hk);(try clear hi)))
        (try simp only [Act.put,List.setIfInBounds_toArray,List.set_cons_zero,List.set_cons_succ])
        go_cut [48] (fun v48 wc => ∃ (kq : Nat) (x48_29 : Bool),v48 = .bool x48_29 ∧ Aside0 (undorec_Check.j3 kq x48_29 = some r) ∧ Aside0 (kq ≤ kj17) ∧ Aside0 (wc.heap[gb436]? = some (.cells #[.int .i64 a0_0,.int .i64 a0_1,.int .i64 a0_2,.int .i64 a0_3,.int .i64 a0_4,.int .i64 a0_5,.float .f64 a0_6,.bool a0_7,(.slice A0_8 l0_8.length c0_8),.int .i64 a0_9,.int .i64 a0_10,.int .i64 a0_11] 32 (0,0))) ∧ Aside0 (Below w.heap.size w wc))
        case first =>
         have H:=HC30.out
         clear HC30
         have H':=Aside0.mk H
         clear H
         go_wp2
         go_meet
         case rel => exact ⟨_,(!(t443 == 0)),(by first | rfl | (simp;done) | (simp [*];done)),H',⟨by have:=HJ1.out;have:=HJ17.out;first | omega | exact Nat.le_refl _⟩,⟨by (with_reducible repeat (first | refine blk_drewN ?_ _ | refine blk_drew ?_ | refine blk_alloc ?_ _));exact BK436.out⟩,⟨by repeat (first | (with_reducible first | exact HB.out | apply below_alloc | apply pw_below_drewN | apply below_drew1 | refine below_set ?_ GE436.out) | exact HB.out)⟩⟩
        case rest =>
         clear HC30
         try clear c1
         try clear c2
         try clear p2
         try clear c4
         try clear c5
         try clear c7
         try clear c8
         try clear c9
         try clear c11
         try clear c20
         try clear c20b0
         try clear c20b1
         try clear c21
         try clear c26
         try clear c27
         try clear c27b0
         try clear c27b1
         try clear c28
         try clear hcz13_0
         try clear hcz13_1
         try clear hcz13_10
         try clear hcz13_11
         try clear hcz13_2
         try clear hcz13_3
         try clear hcz13_4
         try clear hcz13_5
         try clear hcz13_6
         try clear hcz13_7
         try clear hcz13_8
         try clear hcz13_9
         try clear hcz14_0
         try clear hcz14_1
         try clear hcz14_10
         try clear hcz14_11
         try clear hcz14_2
         try clear hcz14_3
         try clear hcz14_4
         try clear hcz14_5
         try clear hcz14_6
         try clear hcz14_7
         try clear hcz14_8
         try clear hcz14_9
         try clear hcz15_0
         try clear hcz15_1
         try clear hcz15_10
         try clear hcz15_11
         try clear hcz15_2
         try clear hcz15_3
         try clear hcz15_4
         try clear hcz15_5
         try clear hcz15_6
         try clear hcz15_7
         try clear hcz15_8
         try clear hcz15_9
         try clear hcz16_0
         try clear hcz16_1
         try clear hcz16_10
         try clear hcz16_11
         try clear hcz16_2
         try clear hcz16_3
         try clear hcz16_4
         try clear hcz16_5
         try clear hcz16_6
         try clear hcz16_7
         try clear hcz16_8
         try clear hcz16_9
         try clear hcz17_0
         try clear hcz17_1
         try clear hcz17_10
         try clear hcz17_11
         try clear hcz17_2
         try clear hcz17_3
         try clear hcz17_4
         try clear hcz17_5
         try clear hcz17_6
         try clear hcz17_7
         try clear hcz17_8
         try clear hcz17_9
         try clear hcz19_0
         try clear hcz19_1
         try clear hcz19_10
         try clear hcz19_11
         try clear hcz19_2
         try clear hcz19_3
         try clear hcz19_4
         try clear hcz19_5
         try clear hcz19_6
         try clear hcz19_7
         try clear hcz19_8
         try clear hcz19_9
         try clear hcz24_0
         try clear hcz24_1
         try clear hcz24_10
         try clear hcz24_11
         try clear hcz24_2
         try clear hcz24_3
         try clear hcz24_4
         try clear hcz24_5
         try clear hcz24_6
         try clear hcz24_7
         try clear hcz24_8
         try clear hcz24_9
         try clear hcz31_0
         try clear hcz31_1
         try clear hcz31_10
         try clear hcz31_11
         try clear hcz31_2
         try clear hcz31_3
         try clear hcz31_4
         try clear hcz31_5
         try clear hcz31_6
         try clear hcz31_7
         try clear hcz31_8
         try clear hcz31_9
         try clear hfz13_0
         try clear hfz13_1
         try clear hfz13_10
         try clear hfz13_11
         try clear hfz13_2
         try clear hfz13_3
         try clear hfz13_4
         try clear hfz13_5
         try clear hfz13_6
         try clear hfz13_7
         try clear hfz13_8
         try clear hfz13_9
         try clear hfz14_0
         try clear hfz14_1
         try clear hfz14_10
         try clear hfz14_11
         try clear hfz14_2
         try clear hfz14_3
         try clear hfz14_4
         try clear hfz14_5
         try clear hfz14_6
         try clear hfz14_7
         try clear hfz14_8
         try clear hfz14_9
         try clear hfz15_0
         try clear hfz15_1
         try clear hfz15_10
         try clear hfz15_11
         try clear hfz15_2
         try clear hfz15_3
         try clear hfz15_4
         try clear hfz15_5
         try clear hfz15_6
         try clear hfz15_7
         try clear hfz15_8
         try clear hfz15_9
         try clear hfz16_0
         try clear hfz16_1
         try clear hfz16_10
         try clear hfz16_11
         try clear hfz16_2
         try clear hfz16_3
         try clear hfz16_4
         try clear hfz16_5
         try clear hfz16_6
         try clear hfz16_7
         try clear hfz16_8
         try clear hfz16_9
         try clear hfz17_0
         try clear hfz17_1
         try clear hfz17_10
         try clear hfz17_11
         try clear hfz17_2
         try clear hfz17_3
         try clear hfz17_4
         try clear hfz17_5
         try clear hfz17_6
         try clear hfz17_7
         try clear hfz17_8
         try clear hfz17_9
         try clear hfz19_0
         try clear hfz19_1
         try clear hfz19_10
         try clear hfz19_11
         try clear hfz19_2
         try clear hfz19_3
         try clear hfz19_4
         try clear hfz19_5
         try clear hfz19_6
         try clear hfz19_7
         try clear hfz19_8
         try clear hfz19_9
         try clear hfz24_0
         try clear hfz24_1
         try clear hfz24_10
         try clear hfz24_11
         try clear hfz24_2
         try clear hfz24_3
         try clear hfz24_4
         try clear hfz24_5
         try clear hfz24_6
         try clear hfz24_7
         try clear hfz24_8
         try clear hfz24_9
         try clear hfz31_0
         try clear hfz31_1
         try clear hfz31_10
         try clear hfz31_11
         try clear hfz31_2
         try clear hfz31_3
         try clear hfz31_4
         try clear hfz31_5
         try clear hfz31_6
         try clear hfz31_7
         try clear hfz31_8
         try clear hfz31_9
         try clear p2
         obtain ⟨kq,x48_29,rfl,HA,HJ29,BK436,HB⟩:=hcut
         cases kq with
         | zero => exact absurd HA.out (by simp [undorec_Check.j3])
         | succ kj29 =>
          have H:=HA.out
          clear HA
          simp only [undorec_Check.j3] at H
          by_cases c33 : x48_29 = true
          ·subst c33
           have H1 : (some 1) = some r:=by rw [if_pos rfl] at H;exact H
           clear H
           have H:=H1
           clear H1
           obtain rfl:=Option.some.inj H
           go_wp2
           go_ret
           exact ⟨by first | rfl | (simp [errW_none,errW_some] <;> rfl) | (simp [*,errW_none,errW_some] <;> rfl),by repeat (first | (with_reducible first | exact HB.out | apply below_alloc | apply pw_below_drewN | apply below_drew1 | refine below_set ?_ GE436.out) | exact HB.out)⟩
          ·replace c33:=Bool.eq_false_iff.mpr c33
           subst c33
           have H1 : (some 0) = some r:=by rw [if_neg (show ¬ (false = true) by decide)] at H;exact H
           clear H
           have H:=H1
           clear H1
           obtain rfl:=Option.some.inj H
           go_wp2
           go_ret
           exact ⟨by first | rfl | (simp [errW_none,errW_some] <;> rfl) | (simp [*,errW_none,errW_some] <;> rfl),by repeat (first | (with_reducible first | exact HB.out | apply below_alloc | apply pw_below_drewN | apply below_drew1 | refine below_set ?_ GE436.out) | exact HB.out)⟩
       ·replace c28:=Bool.eq_false_iff.mpr c28
        subst c28
        have H1 : (some 1) = some r:=by rw [if_neg (show ¬ (false = true) by decide)] at H;exact H
        clear H
        have H:=H1
        clear H1
        obtain rfl:=Option.some.inj H
        go_wp2
        go_ret
        exact ⟨by first | rfl | (simp [errW_none,errW_some] <;> rfl) | (simp [*,errW_none,errW_some] <;> rfl),by repeat (first | (with_reducible first | exact HB.out | apply below_alloc | apply pw_below_drewN | apply below_drew1 | refine below_set ?_ GE436.out) | exact HB.out)⟩
      ·rw [if_neg c27] at H
       have c27b0 : (x28_17 == 2) = false:=beq_eq_false_iff_ne.mpr c27
       have c27b1 : (x28_17 != 2) = true:=bne_iff_ne.mpr c27
       obtain rfl:=Option.some.inj H
       go_wp2
       go_ret
       exact ⟨by first | rfl | (simp [errW_none,errW_some] <;> rfl) | (simp [*,errW_none,errW_some] <;> rfl),by repeat (first | (with_reducible first | exact HB.out | apply below_alloc | apply pw_below_drewN | apply below_drew1 | refine below_set ?_ GE436.out) | exact HB.out)⟩
end Go.Proofs.Ytdcllbhkjcdnoaa.P
namespace Go.Proofs.Ytdcllbhkjcdnoaa.P
open Go.RowKit Go.Proofs.YtdcllbhkjcdnoaaW.PrintWords Go.Proofs.YtdcllbhkjcdnoaaW.PrintLast Go.Proofs.YtdcllbhkjcdnoaaW.PrintMore
attribute [local go_sem] max2_int min2_int max_two min_two max_three min_three max_four min_four   -- for this text's walks alone
attribute [local go_sem] run_store_float
set_option linter.unusedVariables false
set_option linter.unusedSimpArgs false
def undorec_Same.f (a0_0 : Int) (a0_1 : Int) (a0_2 : Int) (a0_3 : Int) (a0_4 : Int) (a0_5 : Int) (a0_6 : Nat) (a0_7 : Bool) (l0_8 : List Nat) (a0_9 : Int) (a0_10 : Int) (a0_11 : Int) (a1_0 : Int) (a1_1 : Int) (a1_2 : Int) (a1_3 : Int) (a1_4 : Int) (a1_5 : Int) (a1_6 : Nat) (a1_7 : Bool) (l1_8 : List Nat) (a1_9 : Int) (a1_10 : Int) (a1_11 : Int) : Option (Bool):=if a0_0 = a1_0 then (if a0_1 = a1_1 then (if a0_2 = a1_2 then (if a0_3 = a1_3 then (if a0_4 = a1_4 then (if a0_5 = a1_5 then ((row_Same.f a0_6 a0_7 l0_8 a0_9 a0_10 a0_11 a1_6 a1_7 l1_8 a1_9 a1_10 a1_11).bind fun t677 => (some t677)) else (some false)) else (some false)) else (some false)) else (some false)) else (some false)) else (some false)
set_option maxHeartbeats 8000000 in
set_option maxRecDepth 100000 in
theorem undorec_Same.calls (a0_0 : Int) (a0_1 : Int) (a0_2 : Int) (a0_3 : Int) (a0_4 : Int) (a0_5 : Int) (a0_6 : Nat) (a0_7 : Bool) (A0_8 : Option Addr) (c0_8 : Nat) (l0_8 : List Nat) (a0_9 : Int) (a0_10 : Int) (a0_11 : Int) (a1_0 : Int) (a1_1 : Int) (a1_2 : Int) (a1_3 : Int) (a1_4 : Int) (a1_5 : Int) (a1_6 : Nat) (a1_7 : Bool) (A1_8 : Option Addr) (c1_8 : Nat) (l1_8 : List Nat) (a1_9 : Int) (a1_10 : Int) (a1_11 : Int) (r : Bool) (w : World) (hr0_8 : Kd.C Kd.f64 w A0_8 l0_8.length l0_8) (hc0_8 : l0_8.length ≤ c0_8) (hr1_8 : Kd.C Kd.f64 w A1_8 l1_8.length l1_8) (hc1_8 : l1_8.length ≤ c1_8) (h : undorec_Same.f a0_0 a0_1 a0_2 a0_3 a0_4 a0_5 a0_6 a0_7 l0_8 a0_9 a0_10 a0_11 a1_0 a1_1 a1_2 a1_3 a1_4 a1_5 a1_6 a1_7 l1_8 a1_9 a1_10 a1_11 = some r) :
  Calls Try.prog 53 #[.agg #[.int .i64 a0_0,.int .i64 a0_1,.int .i64 a0_2,.int .i64 a0_3,.int .i64 a0_4,.int .i64 a0_5,.float .f64 a0_6,.bool a0_7,.slice A0_8 l0_8.length c0_8,.int .i64 a0_9,.int .i64 a0_10,.int .i64 a0_11],.agg #[.int .i64 a1_0,.int .i64 a1_1,.int .i64 a1_2,.int .i64 a1_3,.int .i64 a1_4,.int .i64 a1_5,.float .f64 a1_6,.bool a1_7,.slice A1_8 l1_8.length c1_8,.int .i64 a1_9,.int .i64 a1_10,.int .i64 a1_11]] w fun e w' => e = .returned (.bool r) ∧ Below w.heap.size w w':=by
 have hu32:=Try.underlying32
 have hu30:=Try.underlying30
 have HR0_8:=Aside0.mk hr0_8
 have HC0_8:=Aside0.mk hc0_8
 clear hr0_8 hc0_8
 have HR1_8:=Aside0.mk hr1_8
 have HC1_8:=Aside0.mk hc1_8
 clear hr1_8 hc1_8
 have HB:=Aside0.mk (Below.refl w.heap.size w)
 have H : (if a0_0 = a1_0 then (if a0_1 = a1_1 then (if a0_2 = a1_2 then (if a0_3 = a1_3 then (if a0_4 = a1_4 then (if a0_5 = a1_5 then ((row_Same.f a0_6 a0_7 l0_8 a0_9 a0_10 a0_11 a1_6 a1_7 l1_8 a1_9 a1_10 a1_11).bind fun t677 => (some t677)) else (some false)) else (some false)) else (some false)) else (some false)) else (some false)) else (some false)) = some r:=h
 clear h
 by_cases c3 : a0_0 = a1_0
 ·rw [if_pos c3] at H
  have c3b0 : (a0_0 == a1_0) = true:=beq_iff_eq.mpr c3
  have c3b1 : (a0_0 != a1_0) = false:=bne_eq_false_iff_eq.mpr c3
  clear c3
  by_cases c4 : a0_1 = a1_1
  ·rw [if_pos c4] at H
   have c4b0 : (a0_1 == a1_1) = true:=beq_iff_eq.mpr c4
   have c4b1 : (a0_1 != a1_1) = false:=bne_eq_false_iff_eq.mpr c4
   clear c4
   by_cases c5 : a0_2 = a1_2
   ·rw [if_pos c5] at H
    have c5b0 : (a0_2 == a1_2) = true:=beq_iff_eq.mpr c5
    have c5b1 : (a0_2 != a1_2) = false:=bne_eq_false_iff_eq.mpr c5
    clear c5
    by_cases c6 : a0_3 = a1_3
    ·rw [if_pos c6] at H
     have c6b0 : (a0_3 == a1_3) = true:=beq_iff_eq.mpr c6
     have c6b1 : (a0_3 != a1_3) = false:=bne_eq_false_iff_eq.mpr c6
     clear c6
     by_cases c7 : a0_4 = a1_4
     ·rw [if_pos c7] at H
      have c7b0 : (a0_4 == a1_4) = true:=beq_iff_eq.mpr c7
      have c7b1 : (a0_4 != a1_4) = false:=bne_eq_false_iff_eq.mpr c7
      clear c7
      by_cases c8 : a0_5 = a1_5
      ·rw [if_pos c8] at H
       have c8b0 : (a0_5 == a1_5) = true:=beq_iff_eq.mpr c8
       have c8b1 : (a0_5 != a1_5) = false:=bne_eq_false_iff_eq.mpr c8
       clear c8
       replace H:=Option.bind_eq_some_iff.mp H
       obtain ⟨t677,A90,H⟩:=H
       replace H : (some t677) = some r:=H
       have A9:=Aside0.mk A90
       clear A90
       obtain rfl:=Option.some.inj H
       go_enter Try.func53,Try.ntmps53
       go_wp2_with (first | ((with_reducible refine gate_dst (N:=2) rfl ?_);refine box_event ?hg (N:=2) ?hd (cs:=#[.int .i64 a0_0,.int .i64 a0_1,.int .i64 a0_2,.int .i64 a0_3,.int .i64 a0_4,.int .i64 a0_5,.float .f64 a0_6,.bool a0_7,.slice A0_8 l0_8.length c0_8,.int .i64 a0_9,.int .i64 a0_10,.int .i64 a0_11]) (t:=32) ?hr ?_;(case hd => rfl);(case hg => rfl);(case hr => first | (go_simp;done) | (go_simp;rfl));intro gb675 hg w10 hbox hb;have n0_:=Aside0.mk (below_step (by repeat (first | (with_reducible first | exact HB.out | apply below_alloc | apply pw_below_drewN | apply below_drew1) | exact HB.out)) hb);have n1_:=Aside0.mk (hbox);have n2_:=Aside0.mk ((by rw [hg];exact (below_size (by repeat (first | (with_reducible first | exact HB.out | apply below_alloc | apply pw_below_drewN | apply below_drew1) | exact HB.out))) : w.heap.size ≤ gb675));have n3_:=Aside0.mk ((by rw [hg];exact (below_size (by repeat (first | (with_reducible first | exact HB.out | apply below_alloc | apply pw_below_drewN | apply below_drew1) | exact HB.out))) : w.heap.size ≤ gb675));clear HB;have HB:=n0_;have BK675:=n1_;have GW675:=n2_;have GE675:=n3_;clear n0_ n1_ n2_ n3_;clear hb hbox hg) | ((with_reducible refine gate_dst (N:=3) rfl ?_);refine box_event ?hg (N:=3) ?hd (cs:=#[.int .i64 a1_0,.int .i64 a1_1,.int .i64 a1_2,.int .i64 a1_3,.int .i64 a1_4,.int .i64 a1_5,.float .f64 a1_6,.bool a1_7,.slice A1_8 l1_8.length c1_8,.int .i64 a1_9,.int .i64 a1_10,.int .i64 a1_11]) (t:=32) ?hr ?_;(case hd => rfl);(case hg => rfl);(case hr => first | (go_simp;done) | (go_simp;rfl));intro gb676 hg w11 hbox hb;have n0_:=Aside0.mk (blk_below (g:=gb675) (o:=.cells #[.int .i64 a0_0,.int .i64 a0_1,.int .i64 a0_2,.int .i64 a0_3,.int .i64 a0_4,.int .i64 a0_5,.float .f64 a0_6,.bool a0_7,.slice A0_8 l0_8.length c0_8,.int .i64 a0_9,.int .i64 a0_10,.int .i64 a0_11] 32 (0,0)) (by (with_reducible repeat (first | refine blk_drewN ?_ _ | refine blk_drew ?_ | refine blk_alloc ?_ _));exact BK675.out) hb);have n1_:=Aside0.mk (below_step (by repeat (first | (with_reducible first | exact HB.out | apply below_alloc | apply pw_below_drewN | apply below_drew1 | refine below_set ?_ GE675.out) | exact HB.out)) hb);have n2_:=Aside0.mk (hbox);have n3_:=Aside0.mk ((by rw [hg];exact (below_size (by repeat (first | (with_reducible first | exact HB.out | apply below_alloc | apply pw_below_drewN | apply below_drew1 | refine below_set ?_ GE675.out) | exact HB.out))) : w.heap.size ≤ gb676));have n4_:=Aside0.mk ((by rw [hg];exact (below_size (by repeat (first | (with_reducible first | exact HB.out | apply below_alloc | apply pw_below_drewN | apply below_drew1 | refine below_set ?_ GE675.out) | exact HB.out))) : w.heap.size ≤ gb676));have n5_:=Aside0.mk ((by rw [hg];exact Nat.ne_of_lt (blk_lt (g:=gb675) (o:=.cells #[.int .i64 a0_0,.int .i64 a0_1,.int .i64 a0_2,.int .i64 a0_3,.int .i64 a0_4,.int .i64 a0_5,.float .f64 a0_6,.bool a0_7,.slice A0_8 l0_8.length c0_8,.int .i64 a0_9,.int .i64 a0_10,.int .i64 a0_11] 32 (0,0)) (by (with_reducible repeat (first | refine blk_drewN ?_ _ | refine blk_drew ?_ | refine blk_alloc ?_ _));exact BK675.out)) : gb675 ≠ gb676));have n6_:=Aside0.mk ((by rw [hg];exact Nat.ne_of_gt (blk_lt (g:=gb675) (o:=.cells #[.int .i64 a0_0,.int .i64 a0_1,.int .i64 a0_2,.int .i64 a0_3,.int .i64 a0_4,.int .i64 a0_5,.float .f64 a0_6,.bool a0_7,.slice A0_8 l0_8.length c0_8,.int .i64 a0_9,.int .i64 a0_10,.int .i64 a0_11] 32 (0,0)) (by (with_reducible repeat (first | refine blk_drewN ?_ _ | refine blk_drew ?_ | refine blk_alloc ?_ _));exact BK675.out)) : gb676 ≠ gb675));clear BK675;clear HB;have BK675:=n0_;have HB:=n1_;have BK676:=n2_;have GW676:=n3_;have GE676:=n4_;have NB675_676:=n5_;have NB676_675:=n6_;clear n0_ n1_ n2_ n3_ n4_ n5_ n6_;clear hb hbox hg;have hnb12:=NB675_676.out;have hnc12:=NB676_675.out;obtain ⟨hcz13_0,hcz13_1,hcz13_2,hcz13_3,hcz13_4,hcz13_5,hcz13_6,hcz13_7,hcz13_8,hcz13_9,hcz13_10,hcz13_11⟩:=blkc_12 BK675.out;obtain ⟨hfz13_0,hfz13_1,hfz13_2,hfz13_3,hfz13_4,hfz13_5,hfz13_6,hfz13_7,hfz13_8,hfz13_9,hfz13_10,hfz13_11⟩:=blkz_12 BK675.out;obtain ⟨hcz14_0,hcz14_1,hcz14_2,hcz14_3,hcz14_4,hcz14_5,hcz14_6,hcz14_7,hcz14_8,hcz14_9,hcz14_10,hcz14_11⟩:=blkc_12 BK676.out;obtain ⟨hfz14_0,hfz14_1,hfz14_2,hfz14_3,hfz14_4,hfz14_5,hfz14_6,hfz14_7,hfz14_8,hfz14_9,hfz14_10⟩:=blkz_11 BK676.out;have hfz14_11:=blk_frozen BK676.out 11) | (go_at_call 43;(with_reducible refine (row_Same.calls a0_6 a0_7 _ _ l0_8 a0_9 a0_10 a0_11 a1_6 a1_7 _ _ l1_8 a1_9 a1_10 a1_11 t677 _ ?side1 ?side2 ?side3 ?side4 A9.out).mono ?_);(case side1 => repeat (first | exact (Kd.C_below HR0_8.out HB.out) | (with_reducible refine Kd.C_alloc ?_ _) | (with_reducible refine Kd.C_drewN ?_ _) | (with_reducible refine Kd.C_drew ?_)));(case side2 => exact HC0_8.out);(case side3 => repeat (first | exact (Kd.C_below HR1_8.out HB.out) | (with_reducible refine Kd.C_alloc ?_ _) | (with_reducible refine Kd.C_drewN ?_ _) | (with_reducible refine Kd.C_drew ?_)));(case side4 => exact HC1_8.out);rintro e w15 ⟨rfl,hb⟩;have n0_:=Aside0.mk (blk_below (g:=gb675) (o:=.cells #[.int .i64 a0_0,.int .i64 a0_1,.int .i64 a0_2,.int .i64 a0_3,.int .i64 a0_4,.int .i64 a0_5,.float .f64 a0_6,.bool a0_7,.slice A0_8 l0_8.length c0_8,.int .i64 a0_9,.int .i64 a0_10,.int .i64 a0_11] 32 (0,0)) (by (with_reducible repeat (first | refine blk_drewN ?_ _ | refine blk_drew ?_ | refine blk_alloc ?_ _));exact BK675.out) hb);have n1_:=Aside0.mk (blk_below (g:=gb676) (o:=.cells #[.int .i64 a1_0,.int .i64 a1_1,.int .i64 a1_2,.int .i64 a1_3,.int .i64 a1_4,.int .i64 a1_5,.float .f64 a1_6,.bool a1_7,.slice A1_8 l1_8.length c1_8,.int .i64 a1_9,.int .i64 a1_10,.int .i64 a1_11] 32 (0,0)) (by (with_reducible repeat (first | refine blk_drewN ?_ _ | refine blk_drew ?_ | refine blk_alloc ?_ _));exact BK676.out) hb);have n2_:=Aside0.mk (below_step (by repeat (first | (with_reducible first | exact HB.out | apply below_alloc | apply pw_below_drewN | apply below_drew1 | refine below_set ?_ GE675.out | refine below_set ?_ GE676.out) | exact HB.out)) hb);clear BK675;clear BK676;clear HB;have BK675:=n0_;have BK676:=n1_;have HB:=n2_;clear n0_ n1_ n2_;(try clear hb);(try clear hb2);(try clear hk);(try clear hi)))
       go_ret
       exact ⟨by first | rfl | (simp [errW_none,errW_some] <;> rfl) | (simp [*,errW_none,errW_some] <;> rfl),by repeat (first | (with_reducible first | exact HB.out | apply below_alloc | apply pw_below_drewN | apply below_drew1 | refine below_set ?_ GE675.out | refine below_set ?_ GE676.out) | exact HB.out)⟩
      ·rw [if_neg c8] at H
       have c8b0 : (a0_5 == a1_5) = false:=beq_eq_false_iff_ne.mpr c8
       have c8b1 : (a0_5 != a1_5) = true:=bne_iff_ne.mpr c8
       obtain rfl:=Option.some.inj H
       go_enter Try.func53,Try.ntmps53
       go_wp2_with (first | ((with_reducible refine gate_dst (N:=2) rfl ?_);refine box_event ?hg (N:=2) ?hd (cs:=#[.int .i64 a0_0,.int .i64 a0_1,.int .i64 a0_2,.int .i64 a0_3,.int .i64 a0_4,.int .i64 a0_5,.float .f64 a0_6,.bool a0_7,.slice A0_8 l0_8.length c0_8,.int .i64 a0_9,.int .i64 a0_10,.int .i64 a0_11]) (t:=32) ?hr ?_;(case hd => rfl);(case hg => rfl);(case hr => first | (go_simp;done) | (go_simp;rfl));intro gb675 hg w16 hbox hb;have n0_:=Aside0.mk (below_step (by repeat (first | (with_reducible first | exact HB.out | apply below_alloc | apply pw_below_drewN | apply below_drew1) | exact HB.out)) hb);have n1_:=Aside0.mk (hbox);have n2_:=Aside0.mk ((by rw [hg];exact (below_size (by repeat (first | (with_reducible first | exact HB.out | apply below_alloc | apply pw_below_drewN | apply below_drew1) | exact HB.out))) : w.heap.size ≤ gb675));have n3_:=Aside0.mk ((by rw [hg];exact (below_size (by repeat (first | (with_reducible first | exact HB.out | apply below_alloc | apply pw_below_drewN | apply below_drew1) | exact HB.out))) : w.heap.size ≤ gb675));clear HB;have HB:=n0_;have BK675:=n1_;have GW675:=n2_;have GE675:=n3_;clear n0_ n1_ n2_ n3_;clear hb hbox hg) | ((with_reducible refine gate_dst (N:=3) rfl ?_);refine box_event ?hg (N:=3) ?hd (cs:=#[.int .i64 a1_0,.int .i64 a1_1,.int .i64 a1_2,.int .i64 a1_3,.int .i64 a1_4,.int .i64 a1_5,.float .f64 a1_6,.bool a1_7,.slice A1_8 l1_8.length c1_8,.int .i64 a1_9,.int .i64 a1_10,.int .i64 a1_11]) (t:=32) ?hr ?_;(case hd => rfl);(case hg => rfl);(case hr => first | (go_simp;done) | (go_simp;rfl));intro gb676 hg w17 hbox hb;have n0_:=Aside0.mk (blk_below (g:=gb675) (o:=.cells #[.int .i64 a0_0,.int .i64 a0_1,.int .i64 a0_2,.int .i64 a0_3,.int .i64 a0_4,.int .i64 a0_5,.float .f64 a0_6,.bool a0_7,.slice A0_8 l0_8.length c0_8,.int .i64 a0_9,.int .i64 a0_10,.int .i64 a0_11] 32 (0,0)) (by (with_reducible repeat (first | refine blk_drewN ?_ _ | refine blk_drew ?_ | refine blk_alloc ?_ _));exact BK675.out) hb);have n1_:=Aside0.mk (below_step (by repeat (first | (with_reducible first | exact HB.out | apply below_alloc | apply pw_below_drewN | apply below_drew1 | refine below_set ?_ GE675.out) | exact HB.out)) hb);have n2_:=Aside0.mk (hbox);have n3_:=Aside0.mk ((by rw [hg];exact (below_size (by repeat (first | (with_reducible first | exact HB.out | apply below_alloc | apply pw_below_drewN | apply below_drew1 | refine below_set ?_ GE675.out) | exact HB.out))) : w.heap.size ≤ gb676));have n4_:=Aside0.mk ((by rw [hg];exact (below_size (by repeat (first | (with_reducible first | exact HB.out | apply below_alloc | apply pw_below_drewN | apply below_drew1 | refine below_set ?_ GE675.out) | exact HB.out))) : w.heap.size ≤ gb676));have n5_:=Aside0.mk ((by rw [hg];exact Nat.ne_of_lt (blk_lt (g:=gb675) (o:=.cells #[.int .i64 a0_0,.int .i64 a0_1,.int .i64 a0_2,.int .i64 a0_3,.int .i64 a0_4,.int .i64 a0_5,.float .f64 a0_6,.bool a0_7,.slice A0_8 l0_8.length c0_8,.int .i64 a0_9,.int .i64 a0_10,.int .i64 a0_11] 32 (0,0)) (by (with_reducible repeat (first | refine blk_drewN ?_ _ | refine blk_drew ?_ | refine blk_alloc ?_ _));exact BK675.out)) : gb675 ≠ gb676));have n6_:=Aside0.mk ((by rw [hg];exact Nat.ne_of_gt (blk_lt (g:=gb675) (o:=.cells #[.int .i64 a0_0,.int .i64 a0_1,.int .i64 a0_2,.int .i64 a0_3,.int .i64 a0_4,.int .i64 a0_5,.float .f64 a0_6,.bool a0_7,.slice A0_8 l0_8.length c0_8,.int .i64 a0_9,.int .i64 a0_10,.int .i64 a0_11] 32 (0,0)) (by (with_reducible repeat (first | refine blk_drewN ?_ _ | refine blk_drew ?_ | refine blk_alloc ?_ _));exact BK675.out)) : gb676 ≠ gb675));clear BK675;clear HB;have BK675:=n0_;have HB:=n1_;have BK676:=n2_;have GW676:=n3_;have GE676:=n4_;have NB675_676:=n5_;have NB676_675:=n6_;clear n0_ n1_ n2_ n3_ n4_ n5_ n6_;clear hb hbox hg;have hnb18:=NB675_676.out;have hnc18:=NB676_675.out;obtain ⟨hcz19_0,hcz19_1,hcz19_2,hcz19_3,hcz19_4,hcz19_5,hcz19_6,hcz19_7,hcz19_8,hcz19_9,hcz19_10,hcz19_11⟩:=blkc_12 BK675.out;obtain ⟨hfz19_0,hfz19_1,hfz19_2,hfz19_3,hfz19_4,hfz19_5,hfz19_6,hfz19_7,hfz19_8,hfz19_9,hfz19_10,hfz19_11⟩:=blkz_12 BK675.out;obtain ⟨hcz20_0,hcz20_1,hcz20_2,hcz20_3,hcz20_4,hcz20_5,hcz20_6,hcz20_7,hcz20_8,hcz20_9,hcz20_10,hcz20_11⟩:=blkc_12 BK676.out;obtain ⟨hfz20_0,hfz20_1,hfz20_2,hfz20_3,hfz20_4,hfz20_5,hfz20_6,hfz20_7,hfz20_8,hfz20_9,hfz20_10⟩:=blkz_11 BK676.out;have hfz20_11:=blk_frozen BK676.out 11))
       go_ret
       exact ⟨by first | rfl | (simp [errW_none,errW_some] <;> rfl) | (simp [*,errW_none,errW_some] <;> rfl),by repeat (first | (with_reducible first | exact HB.out | apply below_alloc | apply pw_below_drewN | apply below_drew1 | refine below_set ?_ GE675.out | refine below_set ?_ GE676.out) | exact HB.out)⟩
     ·rw [if_neg c7] at H
      have c7b0 : (a0_4 == a1_4) = false:=beq_eq_false_iff_ne.mpr c7
      have c7b1 : (a0_4 != a1_4) = true:=bne_iff_ne.mpr c7
      obtain rfl:=Option.some.inj H
      go_enter Try.func53,Try.ntmps53
      go_wp2_with (first | ((with_reducible refine gate_dst (N:=2) rfl ?_);refine box_event ?hg (N:=2) ?hd (cs:=#[.int .i64 a0_0,.int .i64 a0_1,.int .i64 a0_2,.int .i64 a0_3,.int .i64 a0_4,.int .i64 a0_5,.float .f64 a0_6,.bool a0_7,.slice A0_8 l0_8.length c0_8,.int .i64 a0_9,.int .i64 a0_10,.int .i64 a0_11]) (t:=32) ?hr ?_;(case hd => rfl);(case hg => rfl);(case hr => first | (go_simp;done) | (go_simp;rfl));intro gb675 hg w21 hbox hb;have n0_:=Aside0.mk (below_step (by repeat (first | (with_reducible first | exact HB.out | apply below_alloc | apply pw_below_drewN | apply below_drew1) | exact HB.out)) hb);have n1_:=Aside0.mk (hbox);have n2_:=Aside0.mk ((by rw [hg];exact (below_size (by repeat (first | (with_reducible first | exact HB.out | apply below_alloc | apply pw_below_drewN | apply below_drew1) | exact HB.out))) : w.heap.size ≤ gb675));have n3_:=Aside0.mk ((by rw [hg];exact (below_size (by repeat (first | (with_reducible first | exact HB.out | apply below_alloc | apply pw_below_drewN | apply below_drew1) | exact HB.out))) : w.heap.size ≤ gb675));clear HB;have HB:=n0_;have BK675:=n1_;have GW675:=n2_;have GE675:=n3_;clear n0_ n1_ n2_ n3_;clear hb hbox hg) | ((with_reducible refine gate_dst (N:=3) rfl ?_);refine box_event ?hg (N:=3) ?hd (cs:=#[.int .i64 a1_0,.int .i64 a1_1,.int .i64 a1_2,.int .i64 a1_3,.int .i64 a1_4,.int .i64 a1_5,.float .f64 a1_6,.bool a1_7,.slice A1_8 l1_8.length c1_8,.int .i64 a1_9,.int .i64 a1_10,.int .i64 a1_11]) (t:=32) ?hr ?_;(case hd => rfl);(case hg => rfl);(case hr => first | (go_simp;done) | (go_simp;rfl));intro gb676 hg w22 hbox hb;have n0_:=Aside0.mk (blk_below (g:=gb675) (o:=.cells #[.int .i64 a0_0,.int .i64 a0_1,.int .i64 a0_2,.int .i64 a0_3,.int .i64 a0_4,.int .i64 a0_5,.float .f64 a0_6,.bool a0_7,.slice A0_8 l0_8.length c0_8,.int .i64 a0_9,.int .i64 a0_10,.int .i64 a0_11] 32 (0,0)) (by (with_reducible repeat (first | refine blk_drewN ?_ _ | refine blk_drew ?_ | refine blk_alloc ?_ _));exact BK675.out) hb);have n1_:=Aside0.mk (below_step (by repeat (first | (with_reducible first | exact HB.out | apply below_alloc | apply pw_below_drewN | apply below_drew1 | refine below_set ?_ GE675.out) | exact HB.out)) hb);have n2_:=Aside0.mk (hbox);have n3_:=Aside0.mk ((by rw [hg];exact (below_size (by repeat (first | (with_reducible first | exact HB.out | apply below_alloc | apply pw_below_drewN | apply below_drew1 | refine below_set ?_ GE675.out) | exact HB.out))) : w.heap.size ≤ gb676));have n4_:=Aside0.mk ((by rw [hg];exact (below_size (by repeat (first | (with_reducible first | exact HB.out | apply below_alloc | apply pw_below_drewN | apply below_drew1 | refine below_set ?_ GE675.out) | exact HB.out))) : w.heap.size ≤ gb676));have n5_:=Aside0.mk ((by rw [hg];exact Nat.ne_of_lt (blk_lt (g:=gb675) (o:=.cells #[.int .i64 a0_0,.int .i64 a0_1,.int .i64 a0_2,.int .i64 a0_3,.int .i64 a0_4,.int .i64 a0_5,.float .f64 a0_6,.bool a0_7,.slice A0_8 l0_8.length c0_8,.int .i64 a0_9,.int .i64 a0_10,.int .i64 a0_11] 32 (0,0)) (by (with_reducible repeat (first | refine blk_drewN ?_ _ | refine blk_drew ?_ | refine blk_alloc ?_ _));exact BK675.out)) : gb675 ≠ gb676));have n6_:=Aside0.mk ((by rw [hg];exact Nat.ne_of_gt (blk_lt (g:=gb675) (o:=.cells #[.int .i64 a0_0,.int .i64 a0_1,.int .i64 a0_2,.int .i64 a0_3,.int .i64 a0_4,.int .i64 a0_5,.float .f64 a0_6,.bool a0_7,.slice A0_8 l0_8.length c0_8,.int .i64 a0_9,.int .i64 a0_10,.int .i64 a0_11] 32 (0,0)) (by (with_reducible repeat (first | refine blk_drewN ?_ _ | refine blk_drew ?_ | refine blk_alloc ?_ _));exact BK675.out)) : gb676 ≠ gb675));clear BK675;clear HB;have BK675:=n0_;have HB:=n1_;have BK676:=n2_;have GW676:=n3_;have GE676:=n4_;have NB675_676:=n5_;have NB676_675:=n6_;clear n0_ n1_ n2_ n3_ n4_ n5_ n6_;clear hb hbox hg;have hnb23:=NB675_676.out;have hnc23:=NB676_675.out;obtain ⟨hcz24_0,hcz24_1,hcz24_2,hcz24_3,hcz24_4,hcz24_5,hcz24_6,hcz24_7,hcz24_8,hcz24_9,hcz24_10,hcz24_11⟩:=blkc_12 BK675.out;obtain ⟨hfz24_0,hfz24_1,hfz24_2,hfz24_3,hfz24_4,hfz24_5,hfz24_6,hfz24_7,hfz24_8,hfz24_9,hfz24_10,hfz24_11⟩:=blkz_12 BK675.out;obtain ⟨hcz25_0,hcz25_1,hcz25_2,hcz25_3,hcz25_4,hcz25_5,hcz25_6,hcz25_7,hcz25_8,hcz25_9,hcz25_10,hcz25_11⟩:=blkc_12 BK676.out;obtain ⟨hfz25_0,hfz25_1,hfz25_2,hfz25_3,hfz25_4,hfz25_5,hfz25_6,hfz25_7,hfz25_8,hfz25_9,hfz25_10⟩:=blkz_11 BK676.out;have hfz25_11:=blk_frozen BK676.out 11))
      go_ret
      exact ⟨by first | rfl | (simp [errW_none,errW_some] <;> rfl) | (simp [*,errW_none,errW_some] <;> rfl),by repeat (first | (with_reducible first | exact HB.out | apply below_alloc | apply pw_below_drewN | apply below_drew1 | refine below_set ?_ GE675.out | refine below_set ?_ GE676.out) | exact HB.out)⟩
    ·rw [if_neg c6] at H
     have c6b0 : (a0_3 == a1_3) = false:=beq_eq_false_iff_ne.mpr c6
     have c6b1 : (a0_3 != a1_3) = true:=bne_iff_ne.mpr c6
     obtain rfl:=Option.some.inj H
     go_enter Try.func53,Try.ntmps53
     go_wp2_with (first | ((with_reducible refine gate_dst (N:=2) rfl ?_);refine box_event ?hg (N:=2) ?hd (cs:=#[.int .i64 a0_0,.int .i64 a0_1,.int .i64 a0_2,.int .i64 a0_3,.int .i64 a0_4,.int .i64 a0_5,.float .f64 a0_6,.bool a0_7,.slice A0_8 l0_8.length c0_8,.int .i64 a0_9,.int .i64 a0_10,.int .i64 a0_11]) (t:=32) ?hr ?_;(case hd => rfl);(case hg => rfl);(case hr => first | (go_simp;done) | (go_simp;rfl));intro gb675 hg w26 hbox hb;have n0_:=Aside0.mk (below_step (by repeat (first | (with_reducible first | exact HB.out | apply below_alloc | apply pw_below_drewN | apply below_drew1) | exact HB.out)) hb);have n1_:=Aside0.mk (hbox);have n2_:=Aside0.mk ((by rw [hg];exact (below_size (by repeat (first | (with_reducible first | exact HB.out | apply below_alloc | apply pw_below_drewN | apply below_drew1) | exact HB.out))) : w.heap.size ≤ gb675));have n3_:=Aside0.mk ((by rw [hg];exact (below_size (by repeat (first | (with_reducible first | exact HB.out | apply below_alloc | apply pw_below_drewN | apply below_drew1) | exact HB.out))) : w.heap.size ≤ gb675));clear HB;have HB:=n0_;have BK675:=n1_;have GW675:=n2_;have GE675:=n3_;clear n0_ n1_ n2_ n3_;clear hb hbox hg) | ((with_reducible refine gate_dst (N:=3) rfl ?_);refine box_event ?hg (N:=3) ?hd (cs:=#[.int .i64 a1_0,.int .i64 a1_1,.int .i64 a1_2,.int .i64 a1_3,.int .i64 a1_4,.int .i64 a1_5,.float .f64 a1_6,.bool a1_7,.slice A1_8 l1_8.length c1_8,.int .i64 a1_9,.int .i64 a1_10,.int .i64 a1_11]) (t:=32) ?hr ?_;(case hd => rfl);(case hg => rfl);(case hr => first | (go_simp;done) | (go_simp;rfl));intro gb676 hg w27 hbox hb;have n0_:=Aside0.mk (blk_below (g:=gb675) (o:=.cells #[.int .i64 a0_0,.int .i64 a0_1,.int .i64 a0_2,.int .i64 a0_3,.int .i64 a0_4,.int .i64 a0_5,.float .f64 a0_6,.bool a0_7,.slice A0_8 l0_8.length c0_8,.int .i64 a0_9,.int .i64 a0_10,.int .i64 a0_11] 32 (0,0)) (by (with_reducible repeat (first | refine blk_drewN ?_ _ | refine blk_drew ?_ | refine blk_alloc ?_ _));exact BK675.out) hb);have n1_:=Aside0.mk (below_step (by repeat (first | (with_reducible first | exact HB.out | apply below_alloc | apply pw_below_drewN | apply below_drew1 | refine below_set ?_ GE675.out) | exact HB.out)) hb);have n2_:=Aside0.mk (hbox);have n3_:=Aside0.mk ((by rw [hg];exact (below_size (by repeat (first | (with_reducible first | exact HB.out | apply below_alloc | apply pw_below_drewN | apply below_drew1 | refine below_set ?_ GE675.out) | exact HB.out))) : w.heap.size ≤ gb676));have n4_:=Aside0.mk ((by rw [hg];exact (below_size (by repeat (first | (with_reducible first | exact HB.out | apply below_alloc | apply pw_below_drewN | apply below_drew1 | refine below_set ?_ GE675.out) | exact HB.out))) : w.heap.size ≤ gb676));have n5_:=Aside0.mk ((by rw [hg];exact Nat.ne_of_lt (blk_lt (g:=gb675) (o:=.cells #[.int .i64 a0_0,.int .i64 a0_1,.int .i64 a0_2,.int .i64 a0_3,.int .i64 a0_4,.int .i64 a0_5,.float .f64 a0_6,.bool a0_7,.slice A0_8 l0_8.length c0_8,.int .i64 a0_9,.int .i64 a0_10,.int .i64 a0_11] 32 (0,0)) (by (with_reducible repeat (first | refine blk_drewN ?_ _ | refine blk_drew ?_ | refine blk_alloc ?_ _));exact BK675.out)) : gb675 ≠ gb676));have n6_:=Aside0.mk ((by rw [hg];exact Nat.ne_of_gt (blk_lt (g:=gb675) (o:=.cells #[.int .i64 a0_0,.int .i64 a0_1,.int .i64 a0_2,.int .i64 a0_3,.int .i64 a0_4,.int .i64 a0_5,.float .f64 a0_6,.bool a0_7,.slice A0_8 l0_8.length c0_8,.int .i64 a0_9,.int .i64 a0_10,.int .i64 a0_11] 32 (0,0)) (by (with_reducible repeat (first | refine blk_drewN ?_ _ | refine blk_drew ?_ | refine blk_alloc ?_ _));exact BK675.out)) : gb676 ≠ gb675));clear BK675;clear HB;have BK675:=n0_;have HB:=n1_;have BK676:=n2_;have GW676:=n3_;have GE676:=n4_;have NB675_676:=n5_;have NB676_675:=n6_;clear n0_ n1_ n2_ n3_ n4_ n5_ n6_;clear hb hbox hg;have hnb28:=NB675_676.out;have hnc28:=NB676_675.out;obtain ⟨hcz29_0,hcz29_1,hcz29_2,hcz29_3,hcz29_4,hcz29_5,hcz29_6,hcz29_7,hcz29_8,hcz29_9,hcz29_10,hcz29_11⟩:=blkc_12 BK675.out;obtain ⟨hfz29_0,hfz29_1,hfz29_2,hfz29_3,hfz29_4,hfz29_5,hfz29_6,hfz29_7,hfz29_8,hfz29_9,hfz29_10,hfz29_11⟩:=blkz_12 BK675.out;obtain ⟨hcz30_0,hcz30_1,hcz30_2,hcz30_3,hcz30_4,hcz30_5,hcz30_6,hcz30_7,hcz30_8,hcz30_9,hcz30_10,hcz30_11⟩:=blkc_12 BK676.out;obtain ⟨hfz30_0,hfz30_1,hfz30_2,hfz30_3,hfz30_4,hfz30_5,hfz30_6,hfz30_7,hfz30_8,hfz30_9,hfz30_10⟩:=blkz_11 BK676.out;have hfz30_11:=blk_frozen BK676.out 11))
     go_ret
     exact ⟨by first | rfl | (simp [errW_none,errW_some] <;> rfl) | (simp [*,errW_none,errW_some] <;> rfl),by repeat (first | (with_reducible first | exact HB.out | apply below_alloc | apply pw_below_drewN | apply below_drew1 | refine below_set ?_ GE675.out | refine below_set ?_ GE676.out) | exact HB.out)⟩
   ·rw [if_neg c5] at H
    have c5b0 : (a0_2 == a1_2) = false:=beq_eq_false_iff_ne.mpr c5
    have c5b1 : (a0_2 != a1_2) = true:=bne_iff_ne.mpr c5
    obtain rfl:=Option.some.inj H
    go_enter Try.func53,Try.ntmps53
    go_wp2_with (first | ((with_reducible refine gate_dst (N:=2) rfl ?_);refine box_event ?hg (N:=2) ?hd (cs:=#[.int .i64 a0_0,.int .i64 a0_1,.int .i64 a0_2,.int .i64 a0_3,.int .i64 a0_4,.int .i64 a0_5,.float .f64 a0_6,.bool a0_7,.slice A0_8 l0_8.length c0_8,.int .i64 a0_9,.int .i64 a0_10,.int .i64 a0_11]) (t:=32) ?hr ?_;(case hd => rfl);(case hg => rfl);(case hr => first | (go_simp;done) | (go_simp;rfl));intro gb675 hg w31 hbox hb;have n0_:=Aside0.mk (below_step (by repeat (first | (with_reducible first | exact HB.out | apply below_alloc | apply pw_below_drewN | apply below_drew1) | exact HB.out)) hb);have n1_:=Aside0.mk (hbox);have n2_:=Aside0.mk ((by rw [hg];exact (below_size (by repeat (first | (with_reducible first | exact HB.out | apply below_alloc | apply pw_below_drewN | apply below_drew1) | exact HB.out))) : w.heap.size ≤ gb675));have n3_:=Aside0.mk ((by rw [hg];exact (below_size (by repeat (first | (with_reducible first | exact HB.out | apply below_alloc | apply pw_below_drewN | apply below_drew1) | exact HB.out))) : w.heap.size ≤ gb675));clear HB;have HB:=n0_;have BK675:=n1_;have GW675:=n2_;have GE675:=n3_;clear n0_ n1_ n2_ n3_;clear hb hbox hg) | ((with_reducible refine gate_dst (N:=3) rfl ?_);refine box_event ?hg (N:=3) ?hd (cs:=#[.int .i64 a1_0,.int .i64 a1_1,.int .i64 a1_2,.int .i64 a1_3,.int .i64 a1_4,.int .i64 a1_5,.float .f64 a1_6,.bool a1_7,.slice A1_8 l1_8.length c1_8,.int .i64 a1_9,.int .i64 a1_10,.int .i64 a1_11]) (t:=32) ?hr ?_;(case hd => rfl);(case hg => rfl);(case hr => first | (go_simp;done) | (go_simp;rfl));intro gb676 hg w32 hbox hb;have n0_:=Aside0.mk (blk_below (g:=gb675) (o:=.cells #[.int .i64 a0_0,.int .i64 a0_1,.int .i64 a0_2,.int .i64 a0_3,.int .i64 a0_4,.int .i64 a0_5,.float .f64 a0_6,.bool a0_7,.slice A0_8 l0_8.length c0_8,.int .i64 a0_9,.int .i64 a0_10,.int .i64 a0_11] 32 (0,0)) (by (with_reducible repeat (first | refine blk_drewN ?_ _ | refine blk_drew ?_ | refine blk_alloc ?_ _));exact BK675.out) hb);have n1_:=Aside0.mk (below_step (by repeat (first | (with_reducible first | exact HB.out | apply below_alloc | apply pw_below_drewN | apply below_drew1 | refine below_set ?_ GE675.out) | exact HB.out)) hb);have n2_:=Aside0.mk (hbox);have n3_:=Aside0.mk ((by rw [hg];exact (below_size (by repeat (first | (with_reducible first | exact HB.out | apply below_alloc | apply pw_below_drewN | apply below_drew1 | refine below_set ?_ GE675.out) | exact HB.out))) : w.heap.size ≤ gb676));have n4_:=Aside0.mk ((by rw [hg];exact (below_size (by repeat (first | (with_reducible first | exact HB.out | apply below_alloc | apply pw_below_drewN | apply below_drew1 | refine below_set ?_ GE675.out) | exact HB.out))) : w.heap.size ≤ gb676));have n5_:=Aside0.mk ((by rw [hg];exact Nat.ne_of_lt (blk_lt (g:=gb675) (o:=.cells #[.int .i64 a0_0,.int .i64 a0_1,.int .i64 a0_2,.int .i64 a0_3,.int .i64 a0_4,.int .i64 a0_5,.float .f64 a0_6,.bool a0_7,.slice A0_8 l0_8.length c0_8,.int .i64 a0_9,.int .i64 a0_10,.int .i64 a0_11] 32 (0,0)) (by (with_reducible repeat (first | refine blk_drewN ?_ _ | refine blk_drew ?_ | refine blk_alloc ?_ _));exact BK675.out)) : gb675 ≠ gb676));have n6_:=Aside0.mk ((by rw [hg];exact Nat.ne_of_gt (blk_lt (g:=gb675) (o:=.cells #[.int .i64 a0_0,.int .i64 a0_1,.int .i64 a0_2,.int .i64 a0_3,.int .i64 a0_4,.int .i64 a0_5,.float .f64 a0_6,.bool a0_7,.slice A0_8 l0_8.length c0_8,.int .i64 a0_9,.int .i64 a0_10,.int .i64 a0_11] 32 (0,0)) (by (with_reducible repeat (first | refine blk_drewN ?_ _ | refine blk_drew ?_ | refine blk_alloc ?_ _));exact BK675.out)) : gb676 ≠ gb675));clear BK675;clear HB;have BK675:=n0_;have HB:=n1_;have BK676:=n2_;have GW676:=n3_;have GE676:=n4_;have NB675_676:=n5_;have NB676_675:=n6_;clear n0_ n1_ n2_ n3_ n4_ n5_ n6_;clear hb hbox hg;have hnb33:=NB675_676.out;have hnc33:=NB676_675.out;obtain ⟨hcz34_0,hcz34_1,hcz34_2,hcz34_3,hcz34_4,hcz34_5,hcz34_6,hcz34_7,hcz34_8,hcz34_9,hcz34_10,hcz34_11⟩:=blkc_12 BK675.out;obtain ⟨hfz34_0,hfz34_1,hfz34_2,hfz34_3,hfz34_4,hfz34_5,hfz34_6,hfz34_7,hfz34_8,hfz34_9,hfz34_10,hfz34_11⟩:=blkz_12 BK675.out;obtain ⟨hcz35_0,hcz35_1,hcz35_2,hcz35_3,hcz35_4,hcz35_5,hcz35_6,hcz35_7,hcz35_8,hcz35_9,hcz35_10,hcz35_11⟩:=blkc_12 BK676.out;obtain ⟨hfz35_0,hfz35_1,hfz35_2,hfz35_3,hfz35_4,hfz35_5,hfz35_6,hfz35_7,hfz35_8,hfz35_9,hfz35_10⟩:=blkz_11 BK676.out;have hfz35_11:=blk_frozen BK676.out 11))
    go_ret
    exact ⟨by first | rfl | (simp [errW_none,errW_some] <;> rfl) | (simp [*,errW_none,errW_some] <;> rfl),by repeat (first | (with_reducible first | exact HB.out | apply below_alloc | apply pw_below_drewN | apply below_drew1 | refine below_set ?_ GE675.out | refine below_set ?_ GE676.out) | exact HB.out)⟩
  ·rw [if_neg c4] at H
   have c4b0 : (a0_1 == a1_1) = false:=beq_eq_false_iff_ne.mpr c4
   have c4b1 : (a0_1 != a1_1) = true:=bne_iff_ne.mpr c4
   obtain rfl:=Option.some.inj H
   go_enter Try.func53,Try.ntmps53
   go_wp2_with (first | ((with_reducible refine gate_dst (N:=2) rfl ?_);refine box_event ?hg (N:=2) ?hd (cs:=#[.int .i64 a0_0,.int .i64 a0_1,.int .i64 a0_2,.int .i64 a0_3,.int .i64 a0_4,.int .i64 a0_5,.float .f64 a0_6,.bool a0_7,.slice A0_8 l0_8.length c0_8,.int .i64 a0_9,.int .i64 a0_10,.int .i64 a0_11]) (t:=32) ?hr ?_;(case hd => rfl);(case hg => rfl);(case hr => first | (go_simp;done) | (go_simp;rfl));intro gb675 hg w36 hbox hb;have n0_:=Aside0.mk (below_step (by repeat (first | (with_reducible first | exact HB.out | apply below_alloc | apply pw_below_drewN | apply below_drew1) | exact HB.out)) hb);have n1_:=Aside0.mk (hbox);have n2_:=Aside0.mk ((by rw [hg];exact (below_size (by repeat (first | (with_reducible first | exact HB.out | apply below_alloc | apply pw_below_drewN | apply below_drew1) | exact HB.out))) : w.heap.size ≤ gb675));have n3_:=Aside0.mk ((by rw [hg];exact (below_size (by repeat (first | (with_reducible first | exact HB.out | apply below_alloc | apply pw_below_drewN | apply below_drew1) | exact HB.out))) : w.heap.size ≤ gb675));clear HB;have HB:=n0_;have BK675:=n1_;have GW675:=n2_;have GE675:=n3_;clear n0_ n1_ n2_ n3_;clear hb hbox hg) | ((with_reducible refine gate_dst (N:=3) rfl ?_);refine box_event ?hg (N:=3) ?hd (cs:=#[.int .i64 a1_0,.int .i64 a1_1,.int .i64 a1_2,.int .i64 a1_3,.int .i64 a1_4,.int .i64 a1_5,.float .f64 a1_6,.bool a1_7,.slice A1_8 l1_8.length c1_8,.int .i64 a1_9,.int .i64 a1_10,.int .i64 a1_11]) (t:=32) ?hr ?_;(case hd => rfl);(case hg => rfl);(case hr => first | (go_simp;done) | (go_simp;rfl));intro gb676 hg w37 hbox hb;have n0_:=Aside0.mk (blk_below (g:=gb675) (o:=.cells #[.int .i64 a0_0,.int .i64 a0_1,.int .i64 a0_2,.int .i64 a0_3,.int .i64 a0_4,.int .i64 a0_5,.float .f64 a0_6,.bool a0_7,.slice A0_8 l0_8.length c0_8,.int .i64 a0_9,.int .i64 a0_10,.int .i64 a0_11] 32 (0,0)) (by (with_reducible repeat (first | refine blk_drewN ?_ _ | refine blk_drew ?_ | refine blk_alloc ?_ _));exact BK675.out) hb);have n1_:=Aside0.mk (below_step (by repeat (first | (with_reducible first | exact HB.out | apply below_alloc | apply pw_below_drewN | apply below_drew1 | refine below_set ?_ GE675.out) | exact HB.out)) hb);have n2_:=Aside0.mk (hbox);have n3_:=Aside0.mk ((by rw [hg];exact (below_size (by repeat (first | (with_reducible first | exact HB.out | apply below_alloc | apply pw_below_drewN | apply below_drew1 | refine below_set ?_ GE675.out) | exact HB.out))) : w.heap.size ≤ gb676));have n4_:=Aside0.mk ((by rw [hg];exact (below_size (by repeat (first | (with_reducible first | exact HB.out | apply below_alloc | apply pw_below_drewN | apply below_drew1 | refine below_set ?_ GE675.out) | exact HB.out))) : w.heap.size ≤ gb676));have n5_:=Aside0.mk ((by rw [hg];exact Nat.ne_of_lt (blk_lt (g:=gb675) (o:=.cells #[.int .i64 a0_0,.int .i64 a0_1,.int .i64 a0_2,.int .i64 a0_3,.int .i64 a0_4,.int .i64 a0_5,.float .f64 a0_6,.bool a0_7,.slice A0_8 l0_8.length c0_8,.int .i64 a0_9,.int .i64 a0_10,.int .i64 a0_11] 32 (0,0)) (by (with_reducible repeat (first | refine blk_drewN ?_ _ | refine blk_drew ?_ | refine blk_alloc ?_ _));exact BK675.out)) : gb675 ≠ gb676));have n6_:=Aside0.mk ((by rw [hg];exact Nat.ne_of_gt (blk_lt (g:=gb675) (o:=.cells #[.int .i64 a0_0,.int .i64 a0_1,.int .i64 a0_2,.int .i64 a0_3,.int .i64 a0_4,.int .i64 a0_5,.float .f64 a0_6,.bool a0_7,.slice A0_8 l0_8.length c0_8,.int .i64 a0_9,.int .i64 a0_10,.int .i64 a0_11] 32 (0,0)) (by (with_reducible repeat (first | refine blk_drewN ?_ _ | refine blk_drew ?_ | refine blk_alloc ?_ _));exact BK675.out)) : gb676 ≠ gb675));clear BK675;clear HB;have BK675:=n0_;have HB:=n1_;have BK676:=n2_;have GW676:=n3_;have GE676:=n4_;have NB675_676:=n5_;have NB676_675:=n6_;clear n0_ n1_ n2_ n3_ n4_ n5_ n6_;clear hb hbox hg;have hnb38:=NB675_676.out;have hnc38:=NB676_675.out;obtain ⟨hcz39_0,hcz39_1,hcz39_2,hcz39_3,hcz39_4,hcz39_5,hcz39_6,hcz39_7,hcz39_8,hcz39_9,hcz39_10,hcz39_11⟩:=blkc_12 BK675.out;obtain ⟨hfz39_0,hfz39_1,hfz39_2,hfz39_3,hfz39_4,hfz39_5,hfz39_6,hfz39_7,hfz39_8,hfz39_9,hfz39_10,hfz39_11⟩:=blkz_12 BK675.out;obtain ⟨hcz40_0,hcz40_1,hcz40_2,hcz40_3,hcz40_4,hcz40_5,hcz40_6,hcz40_7,hcz40_8,hcz40_9,hcz40_10,hcz40_11⟩:=blkc_12 BK676.out;obtain ⟨hfz40_0,hfz40_1,hfz40_2,hfz40_3,hfz40_4,hfz40_5,hfz40_6,hfz40_7,hfz40_8,hfz40_9,hfz40_10⟩:=blkz_11 BK676.out;have hfz40_11:=blk_frozen BK676.out 11))
   go_ret
   exact ⟨by first | rfl | (simp [errW_none,errW_some] <;> rfl) | (simp [*,errW_none,errW_some] <;> rfl),by repeat (first | (with_reducible first | exact HB.out | apply below_alloc | apply pw_below_drewN | apply below_drew1 | refine below_set ?_ GE675.out | refine below_set ?_ GE676.out) | exact HB.out)⟩
 ·rw [if_neg c3] at H
  have c3b0 : (a0_0 == a1_0) = false:=beq_eq_false_iff_ne.mpr c3
  have c3b1 : (a0_0 != a1_0) = true:=bne_iff_ne.mpr c3
  obtain rfl:=Option.some.inj H
  go_enter Try.func53,Try.ntmps53
  go_wp2_with (first | ((with_reducible refine gate_dst (N:=2) rfl ?_);refine box_event ?hg (N:=2) ?hd (cs:=#[.int .i64 a0_0,.int .i64 a0_1,.int .i64 a0_2,.int .i64 a0_3,.int .i64 a0_4,.int .i64 a0_5,.float .f64 a0_6,.bool a0_7,.slice A0_8 l0_8.length c0_8,.int .i64 a0_9,.int .i64 a0_10,.int .i64 a0_11]) (t:=32) ?hr ?_;(case hd => rfl);(case hg => rfl);(case hr => first | (go_simp;done) | (go_simp;rfl));intro gb675 hg w41 hbox hb;have n0_:=Aside0.mk (below_step (by repeat (first | (with_reducible first | exact HB.out | apply below_alloc | apply pw_below_drewN | apply below_drew1) | exact HB.out)) hb);have n1_:=Aside0.mk (hbox);have n2_:=Aside0.mk ((by rw [hg];exact (below_size (by repeat (first | (with_reducible first | exact HB.out | apply below_alloc | apply pw_below_drewN | apply below_drew1) | exact HB.out))) : w.heap.size ≤ gb675));have n3_:=Aside0.mk ((by rw [hg];exact (below_size (by repeat (first | (with_reducible first | exact HB.out | apply below_alloc | apply pw_below_drewN | apply below_drew1) | exact HB.out))) : w.heap.size ≤ gb675));clear HB;have HB:=n0_;have BK675:=n1_;have GW675:=n2_;have GE675:=n3_;clear n0_ n1_ n2_ n3_;clear hb hbox hg) | ((with_reducible refine gate_dst (N:=3) rfl ?_);refine box_event ?hg (N:=3) ?hd (cs:=#[.int .i64 a1_0,.int .i64 a1_1,.int .i64 a1_2,.int .i64 a1_3,.int .i64 a1_4,.int .i64 a1_5,.float .f64 a1_6,.bool a1_7,.slice A1_8 l1_8.length c1_8,.int .i64 a1_9,.int .i64 a1_10,.int .i64 a1_11]) (t:=32) ?hr ?_;(case hd => rfl);(case hg => rfl);(case hr => first | (go_simp;done) | (go_simp;rfl));intro gb676 hg w42 hbox hb;have n0_:=Aside0.mk (blk_below (g:=gb675) (o:=.cells #[.int .i64 a0_0,.int .i64 a0_1,.int .i64 a0_2,.int .i64 a0_3,.int .i64 a0_4,.int .i64 a0_5,.float .f64 a0_6,.bool a0_7,.slice A0_8 l0_8.length c0_8,.int .i64 a0_9,.int .i64 a0_10,.int .i64 a0_11] 32 (0,0)) (by (with_reducible repeat (first | refine blk_drewN ?_ _ | refine blk_drew ?_ | refine blk_alloc ?_ _));exact BK675.out) hb);have n1_:=Aside0.mk (below_step (by repeat (first | (with_reducible first | exact HB.out | apply below_alloc | apply pw_below_drewN | apply below_drew1 | refine below_set ?_ GE675.out) | exact HB.out)) hb);have n2_:=Aside0.mk (hbox);have n3_:=Aside0.mk ((by rw [hg];exact (below_size (by repeat (first | (with_reducible first | exact HB.out | apply below_alloc | apply pw_below_drewN | apply below_drew1 | refine below_set ?_ GE675.out) | exact HB.out))) : w.heap.size ≤ gb676));have n4_:=Aside0.mk ((by rw [hg];exact (below_size (by repeat (first | (with_reducible first | exact HB.out | apply below_alloc | apply pw_below_drewN | apply below_drew1 | refine below_set ?_ GE675.out) | exact HB.out))) : w.heap.size ≤ gb676));have n5_:=Aside0.mk ((by rw [hg];exact Nat.ne_of_lt (blk_lt (g:=gb675) (o:=.cells #[.int .i64 a0_0,.int .i64 a0_1,.int .i64 a0_2,.int .i64 a0_3,.int .i64 a0_4,.int .i64 a0_5,.float .f64 a0_6,.bool a0_7,.slice A0_8 l0_8.length c0_8,.int .i64 a0_9,.int .i64 a0_10,.int .i64 a0_11] 32 (0,0)) (by (with_reducible repeat (first | refine blk_drewN ?_ _ | refine blk_drew ?_ | refine blk_alloc ?_ _));exact BK675.out)) : gb675 ≠ gb676));have n6_:=Aside0.mk ((by rw [hg];exact Nat.ne_of_gt (blk_lt (g:=gb675) (o:=.cells #[.int .i64 a0_0,.int .i64 a0_1,.int .i64 a0_2,.int .i64 a0_3,.int .i64 a0_4,.int .i64 a0_5,.float .f64 a0_6,.bool a0_7,.slice A0_8 l0_8.length c0_8,.int .i64 a0_9,.int .i64 a0_10,.int .i64 a0_11] 32 (0,0)) (by (with_reducible repeat (first | refine blk_drewN ?_ _ | refine blk_drew ?_ | refine blk_alloc ?_ _));exact BK675.out)) : gb676 ≠ gb675));clear BK675;clear HB;have BK675:=n0_;have HB:=n1_;have BK676:=n2_;have GW676:=n3_;have GE676:=n4_;have NB675_676:=n5_;have NB676_675:=n6_;clear n0_ n1_ n2_ n3_ n4_ n5_ n6_;clear hb hbox hg;have hnb43:=NB675_676.out;have hnc43:=NB676_675.out;obtain ⟨hcz44_0,hcz44_1,hcz44_2,hcz44_3,hcz44_4,hcz44_5,hcz44_6,hcz44_7,hcz44_8,hcz44_9,hcz44_10,hcz44_11⟩:=blkc_12 BK675.out;obtain ⟨hfz44_0,hfz44_1,hfz44_2,hfz44_3,hfz44_4,hfz44_5,hfz44_6,hfz44_7,hfz44_8,hfz44_9,hfz44_10,hfz44_11⟩:=blkz_12 BK675.out;obtain ⟨hcz45_0,hcz45_1,hcz45_2,hcz45_3,hcz45_4,hcz45_5,hcz45_6,hcz45_7,hcz45_8,hcz45_9,hcz45_10,hcz45_11⟩:=blkc_12 BK676.out;obtain ⟨hfz45_0,hfz45_1,hfz45_2,hfz45_3,hfz45_4,hfz45_5,hfz45_6,hfz45_7,hfz45_8,hfz45_9,hfz45_10⟩:=blkz_11 BK676.out;have hfz45_11:=blk_frozen BK676.out 11))
  go_ret
  exact ⟨by first | rfl | (simp [errW_none,errW_some] <;> rfl) | (simp [*,errW_none,errW_some] <;> rfl),by repeat (first | (with_reducible first | exact HB.out | apply below_alloc | apply pw_below_drewN | apply below_drew1 | refine below_set ?_ GE675.out | refine below_set ?_ GE676.out) | exact HB.out)⟩
end Go.Proofs.Ytdcllbhkjcdnoaa.P
set_option linter.unusedVariables false
set_option linter.unusedSimpArgs false
namespace Go.Proofs.Ytdcllbhkjcdnoaa.P
open Go.RowKit Go.Proofs.Ytdcllbhkjcdnoaa Go.Proofs.Ytdcllbhkjcdnoaa.Mem Go.Proofs.Ytdcllbhkjcdnoaa.Pac Go.Proofs.YtdcllbhkjcdnoaaW.PrintWords Go.Proofs.YtdcllbhkjcdnoaaW.PrintLast
def numsU (tx no pr pa sl : Int) : Bool := decide (1 ≤ tx ∧ tx ≤ 2147483647 ∧ 1 ≤ no ∧ no ≤ 2147483647 ∧ 0 ≤ pr ∧ pr ≤ 65535 ∧ 0 ≤ pa ∧ pa ≤ 255 ∧ 0 ≤ sl ∧ sl ≤ 255)
def mayU (tx no pr ki pa sl : Int) (ke : Nat) (de : Bool) (co : List Nat) (wr ce nn : Int) : Bool :=
  numsU tx no pr pa sl && (if ki = 1 then sameRow ke de co wr ce nn 0 false [] 0 0 0 else if ki = 2 then mayRow ke de co wr ce nn else false)
theorem in_ev (a b c : Int) : undorec_in.f a b c = some (decide (b ≤ a ∧ a ≤ c)) := by
  unfold undorec_in.f
  by_cases h : a ≥ b
  · rw [if_pos h]; congr 1; rw [decide_eq_decide]; omega
  · rw [if_neg h]; congr 1; symm; rw [decide_eq_false_iff_not]; omega
theorem uCheck_j0 {k : Nat} (hk : 5 ≤ k) (z : Bool) {tx no pr ki pa sl : Int} {ke : Nat} {de : Bool} {co : List Nat} {wr ce nn : Int} (hl : co.length ≤ 1000000) :
    undorec_Check.j0 k z tx no pr ki pa sl ke de co wr ce nn = some (if (z && (if ki = 1 then sameRow ke de co wr ce nn 0 false [] 0 0 0 else if ki = 2 then mayRow ke de co wr ce nn else false)) = true then 0 else 1) := by
  obtain ⟨k, rfl⟩ : ∃ m, k = m + 3 := ⟨k - 3, by omega⟩
  simp only [undorec_Check.j0, undorec_Check.j1]
  by_cases h1 : ki = 1
  · rw [if_pos h1, if_pos h1]
    cases z with
    | false => rfl
    | true =>
      rw [if_pos rfl, row_Same_ev hl]
      simp only [Option.bind_some, undorec_Check.j2, Bool.true_and]
      cases sameRow ke de co wr ce nn 0 false [] 0 0 0 <;> rfl
  · rw [if_neg h1, if_neg h1]
    by_cases h2 : ki = 2
    · rw [if_pos h2, if_pos h2]
      cases z with
      | false => rfl
      | true =>
        rw [if_pos rfl, row_Check_ev (by omega) hl]
        simp only [Option.bind_some, undorec_Check.j3, Bool.true_and]
        cases mayRow ke de co wr ce nn <;> rfl
    · rw [if_neg h2, if_neg h2, Bool.and_false]; rfl
theorem uCheck_ev {k : Nat} (hk : 5 ≤ k) {tx no pr ki pa sl : Int} {ke : Nat} {de : Bool} {co : List Nat} {wr ce nn : Int} (hl : co.length ≤ 1000000) :
    undorec_Check.f k tx no pr ki pa sl ke de co wr ce nn = some (if mayU tx no pr ki pa sl ke de co wr ce nn = true then 0 else 1) := by
  have hF : numsU tx no pr pa sl = false → undorec_Check.j0 k false tx no pr ki pa sl ke de co wr ce nn = some (if mayU tx no pr ki pa sl ke de co wr ce nn = true then 0 else 1) := by
    intro h
    rw [uCheck_j0 hk false hl]
    unfold mayU
    rw [h]
  unfold undorec_Check.f
  simp only [in_ev, Option.bind_some]
  by_cases a1 : 1 ≤ tx ∧ tx ≤ 2147483647
  rotate_left
  · rw [if_neg (by simpa using a1)]; exact hF (by unfold numsU; rw [decide_eq_false_iff_not]; omega)
  rw [if_pos (decide_eq_true a1)]
  by_cases a2 : 1 ≤ no ∧ no ≤ 2147483647
  rotate_left
  · rw [if_neg (by simpa using a2)]; exact hF (by unfold numsU; rw [decide_eq_false_iff_not]; omega)
  rw [if_pos (decide_eq_true a2)]
  by_cases a3 : 0 ≤ pr ∧ pr ≤ 65535
  rotate_left
  · rw [if_neg (by simpa using a3)]; exact hF (by unfold numsU; rw [decide_eq_false_iff_not]; omega)
  rw [if_pos (decide_eq_true a3)]
  by_cases a4 : 0 ≤ pa ∧ pa ≤ 255
  rotate_left
  · rw [if_neg (by simpa using a4)]; exact hF (by unfold numsU; rw [decide_eq_false_iff_not]; omega)
  rw [if_pos (decide_eq_true a4), uCheck_j0 hk _ hl]
  unfold mayU
  rw [show numsU tx no pr pa sl = decide (0 ≤ sl ∧ sl ≤ 255) by unfold numsU; rw [decide_eq_decide]; omega]
def sameU (tx no pr ki pa sl : Int) (ke : Nat) (de : Bool) (co : List Nat) (wr ce nn : Int) (tx' no' pr' ki' pa' sl' : Int) (ke' : Nat) (de' : Bool) (co' : List Nat) (wr' ce' nn' : Int) : Bool :=
  decide (tx = tx' ∧ no = no' ∧ pr = pr' ∧ ki = ki' ∧ pa = pa' ∧ sl = sl') && sameRow ke de co wr ce nn ke' de' co' wr' ce' nn'
theorem sameU_chain {tx no pr ki pa sl tx' no' pr' ki' pa' sl' : Int} (b : Bool) :
    (if tx = tx' then (if no = no' then (if pr = pr' then (if ki = ki' then (if pa = pa' then (if sl = sl' then some b else some false) else some false) else some false) else some false) else some false) else some false) = some (decide (tx = tx' ∧ no = no' ∧ pr = pr' ∧ ki = ki' ∧ pa = pa' ∧ sl = sl') && b) := by
  by_cases h : tx = tx' ∧ no = no' ∧ pr = pr' ∧ ki = ki' ∧ pa = pa' ∧ sl = sl'
  · rw [decide_eq_true h, Bool.true_and]
    obtain ⟨h1, h2, h3, h4, h5, h6⟩ := h
    rw [if_pos h1, if_pos h2, if_pos h3, if_pos h4, if_pos h5, if_pos h6]
  · rw [decide_eq_false h, Bool.false_and]
    repeat' split
    all_goals first | rfl | (exfalso; apply h; simp_all)
theorem uSame_ev {tx no pr ki pa sl : Int} {ke : Nat} {de : Bool} {co : List Nat} {wr ce nn : Int} {tx' no' pr' ki' pa' sl' : Int} {ke' : Nat} {de' : Bool} {co' : List Nat} {wr' ce' nn' : Int} (hl : co.length ≤ 1000000) :
    undorec_Same.f tx no pr ki pa sl ke de co wr ce nn tx' no' pr' ki' pa' sl' ke' de' co' wr' ce' nn' = some (sameU tx no pr ki pa sl ke de co wr ce nn tx' no' pr' ki' pa' sl' ke' de' co' wr' ce' nn') := by
  unfold undorec_Same.f sameU
  rw [row_Same_ev hl]
  simp only [Option.bind_some]
  exact sameU_chain _
theorem sameU_iff {tx no pr ki pa sl : Int} {ke : Nat} {de : Bool} {co : List Nat} {wr ce nn : Int} {tx' no' pr' ki' pa' sl' : Int} {ke' : Nat} {de' : Bool} {co' : List Nat} {wr' ce' nn' : Int} :
    sameU tx no pr ki pa sl ke de co wr ce nn tx' no' pr' ki' pa' sl' ke' de' co' wr' ce' nn' = true ↔ (tx = tx' ∧ no = no' ∧ pr = pr' ∧ ki = ki' ∧ pa = pa' ∧ sl = sl') ∧ (ke = ke' ∧ de = de' ∧ co = co' ∧ wr = wr' ∧ ce = ce' ∧ nn = nn') := by
  unfold sameU sameRow
  rw [Bool.and_eq_true, decide_eq_true_iff, decide_eq_true_iff]
end Go.Proofs.Ytdcllbhkjcdnoaa.P
namespace Go.Proofs.Ytdcllbhkjcdnoaa.P
open Go.RowKit Go.Proofs.YtdcllbhkjcdnoaaW.PrintWords Go.Proofs.YtdcllbhkjcdnoaaW.PrintLast Go.Proofs.YtdcllbhkjcdnoaaW.PrintMore
attribute [local go_sem] max2_int min2_int max_two min_two max_three min_three max_four min_four   -- for this text's walks alone
attribute [local go_sem] run_store_float
set_option linter.unusedVariables false
set_option linter.unusedSimpArgs false
def undo_empty.f (a0_0 : Int) (a0_1 : Int) (a0_2 : Int) (a0_3 : Int) (a0_4 : Int) (a0_5 : Int) (a0_6 : Nat) (a0_7 : Bool) (l0_8 : List Nat) (a0_9 : Int) (a0_10 : Int) (a0_11 : Int) : Option (Bool):=(undorec_Same.f a0_0 a0_1 a0_2 a0_3 a0_4 a0_5 a0_6 a0_7 l0_8 a0_9 a0_10 a0_11 0 0 0 0 0 0 0 false ([] : List Nat) 0 0 0).bind fun t696 => (some t696)
set_option maxHeartbeats 8000000 in
set_option maxRecDepth 100000 in
theorem undo_empty.calls (a0_0 : Int) (a0_1 : Int) (a0_2 : Int) (a0_3 : Int) (a0_4 : Int) (a0_5 : Int) (a0_6 : Nat) (a0_7 : Bool) (A0_8 : Option Addr) (c0_8 : Nat) (l0_8 : List Nat) (a0_9 : Int) (a0_10 : Int) (a0_11 : Int) (r : Bool) (w : World) (hr0_8 : Kd.C Kd.f64 w A0_8 l0_8.length l0_8) (hc0_8 : l0_8.length ≤ c0_8) (h : undo_empty.f a0_0 a0_1 a0_2 a0_3 a0_4 a0_5 a0_6 a0_7 l0_8 a0_9 a0_10 a0_11 = some r) :
  Calls Try.prog 58 #[.agg #[.int .i64 a0_0,.int .i64 a0_1,.int .i64 a0_2,.int .i64 a0_3,.int .i64 a0_4,.int .i64 a0_5,.float .f64 a0_6,.bool a0_7,.slice A0_8 l0_8.length c0_8,.int .i64 a0_9,.int .i64 a0_10,.int .i64 a0_11]] w fun e w' => e = .returned (.bool r) ∧ Below w.heap.size w w':=by
 have hu32:=Try.underlying32
 have HR0_8:=Aside0.mk hr0_8
 have HC0_8:=Aside0.mk hc0_8
 clear hr0_8 hc0_8
 have HB:=Aside0.mk (Below.refl w.heap.size w)
 have H : ((undorec_Same.f a0_0 a0_1 a0_2 a0_3 a0_4 a0_5 a0_6 a0_7 l0_8 a0_9 a0_10 a0_11 0 0 0 0 0 0 0 false ([] : List Nat) 0 0 0).bind fun t696 => (some t696)) = some r:=h
 clear h
 replace H:=Option.bind_eq_some_iff.mp H
 obtain ⟨t696,A20,H⟩:=H
 replace H : (some t696) = some r:=H
 have A2:=Aside0.mk A20
 clear A20
 obtain rfl:=Option.some.inj H
 go_enter Try.func58,Try.ntmps58
 go_wp2_with (first | ((with_reducible refine gate_dst (N:=1) rfl ?_);refine box_event ?hg (N:=1) ?hd (cs:=#[.int .i64 a0_0,.int .i64 a0_1,.int .i64 a0_2,.int .i64 a0_3,.int .i64 a0_4,.int .i64 a0_5,.float .f64 a0_6,.bool a0_7,.slice A0_8 l0_8.length c0_8,.int .i64 a0_9,.int .i64 a0_10,.int .i64 a0_11]) (t:=32) ?hr ?_;(case hd => rfl);(case hg => rfl);(case hr => first | (go_simp;done) | (go_simp;rfl));intro gb695 hg w3 hbox hb;have n0_:=Aside0.mk (below_step (by repeat (first | (with_reducible first | exact HB.out | apply below_alloc | apply pw_below_drewN | apply below_drew1) | exact HB.out)) hb);have n1_:=Aside0.mk (hbox);have n2_:=Aside0.mk ((by rw [hg];exact (below_size (by repeat (first | (with_reducible first | exact HB.out | apply below_alloc | apply pw_below_drewN | apply below_drew1) | exact HB.out))) : w.heap.size ≤ gb695));have n3_:=Aside0.mk ((by rw [hg];exact (below_size (by repeat (first | (with_reducible first | exact HB.out | apply below_alloc | apply pw_below_drewN | apply below_drew1) | exact HB.out))) : w.heap.size ≤ gb695));clear HB;have HB:=n0_;have BK695:=n1_;have GW695:=n2_;have GE695:=n3_;clear n0_ n1_ n2_ n3_;clear hb hbox hg;obtain ⟨hcz4_0,hcz4_1,hcz4_2,hcz4_3,hcz4_4,hcz4_5,hcz4_6,hcz4_7,hcz4_8,hcz4_9,hcz4_10,hcz4_11⟩:=blkc_12 BK695.out;obtain ⟨hfz4_0,hfz4_1,hfz4_2,hfz4_3,hfz4_4,hfz4_5,hfz4_6,hfz4_7,hfz4_8,hfz4_9,hfz4_10⟩:=blkz_11 BK695.out;have hfz4_11:=blk_frozen BK695.out 11) | ((with_reducible refine gate_callee (f:=53) rfl ?_);refine goesL_ (some 5) rfl rfl Try.func53 (by kernel_rfl) rfl #[.agg #[.int .i64 a0_0,.int .i64 a0_1,.int .i64 a0_2,.int .i64 a0_3,.int .i64 a0_4,.int .i64 a0_5,.float .f64 a0_6,.bool a0_7,.slice A0_8 l0_8.length c0_8,.int .i64 a0_9,.int .i64 a0_10,.int .i64 a0_11],.agg #[.int .i64 0,.int .i64 0,.int .i64 0,.int .i64 0,.int .i64 0,.int .i64 0,.float .f64 0,.bool false,.slice none 0 0,.int .i64 0,.int .i64 0,.int .i64 0]] rfl (by (try simp only [List.map_toArray,List.map_cons,List.map_nil]);first | done | rfl | (simp only [List.length_drop,List.length_take];rfl)) ?_;(refine (undorec_Same.calls a0_0 a0_1 a0_2 a0_3 a0_4 a0_5 a0_6 a0_7 _ _ l0_8 a0_9 a0_10 a0_11 0 0 0 0 0 0 0 false _ _ ([] : List Nat) 0 0 0 t696 _ ?side1 ?side2 ?side3 ?side4 A2.out).mono ?_);(case side1 => repeat (first | exact (Kd.C_below HR0_8.out HB.out) | (with_reducible refine Kd.C_alloc ?_ _) | (with_reducible refine Kd.C_drewN ?_ _) | (with_reducible refine Kd.C_drew ?_)));(case side2 => exact HC0_8.out);(case side3 => exact Kd.C_nil _ _);(case side4 => exact Nat.le_refl _);rintro e w5 ⟨rfl,hb⟩;refine ⟨_,rfl,?_⟩;have n0_:=Aside0.mk (blk_below (g:=gb695) (o:=.cells #[.int .i64 a0_0,.int .i64 a0_1,.int .i64 a0_2,.int .i64 a0_3,.int .i64 a0_4,.int .i64 a0_5,.float .f64 a0_6,.bool a0_7,.slice A0_8 l0_8.length c0_8,.int .i64 a0_9,.int .i64 a0_10,.int .i64 a0_11] 32 (0,0)) (by (with_reducible repeat (first | refine blk_drewN ?_ _ | refine blk_drew ?_ | refine blk_alloc ?_ _));exact BK695.out) hb);have n1_:=Aside0.mk (below_step (by repeat (first | (with_reducible first | exact HB.out | apply below_alloc | apply pw_below_drewN | apply below_drew1 | refine below_set ?_ GE695.out) | exact HB.out)) hb);clear BK695;clear HB;have BK695:=n0_;have HB:=n1_;clear n0_ n1_;(try clear hb);(try clear hb2);(try clear hk);(try clear hi)))
 go_ret
 exact ⟨by first | rfl | (simp [errW_none,errW_some] <;> rfl) | (simp [*,errW_none,errW_some] <;> rfl),by repeat (first | (with_reducible first | exact HB.out | apply below_alloc | apply pw_below_drewN | apply below_drew1 | refine below_set ?_ GE695.out) | exact HB.out)⟩
end Go.Proofs.Ytdcllbhkjcdnoaa.P
