/- Put together by wip/prune.py out of this claim's texts. -/
import Derived.Deep.LoopGhost
import Derived.Outline
import Derived.Test.YtdcllbhkjcdnoaaMRowSums2
import Derived.Test.YtdcllbhkjcdnoaaMRowSums5
import Derived.Test.YtdcllbhkjcdnoaaMRowSums7
import Derived.Test.YtdcllbhkjcdnoaaMRowSums8
import Derived.Test.YtdcllbhkjcdnoaaMRowSums9
import Derived.Test.YtdcllbhkjcdnoaaMRowSums15
set_option linter.unusedVariables false
set_option linter.unusedSimpArgs false
namespace Go.Proofs.Ytdcllbhkjcdnoaa.P
open Go.RowKit Go.Proofs.Ytdcllbhkjcdnoaa Go.Proofs.Ytdcllbhkjcdnoaa.Mem Go.Proofs.YtdcllbhkjcdnoaaW.PrintWords Go.Proofs.YtdcllbhkjcdnoaaW.PrintLast Go.Proofs.YtdcllbhkjcdnoaaW.PrintMore
theorem infoF : (Try.prog.info? 25).map (fun i => (i.zero, i.size, i.bytes)) = some (some (.float .f64 0), 1, 8) := by kernel_rfl
theorem nilF0 (d : Nat) (A : Option Addr) (n c : Nat) (w : World) : (Op.equalIn (d + 1) 26 (.slice A n c) (.slice none 0 0)).run Try.prog w = .ok A.isNone w := by
  cases A <;> simp [Op.equalIn, run_underlying Try.underlying26]
theorem nilF (A : Option Addr) (n c : Nat) (w : World) : (binOp BinOp.eql 26 (.slice A n c) (.slice none 0 0)).run Try.prog w = .ok (.bool A.isNone) w := by
  have hh : (Op.equal 26 (.slice A n c) (.slice none 0 0)).run Try.prog w = .ok A.isNone w := nilF0 9999 A n c w
  simp [binOp, go_sem, hh]
theorem C_none {α : Type} {d : Kd α} {w : World} {n : Nat} {l : List α} (h : Kd.C d w none n l) : l = [] := by
  rcases Nat.eq_zero_or_pos n with h0 | hp
  · exact List.eq_nil_of_length_eq_zero (h.1.trans h0)
  · obtain ⟨ad, e, _⟩ := h.2.2 hp; cases e
def slices_Clone_float64_float64.f (l0 : List Nat) : Option (List Nat) := if l0.length ≤ 1000000 then some l0 else none
set_option maxRecDepth 100000 in
theorem slices_Clone_float64_float64.calls (A0 : Option Addr) (c0 : Nat) (l0 : List Nat) (r : List Nat) (w : World) (hr0 : Kd.C Kd.f64 w A0 l0.length l0) (hc0 : l0.length ≤ c0) (h : slices_Clone_float64_float64.f l0 = some r) :
    Calls Try.prog 79 #[.slice A0 l0.length c0] w fun e w' => ∃ v0_ : Value, e = .returned v0_ ∧ Kd.R Kd.f64 25 w' w.heap.size (fun _ => True) v0_ r ∧ Below w.heap.size w w' := by
  unfold slices_Clone_float64_float64.f at h
  split at h
  rotate_left
  · cases h
  rename_i hl
  injection h with h
  subst h
  have HB := Lib.hid (Below.refl w.heap.size w)
  have HR := Lib.hid hr0
  clear hr0
  cases A0 with
  | none =>
    obtain rfl := C_none HR.out
    have hnil := nilF none 0 c0
    simp only [Option.isNone_none] at hnil
    rw [show ([] : List Nat).length = 0 from rfl]
    go_enter Try.func79, Try.ntmps79
    go_wp2
    go_ret
    exact ⟨_, rfl, Kd.R_nil _ _ _ _ _, HB.out⟩
  | some ad =>
    have hnil := nilF (some ad) l0.length c0
    simp only [Option.isNone_some] at hnil
    go_enter Try.func79, Try.ntmps79
    go_wp2_with (first | ((with_reducible refine gate_dst (N := 5) rfl ?_); refine Kd.R_lit (Kd.f64) _ 25 ?hg (N := 5) ?hd (xs := []) (inner := []) (ok := fun _ => True) (okp := fun _ => True) ?hr ?hp (fun _ hk => hk) trivial (Below.refl _ _) (Nat.le_refl _) (by simp) ?_; (case hd => rfl); (case hg => rfl); (case hr => first | (go_simp; done) | (go_simp; rfl)); (case hp => exact Reps.none _ _); intro v5 w5 ho hb hg_ hnew_; have HG5 := Lib.hid hg_; have HNEW5 := Lib.hid hnew_; clear hg_ hnew_; have HO5 := Lib.hid (Kd.R_lower ho (below_size (by repeat (first | (with_reducible first | exact HB.out | apply below_alloc | apply pw_below_drewN | apply below_drew1) | exact HB.out)))); have HB := Lib.hid (below_step (by repeat (first | (with_reducible first | exact HB.out | apply below_alloc | apply pw_below_drewN | apply below_drew1) | exact HB.out)) hb); clear ho hb) | ((with_reducible refine gate_builtin (b := .append) (xs := #[.tmp 5, .tmp 6]) rfl ?_); at_builtin; refine Kd.R_append_rows Kd.f64 (w0 := w) w.heap.size rfl (.tmp 5) (.tmp 6) 26 25 (.float .f64 0) 8 rfl Try.underlying26 infoF rfl (by decide) (by omega) v5 [] l0 _ _ _ (fun _ => True) (fun _ => False) rfl rfl (by (with_reducible repeat (first | apply Kd.R_alloc | apply Kd.R_drewN | apply Kd.R_drew)); exact HO5.out) (Kd.C_below HR.out (by repeat (first | (with_reducible first | exact HB.out | apply below_alloc | apply pw_below_drewN | apply below_drew1) | exact HB.out))) (fun _ _ h => h) (fun _ h => h.elim) (fun _ _ => trivial) (by repeat (first | (with_reducible first | exact HB.out | apply below_alloc | apply pw_below_drewN | apply below_drew1) | exact HB.out)) (below_size (by repeat (first | (with_reducible first | exact HB.out | apply below_alloc | apply pw_below_drewN | apply below_drew1) | exact HB.out))) ?aL ?_; (case aL => rw [List.length_nil]; omega); intro v7 w7 ho hb hg hat; clear hg hat; rw [List.nil_append] at ho; have HO7 := Lib.hid ho; have HB := Lib.hid hb; clear ho hb))
    go_ret
    exact ⟨_, rfl, HO7.out, HB.out⟩
end Go.Proofs.Ytdcllbhkjcdnoaa.P
namespace Go.Proofs.Ytdcllbhkjcdnoaa.P
open Go.RowKit Go.Proofs.YtdcllbhkjcdnoaaW.PrintWords Go.Proofs.YtdcllbhkjcdnoaaW.PrintLast Go.Proofs.YtdcllbhkjcdnoaaW.PrintMore
attribute [local go_sem] max2_int min2_int max_two min_two max_three min_three max_four min_four   -- for this text's walks alone
attribute [local go_sem] run_store_float
set_option linter.unusedVariables false
set_option linter.unusedSimpArgs false
def row_Plus.j0 : Nat → Nat → Bool → Nat → Bool → List Nat → Int → Int → Int → Option (Nat × Bool × List Nat × Int × Int × Int × Int)
  | 0,_,_,_,_,_,_,_,_ => none
  | k + 1,x1,x14,x529000,x529001,x529002,x529003,x529004,x529005 => if x14 = true then (some (0,false,([] : List Nat),0,0,0,1)) else ((slices_Clone_float64_float64.f x529002).bind fun t531 => (if 0 < (t531.length : Int) then ((num_Add.f (rdF t531 0) x1).bind fun t535 => (some (x529000,x529001,(t531.set (0 : Int).toNat t535),x529003,x529004,x529005,0))) else (none)))
def row_Plus.f (k : Nat) (a0_0 : Nat) (a0_1 : Bool) (l0_2 : List Nat) (a0_3 : Int) (a0_4 : Int) (a0_5 : Int) (a1 : Nat) : Option (Nat × Bool × List Nat × Int × Int × Int × Int):=(row_Check.f k a0_0 a0_1 l0_2 a0_3 a0_4 a0_5).bind fun t530 => (if t530 = 0 then (row_Plus.j0 k a1 ((l0_2.length : Int) == 0) a0_0 a0_1 l0_2 a0_3 a0_4 a0_5) else (row_Plus.j0 k a1 true a0_0 a0_1 l0_2 a0_3 a0_4 a0_5))
def row_Plus.T4 : Bool × List (List Nat × List Nat):=(true,[([],[]),([0],[0]),([],[]),([2],[2]),([3],[3]),([4],[4]),([],[]),([5,6],[5,6]),([1,0,1,2,3,4,5,6,7],[1]),([8,7,7,0,1,2,3,4,5,6,7],[7,8])])
def row_Plus.B4 : List Nat:=[0,1,0,4,12,28,0,124,255,511]
theorem row_Plus.tab4 : rtab .any (opsOf Try.f41 4) = row_Plus.T4:=by kernel_rfl
theorem row_Plus.bits4 : waitsOk row_Plus.T4.2 row_Plus.B4 = true:=by kernel_rfl
set_option maxHeartbeats 8000000 in
set_option maxRecDepth 100000 in
theorem row_Plus.calls (k : Nat) (a0_0 : Nat) (a0_1 : Bool) (A0_2 : Option Addr) (c0_2 : Nat) (l0_2 : List Nat) (a0_3 : Int) (a0_4 : Int) (a0_5 : Int) (a1 : Nat) (r1 : Nat) (r2 : Bool) (r3 : List Nat) (r4 : Int) (r5 : Int) (r6 : Int) (r7 : Int) (w : World) (hr0_2 : Kd.C Kd.f64 w A0_2 l0_2.length l0_2) (hc0_2 : l0_2.length ≤ c0_2) (h : row_Plus.f k a0_0 a0_1 l0_2 a0_3 a0_4 a0_5 a1 = some (r1,r2,r3,r4,r5,r6,r7)) :
    Calls Try.prog 41 #[.agg #[.float .f64 a0_0,.bool a0_1,.slice A0_2 l0_2.length c0_2,.int .i64 a0_3,.int .i64 a0_4,.int .i64 a0_5],.float .f64 a1] w fun e w' => ∃ v2_ : Value,e = .returned (.tuple #[.agg #[.float .f64 r1,.bool r2,v2_,.int .i64 r4,.int .i64 r5,.int .i64 r6],.int .i64 r7]) ∧ Kd.R Kd.f64 25 w' w.heap.size (fun _ => True) v2_ r3 ∧ Below w.heap.size w w':=by
  have hu30:=Try.underlying30
  have HR0_2:=Aside0.mk hr0_2
  have HC0_2:=Aside0.mk hc0_2
  clear hr0_2 hc0_2
  have HB:=Aside0.mk (Below.refl w.heap.size w)
  have H : ((row_Check.f k a0_0 a0_1 l0_2 a0_3 a0_4 a0_5).bind fun t530 => (if t530 = 0 then (row_Plus.j0 k a1 ((l0_2.length : Int) == 0) a0_0 a0_1 l0_2 a0_3 a0_4 a0_5) else (row_Plus.j0 k a1 true a0_0 a0_1 l0_2 a0_3 a0_4 a0_5))) = some (r1,r2,r3,r4,r5,r6,r7):=h
  clear h
  have HC3:=Aside0.mk H
  clear H
  go_enter Try.func41,Try.ntmps41
  go_upto_region 1 with (first | ((with_reducible refine gate_dst (N:=2) rfl ?_);(try (refine gate_guard (by rfl) ?_;dsimp only));refine box_event ?hg (N:=2) ?hd (cs:=#[.float .f64 a0_0,.bool a0_1,.slice A0_2 l0_2.length c0_2,.int .i64 a0_3,.int .i64 a0_4,.int .i64 a0_5]) (t:=30) ?hr ?_;(case hd => rfl);(case hg => rfl);(case hr => first | (go_simp;done) | (go_simp;rfl));intro gb528 hg w4 hbox hb;have n0_:=Aside0.mk (below_step (by repeat (first | (with_reducible first | exact HB.out | apply below_alloc | apply pw_below_drewN | apply below_drew1) | exact HB.out)) hb);have n1_:=Aside0.mk (hbox);have n2_:=Aside0.mk ((by rw [hg];exact (below_size (by repeat (first | (with_reducible first | exact HB.out | apply below_alloc | apply pw_below_drewN | apply below_drew1) | exact HB.out))) : w.heap.size ≤ gb528));have n3_:=Aside0.mk ((by rw [hg];exact (below_size (by repeat (first | (with_reducible first | exact HB.out | apply below_alloc | apply pw_below_drewN | apply below_drew1) | exact HB.out))) : w.heap.size ≤ gb528));clear HB;have HB:=n0_;have BK528:=n1_;have GW528:=n2_;have GE528:=n3_;clear n0_ n1_ n2_ n3_;clear hb hbox hg) | ((with_reducible refine gate_dst (N:=4) rfl ?_);(try (refine gate_guard (by rfl) ?_;dsimp only));refine box_event ?hg (N:=4) ?hd (cs:=#[.float .f64 0,.bool false,.slice none 0 0,.int .i64 0,.int .i64 0,.int .i64 0]) (t:=30) ?hr ?_;(case hd => rfl);(case hg => rfl);(case hr => first | (go_simp;done) | (go_simp;rfl));intro gb529 hg w5 hbox hb;have n0_:=Aside0.mk (blk_below (g:=gb528) (o:=.cells #[.float .f64 a0_0,.bool a0_1,.slice A0_2 l0_2.length c0_2,.int .i64 a0_3,.int .i64 a0_4,.int .i64 a0_5] 30 (0,0)) (by (with_reducible repeat (first | refine blk_drewN ?_ _ | refine blk_drew ?_ | refine blk_alloc ?_ _));exact BK528.out) hb);have n1_:=Aside0.mk (below_step (by repeat (first | (with_reducible first | exact HB.out | apply below_alloc | apply pw_below_drewN | apply below_drew1 | refine below_set ?_ GE528.out) | exact HB.out)) hb);have n2_:=Aside0.mk (hbox);have n3_:=Aside0.mk ((by rw [hg];exact (below_size (by repeat (first | (with_reducible first | exact HB.out | apply below_alloc | apply pw_below_drewN | apply below_drew1 | refine below_set ?_ GE528.out) | exact HB.out))) : w.heap.size ≤ gb529));have n4_:=Aside0.mk ((by rw [hg];exact (below_size (by repeat (first | (with_reducible first | exact HB.out | apply below_alloc | apply pw_below_drewN | apply below_drew1 | refine below_set ?_ GE528.out) | exact HB.out))) : w.heap.size ≤ gb529));have n5_:=Aside0.mk ((by rw [hg];exact Nat.ne_of_lt (blk_lt (g:=gb528) (o:=.cells #[.float .f64 a0_0,.bool a0_1,.slice A0_2 l0_2.length c0_2,.int .i64 a0_3,.int .i64 a0_4,.int .i64 a0_5] 30 (0,0)) (by (with_reducible repeat (first | refine blk_drewN ?_ _ | refine blk_drew ?_ | refine blk_alloc ?_ _));exact BK528.out)) : gb528 ≠ gb529));have n6_:=Aside0.mk ((by rw [hg];exact Nat.ne_of_gt (blk_lt (g:=gb528) (o:=.cells #[.float .f64 a0_0,.bool a0_1,.slice A0_2 l0_2.length c0_2,.int .i64 a0_3,.int .i64 a0_4,.int .i64 a0_5] 30 (0,0)) (by (with_reducible repeat (first | refine blk_drewN ?_ _ | refine blk_drew ?_ | refine blk_alloc ?_ _));exact BK528.out)) : gb529 ≠ gb528));clear BK528;clear HB;have BK528:=n0_;have HB:=n1_;have BK529:=n2_;have GW529:=n3_;have GE529:=n4_;have NB528_529:=n5_;have NB529_528:=n6_;clear n0_ n1_ n2_ n3_ n4_ n5_ n6_;clear hb hbox hg))
  (try simp only [Act.put,List.setIfInBounds_toArray,List.set_cons_zero,List.set_cons_succ])
  go_cut [14] (fun v14 wc => ∃ (kq : Nat) (x14_2 : Bool),v14 = .bool x14_2 ∧ Aside0 (row_Plus.j0 kq a1 x14_2 a0_0 a0_1 l0_2 a0_3 a0_4 a0_5 = some (r1,r2,r3,r4,r5,r6,r7)) ∧ Aside0 (kq ≤ k) ∧ Aside0 (wc.heap[gb528]? = some (.cells #[.float .f64 a0_0,.bool a0_1,(.slice A0_2 l0_2.length c0_2),.int .i64 a0_3,.int .i64 a0_4,.int .i64 a0_5] 30 (0,0))) ∧ Aside0 (wc.heap[gb529]? = some (.cells #[.float .f64 0,.bool false,(.slice none 0 0),.int .i64 0,.int .i64 0,.int .i64 0] 30 (0,0))) ∧ Aside0 (Below w.heap.size w wc))
  case first =>
    have H:=HC3.out
    clear HC3
    replace H:=Option.bind_eq_some_iff.mp H
    obtain ⟨t530,A60,H⟩:=H
    replace H : (if t530 = 0 then (row_Plus.j0 k a1 ((l0_2.length : Int) == 0) a0_0 a0_1 l0_2 a0_3 a0_4 a0_5) else (row_Plus.j0 k a1 true a0_0 a0_1 l0_2 a0_3 a0_4 a0_5)) = some (r1,r2,r3,r4,r5,r6,r7):=H
    have A6:=Aside0.mk A60
    clear A60
    by_cases c7 : t530 = 0
    · rw [if_pos c7] at H
      have c7b0 : (t530 == 0) = true:=beq_iff_eq.mpr c7
      have c7b1 : (t530 != 0) = false:=bne_eq_false_iff_eq.mpr c7
      clear c7
      (first | rw [c7b0] | (simp only [i64_w,i32_w];rw [c7b0]) | skip)
      have H':=Aside0.mk H
      clear H
      have hnb8:=NB528_529.out
      have hnc8:=NB529_528.out
      have hcz9_0 : w5.cell? ⟨gb528,0,none⟩ = some (.float .f64 a0_0):=(blk_cell BK528.out 0).trans rfl
      have hcz9_1 : w5.cell? ⟨gb528,1,none⟩ = some (.bool a0_1):=(blk_cell BK528.out 1).trans rfl
      have hcz9_2 : w5.cell? ⟨gb528,2,none⟩ = some (.slice A0_2 l0_2.length c0_2):=(blk_cell BK528.out 2).trans rfl
      have hcz9_3 : w5.cell? ⟨gb528,3,none⟩ = some (.int .i64 a0_3):=(blk_cell BK528.out 3).trans rfl
      have hcz9_4 : w5.cell? ⟨gb528,4,none⟩ = some (.int .i64 a0_4):=(blk_cell BK528.out 4).trans rfl
      have hcz9_5 : w5.cell? ⟨gb528,5,none⟩ = some (.int .i64 a0_5):=(blk_cell BK528.out 5).trans rfl
      have hfz9_0:=blk_frozen BK528.out 0
      have hfz9_1:=blk_frozen BK528.out 1
      have hfz9_2:=blk_frozen BK528.out 2
      have hfz9_3:=blk_frozen BK528.out 3
      have hfz9_4:=blk_frozen BK528.out 4
      have hfz9_5:=blk_frozen BK528.out 5
      go_wp2_with (first | ((with_reducible refine gate_callee (f:=33) rfl ?_);refine goesL_ (some 7) rfl rfl Try.func33 (by kernel_rfl) rfl #[.agg #[.float .f64 a0_0,.bool a0_1,.slice A0_2 l0_2.length c0_2,.int .i64 a0_3,.int .i64 a0_4,.int .i64 a0_5]] rfl (by (try simp only [List.map_toArray,List.map_cons,List.map_nil]);first | done | rfl | (simp only [List.length_drop,List.length_take];rfl)) ?_;(with_reducible refine (row_Check.calls k a0_0 a0_1 _ _ l0_2 a0_3 a0_4 a0_5 t530 _ ?side1 ?side2 A6.out).mono ?_);(case side1 => repeat (first | exact (Kd.C_below HR0_2.out HB.out) | (with_reducible refine Kd.C_alloc ?_ _) | (with_reducible refine Kd.C_drewN ?_ _) | (with_reducible refine Kd.C_drew ?_)));(case side2 => exact HC0_2.out);rintro e w10 ⟨rfl,hb⟩;refine ⟨_,rfl,?_⟩;have n0_:=Aside0.mk (blk_below (g:=gb528) (o:=.cells #[.float .f64 a0_0,.bool a0_1,.slice A0_2 l0_2.length c0_2,.int .i64 a0_3,.int .i64 a0_4,.int .i64 a0_5] 30 (0,0)) (by (with_reducible repeat (first | refine blk_drewN ?_ _ | refine blk_drew ?_ | refine blk_alloc ?_ _));exact BK528.out) hb);have n1_:=Aside0.mk (blk_below (g:=gb529) (o:=.cells #[.float .f64 0,.bool false,.slice none 0 0,.int .i64 0,.int .i64 0,.int .i64 0] 30 (0,0)) (by (with_reducible repeat (first | refine blk_drewN ?_ _ | refine blk_drew ?_ | refine blk_alloc ?_ _));exact BK529.out) hb);have n2_:=Aside0.mk (below_step (by repeat (first | (with_reducible first | exact HB.out | apply below_alloc | apply pw_below_drewN | apply below_drew1 | refine below_set ?_ GE528.out | refine below_set ?_ GE529.out) | exact HB.out)) hb);clear BK528;clear BK529;clear HB;have BK528:=n0_;have BK529:=n1_;have HB:=n2_;clear n0_ n1_ n2_;(try clear hb);(try clear hb2);(try clear hk);(try clear hi);have hcz11_0 : w10.cell? ⟨gb528,0,none⟩ = some (.float .f64 a0_0):=(blk_cell BK528.out 0).trans rfl;have hcz11_1 : w10.cell? ⟨gb528,1,none⟩ = some (.bool a0_1):=(blk_cell BK528.out 1).trans rfl;have hcz11_2 : w10.cell? ⟨gb528,2,none⟩ = some (.slice A0_2 l0_2.length c0_2):=(blk_cell BK528.out 2).trans rfl;have hcz11_3 : w10.cell? ⟨gb528,3,none⟩ = some (.int .i64 a0_3):=(blk_cell BK528.out 3).trans rfl;have hcz11_4 : w10.cell? ⟨gb528,4,none⟩ = some (.int .i64 a0_4):=(blk_cell BK528.out 4).trans rfl;have hcz11_5 : w10.cell? ⟨gb528,5,none⟩ = some (.int .i64 a0_5):=(blk_cell BK528.out 5).trans rfl;have hfz11_0:=blk_frozen BK528.out 0;have hfz11_1:=blk_frozen BK528.out 1;have hfz11_2:=blk_frozen BK528.out 2;have hfz11_3:=blk_frozen BK528.out 3;have hfz11_4:=blk_frozen BK528.out 4;have hfz11_5:=blk_frozen BK528.out 5))
      go_meet
      case rel => exact ⟨_,(((l0_2.length : Int) == 0)),(by first | rfl | (simp;done) | (simp [*];done)),H',⟨by first | omega | exact Nat.le_refl _⟩,⟨by (with_reducible repeat (first | refine blk_drewN ?_ _ | refine blk_drew ?_ | refine blk_alloc ?_ _));exact BK528.out⟩,⟨by (with_reducible repeat (first | refine blk_drewN ?_ _ | refine blk_drew ?_ | refine blk_alloc ?_ _));exact BK529.out⟩,⟨by repeat (first | (with_reducible first | exact HB.out | apply below_alloc | apply pw_below_drewN | apply below_drew1 | refine below_set ?_ GE528.out | refine below_set ?_ GE529.out) | exact HB.out)⟩⟩
    · rw [if_neg c7] at H
      have c7b0 : (t530 == 0) = false:=beq_eq_false_iff_ne.mpr c7
      have c7b1 : (t530 != 0) = true:=bne_iff_ne.mpr c7
      (first | rw [c7b0] | (simp only [i64_w,i32_w];rw [c7b0]) | skip)
      have H':=Aside0.mk H
      clear H
      have hnb12:=NB528_529.out
      have hnc12:=NB529_528.out
      have hcz13_0 : w5.cell? ⟨gb528,0,none⟩ = some (.float .f64 a0_0):=(blk_cell BK528.out 0).trans rfl
      have hcz13_1 : w5.cell? ⟨gb528,1,none⟩ = some (.bool a0_1):=(blk_cell BK528.out 1).trans rfl
      have hcz13_2 : w5.cell? ⟨gb528,2,none⟩ = some (.slice A0_2 l0_2.length c0_2):=(blk_cell BK528.out 2).trans rfl
      have hcz13_3 : w5.cell? ⟨gb528,3,none⟩ = some (.int .i64 a0_3):=(blk_cell BK528.out 3).trans rfl
      have hcz13_4 : w5.cell? ⟨gb528,4,none⟩ = some (.int .i64 a0_4):=(blk_cell BK528.out 4).trans rfl
      have hcz13_5 : w5.cell? ⟨gb528,5,none⟩ = some (.int .i64 a0_5):=(blk_cell BK528.out 5).trans rfl
      have hfz13_0:=blk_frozen BK528.out 0
      have hfz13_1:=blk_frozen BK528.out 1
      have hfz13_2:=blk_frozen BK528.out 2
      have hfz13_3:=blk_frozen BK528.out 3
      have hfz13_4:=blk_frozen BK528.out 4
      have hfz13_5:=blk_frozen BK528.out 5
      go_wp2_with (first | ((with_reducible refine gate_callee (f:=33) rfl ?_);refine goesL_ (some 7) rfl rfl Try.func33 (by kernel_rfl) rfl #[.agg #[.float .f64 a0_0,.bool a0_1,.slice A0_2 l0_2.length c0_2,.int .i64 a0_3,.int .i64 a0_4,.int .i64 a0_5]] rfl (by (try simp only [List.map_toArray,List.map_cons,List.map_nil]);first | done | rfl | (simp only [List.length_drop,List.length_take];rfl)) ?_;(with_reducible refine (row_Check.calls k a0_0 a0_1 _ _ l0_2 a0_3 a0_4 a0_5 t530 _ ?side1 ?side2 A6.out).mono ?_);(case side1 => repeat (first | exact (Kd.C_below HR0_2.out HB.out) | (with_reducible refine Kd.C_alloc ?_ _) | (with_reducible refine Kd.C_drewN ?_ _) | (with_reducible refine Kd.C_drew ?_)));(case side2 => exact HC0_2.out);rintro e w14 ⟨rfl,hb⟩;refine ⟨_,rfl,?_⟩;have n0_:=Aside0.mk (blk_below (g:=gb528) (o:=.cells #[.float .f64 a0_0,.bool a0_1,.slice A0_2 l0_2.length c0_2,.int .i64 a0_3,.int .i64 a0_4,.int .i64 a0_5] 30 (0,0)) (by (with_reducible repeat (first | refine blk_drewN ?_ _ | refine blk_drew ?_ | refine blk_alloc ?_ _));exact BK528.out) hb);have n1_:=Aside0.mk (blk_below (g:=gb529) (o:=.cells #[.float .f64 0,.bool false,.slice none 0 0,.int .i64 0,.int .i64 0,.int .i64 0] 30 (0,0)) (by (with_reducible repeat (first | refine blk_drewN ?_ _ | refine blk_drew ?_ | refine blk_alloc ?_ _));exact BK529.out) hb);have n2_:=Aside0.mk (below_step (by repeat (first | (with_reducible first | exact HB.out | apply below_alloc | apply pw_below_drewN | apply below_drew1 | refine below_set ?_ GE528.out | refine below_set ?_ GE529.out) | exact HB.out)) hb);clear BK528;clear BK529;clear HB;have BK528:=n0_;have BK529:=n1_;have HB:=n2_;clear n0_ n1_ n2_;(try clear hb);(try clear hb2);(try clear hk);(try clear hi)))
      go_meet
      case rel => exact ⟨_,(true),(by first | rfl | (simp;done) | (simp [*];done)),H',⟨by first | omega | exact Nat.le_refl _⟩,⟨by (with_reducible repeat (first | refine blk_drewN ?_ _ | refine blk_drew ?_ | refine blk_alloc ?_ _));exact BK528.out⟩,⟨by (with_reducible repeat (first | refine blk_drewN ?_ _ | refine blk_drew ?_ | refine blk_alloc ?_ _));exact BK529.out⟩,⟨by repeat (first | (with_reducible first | exact HB.out | apply below_alloc | apply pw_below_drewN | apply below_drew1 | refine below_set ?_ GE528.out | refine below_set ?_ GE529.out) | exact HB.out)⟩⟩
  case rest =>
    clear HC3
    try clear c1
    try clear p2
    try clear c3
    try clear c4
    try clear c7
    try clear c7b0
    try clear c7b1
    try clear c8
    try clear c12
    try clear hcz11_0
    try clear hcz11_1
    try clear hcz11_2
    try clear hcz11_3
    try clear hcz11_4
    try clear hcz11_5
    try clear hcz13_0
    try clear hcz13_1
    try clear hcz13_2
    try clear hcz13_3
    try clear hcz13_4
    try clear hcz13_5
    try clear hcz9_0
    try clear hcz9_1
    try clear hcz9_2
    try clear hcz9_3
    try clear hcz9_4
    try clear hcz9_5
    try clear hfz11_0
    try clear hfz11_1
    try clear hfz11_2
    try clear hfz11_3
    try clear hfz11_4
    try clear hfz11_5
    try clear hfz13_0
    try clear hfz13_1
    try clear hfz13_2
    try clear hfz13_3
    try clear hfz13_4
    try clear hfz13_5
    try clear hfz9_0
    try clear hfz9_1
    try clear hfz9_2
    try clear hfz9_3
    try clear hfz9_4
    try clear hfz9_5
    obtain ⟨kq,x14_2,rfl,HA,HJ2,BK528,BK529,HB⟩:=hcut
    cases kq with
    | zero => exact absurd HA.out (by simp [row_Plus.j0])
    | succ kj2 =>
      have H:=HA.out
      clear HA
      simp only [row_Plus.j0] at H
      by_cases c15 : x14_2 = true
      · subst c15
        have H1 : (some (0,false,([] : List Nat),0,0,0,1)) = some (r1,r2,r3,r4,r5,r6,r7):=by rw [if_pos rfl] at H;exact H
        clear H
        have H:=H1
        clear H1
        simp only [Option.some.injEq,Prod.mk.injEq] at H
        obtain ⟨rfl,rfl,rfl,rfl,rfl,rfl,rfl⟩:=H
        have hnb16:=NB529_528.out
        have hnc16:=NB528_529.out
        have hcz17_0 : wc.cell? ⟨gb529,0,none⟩ = some (.float .f64 0):=(blk_cell BK529.out 0).trans rfl
        have hcz17_1 : wc.cell? ⟨gb529,1,none⟩ = some (.bool false):=(blk_cell BK529.out 1).trans rfl
        have hcz17_2 : wc.cell? ⟨gb529,2,none⟩ = some (.slice none 0 0):=(blk_cell BK529.out 2).trans rfl
        have hcz17_3 : wc.cell? ⟨gb529,3,none⟩ = some (.int .i64 0):=(blk_cell BK529.out 3).trans rfl
        have hcz17_4 : wc.cell? ⟨gb529,4,none⟩ = some (.int .i64 0):=(blk_cell BK529.out 4).trans rfl
        have hcz17_5 : wc.cell? ⟨gb529,5,none⟩ = some (.int .i64 0):=(blk_cell BK529.out 5).trans rfl
        have hfz17_0:=blk_frozen BK529.out 0
        have hfz17_1:=blk_frozen BK529.out 1
        have hfz17_2:=blk_frozen BK529.out 2
        have hfz17_3:=blk_frozen BK529.out 3
        have hfz17_4:=blk_frozen BK529.out 4
        have hfz17_5:=blk_frozen BK529.out 5
        go_wp2
        refine bodyPost_ret (results_ct rfl _ _ gb529 30 #[.float .f64 0,.bool false,.slice none 0 0,.int .i64 0,.int .i64 0,.int .i64 0] (0,0) _ rfl (by (with_reducible repeat (first | refine blk_drewN ?_ _ | refine blk_drew ?_ | refine blk_alloc ?_ _));refine blk_put (cs:=#[.float .f64 0,.bool false,.slice none 0 0,.int .i64 0,.int .i64 0,.int .i64 0]) ?_ 5 _ rfl;(with_reducible repeat (first | refine blk_drewN ?_ _ | refine blk_drew ?_ | refine blk_alloc ?_ _));refine blk_put (cs:=#[.float .f64 0,.bool false,.slice none 0 0,.int .i64 0,.int .i64 0,.int .i64 0]) ?_ 4 _ rfl;(with_reducible repeat (first | refine blk_drewN ?_ _ | refine blk_drew ?_ | refine blk_alloc ?_ _));refine blk_put (cs:=#[.float .f64 0,.bool false,.slice none 0 0,.int .i64 0,.int .i64 0,.int .i64 0]) ?_ 3 _ rfl;(with_reducible repeat (first | refine blk_drewN ?_ _ | refine blk_drew ?_ | refine blk_alloc ?_ _));refine blk_put (cs:=#[.float .f64 0,.bool false,.slice none 0 0,.int .i64 0,.int .i64 0,.int .i64 0]) ?_ 2 _ rfl;(with_reducible repeat (first | refine blk_drewN ?_ _ | refine blk_drew ?_ | refine blk_alloc ?_ _));refine blk_put (cs:=#[.float .f64 0,.bool false,.slice none 0 0,.int .i64 0,.int .i64 0,.int .i64 0]) ?_ 1 _ rfl;(with_reducible repeat (first | refine blk_drewN ?_ _ | refine blk_drew ?_ | refine blk_alloc ?_ _));refine blk_put (cs:=#[.float .f64 0,.bool false,.slice none 0 0,.int .i64 0,.int .i64 0,.int .i64 0]) ?_ 0 _ rfl;(with_reducible repeat (first | refine blk_drewN ?_ _ | refine blk_drew ?_ | refine blk_alloc ?_ _));exact BK529.out) Try.underlying30 rfl (by kernel_rfl)) rfl ?_
        exact ⟨_,by first | rfl | (simp [errW_none,errW_some] <;> rfl) | (simp [*,errW_none,errW_some] <;> rfl),by first | exact Kd.R_nil _ _ _ _ _ | exact Kd.N_nil _ _ _ _ _ | exact Kd.V_nil _ _ _ _ _ | exact Kd.Q_nil _ _ _ _ _ | exact Kd.S_nil _ _ _ _ _,by repeat (first | (with_reducible first | exact HB.out | apply below_alloc | apply pw_below_drewN | apply below_drew1 | refine below_set ?_ GE528.out | refine below_set ?_ GE529.out) | exact HB.out)⟩
      · replace c15:=Bool.eq_false_iff.mpr c15
        subst c15
        have H1 : ((slices_Clone_float64_float64.f l0_2).bind fun t531 => (if 0 < (t531.length : Int) then ((num_Add.f (rdF t531 0) a1).bind fun t535 => (some (a0_0,a0_1,(t531.set (0 : Int).toNat t535),a0_3,a0_4,a0_5,0))) else (none))) = some (r1,r2,r3,r4,r5,r6,r7):=by rw [if_neg (show ¬ (false = true) by decide)] at H;exact H
        clear H
        have H:=H1
        clear H1
        replace H:=Option.bind_eq_some_iff.mp H
        obtain ⟨t531,A180,H⟩:=H
        replace H : (if 0 < (t531.length : Int) then ((num_Add.f (rdF t531 0) a1).bind fun t535 => (some (a0_0,a0_1,(t531.set (0 : Int).toNat t535),a0_3,a0_4,a0_5,0))) else (none)) = some (r1,r2,r3,r4,r5,r6,r7):=H
        have A18:=Aside0.mk A180
        clear A180
        by_cases c19 : 0 < (t531.length : Int)
        · rw [if_pos c19] at H
          have c19b0 : decide (0 < (t531.length : Int)) = true:=decide_eq_true c19
          have c19b1 : decide (0 < t531.length) = true:=decide_eq_true (by omega)
          clear c19
          replace H:=Option.bind_eq_some_iff.mp H
          obtain ⟨t535,A200,H⟩:=H
          replace H : (some (a0_0,a0_1,(t531.set (0 : Int).toNat t535),a0_3,a0_4,a0_5,0)) = some (r1,r2,r3,r4,r5,r6,r7):=H
          have A20:=Aside0.mk A200
          clear A200
          obtain ⟨y536,hy536⟩ : ∃ y_ : List Nat,y_ = (t531.set (0 : Int).toNat t535):=⟨_,rfl⟩
          replace H : (some (a0_0,a0_1,y536,a0_3,a0_4,a0_5,0)) = some (r1,r2,r3,r4,r5,r6,r7):=by first | (rw [hy536];with_reducible exact H) | (have H2_:=(Option.bind_some _ _).symm.trans H;rw [hy536];with_reducible exact H2_) | (have H2_:=(Option.bind_some _ _).symm.trans H;with_reducible exact H2_) | with_reducible exact H | (rw [hy536];exact H) | exact H
          have Ny536:=Aside0.mk hy536
          clear hy536
          simp only [Option.some.injEq,Prod.mk.injEq] at H
          obtain ⟨rfl,rfl,rfl,rfl,rfl,rfl,rfl⟩:=H
          have hnb22:=NB528_529.out
          have hnc22:=NB529_528.out
          have hcz23_0 : wc.cell? ⟨gb528,0,none⟩ = some (.float .f64 a0_0):=(blk_cell BK528.out 0).trans rfl
          have hcz23_1 : wc.cell? ⟨gb528,1,none⟩ = some (.bool a0_1):=(blk_cell BK528.out 1).trans rfl
          have hcz23_2 : wc.cell? ⟨gb528,2,none⟩ = some (.slice A0_2 l0_2.length c0_2):=(blk_cell BK528.out 2).trans rfl
          have hcz23_3 : wc.cell? ⟨gb528,3,none⟩ = some (.int .i64 a0_3):=(blk_cell BK528.out 3).trans rfl
          have hcz23_4 : wc.cell? ⟨gb528,4,none⟩ = some (.int .i64 a0_4):=(blk_cell BK528.out 4).trans rfl
          have hcz23_5 : wc.cell? ⟨gb528,5,none⟩ = some (.int .i64 a0_5):=(blk_cell BK528.out 5).trans rfl
          have hfz23_0:=blk_frozen BK528.out 0
          have hfz23_1:=blk_frozen BK528.out 1
          have hfz23_2:=blk_frozen BK528.out 2
          have hfz23_3:=blk_frozen BK528.out 3
          have hfz23_4:=blk_frozen BK528.out 4
          have hfz23_5:=blk_frozen BK528.out 5
          try go_wp2_with (first | ((with_reducible refine gate_callee (f:=79) rfl ?_);refine goesL_ (some 18) rfl rfl Try.func79 (by kernel_rfl) rfl #[.slice A0_2 l0_2.length c0_2] rfl (by (try simp only [List.map_toArray,List.map_cons,List.map_nil]);first | done | rfl | (simp only [List.length_drop,List.length_take];rfl)) ?_;(with_reducible refine (slices_Clone_float64_float64.calls _ _ l0_2 t531 _ ?side1 ?side2 A18.out).mono ?_);(case side1 => repeat (first | exact (Kd.C_below HR0_2.out HB.out) | (with_reducible refine Kd.C_alloc ?_ _) | (with_reducible refine Kd.C_drewN ?_ _) | (with_reducible refine Kd.C_drew ?_)));(case side2 => exact HC0_2.out);rintro e w24 ⟨v532,rfl,ho0,hb⟩;refine ⟨_,rfl,?_⟩;have n0_:=Aside0.mk (Kd.R_lower ho0 (below_size (by repeat (first | (with_reducible first | exact HB.out | apply below_alloc | apply pw_below_drewN | apply below_drew1 | refine below_set ?_ GE528.out | refine below_set ?_ GE529.out) | exact HB.out))));have n1_:=Aside0.mk (blk_below (g:=gb528) (o:=.cells #[.float .f64 a0_0,.bool a0_1,.slice A0_2 l0_2.length c0_2,.int .i64 a0_3,.int .i64 a0_4,.int .i64 a0_5] 30 (0,0)) (by (with_reducible repeat (first | refine blk_drewN ?_ _ | refine blk_drew ?_ | refine blk_alloc ?_ _));exact BK528.out) hb);have n2_:=Aside0.mk (blk_below (g:=gb529) (o:=.cells #[.float .f64 0,.bool false,.slice none 0 0,.int .i64 0,.int .i64 0,.int .i64 0] 30 (0,0)) (by (with_reducible repeat (first | refine blk_drewN ?_ _ | refine blk_drew ?_ | refine blk_alloc ?_ _));exact BK529.out) hb);have n3_:=Aside0.mk (below_step (by repeat (first | (with_reducible first | exact HB.out | apply below_alloc | apply pw_below_drewN | apply below_drew1 | refine below_set ?_ GE528.out | refine below_set ?_ GE529.out) | exact HB.out)) hb);clear BK528;clear BK529;clear HB;have HO533:=n0_;have BK528:=n1_;have BK529:=n2_;have HB:=n3_;clear n0_ n1_ n2_ n3_;(try clear hb);(try clear hb2);(try clear hk);(try clear hi);(try clear ho0);obtain ⟨Ao25,co25,eo25⟩:=Kd.R_slice HO533.out;subst eo25;have hcz26_0 : w24.cell? ⟨gb528,0,none⟩ = some (.float .f64 a0_0):=(blk_cell BK528.out 0).trans rfl;have hcz26_1 : w24.cell? ⟨gb528,1,none⟩ = some (.bool a0_1):=(blk_cell BK528.out 1).trans rfl;have hcz26_2 : w24.cell? ⟨gb528,2,none⟩ = some (.slice A0_2 l0_2.length c0_2):=(blk_cell BK528.out 2).trans rfl;have hcz26_3 : w24.cell? ⟨gb528,3,none⟩ = some (.int .i64 a0_3):=(blk_cell BK528.out 3).trans rfl;have hcz26_4 : w24.cell? ⟨gb528,4,none⟩ = some (.int .i64 a0_4):=(blk_cell BK528.out 4).trans rfl;have hcz26_5 : w24.cell? ⟨gb528,5,none⟩ = some (.int .i64 a0_5):=(blk_cell BK528.out 5).trans rfl;have hfz26_0:=blk_frozen BK528.out 0;have hfz26_1:=blk_frozen BK528.out 1;have hfz26_2:=blk_frozen BK528.out 2;have hfz26_3:=blk_frozen BK528.out 3;have hfz26_4:=blk_frozen BK528.out 4;have hfz26_5:=blk_frozen BK528.out 5))
          have n0_ : Aside0 (Kd.R Kd.f64 25 (w24.setCell ⟨gb528,2,none⟩ (.slice Ao25 t531.length co25)) w.heap.size (fun _ => True) (.slice Ao25 t531.length co25) t531):=⟨by (with_reducible repeat (first | apply Kd.R_alloc | apply Kd.R_drewN | apply Kd.R_drew));exact Kd.R_mono (Kd.R_far (p:=⟨gb528,2,none⟩) (Kd.R_types HO533.out BK528.out (by decide)) (fun _ hk => hk.2) (.slice Ao25 t531.length co25)) (fun _ hk => trivial)⟩
          have n1_ : Aside0 ((w24.setCell ⟨gb528,2,none⟩ (.slice Ao25 t531.length co25)).heap[gb528]? = some (.cells #[.float .f64 a0_0,.bool a0_1,.slice Ao25 t531.length co25,.int .i64 a0_3,.int .i64 a0_4,.int .i64 a0_5] 30 (0,0))):=⟨by (with_reducible repeat (first | refine blk_drewN ?_ _ | refine blk_drew ?_ | refine blk_alloc ?_ _));refine blk_put (cs:=#[.float .f64 a0_0,.bool a0_1,.slice A0_2 l0_2.length c0_2,.int .i64 a0_3,.int .i64 a0_4,.int .i64 a0_5]) ?_ 2 _ rfl;(with_reducible repeat (first | refine blk_drewN ?_ _ | refine blk_drew ?_ | refine blk_alloc ?_ _));exact BK528.out⟩
          have n2_ : Aside0 ((w24.setCell ⟨gb528,2,none⟩ (.slice Ao25 t531.length co25)).heap[gb529]? = some (.cells #[.float .f64 0,.bool false,.slice none 0 0,.int .i64 0,.int .i64 0,.int .i64 0] 30 (0,0))):=⟨by (with_reducible repeat (first | refine blk_drewN ?_ _ | refine blk_drew ?_ | refine blk_alloc ?_ _));refine blk_far ?_ NB529_528.out _;(with_reducible repeat (first | refine blk_drewN ?_ _ | refine blk_drew ?_ | refine blk_alloc ?_ _));exact BK529.out⟩
          have n3_ : Aside0 (Below w.heap.size w (w24.setCell ⟨gb528,2,none⟩ (.slice Ao25 t531.length co25))):=⟨by repeat (first | (with_reducible first | exact HB.out | apply below_alloc | apply pw_below_drewN | apply below_drew1 | refine below_set ?_ GE528.out | refine below_set ?_ GE529.out) | exact HB.out)⟩
          (try clear HO533)
          (try clear BK528)
          (try clear BK529)
          (try clear HB)
          generalize (w24.setCell ⟨gb528,2,none⟩ (.slice Ao25 t531.length co25)) = w27 at n0_ n1_ n2_ n3_ ⊢
          have HO533:=n0_
          have BK528:=n1_
          have BK529:=n2_
          have HB:=n3_
          clear n0_ n1_ n2_ n3_
          have n0_:=Aside0.mk (Kd.R_drew HO533.out)
          have n1_:=Aside0.mk (blk_drew BK528.out)
          have n2_:=Aside0.mk (blk_drew BK529.out)
          have n3_:=Aside0.mk (below_drew1 HB.out)
          clear HO533
          clear BK528
          clear BK529
          clear HB
          have HO533:=n0_
          have BK528:=n1_
          have BK529:=n2_
          have HB:=n3_
          clear n0_ n1_ n2_ n3_
          have p534 : 0 ≤ (0 : Int):=(by omega)
          have q534 : 0 < (t531.length : Int):=of_decide_eq_true (by first | (with_reducible assumption) | assumption)
          obtain ⟨ad534,e534,hx534_0⟩:=Kd.at_f64 (Kd.R_reads' HO533.out).2.2 0 p534 q534
          cases e534
          have qi534 : (0 < t531.length) = True:=eq_true (by omega)
          (try rw [show ((0 : Int)).toNat = 0 from rfl] at hx534_0)
          (try rw [Addr.add_zero'] at hx534_0)
          replace p534:=eq_true p534
          replace q534:=eq_true q534
          refine start_ (n:=10) (S:=fun w' => w'.cell? ⟨gb528,0,none⟩ = some (.float .f64 a0_0) ∧ w'.cell? ⟨gb528,1,none⟩ = some (.bool a0_1) ∧ w'.cell? ⟨gb528,2,none⟩ = some (.slice (some ad534) t531.length co25) ∧ w'.cell? ⟨gb528,3,none⟩ = some (.int .i64 a0_3) ∧ w'.cell? ⟨gb528,4,none⟩ = some (.int .i64 a0_4) ∧ w'.cell? ⟨gb528,5,none⟩ = some (.int .i64 a0_5) ∧ w'.cell? ad534 = some (.float .f64 (rdF t531 0))) (ds:=[9]) #[false,false,false,false,false,false,false,false,false,false] (by kernel_rfl) rfl rfl ⟨(blk_cell BK528.out 0).trans rfl,(blk_cell BK528.out 1).trans rfl,(blk_cell BK528.out 2).trans rfl,(blk_cell BK528.out 3).trans rfl,(blk_cell BK528.out 4).trans rfl,(blk_cell BK528.out 5).trans rfl,hx534_0⟩ (fun hHeld => ?_);refine with_tabW row_Plus.tab4 row_Plus.bits4 (fun HT_ HW_ => ?_)
          generalize w27.drew = w28 at HO533 BK528 BK529 HB hx534_0 hHeld ⊢
          refine pure_ (i:=0) (N:=some 20) (v:=?_) (a':=?_) #[true,false,false,false,false,false,false,false,false,false] rfl rfl (any_of HT_.out (by kernel_rfl)) (fun _ _ _ h => h) (Or.inl ⟨by rfl,?_⟩) ?_ ?_
          rotate_left
          · intro w'
            go_simp
            with_reducible rfl
          rotate_left
          · simp only [Act.put,List.setIfInBounds_toArray,List.set_cons_zero,List.set_cons_succ,i64_w,i32_w]
            rfl
          refine pure_ (i:=2) (N:=some 22) (v:=?_) (a':=?_) #[true,false,true,false,false,false,false,false,false,false] rfl rfl (any_of HT_.out (by kernel_rfl)) (fun _ _ _ h => h) (Or.inl ⟨by rfl,?_⟩) ?_ ?_
          rotate_left
          · intro w'
            go_simp
            with_reducible rfl
          rotate_left
          · simp only [Act.put,List.setIfInBounds_toArray,List.set_cons_zero,List.set_cons_succ,i64_w,i32_w]
            rfl
          refine pure_ (i:=6) (N:=some 26) (v:=?_) (a':=?_) #[true,false,true,false,false,false,true,false,false,false] rfl rfl (any_of HT_.out (by kernel_rfl)) (fun _ _ _ h => h) (Or.inl ⟨by rfl,?_⟩) ?_ ?_
          rotate_left
          · intro w'
            go_simp
            with_reducible rfl
          rotate_left
          · simp only [Act.put,List.setIfInBounds_toArray,List.set_cons_zero,List.set_cons_succ,i64_w,i32_w]
            rfl
          refine take_ (i:=1) (N:=some 21) (v:=?_) (a':=?_) #[true,true,true,false,false,false,true,false,false,false] rfl rfl (take_ofW HT_.out HW_.out (by kernel_rfl)) (fun _ _ _ h => h) (Or.inl ⟨by rfl,?_⟩) hHeld ?_ ?_
          rotate_left
          · rintro w' ⟨s0,s1,s2,s3,s4,s5,s6⟩
            go_simp
            with_reducible rfl
          rotate_left
          · simp only [Act.put,List.setIfInBounds_toArray,List.set_cons_zero,List.set_cons_succ,i64_w,i32_w]
            rfl
          refine take_ (i:=3) (N:=some 23) (v:=?_) (a':=?_) #[true,true,true,true,false,false,true,false,false,false] rfl rfl (take_ofW HT_.out HW_.out (by kernel_rfl)) (fun _ _ _ h => h) (Or.inl ⟨by rfl,?_⟩) hHeld ?_ ?_
          rotate_left
          · rintro w' ⟨s0,s1,s2,s3,s4,s5,s6⟩
            go_simp
            with_reducible rfl
          rotate_left
          · simp only [Act.put,List.setIfInBounds_toArray,List.set_cons_zero,List.set_cons_succ,i64_w,i32_w]
            rfl
          refine pure_ (i:=4) (N:=some 24) (v:=?_) (a':=?_) #[true,true,true,true,true,false,true,false,false,false] rfl rfl (any_of HT_.out (by kernel_rfl)) (fun _ _ _ h => h) (Or.inl ⟨by rfl,?_⟩) ?_ ?_
          rotate_left
          · intro w'
            go_simp
            with_reducible rfl
          rotate_left
          · simp only [Act.put,List.setIfInBounds_toArray,List.set_cons_zero,List.set_cons_succ,i64_w,i32_w]
            rfl
          refine take_ (i:=5) (N:=some 25) (v:=?_) (a':=?_) #[true,true,true,true,true,true,true,false,false,false] rfl rfl (take_ofW HT_.out HW_.out (by kernel_rfl)) (fun _ _ _ h => h) (Or.inl ⟨by rfl,?_⟩) hHeld ?_ ?_
          rotate_left
          · rintro w' ⟨s0,s1,s2,s3,s4,s5,s6⟩
            go_simp
            with_reducible rfl
          rotate_left
          · simp only [Act.put,List.setIfInBounds_toArray,List.set_cons_zero,List.set_cons_succ,i64_w,i32_w]
            rfl
          refine one_ (i:=7) (N:=some 27) #[true,true,true,true,true,true,true,true,false,false] rfl rfl (one_of HT_.out (by kernel_rfl)) (by decide) (fun K hK => ?_)
          refine goes_ Try.func80 (by kernel_rfl) rfl #[.float .f64 (rdF t531 0),.float .f64 a1] (by rfl) rfl rfl (by (try simp only [List.map_toArray,List.map_cons,List.map_nil]);first | done | rfl | (simp only [List.length_drop,List.length_take];rfl)) ?_
          with_reducible refine (num_Add.calls (rdF t531 0) a1 t535 _ A20.out).mono ?_
          rintro e w29 ⟨rfl,hb⟩
          have HS6_:=(hb.cell (World.block_lt_of_cell? _ _ (hHeld.2.2.2.2.2.2))).trans (hHeld.2.2.2.2.2.2)
          refine ⟨_,rfl,?_⟩
          have n0_:=Aside0.mk (Kd.R_below (by (with_reducible repeat (first | apply Kd.R_alloc | apply Kd.R_drewN | apply Kd.R_drew));exact HO533.out) hb)
          have n1_:=Aside0.mk (blk_below (g:=gb528) (o:=.cells #[.float .f64 a0_0,.bool a0_1,.slice (some ad534) t531.length co25,.int .i64 a0_3,.int .i64 a0_4,.int .i64 a0_5] 30 (0,0)) (by (with_reducible repeat (first | refine blk_drewN ?_ _ | refine blk_drew ?_ | refine blk_alloc ?_ _));exact BK528.out) hb)
          have n2_:=Aside0.mk (blk_below (g:=gb529) (o:=.cells #[.float .f64 0,.bool false,.slice none 0 0,.int .i64 0,.int .i64 0,.int .i64 0] 30 (0,0)) (by (with_reducible repeat (first | refine blk_drewN ?_ _ | refine blk_drew ?_ | refine blk_alloc ?_ _));exact BK529.out) hb)
          have n3_:=Aside0.mk (below_step (by repeat (first | (with_reducible first | exact HB.out | apply below_alloc | apply pw_below_drewN | apply below_drew1 | refine below_set ?_ GE528.out | refine below_set ?_ GE529.out) | exact HB.out)) hb)
          clear HO533
          clear BK528
          clear BK529
          clear HB
          have HO533:=n0_
          have BK528:=n1_
          have BK529:=n2_
          have HB:=n3_
          clear n0_ n1_ n2_ n3_
          (try clear hb)
          (try clear hb2)
          (try clear hk)
          (try clear hi)
          have p21 : 0 ≤ (0 : Int):=(by omega)
          have q21 : (0 : Int) < ((t531.length : Int) : Int):=of_decide_eq_true (by first | (with_reducible assumption) | assumption)
          have qi21 : (0 < t531.length) = True:=eq_true (by omega)
          obtain ⟨go21,co21,eo21,gb21,gl21,cl21,HG21⟩:=Kd.R_form HO533.out (by omega)
          (first | cases eo21 | (injection eo21 with ea_ en_ ec_;(first | subst ea_ | (injection ea_ with ea_;subst ea_));subst ec_;clear en_))
          have GB21:=Aside0.mk gb21
          have GG21:=Aside0.mk HG21
          clear gb21 gl21 HG21
          (first | simp only [add_plain] at hx534_0 | skip)
          obtain ⟨hx21_0,hf21_0⟩:=Kd.R_celln 0 HO533.out (0 : Int) p21 q21
          (try rw [show ((0 : Int)).toNat = 0 from rfl] at hx21_0)
          (try simp only [Nat.reduceMul,Nat.zero_mul,Nat.zero_add,Nat.reduceAdd] at hx21_0)
          (try rw [show ((0 : Int)).toNat = 0 from rfl] at hf21_0)
          (try simp only [Nat.reduceMul,Nat.zero_mul,Nat.zero_add,Nat.reduceAdd] at hf21_0)
          replace p21:=eq_true p21
          replace q21:=eq_true q21
          have HP30:=Kd.R_putn HO533.out (0 : Int) t535
          rw [← Ny536.out] at HP30
          have HQ30:=Aside0.mk HP30
          clear HP30
          refine hK.out _ _ ⟨(blk_cell BK528.out 0).trans rfl,(blk_cell BK528.out 1).trans rfl,(blk_cell BK528.out 2).trans rfl,(blk_cell BK528.out 3).trans rfl,(blk_cell BK528.out 4).trans rfl,(blk_cell BK528.out 5).trans rfl,HS6_⟩ (fun hHeld => ?_)
          clear hK K
          refine norm_ (a':=?_) ?_ ?_
          rotate_left
          · show Act.put _ (some 27) _ = _
            simp only [Act.put,List.setIfInBounds_toArray,List.set_cons_zero,List.set_cons_succ,i64_w,i32_w]
            rfl
          refine pure_ (i:=8) (N:=some 28) (v:=?_) (a':=?_) #[true,true,true,true,true,true,true,true,true,false] rfl rfl (any_of HT_.out (by kernel_rfl)) (fun _ _ _ h => h) (Or.inl ⟨by rfl,?_⟩) ?_ ?_
          rotate_left
          · intro w'
            go_simp
            with_reducible rfl
          rotate_left
          · simp only [Act.put,List.setIfInBounds_toArray,List.set_cons_zero,List.set_cons_succ,i64_w,i32_w]
            rfl
          refine last_ (i:=9) (N:=none) #[true,true,true,true,true,true,true,true,true,true] rfl rfl (one_of HT_.out (by kernel_rfl)) (by decide) (fun K hK => ?_)
          refine skip_ (w1:=?_) (by rfl) rfl ?_ ?_
          rotate_left
          · go_simp
            rfl
          refine hK.out _ _ ?_
          clear hK K
          refine done_ (done_of HT_.out (by kernel_rfl)) ?_
          have n0_ : Aside0 (Kd.R Kd.f64 25 (w29.setCell ⟨go21,0,none⟩ (.float .f64 t535)) w.heap.size (fun _ => True) (.slice (some ⟨go21,0,none⟩) t531.length co25) y536):=⟨by (with_reducible repeat (first | apply Kd.R_alloc | apply Kd.R_drewN | apply Kd.R_drew));exact HQ30.out⟩
          have n1_ : Aside0 ((w29.setCell ⟨go21,0,none⟩ (.float .f64 t535)).heap[gb528]? = some (.cells #[.float .f64 a0_0,.bool a0_1,.slice (some ⟨go21,0,none⟩) t531.length co25,.int .i64 a0_3,.int .i64 a0_4,.int .i64 a0_5] 30 (0,0))):=⟨by (with_reducible repeat (first | refine blk_drewN ?_ _ | refine blk_drew ?_ | refine blk_alloc ?_ _));refine blk_far ?_ (by have h_:=Kd.R_ne HO533.out BK528.out (by decide);intro e_;exact h_ (by rw [e_];rfl)) _;(with_reducible repeat (first | refine blk_drewN ?_ _ | refine blk_drew ?_ | refine blk_alloc ?_ _));exact BK528.out⟩
          have n2_ : Aside0 ((w29.setCell ⟨go21,0,none⟩ (.float .f64 t535)).heap[gb529]? = some (.cells #[.float .f64 0,.bool false,.slice none 0 0,.int .i64 0,.int .i64 0,.int .i64 0] 30 (0,0))):=⟨by (with_reducible repeat (first | refine blk_drewN ?_ _ | refine blk_drew ?_ | refine blk_alloc ?_ _));refine blk_far ?_ (by have h_:=Kd.R_ne HO533.out BK529.out (by decide);intro e_;exact h_ (by rw [e_];rfl)) _;(with_reducible repeat (first | refine blk_drewN ?_ _ | refine blk_drew ?_ | refine blk_alloc ?_ _));exact BK529.out⟩
          have n3_ : Aside0 (Below w.heap.size w (w29.setCell ⟨go21,0,none⟩ (.float .f64 t535))):=⟨by repeat (first | (with_reducible first | exact HB.out | apply below_alloc | apply pw_below_drewN | apply below_drew1 | refine below_set ?_ GB21.out | refine below_set ?_ GE528.out | refine below_set ?_ GE529.out) | exact HB.out)⟩
          (try clear HO533)
          (try clear BK528)
          (try clear BK529)
          (try clear HB)
          generalize (w29.setCell ⟨go21,0,none⟩ (.float .f64 t535)) = w31 at n0_ n1_ n2_ n3_ ⊢
          have HO533:=n0_
          have BK528:=n1_
          have BK529:=n2_
          have HB:=n3_
          clear n0_ n1_ n2_ n3_
          have hcz32_0 : w31.cell? ⟨gb528,0,none⟩ = some (.float .f64 a0_0):=(blk_cell BK528.out 0).trans rfl
          have hcz32_1 : w31.cell? ⟨gb528,1,none⟩ = some (.bool a0_1):=(blk_cell BK528.out 1).trans rfl
          have hcz32_2 : w31.cell? ⟨gb528,2,none⟩ = some (.slice (some ⟨go21,0,none⟩) t531.length co25):=(blk_cell BK528.out 2).trans rfl
          have hcz32_3 : w31.cell? ⟨gb528,3,none⟩ = some (.int .i64 a0_3):=(blk_cell BK528.out 3).trans rfl
          have hcz32_4 : w31.cell? ⟨gb528,4,none⟩ = some (.int .i64 a0_4):=(blk_cell BK528.out 4).trans rfl
          have hcz32_5 : w31.cell? ⟨gb528,5,none⟩ = some (.int .i64 a0_5):=(blk_cell BK528.out 5).trans rfl
          have hfz32_0:=blk_frozen BK528.out 0
          have hfz32_1:=blk_frozen BK528.out 1
          have hfz32_2:=blk_frozen BK528.out 2
          have hfz32_3:=blk_frozen BK528.out 3
          have hfz32_4:=blk_frozen BK528.out 4
          have hfz32_5:=blk_frozen BK528.out 5
          have hcz33_0 : w31.cell? ⟨gb529,0,none⟩ = some (.float .f64 0):=(blk_cell BK529.out 0).trans rfl
          have hcz33_1 : w31.cell? ⟨gb529,1,none⟩ = some (.bool false):=(blk_cell BK529.out 1).trans rfl
          have hcz33_2 : w31.cell? ⟨gb529,2,none⟩ = some (.slice none 0 0):=(blk_cell BK529.out 2).trans rfl
          have hcz33_3 : w31.cell? ⟨gb529,3,none⟩ = some (.int .i64 0):=(blk_cell BK529.out 3).trans rfl
          have hcz33_4 : w31.cell? ⟨gb529,4,none⟩ = some (.int .i64 0):=(blk_cell BK529.out 4).trans rfl
          have hcz33_5 : w31.cell? ⟨gb529,5,none⟩ = some (.int .i64 0):=(blk_cell BK529.out 5).trans rfl
          have hfz33_0:=blk_frozen BK529.out 0
          have hfz33_1:=blk_frozen BK529.out 1
          have hfz33_2:=blk_frozen BK529.out 2
          have hfz33_3:=blk_frozen BK529.out 3
          have hfz33_4:=blk_frozen BK529.out 4
          have hfz33_5:=blk_frozen BK529.out 5
          try go_wp2
          refine bodyPost_ret (results_ct rfl _ _ gb529 30 #[.float .f64 a0_0,.bool a0_1,.slice (some ⟨go21,0,none⟩) t531.length co25,.int .i64 a0_3,.int .i64 a0_4,.int .i64 a0_5] (0,0) _ rfl (by (with_reducible repeat (first | refine blk_drewN ?_ _ | refine blk_drew ?_ | refine blk_alloc ?_ _));refine blk_put (cs:=#[.float .f64 a0_0,.bool a0_1,.slice (some ⟨go21,0,none⟩) t531.length co25,.int .i64 a0_3,.int .i64 a0_4,.int .i64 0]) ?_ 5 _ rfl;(with_reducible repeat (first | refine blk_drewN ?_ _ | refine blk_drew ?_ | refine blk_alloc ?_ _));refine blk_put (cs:=#[.float .f64 a0_0,.bool a0_1,.slice (some ⟨go21,0,none⟩) t531.length co25,.int .i64 a0_3,.int .i64 0,.int .i64 0]) ?_ 4 _ rfl;(with_reducible repeat (first | refine blk_drewN ?_ _ | refine blk_drew ?_ | refine blk_alloc ?_ _));refine blk_put (cs:=#[.float .f64 a0_0,.bool a0_1,.slice (some ⟨go21,0,none⟩) t531.length co25,.int .i64 0,.int .i64 0,.int .i64 0]) ?_ 3 _ rfl;(with_reducible repeat (first | refine blk_drewN ?_ _ | refine blk_drew ?_ | refine blk_alloc ?_ _));refine blk_put (cs:=#[.float .f64 a0_0,.bool a0_1,.slice none 0 0,.int .i64 0,.int .i64 0,.int .i64 0]) ?_ 2 _ rfl;(with_reducible repeat (first | refine blk_drewN ?_ _ | refine blk_drew ?_ | refine blk_alloc ?_ _));refine blk_put (cs:=#[.float .f64 a0_0,.bool false,.slice none 0 0,.int .i64 0,.int .i64 0,.int .i64 0]) ?_ 1 _ rfl;(with_reducible repeat (first | refine blk_drewN ?_ _ | refine blk_drew ?_ | refine blk_alloc ?_ _));refine blk_put (cs:=#[.float .f64 0,.bool false,.slice none 0 0,.int .i64 0,.int .i64 0,.int .i64 0]) ?_ 0 _ rfl;(with_reducible repeat (first | refine blk_drewN ?_ _ | refine blk_drew ?_ | refine blk_alloc ?_ _));exact BK529.out) Try.underlying30 rfl (by kernel_rfl)) rfl ?_
          exact ⟨_,by first | rfl | (simp [errW_none,errW_some] <;> rfl) | (simp [*,errW_none,errW_some] <;> rfl),by (with_reducible repeat (first | apply Kd.R_alloc | apply Kd.R_drewN | apply Kd.R_drew));exact Kd.R_mono (Kd.R_far (p:=⟨gb529,5,none⟩) (Kd.R_far (p:=⟨gb529,4,none⟩) (Kd.R_far (p:=⟨gb529,3,none⟩) (Kd.R_far (p:=⟨gb529,2,none⟩) (Kd.R_far (p:=⟨gb529,1,none⟩) (Kd.R_far (p:=⟨gb529,0,none⟩) (Kd.R_types HO533.out BK529.out (by decide)) (fun _ hk => hk.2) (.float .f64 a0_0)) (fun _ hk => hk.2) (.bool a0_1)) (fun _ hk => hk.2) (.slice (some ⟨go21,0,none⟩) t531.length co25)) (fun _ hk => hk.2) (.int .i64 a0_3)) (fun _ hk => hk.2) (.int .i64 a0_4)) (fun _ hk => hk.2) (.int .i64 a0_5)) (fun _ hk => trivial),by repeat (first | (with_reducible first | exact HB.out | apply below_alloc | apply pw_below_drewN | apply below_drew1 | refine below_set ?_ GE528.out | refine below_set ?_ GE529.out) | exact HB.out)⟩
        · rw [if_neg c19] at H
          exact absurd H (by simp)
end Go.Proofs.Ytdcllbhkjcdnoaa.P
set_option linter.unusedVariables false
set_option linter.unusedSimpArgs false
namespace Go.Proofs.Ytdcllbhkjcdnoaa.P
open Go.RowKit Go.Proofs.Ytdcllbhkjcdnoaa Go.Proofs.Ytdcllbhkjcdnoaa.Mem Go.Proofs.Ytdcllbhkjcdnoaa.Pac Go.Proofs.YtdcllbhkjcdnoaaW.PrintWords Go.Proofs.YtdcllbhkjcdnoaaW.PrintLast
theorem len_beq (co : List Nat) : ((co.length : Int) == 0) = decide (co = []) := by
  cases co with
  | nil => rfl
  | cons x l => rw [decide_eq_false (by simp), beq_eq_false_iff_ne, List.length_cons]; omega
theorem row_Plus_ev {k : Nat} (hk : 3 ≤ k) {ke : Nat} {de : Bool} {co : List Nat} {wr ce no : Int} (x : Nat) (hl : co.length ≤ 1000000) : row_Plus.f k ke de co wr ce no x = some (if mayRow ke de co wr ce no = true ∧ co ≠ [] then (ke, de, co.set 0 (addv (rdF co 0) x), wr, ce, no, 0) else (0, false, [], 0, 0, 0, 1)) := by
  have hT : ∀ z : Bool, z = true → row_Plus.j0 k x z ke de co wr ce no = some (0, false, [], 0, 0, 0, 1) := by
    intro z hz
    obtain ⟨k, rfl⟩ : ∃ m, k = m + 1 := ⟨k - 1, by omega⟩
    subst hz
    simp only [row_Plus.j0]
    rw [if_pos trivial]
  unfold row_Plus.f
  rw [row_Check_ev (by omega) hl]
  simp only [Option.bind_some]
  by_cases hm : mayRow ke de co wr ce no = true
  · rw [if_pos hm, if_pos rfl, len_beq]
    by_cases hc : co = []
    · rw [hT _ (decide_eq_true hc), if_neg (fun h => h.2 hc)]
    · rw [if_pos ⟨hm, hc⟩, decide_eq_false hc]
      obtain ⟨k, rfl⟩ : ∃ m, k = m + 1 := ⟨k - 1, by omega⟩
      simp only [row_Plus.j0, slices_Clone_float64_float64.f, num_Add.f]
      rw [if_neg (by decide), if_pos hl]
      simp only [Option.bind_some]
      rw [if_pos (by have := List.length_pos_iff.2 hc; omega)]
      rfl
  · rw [if_neg hm, if_neg (by decide), hT _ rfl, if_neg (fun h => hm h.1)]
end Go.Proofs.Ytdcllbhkjcdnoaa.P
set_option linter.unusedVariables false
set_option linter.unusedSimpArgs false
namespace Go.Proofs.Ytdcllbhkjcdnoaa.P
open Go.RowKit Go.Proofs.Ytdcllbhkjcdnoaa Go.Proofs.Ytdcllbhkjcdnoaa.Mem Go.Proofs.YtdcllbhkjcdnoaaW.PrintWords Go.Proofs.YtdcllbhkjcdnoaaW.PrintLast Go.Proofs.YtdcllbhkjcdnoaaW.PrintMore
theorem add_any {P : Program} (t : TypeId) (a b : Nat) : ∃ (V : World → Nat), (∀ w, Flt.val (V w) = addv a b) ∧ ∃ (D : Bool), ∀ w, (binOp .add t (.float .f64 a) (.float .f64 b)).run P w = .ok (.float .f64 (V w)) (cond D w.drew w) := by
  cases h : Ieee.double.add a b with
  | some r => exact ⟨fun _ => r, fun w => by unfold addv; rw [h], false, fun w => run_float_arith (P := P) w .add t .f64 a b r h⟩
  | none =>
    have := fun w => run_add_nan (P := P) t a b h w
    obtain ⟨V, hV⟩ := Classical.axiomOfChoice this
    exact ⟨V, fun w => by unfold addv Flt.val; rw [h, if_pos (hV w).1], true, fun w => (hV w).2⟩
def humusref04_Plus.f (a0_0 : Nat) (a0_1 : Bool) (l0_2 : List Nat) (a0_3 a0_4 a0_5 : Int) (a1 : Nat) : Option (Nat × Bool × List Nat × Int × Int × Int) := if 0 < l0_2.length ∧ l0_2.length ≤ 1000000 then some (a0_0, a0_1, l0_2.set 0 (addv (rdF l0_2 0) a1), a0_3, a0_4, a0_5) else none
set_option maxRecDepth 100000 in
theorem humusref04_Plus.calls (a0_0 : Nat) (a0_1 : Bool) (A0_2 : Option Addr) (c0_2 : Nat) (l0_2 : List Nat) (a0_3 a0_4 a0_5 : Int) (a1 : Nat) (r1 : Nat) (r2 : Bool) (r3 : List Nat) (r4 r5 r6 : Int) (w : World) (hr0_2 : Kd.C Kd.f64 w A0_2 l0_2.length l0_2) (hc0_2 : l0_2.length ≤ c0_2) (h : humusref04_Plus.f a0_0 a0_1 l0_2 a0_3 a0_4 a0_5 a1 = some (r1, r2, r3, r4, r5, r6)) :
    Calls Try.prog 42 #[.agg #[.float .f64 a0_0, .bool a0_1, .slice A0_2 l0_2.length c0_2, .int .i64 a0_3, .int .i64 a0_4, .int .i64 a0_5], .float .f64 a1] w fun e w' => ∃ v2_ : Value, e = .returned (.agg #[.float .f64 r1, .bool r2, v2_, .int .i64 r4, .int .i64 r5, .int .i64 r6]) ∧ Kd.R Kd.f64 25 w' w.heap.size (fun _ => True) v2_ r3 ∧ Below w.heap.size w w' := by
  unfold humusref04_Plus.f at h
  split at h
  rotate_left
  · cases h
  rename_i hx
  obtain ⟨hp, hl⟩ := hx
  injection h with h
  injection h with h1 h
  injection h with h2 h
  injection h with h3 h
  injection h with h4 h
  injection h with h5 h6
  subst h1 h2 h3 h4 h5 h6
  have HB := Lib.hid (Below.refl w.heap.size w)
  have HR := Lib.hid hr0_2
  clear hr0_2
  go_enter Try.func42, Try.ntmps42
  obtain ⟨V, hval, D, hr⟩ := add_any (P := Try.prog) 25 (rdF l0_2 0) a1
  have HV := Lib.hid hval
  clear hval
  go_wp2_with (first | ((with_reducible refine gate_dst (N := 2) rfl ?_); (try (refine gate_guard (by rfl) ?_; dsimp only)); refine box_event ?hg (N := 2) ?hd (cs := #[.float .f64 a0_0, .bool a0_1, .slice A0_2 l0_2.length c0_2, .int .i64 a0_3, .int .i64 a0_4, .int .i64 a0_5]) (t := 30) ?hr ?_; (case hd => rfl); (case hg => rfl); (case hr => first | (go_simp; done) | (go_simp; rfl)); intro g1 hg w4 hbox hb; have n0_ := Lib.hid (below_step (by repeat (first | (with_reducible first | exact HB.out | apply below_alloc | apply pw_below_drewN | apply below_drew1) | exact HB.out)) hb); have BK1 := Lib.hid hbox; have GE1 := Lib.hid ((by rw [hg]; exact (below_size (by repeat (first | (with_reducible first | exact HB.out | apply below_alloc | apply pw_below_drewN | apply below_drew1) | exact HB.out)))) : w.heap.size ≤ g1); clear HB; have HB := n0_; clear n0_ hb hbox hg) | ((with_reducible refine gate_dst (N := 4) rfl ?_); (try (refine gate_guard (by rfl) ?_; dsimp only)); refine box_event ?hg (N := 4) ?hd (cs := #[.float .f64 0, .bool false, .slice none 0 0, .int .i64 0, .int .i64 0, .int .i64 0]) (t := 30) ?hr ?_; (case hd => rfl); (case hg => rfl); (case hr => first | (go_simp; done) | (go_simp; rfl)); intro g2 hg w5 hbox hb; have n0_ := Lib.hid (blk_below (g := g1) (by (with_reducible repeat (first | refine blk_drewN ?_ _ | refine blk_drew ?_ | refine blk_alloc ?_ _)); exact BK1.out) hb); have n1_ := Lib.hid (below_step (by repeat (first | (with_reducible first | exact HB.out | apply below_alloc | apply pw_below_drewN | apply below_drew1 | refine below_set ?_ GE1.out) | exact HB.out)) hb); have BK2 := Lib.hid hbox; have GE2 := Lib.hid ((by rw [hg]; exact (below_size (by repeat (first | (with_reducible first | exact HB.out | apply below_alloc | apply pw_below_drewN | apply below_drew1 | refine below_set ?_ GE1.out) | exact HB.out)))) : w.heap.size ≤ g2); have NB := Lib.hid ((by rw [hg]; exact Nat.ne_of_lt (blk_lt (g := g1) (by (with_reducible repeat (first | refine blk_drewN ?_ _ | refine blk_drew ?_ | refine blk_alloc ?_ _)); exact BK1.out))) : g1 ≠ g2); clear BK1 HB; have BK1 := n0_; have HB := n1_; clear n0_ n1_ hb hbox hg) | ((with_reducible refine gate_dst (N := 6) rfl ?_); refine Kd.R_lit (Kd.f64) _ 25 ?hg (N := 6) ?hd (xs := []) (inner := []) (ok := fun _ => True) (okp := fun _ => True) ?hr ?hp (fun _ hk => hk) trivial (Below.refl _ _) (Nat.le_refl _) (by simp) ?_; (case hd => rfl); (case hg => rfl); (case hr => first | (go_simp; done) | (go_simp; rfl)); (case hp => exact Reps.none _ _); intro v6 w6 ho hb hg_ hnew_; have HO6 := Lib.hid (Kd.R_lower ho (below_size (by repeat (first | (with_reducible first | exact HB.out | apply below_alloc | apply pw_below_drewN | apply below_drew1 | refine below_set ?_ GE1.out | refine below_set ?_ GE2.out) | exact HB.out)))); have n0_ := Lib.hid (blk_below (g := g1) (by (with_reducible repeat (first | refine blk_drewN ?_ _ | refine blk_drew ?_ | refine blk_alloc ?_ _)); exact BK1.out) hb); have n1_ := Lib.hid (blk_below (g := g2) (by (with_reducible repeat (first | refine blk_drewN ?_ _ | refine blk_drew ?_ | refine blk_alloc ?_ _)); exact BK2.out) hb); have n2_ := Lib.hid (below_step (by repeat (first | (with_reducible first | exact HB.out | apply below_alloc | apply pw_below_drewN | apply below_drew1 | refine below_set ?_ GE1.out | refine below_set ?_ GE2.out) | exact HB.out)) hb); clear BK1 BK2 HB; have BK1 := n0_; have BK2 := n1_; have HB := n2_; clear n0_ n1_ n2_ ho hb hg_ hnew_; have hz0 : w6.cell? ⟨g1, 2, none⟩ = some (.slice A0_2 l0_2.length c0_2) := (blk_cell BK1.out 2).trans rfl) | ((with_reducible refine gate_builtin (b := .append) (xs := #[.tmp 6, .tmp 8]) rfl ?_); at_builtin; refine Kd.R_append_rows Kd.f64 (w0 := w) w.heap.size rfl (.tmp 6) (.tmp 8) 26 25 (.float .f64 0) 8 rfl Try.underlying26 infoF rfl (by decide) (by omega) v6 [] l0_2 _ _ _ (fun _ => True) (fun _ => False) rfl rfl (by (with_reducible repeat (first | apply Kd.R_alloc | apply Kd.R_drewN | apply Kd.R_drew)); exact HO6.out) (Kd.C_below HR.out (by repeat (first | (with_reducible first | exact HB.out | apply below_alloc | apply pw_below_drewN | apply below_drew1 | refine below_set ?_ GE1.out | refine below_set ?_ GE2.out) | exact HB.out))) (fun _ _ h => h) (fun _ h => h.elim) (fun _ _ => trivial) (by repeat (first | (with_reducible first | exact HB.out | apply below_alloc | apply pw_below_drewN | apply below_drew1 | refine below_set ?_ GE1.out | refine below_set ?_ GE2.out) | exact HB.out)) (below_size (by repeat (first | (with_reducible first | exact HB.out | apply below_alloc | apply pw_below_drewN | apply below_drew1 | refine below_set ?_ GE1.out | refine below_set ?_ GE2.out) | exact HB.out))) ?aL ?_; (case aL => rw [List.length_nil]; omega); intro v9 w9 ho hb hg hat; rw [List.nil_append] at ho; have HO := Lib.hid ho; have n0_ := Lib.hid (blk_grown (g := g1) (by (with_reducible repeat (first | refine blk_drewN ?_ _ | refine blk_drew ?_ | refine blk_alloc ?_ _)); exact BK1.out) hg (Kd.R_ne HO6.out BK1.out (by decide))); have n1_ := Lib.hid (blk_grown (g := g2) (by (with_reducible repeat (first | refine blk_drewN ?_ _ | refine blk_drew ?_ | refine blk_alloc ?_ _)); exact BK2.out) hg (Kd.R_ne HO6.out BK2.out (by decide))); clear BK1 BK2 HB hz0 HO6; have BK1 := n0_; have BK2 := n1_; have HB := Lib.hid hb; clear n0_ n1_ ho hb hat hg; obtain ⟨g, cp, hv, hg1, hg2, cl, hg3⟩ := Kd.R_form HO.out hp; subst hv; obtain ⟨hx0, hf0⟩ := Kd.R_celln 0 HO.out (0 : Int) (by omega) (by omega); rw [show ((0 : Int)).toNat = 0 from rfl] at hx0 hf0; have GE3 := Lib.hid hg1; clear hg1 hg2; have N13 := Lib.hid (blk_ne BK1.out hg3 (by decide)); have N23 := Lib.hid (blk_ne BK2.out hg3 (by decide)); clear hg3 cl))
  go_at_call 72
  refine (rValue_any _ _).mono ?_
  rintro e w10 ⟨rfl, hw'⟩
  have n1_ : Hid (w10.heap[g1]? = some (.cells #[.float .f64 a0_0, .bool a0_1, .slice A0_2 l0_2.length c0_2, .int .i64 a0_3, .int .i64 a0_4, .int .i64 a0_5] 30 (0, 0))) := Lib.hid (by rw [← hw']; cases D <;> first | exact BK1.out | exact blk_drew BK1.out)
  have n2_ : Hid (w10.heap[g2]? = some (.cells #[.float .f64 0, .bool false, .slice none 0 0, .int .i64 0, .int .i64 0, .int .i64 0] 30 (0, 0))) := Lib.hid (by rw [← hw']; cases D <;> first | exact BK2.out | exact blk_drew BK2.out)
  have n3_ : Hid (Below w.heap.size w w10) := Lib.hid (by rw [← hw']; cases D <;> first | exact HB.out | exact below_drew1 HB.out)
  have n4_ : Hid (Kd.R Kd.f64 25 w10 w.heap.size (fun _ => True) (.slice (some ⟨g, 0, none⟩) l0_2.length cp) l0_2) := Lib.hid (by rw [← hw']; cases D <;> first | exact HO.out | exact Kd.R_drew HO.out)
  have HVv := Lib.hid (HV.out w9)
  generalize V w9 = vv at HVv ⊢
  clear BK1 BK2 HB HO hx0 hf0 hw' hr HV
  have BK1 := n1_
  have BK2 := n2_
  have HB := n3_
  have HO := n4_
  clear n1_ n2_ n3_ n4_
  obtain ⟨hx0, hf0⟩ := Kd.R_celln 0 HO.out (0 : Int) (by omega) (by omega)
  rw [show ((0 : Int)).toNat = 0 from rfl] at hx0 hf0
  have hn13 := N13.out
  have hn31 := Ne.symm N13.out
  have hn23 := N23.out
  have hn32 := Ne.symm N23.out
  have hn12 := NB.out
  have hn21 := Ne.symm NB.out
  have hc10 : w10.cell? ⟨g1, 0, none⟩ = some (.float .f64 a0_0) := (blk_cell BK1.out 0).trans rfl
  have hf10 := blk_frozen BK1.out 0
  have hc11 : w10.cell? ⟨g1, 1, none⟩ = some (.bool a0_1) := (blk_cell BK1.out 1).trans rfl
  have hf11 := blk_frozen BK1.out 1
  have hc12 : w10.cell? ⟨g1, 2, none⟩ = some (.slice A0_2 l0_2.length c0_2) := (blk_cell BK1.out 2).trans rfl
  have hf12 := blk_frozen BK1.out 2
  have hc13 : w10.cell? ⟨g1, 3, none⟩ = some (.int .i64 a0_3) := (blk_cell BK1.out 3).trans rfl
  have hf13 := blk_frozen BK1.out 3
  have hc14 : w10.cell? ⟨g1, 4, none⟩ = some (.int .i64 a0_4) := (blk_cell BK1.out 4).trans rfl
  have hf14 := blk_frozen BK1.out 4
  have hc15 : w10.cell? ⟨g1, 5, none⟩ = some (.int .i64 a0_5) := (blk_cell BK1.out 5).trans rfl
  have hf15 := blk_frozen BK1.out 5
  have hc20 : w10.cell? ⟨g2, 0, none⟩ = some (.float .f64 0) := (blk_cell BK2.out 0).trans rfl
  have hf20 := blk_frozen BK2.out 0
  have hc21 : w10.cell? ⟨g2, 1, none⟩ = some (.bool false) := (blk_cell BK2.out 1).trans rfl
  have hf21 := blk_frozen BK2.out 1
  have hc22 : w10.cell? ⟨g2, 2, none⟩ = some (.slice none 0 0) := (blk_cell BK2.out 2).trans rfl
  have hf22 := blk_frozen BK2.out 2
  have hc23 : w10.cell? ⟨g2, 3, none⟩ = some (.int .i64 0) := (blk_cell BK2.out 3).trans rfl
  have hf23 := blk_frozen BK2.out 3
  have hc24 : w10.cell? ⟨g2, 4, none⟩ = some (.int .i64 0) := (blk_cell BK2.out 4).trans rfl
  have hf24 := blk_frozen BK2.out 4
  have hc25 : w10.cell? ⟨g2, 5, none⟩ = some (.int .i64 0) := (blk_cell BK2.out 5).trans rfl
  have hf25 := blk_frozen BK2.out 5
  have hst := fun (m : Mode) (u : World) (ad : Addr) (n : Nat) => run_store_float Try.prog u ad m .f64 n
  go_wp2
  have P1 := Kd.R_putn HO.out (0 : Int) (Flt.val vv)
  rw [show ((0 : Int)).toNat = 0 from rfl] at P1
  have B1 := blk_far BK1.out (p := ⟨g, 0, none⟩) N13.out (.float .f64 (Flt.val vv))
  have B2 := blk_far BK2.out (p := ⟨g, 0, none⟩) N23.out (.float .f64 (Flt.val vv))
  have P2 := Kd.R_far (p := ⟨g1, 2, none⟩) (Kd.R_types (Kd.R_types P1 B1 (by decide)) B2 (by decide)) (fun _ hk => hk.1.2) (.slice (some ⟨g, 0, none⟩) l0_2.length cp)
  have Q0 := blk_far (p := ⟨g1, 2, none⟩) B2 (Ne.symm NB.out) (.slice (some ⟨g, 0, none⟩) l0_2.length cp)
  have Q1 := blk_put Q0 0 (.float .f64 a0_0) (cs' := #[.float .f64 a0_0, .bool false, .slice none 0 0, .int .i64 0, .int .i64 0, .int .i64 0]) rfl
  have P3 := Kd.R_far (p := ⟨g2, 0, none⟩) P2 (fun _ hk => hk.2) (.float .f64 a0_0)
  have Q2 := blk_put Q1 1 (.bool a0_1) (cs' := #[.float .f64 a0_0, .bool a0_1, .slice none 0 0, .int .i64 0, .int .i64 0, .int .i64 0]) rfl
  have P4 := Kd.R_far (p := ⟨g2, 1, none⟩) P3 (fun _ hk => hk.2) (.bool a0_1)
  have Q3 := blk_put Q2 2 ((.slice (some ⟨g, 0, none⟩) l0_2.length cp)) (cs' := #[.float .f64 a0_0, .bool a0_1, (.slice (some ⟨g, 0, none⟩) l0_2.length cp), .int .i64 0, .int .i64 0, .int .i64 0]) rfl
  have P5 := Kd.R_far (p := ⟨g2, 2, none⟩) P4 (fun _ hk => hk.2) ((.slice (some ⟨g, 0, none⟩) l0_2.length cp))
  have Q4 := blk_put Q3 3 (.int .i64 a0_3) (cs' := #[.float .f64 a0_0, .bool a0_1, (.slice (some ⟨g, 0, none⟩) l0_2.length cp), .int .i64 a0_3, .int .i64 0, .int .i64 0]) rfl
  have P6 := Kd.R_far (p := ⟨g2, 3, none⟩) P5 (fun _ hk => hk.2) (.int .i64 a0_3)
  have Q5 := blk_put Q4 4 (.int .i64 a0_4) (cs' := #[.float .f64 a0_0, .bool a0_1, (.slice (some ⟨g, 0, none⟩) l0_2.length cp), .int .i64 a0_3, .int .i64 a0_4, .int .i64 0]) rfl
  have P7 := Kd.R_far (p := ⟨g2, 4, none⟩) P6 (fun _ hk => hk.2) (.int .i64 a0_4)
  have Q6 := blk_put Q5 5 (.int .i64 a0_5) (cs' := #[.float .f64 a0_0, .bool a0_1, (.slice (some ⟨g, 0, none⟩) l0_2.length cp), .int .i64 a0_3, .int .i64 a0_4, .int .i64 a0_5]) rfl
  have P8 := Kd.R_far (p := ⟨g2, 5, none⟩) P7 (fun _ hk => hk.2) (.int .i64 a0_5)
  refine bodyPost_ret (results_cell_row rfl _ _ g2 30 #[.float .f64 a0_0, .bool a0_1, (.slice (some ⟨g, 0, none⟩) l0_2.length cp), .int .i64 a0_3, .int .i64 a0_4, .int .i64 a0_5] (0, 0) _ rfl Q6 Try.underlying30 rfl (by kernel_rfl)) rfl ?_
  refine ⟨_, rfl, ?_, ?_⟩
  · rw [← HVv.out]; exact Kd.R_mono P8 (fun _ _ => trivial)
  · repeat (first | (with_reducible first | exact HB.out | refine below_set ?_ GE1.out | refine below_set ?_ GE2.out | refine below_set ?_ GE3.out) | exact HB.out)
end Go.Proofs.Ytdcllbhkjcdnoaa.P
set_option linter.unusedVariables false
set_option linter.unusedSimpArgs false
namespace Go.Proofs.Ytdcllbhkjcdnoaa.P
open Go.RowKit Go.Proofs.Ytdcllbhkjcdnoaa Go.Proofs.Ytdcllbhkjcdnoaa.Mem Go.Proofs.Ytdcllbhkjcdnoaa.Pac Go.Proofs.YtdcllbhkjcdnoaaW.PrintWords Go.Proofs.YtdcllbhkjcdnoaaW.PrintLast
theorem val_addv (a b : Nat) : Flt.val (addv a b) = addv a b := by
  unfold addv
  cases Ieee.double.add a b with
  | some r => exact Flt.val_val r
  | none => decide
theorem valsB_set {co : List Nat} (h : valsB co = true) (a b : Nat) : valsB (co.set 0 (addv a b)) = true := by
  unfold valsB at *
  rw [List.all_eq_true] at *
  intro x hx
  rcases List.mem_or_eq_of_mem_set hx with h1 | rfl
  · exact h x h1
  · exact decide_eq_true (val_addv a b).symm
theorem mayRow_set {ke : Nat} {de : Bool} {co : List Nat} {wr ce no : Int} (h : mayRow ke de co wr ce no = true) (a b : Nat) : mayRow ke de (co.set 0 (addv a b)) wr ce no = true := by
  rw [mayRow_iff] at *
  obtain ⟨h1, h2, h3, h4, h5⟩ := h
  exact ⟨h1, by rw [List.length_set]; exact h2, by rw [List.length_set]; exact h3, valsB_set h4 a b, h5⟩
theorem rplus_ev {ke : Nat} {de : Bool} {co : List Nat} {wr ce no : Int} (x : Nat) (hc : co ≠ []) (hl : co.length ≤ 1000000) : humusref04_Plus.f ke de co wr ce no x = some (ke, de, co.set 0 (addv (rdF co 0) x), wr, ce, no) := by
  unfold humusref04_Plus.f
  rw [if_pos ⟨List.length_pos_iff.2 hc, hl⟩]
theorem May04_big {k : Nat} {ke : Nat} {de : Bool} {co : List Nat} {wr ce no : Int} (hk : 2 ≤ k) (hx : ke < 18446744073709551616) (hl : 4 < co.length) : humusref04_May.f k ke de co wr ce no = some false := by
  obtain ⟨k, rfl⟩ : ∃ m, k = m + 1 := ⟨k - 1, by omega⟩
  unfold humusref04_May.f humusref01_Key.f
  rw [if_pos hx]
  simp only [Option.bind_some, humusref04_May.j0]
  by_cases h1 : ke = Flt.key ke
  · rw [if_pos (by exact congrArg _ h1), if_pos (by omega), if_pos trivial]
  · rw [if_neg (fun e => h1 (by exact_mod_cast e)), if_pos trivial]
end Go.Proofs.Ytdcllbhkjcdnoaa.P
