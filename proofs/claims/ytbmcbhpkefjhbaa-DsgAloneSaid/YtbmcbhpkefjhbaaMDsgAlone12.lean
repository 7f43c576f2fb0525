/- Put together by wip/prune.py out of this claim's texts. -/
import Derived.Test.YtbmcbhpkefjhbaaMDsgAlone3
import Derived.Test.YtbmcbhpkefjhbaaMDsgAlone4
import Derived.Test.YtbmcbhpkefjhbaaMDsgAlone8
import Derived.Test.YtbmcbhpkefjhbaaMDsgAlone9
import Derived.Test.YtbmcbhpkefjhbaaMDsgAlone10
import Derived.Test.YtbmcbhpkefjhbaaMDsgAlone11
namespace Go.Proofs.Ytbmcbhpkefjhbaa.P
open Go.RowKit Go.Proofs.YtbmcbhpkefjhbaaW.PrintWords Go.Proofs.YtbmcbhpkefjhbaaW.PrintLast Go.Proofs.YtbmcbhpkefjhbaaW.PrintMore
attribute [local go_sem] max2_int min2_int max_two min_two max_three min_three max_four min_four   -- for this text's walks alone
attribute [local go_sem] run_store_float
set_option linter.unusedVariables false
set_option linter.unusedSimpArgs false
def humusref11_Ints.l0 : Nat → List Int → List Int → Int → Option (Bool)
 | 0,_,_,_ => none
 | k + 1,x0,x1,x5 => if x5 < (x0.length : Int) then (if 0 ≤ x5 then (if x5 < (x1.length : Int) then (if (rd x0 x5) = (rd x1 x5) then (humusref11_Ints.l0 k x0 x1 (wrap64 (x5 + 1))) else (some false)) else (none)) else (none)) else (some true)
def humusref11_Ints.f (k : Nat) (l0 : List Int) (l1 : List Int) : Option (Bool):=if (l0.length : Int) = (l1.length : Int) then (humusref11_Ints.l0 k l0 l1 0) else (some false)
theorem humusref11_Ints.mono_l : ∀ k,(∀ y0 y1 y2,LeO (humusref11_Ints.l0 k y0 y1 y2) (humusref11_Ints.l0 (k + 1) y0 y1 y2))
 | 0 => fun _ _ _ r h => by simp [humusref11_Ints.l0] at h
 | k + 1 => by
  have ih0:=humusref11_Ints.mono_l k
  ·intro y0 y1 y2
   unfold humusref11_Ints.l0
   repeat' first
   | (with_reducible exact ih0 _ _ _)
   | (with_reducible exact LeO.refl _)
   | (with_reducible exact LeO.none _)
   | (with_reducible refine LeO.ite ?_ ?_)
   | (with_reducible refine LeO.bind ?_ (fun _ => ?_))
   | exact ih0 _ _ _
   | exact LeO.none _
   | refine LeO.ite ?_ ?_
   | refine LeO.bind ?_ (fun _ => ?_)
theorem humusref11_Ints.mono : ∀ a0 a1 k,LeO (humusref11_Ints.f k a0 a1) (humusref11_Ints.f (k + 1) a0 a1):=by
 intro a0 a1 k
 have ih0:=humusref11_Ints.mono_l k
 unfold humusref11_Ints.f
 repeat' first
   | (with_reducible exact ih0 _ _ _)
   | (with_reducible exact LeO.refl _)
   | (with_reducible exact LeO.none _)
   | (with_reducible refine LeO.ite ?_ ?_)
   | (with_reducible refine LeO.bind ?_ (fun _ => ?_))
   | exact ih0 _ _ _
   | exact LeO.none _
   | refine LeO.ite ?_ ?_
   | refine LeO.bind ?_ (fun _ => ?_)
set_option maxHeartbeats 8000000 in
set_option maxRecDepth 100000 in
theorem humusref11_Ints.calls (k : Nat) (A0 : Option Addr) (c0 : Nat) (l0 : List Int) (A1 : Option Addr) (c1 : Nat) (l1 : List Int) (r : Bool) (w : World) (hr0 : Kd.C (Kd.int .i64) w A0 l0.length l0) (hc0 : l0.length ≤ c0) (hr1 : Kd.C (Kd.int .i64) w A1 l1.length l1) (hc1 : l1.length ≤ c1) (h : humusref11_Ints.f k l0 l1 = some r) :
  Calls Try.prog 16 #[.slice A0 l0.length c0,.slice A1 l1.length c1] w fun e w' => e = .returned (.bool r) ∧ Drawn0 w w':=by
 have HR0:=Aside0.mk hr0
 have HC0:=Aside0.mk hc0
 clear hr0 hc0
 have HR1:=Aside0.mk hr1
 have HC1:=Aside0.mk hc1
 clear hr1 hc1
 have H : (if (l0.length : Int) = (l1.length : Int) then (humusref11_Ints.l0 k l0 l1 0) else (some false)) = some r:=h
 clear h
 by_cases c3 : (l0.length : Int) = (l1.length : Int)
 ·rw [if_pos c3] at H
  have c3b0 : ((l0.length : Int) == (l1.length : Int)) = true:=beq_iff_eq.mpr c3
  have c3b1 : ((l0.length : Int) != (l1.length : Int)) = false:=bne_eq_false_iff_eq.mpr c3
  have c3b2 : (l0.length == l1.length) = true:=by first | simpa using c3 | (simp at c3 ⊢;omega)
  clear c3
  have H':=Aside0.mk H
  clear H
  go_enter Try.func16,Try.ntmps16
  go_wp2
  repeat (go_quiet (fail);try go_wp2)
  go_loopg [5] k (fun kq v5 w' => ∃ (x5_1 : Int),v5 = .int .i64 x5_1 ∧ Aside0 (humusref11_Ints.l0 kq l0 l1 x5_1 = some r) ∧ Aside0 (kq ≤ k) ∧ Drawn0 w w')
  case atStart => exact ⟨(0),(by first | rfl | (simp;done) | (simp [*];done)),H',⟨Nat.le_refl _⟩,by repeat (first | exact Drawn0.refl _ | apply Drawn0.step)⟩
  case round =>
   clear H'
   try clear c1
   try clear p2
   try clear c3
   try clear c3b0
   try clear c3b1
   try clear c3b2
   obtain ⟨x5_1,rfl,HA,HK1,⟨m1,rfl⟩⟩:=hrel
   cases gk with
   | zero => exact absurd HA.out (by simp [humusref11_Ints.l0])
   | succ k1 =>
    have H:=HA.out
    clear HA
    simp only [humusref11_Ints.l0] at H
    by_cases c4 : x5_1 < (l0.length : Int)
    ·rw [if_pos c4] at H
     have c4b0 : decide (x5_1 < (l0.length : Int)) = true:=decide_eq_true c4
     clear c4
     by_cases c5 : 0 ≤ x5_1
     ·rw [if_pos c5] at H
      have c5b0 : decide (0 ≤ x5_1) = true:=decide_eq_true c5
      clear c5
      by_cases c6 : x5_1 < (l1.length : Int)
      ·rw [if_pos c6] at H
       have c6b0 : decide (x5_1 < (l1.length : Int)) = true:=decide_eq_true c6
       clear c6
       by_cases c7 : (rd l0 x5_1) = (rd l1 x5_1)
       ·rw [if_pos c7] at H
        have c7b0 : ((rd l0 x5_1) == (rd l1 x5_1)) = true:=beq_iff_eq.mpr c7
        have c7b1 : ((rd l0 x5_1) != (rd l1 x5_1)) = false:=bne_eq_false_iff_eq.mpr c7
        clear c7
        have H':=Aside0.mk H
        clear H
        have p118 : 0 ≤ (x5_1 : Int):=of_decide_eq_true (by first | (with_reducible assumption) | assumption)
        have q118 : x5_1 < (l0.length : Int):=of_decide_eq_true (by first | (with_reducible assumption) | assumption)
        obtain ⟨ad118,e118,hx118_0⟩:=Kd.at_int HR0.out x5_1 p118 q118
        cases e118
        replace p118:=eq_true p118
        replace q118:=eq_true q118
        have p119 : 0 ≤ (x5_1 : Int):=of_decide_eq_true (by first | (with_reducible assumption) | assumption)
        have q119 : x5_1 < (l1.length : Int):=of_decide_eq_true (by first | (with_reducible assumption) | assumption)
        obtain ⟨ad119,e119,hx119_0⟩:=Kd.at_int HR1.out x5_1 p119 q119
        cases e119
        replace p119:=eq_true p119
        replace q119:=eq_true q119
        go_wp2
        repeat (go_quiet (fail);try go_wp2)
        go_roundg k1
        case measure => have:=HK1.out;omega
        case rel => exact ⟨(wrap64 (x5_1 + 1)),(by first | rfl | (simp;done) | (simp [*];done)),H',⟨by have:=HK1.out;omega⟩,by repeat (first | exact Drawn0.refl _ | apply Drawn0.step)⟩
       ·rw [if_neg c7] at H
        have c7b0 : ((rd l0 x5_1) == (rd l1 x5_1)) = false:=beq_eq_false_iff_ne.mpr c7
        have c7b1 : ((rd l0 x5_1) != (rd l1 x5_1)) = true:=bne_iff_ne.mpr c7
        obtain rfl:=Option.some.inj H
        have p118 : 0 ≤ (x5_1 : Int):=of_decide_eq_true (by first | (with_reducible assumption) | assumption)
        have q118 : x5_1 < (l0.length : Int):=of_decide_eq_true (by first | (with_reducible assumption) | assumption)
        obtain ⟨ad118,e118,hx118_0⟩:=Kd.at_int HR0.out x5_1 p118 q118
        cases e118
        replace p118:=eq_true p118
        replace q118:=eq_true q118
        have p119 : 0 ≤ (x5_1 : Int):=of_decide_eq_true (by first | (with_reducible assumption) | assumption)
        have q119 : x5_1 < (l1.length : Int):=of_decide_eq_true (by first | (with_reducible assumption) | assumption)
        obtain ⟨ad119,e119,hx119_0⟩:=Kd.at_int HR1.out x5_1 p119 q119
        cases e119
        replace p119:=eq_true p119
        replace q119:=eq_true q119
        go_wp2
        repeat (go_quiet (fail);try go_wp2)
        go_ret
        exact ⟨by first | rfl | (simp;done) | (simp [*];done),by repeat (first | exact Drawn0.refl _ | apply Drawn0.step)⟩
      ·rw [if_neg c6] at H
       exact absurd H (by simp)
     ·rw [if_neg c5] at H
      exact absurd H (by simp)
    ·rw [if_neg c4] at H
     have c4b0 : decide (x5_1 < (l0.length : Int)) = false:=decide_eq_false c4
     clear c4
     obtain rfl:=Option.some.inj H
     go_wp2
     repeat (go_quiet (fail);try go_wp2)
     go_ret
     exact ⟨by first | rfl | (simp;done) | (simp [*];done),by repeat (first | exact Drawn0.refl _ | apply Drawn0.step)⟩
 ·rw [if_neg c3] at H
  have c3b0 : ((l0.length : Int) == (l1.length : Int)) = false:=beq_eq_false_iff_ne.mpr c3
  have c3b1 : ((l0.length : Int) != (l1.length : Int)) = true:=bne_iff_ne.mpr c3
  have c3b2 : (l0.length == l1.length) = false:=by first | simpa using c3 | (simp at c3 ⊢;omega)
  obtain rfl:=Option.some.inj H
  go_enter Try.func16,Try.ntmps16
  go_wp2
  repeat (go_quiet (fail);try go_wp2)
  go_ret
  exact ⟨by first | rfl | (simp;done) | (simp [*];done),by repeat (first | exact Drawn0.refl _ | apply Drawn0.step)⟩
end Go.Proofs.Ytbmcbhpkefjhbaa.P
namespace Go.Proofs.Ytbmcbhpkefjhbaa.P
open Go.RowKit Go.Proofs.YtbmcbhpkefjhbaaW.PrintWords Go.Proofs.YtbmcbhpkefjhbaaW.PrintLast Go.Proofs.YtbmcbhpkefjhbaaW.PrintMore
attribute [local go_sem] max2_int min2_int max_two min_two max_three min_three max_four min_four   -- for this text's walks alone
attribute [local go_sem] run_store_float
set_option linter.unusedVariables false
set_option linter.unusedSimpArgs false
def humuslaw26_awake.j0 : Nat → Bool → Option (Bool)
 | 0,_ => none
 | k + 1,x0 => some x0
def humuslaw26_awake.f (k : Nat)  : Option (Bool):=(dsg_Order.f k 3 (([(⟨2,0⟩ : S33)] : List (S33)))).bind fun bt123 => (if bt123.2 = true then ((humusref11_Ints.f k bt123.1 (([1,2,0] : List Int))).bind fun t130 => (humuslaw26_awake.j0 k t130)) else (humuslaw26_awake.j0 k false))
theorem humuslaw26_awake.mono_l : ∀ k,(∀ y0,LeO (humuslaw26_awake.j0 k y0) (humuslaw26_awake.j0 (k + 1) y0))
 | 0 => fun _ r h => by simp [humuslaw26_awake.j0] at h
 | k + 1 => by
  have ih0:=humuslaw26_awake.mono_l k
  ·intro y0
   unfold humuslaw26_awake.j0
   repeat' first
   | (with_reducible exact ih0 _)
   | (with_reducible exact dsg_Order.mono _ _ _)
   | (with_reducible exact humusref11_Ints.mono _ _ _)
   | (with_reducible exact LeO.refl _)
   | (with_reducible exact LeO.none _)
   | (with_reducible refine LeO.ite ?_ ?_)
   | (with_reducible refine LeO.bind ?_ (fun _ => ?_))
   | exact ih0 _
   | exact dsg_Order.mono _ _ _
   | exact humusref11_Ints.mono _ _ _
   | exact LeO.none _
   | refine LeO.ite ?_ ?_
   | refine LeO.bind ?_ (fun _ => ?_)
theorem humuslaw26_awake.mono : ∀ k,LeO (humuslaw26_awake.f k ) (humuslaw26_awake.f (k + 1) ):=by
 intro  k
 have ih0:=humuslaw26_awake.mono_l k
 unfold humuslaw26_awake.f
 repeat' first
   | (with_reducible exact ih0 _)
   | (with_reducible exact dsg_Order.mono _ _ _)
   | (with_reducible exact humusref11_Ints.mono _ _ _)
   | (with_reducible exact LeO.refl _)
   | (with_reducible exact LeO.none _)
   | (with_reducible refine LeO.ite ?_ ?_)
   | (with_reducible refine LeO.bind ?_ (fun _ => ?_))
   | exact ih0 _
   | exact dsg_Order.mono _ _ _
   | exact humusref11_Ints.mono _ _ _
   | exact LeO.none _
   | refine LeO.ite ?_ ?_
   | refine LeO.bind ?_ (fun _ => ?_)
set_option maxHeartbeats 8000000 in
set_option maxRecDepth 100000 in
theorem humuslaw26_awake.calls (k : Nat)  (r : Bool) (w : World) (h : humuslaw26_awake.f k  = some r) :
  Calls Try.prog 13 #[] w fun e w' => e = .returned (.bool r) ∧ Below w.heap.size w w':=by
 have hu33:=Try.underlying33
 have HB:=Aside0.mk (Below.refl w.heap.size w)
 have H : ((dsg_Order.f k 3 (([(⟨2,0⟩ : S33)] : List (S33)))).bind fun bt123 => (if bt123.2 = true then ((humusref11_Ints.f k bt123.1 (([1,2,0] : List Int))).bind fun t130 => (humuslaw26_awake.j0 k t130)) else (humuslaw26_awake.j0 k false))) = some r:=h
 clear h
 obtain ⟨y120,hy120⟩ : ∃ y_ : List (S33),y_ = (([(⟨2,0⟩ : S33)] : List (S33))):=⟨_,rfl⟩
 replace H : ((dsg_Order.f k 3 y120).bind fun bt123 => (if bt123.2 = true then ((humusref11_Ints.f k bt123.1 (([1,2,0] : List Int))).bind fun t130 => (humuslaw26_awake.j0 k t130)) else (humuslaw26_awake.j0 k false))) = some r:=by first | (rw [hy120];with_reducible exact H) | (have H2_:=(Option.bind_some _ _).symm.trans H;rw [hy120];with_reducible exact H2_) | (have H2_:=(Option.bind_some _ _).symm.trans H;with_reducible exact H2_) | with_reducible exact H | (rw [hy120];exact H) | exact H
 have Ny120:=Aside0.mk hy120
 clear hy120
 replace H:=Option.bind_eq_some_iff.mp H
 obtain ⟨⟨t123,t124⟩,A10,H⟩:=H
 replace H : (if t124 = true then ((humusref11_Ints.f k t123 (([1,2,0] : List Int))).bind fun t130 => (humuslaw26_awake.j0 k t130)) else (humuslaw26_awake.j0 k false)) = some r:=H
 have A1:=Aside0.mk A10
 clear A10
 have HC2:=Aside0.mk H
 clear H
 go_enter Try.func13,Try.ntmps13
 go_upto_region 2 with (first | ((with_reducible refine gate_dst (N:=5) rfl ?_);(try (refine gate_guard (by rfl) ?_;dsimp only));refine Kd.R_lit k33 _ 33 ?hg (N:=5) ?hd (xs:=([(⟨2,0⟩ : S33)] : List (S33))) (inner:=[.int .i64 2,.int .i64 0]) (ok:=fun _ => True) (okp:=fun _ => True) ?hr ?hp (fun _ hk => hk) trivial (Below.refl _ _) (Nat.le_refl _) (by simp) ?_;(case hd => rfl);(case hg => rfl);(case hr => first | (go_simp;done) | (go_simp;rfl));(case hp => exact (Reps.c2 (show Kd.M k33 _ _ _ (⟨2,0⟩ : S33) [.int .i64 2,.int .i64 0] from (k33_mkM _ _ _ (⟨2,0⟩ : S33) )) (Reps.none _ _)));intro v121 w3 ho4 hb hg_ hnew_;clear hg_ hnew_;(first | rw [← Ny120.out] at ho4 | (simp only [Int.reduceToNat] at ho4;rw [← Ny120.out] at ho4));have n0_:=Aside0.mk (Kd.R_lower ho4 (below_size (by repeat (first | (with_reducible first | exact HB.out | apply below_alloc | apply pw_below_drewN | apply below_drew1) | exact HB.out))));have n1_:=Aside0.mk (below_step (by repeat (first | (with_reducible first | exact HB.out | apply below_alloc | apply pw_below_drewN | apply below_drew1) | exact HB.out)) hb);clear HB;have HO122:=n0_;have HB:=n1_;clear n0_ n1_;clear hb ho4;obtain ⟨Ao5,co5,eo5⟩:=Kd.R_slice HO122.out;subst eo5) | ((with_reducible refine gate_callee (f:=14) rfl ?_);refine goesL_ (some 6) rfl rfl Try.func14 (by kernel_rfl) rfl #[.int .i64 3,.slice Ao5 y120.length co5] rfl (by (try simp only [List.map_toArray,List.map_cons,List.map_nil]);first | done | rfl | (simp only [List.length_drop,List.length_take];rfl)) ?_;(with_reducible refine (dsg_Order.calls k 3 _ _ y120 t123 t124 _ ?side1 ?side2 A1.out).mono ?_);(case side1 => repeat (first | exact (Kd.R_reads' HO122.out).2.2 | (with_reducible refine Kd.C_alloc ?_ _) | (with_reducible refine Kd.C_drewN ?_ _) | (with_reducible refine Kd.C_drew ?_)));(case side2 => exact (Kd.R_reads' HO122.out).2.1);rintro e w6 ⟨v125,rfl,ho0,hb⟩;refine ⟨_,rfl,?_⟩;have n0_:=Aside0.mk (Kd.R_below (by (with_reducible repeat (first | apply Kd.R_alloc | apply Kd.R_drewN | apply Kd.R_drew));exact HO122.out) hb);have n1_:=Aside0.mk (Kd.R_lower ho0 (below_size (by repeat (first | (with_reducible first | exact HB.out | apply below_alloc | apply pw_below_drewN | apply below_drew1) | exact HB.out))));have n2_:=Aside0.mk (below_step (by repeat (first | (with_reducible first | exact HB.out | apply below_alloc | apply pw_below_drewN | apply below_drew1) | exact HB.out)) hb);clear HO122;clear HB;have HO122:=n0_;have HO126:=n1_;have HB:=n2_;clear n0_ n1_ n2_;(try clear hb);(try clear hb2);(try clear hk);(try clear hi);(try clear ho0)))
 (try simp only [Act.put,List.setIfInBounds_toArray,List.set_cons_zero,List.set_cons_succ])
 go_cut [0] (fun v0 wc => ∃ (kq : Nat) (x0_1 : Bool),v0 = .bool x0_1 ∧ Aside0 (humuslaw26_awake.j0 kq x0_1 = some r) ∧ Aside0 (kq ≤ k) ∧ Aside0 (Below w.heap.size w wc))
 case first =>
  have H:=HC2.out
  clear HC2
  by_cases c7 : t124 = true
  ·subst c7
   have H1 : ((humusref11_Ints.f k t123 (([1,2,0] : List Int))).bind fun t130 => (humuslaw26_awake.j0 k t130)) = some r:=by rw [if_pos rfl] at H;exact H
   clear H
   have H:=H1
   clear H1
   obtain ⟨y127,hy127⟩ : ∃ y_ : List Int,y_ = (([1,2,0] : List Int)):=⟨_,rfl⟩
   replace H : ((humusref11_Ints.f k t123 y127).bind fun t130 => (humuslaw26_awake.j0 k t130)) = some r:=by first | (rw [hy127];with_reducible exact H) | (have H2_:=(Option.bind_some _ _).symm.trans H;rw [hy127];with_reducible exact H2_) | (have H2_:=(Option.bind_some _ _).symm.trans H;with_reducible exact H2_) | with_reducible exact H | (rw [hy127];exact H) | exact H
   have Ny127:=Aside0.mk hy127
   clear hy127
   replace H:=Option.bind_eq_some_iff.mp H
   obtain ⟨t130,A80,H⟩:=H
   replace H : (humuslaw26_awake.j0 k t130) = some r:=H
   have A8:=Aside0.mk A80
   clear A80
   have H':=Aside0.mk H
   clear H
   go_wp2_with (first | ((with_reducible refine gate_dst (N:=12) rfl ?_);(try (refine gate_guard (by rfl) ?_;dsimp only));refine Kd.R_lit (Kd.int .i64) _ 3 ?hg (N:=12) ?hd (xs:=([1,2,0] : List Int)) (inner:=[.int .i64 1,.int .i64 2,.int .i64 0]) (ok:=fun _ => True) (okp:=fun _ => True) ?hr ?hp (fun _ hk => hk) trivial (Below.refl _ _) (Nat.le_refl _) (by simp) ?_;(case hd => rfl);(case hg => rfl);(case hr => first | (go_simp;done) | (go_simp;rfl));(case hp => exact (Reps.one (show Kd.M (Kd.int .i64) _ _ _ 1 [.int .i64 1] from rfl) (Reps.one (show Kd.M (Kd.int .i64) _ _ _ 2 [.int .i64 2] from rfl) (Reps.one (show Kd.M (Kd.int .i64) _ _ _ 0 [.int .i64 0] from rfl) (Reps.none _ _)))));intro v128 w9 ho10 hb hg_ hnew_;clear hg_ hnew_;(first | rw [← Ny127.out] at ho10 | (simp only [Int.reduceToNat] at ho10;rw [← Ny127.out] at ho10));have n0_:=Aside0.mk (Kd.R_below (by (with_reducible repeat (first | apply Kd.R_alloc | apply Kd.R_drewN | apply Kd.R_drew));exact HO122.out) hb);have n1_:=Aside0.mk (Kd.R_elder' (by (with_reducible repeat (first | apply Kd.R_alloc | apply Kd.R_drewN | apply Kd.R_drew));exact HO126.out) (Kd.R_base ho10) hb);have n2_:=Aside0.mk (Kd.R_lower (Kd.R_new' ho10 (Kd.R_lt (by (with_reducible repeat (first | apply Kd.R_alloc | apply Kd.R_drewN | apply Kd.R_drew));exact HO126.out))) (below_size (by repeat (first | (with_reducible first | exact HB.out | apply below_alloc | apply pw_below_drewN | apply below_drew1) | exact HB.out))));have n3_:=Aside0.mk (below_step (by repeat (first | (with_reducible first | exact HB.out | apply below_alloc | apply pw_below_drewN | apply below_drew1) | exact HB.out)) hb);clear HO122;clear HO126;clear HB;have HO122:=n0_;have HO126:=n1_;have HO129:=n2_;have HB:=n3_;clear n0_ n1_ n2_ n3_;clear hb ho10;obtain ⟨Ao11,co11,eo11⟩:=Kd.R_slice HO126.out;subst eo11;obtain ⟨Ao12,co12,eo12⟩:=Kd.R_slice HO129.out;subst eo12) | (go_at_call 16;(with_reducible refine (humusref11_Ints.calls k _ _ t123 _ _ y127 t130 _ ?side1 ?side2 ?side3 ?side4 A8.out).mono ?_);(case side1 => repeat (first | exact (Kd.R_reads' HO126.out).2.2 | (with_reducible refine Kd.C_alloc ?_ _) | (with_reducible refine Kd.C_drewN ?_ _) | (with_reducible refine Kd.C_drew ?_)));(case side2 => exact (Kd.R_reads' HO126.out).2.1);(case side3 => repeat (first | exact (Kd.R_reads' HO129.out).2.2 | (with_reducible refine Kd.C_alloc ?_ _) | (with_reducible refine Kd.C_drewN ?_ _) | (with_reducible refine Kd.C_drew ?_)));(case side4 => exact (Kd.R_reads' HO129.out).2.1);rintro e w' ⟨rfl,⟨nd,rfl⟩⟩))
   go_meet
   case rel => exact ⟨_,(t130),(by first | rfl | (simp;done) | (simp [*];done)),H',⟨by first | omega | exact Nat.le_refl _⟩,⟨by repeat (first | (with_reducible first | exact HB.out | apply below_alloc | apply pw_below_drewN | apply below_drew1) | exact HB.out)⟩⟩
  ·replace c7:=Bool.eq_false_iff.mpr c7
   subst c7
   have H1 : (humuslaw26_awake.j0 k false) = some r:=by rw [if_neg (show ¬ (false = true) by decide)] at H;exact H
   clear H
   have H:=H1
   clear H1
   have H':=Aside0.mk H
   clear H
   go_wp2
   go_meet
   case rel => exact ⟨_,(false),(by first | rfl | (simp;done) | (simp [*];done)),H',⟨by first | omega | exact Nat.le_refl _⟩,⟨by repeat (first | (with_reducible first | exact HB.out | apply below_alloc | apply pw_below_drewN | apply below_drew1) | exact HB.out)⟩⟩
 case rest =>
  clear HC2
  try clear c1
  try clear c2
  try clear p2
  try clear c7
  obtain ⟨kq,x0_1,rfl,HA,HJ1,HB⟩:=hcut
  cases kq with
  | zero => exact absurd HA.out (by simp [humuslaw26_awake.j0])
  | succ kj1 =>
   have H:=HA.out
   clear HA
   simp only [humuslaw26_awake.j0] at H
   obtain rfl:=Option.some.inj H
   go_wp2
   go_ret
   exact ⟨by first | rfl | (simp [errW_none,errW_some] <;> rfl) | (simp [*,errW_none,errW_some] <;> rfl),by repeat (first | (with_reducible first | exact HB.out | apply below_alloc | apply pw_below_drewN | apply below_drew1) | exact HB.out)⟩
mutual
def humuslaw26_Light.l0 : Nat → List (S43) → Int → Option (Bool)
 | 0,_,_ => none
 | k + 1,x0,x3 => if x3 < (x0.length : Int) then (humuslaw26_Light.j1 k x0 x3 (decide (x3 < 15))) else (humuslaw26_Light.j1 k x0 x3 false)
def humuslaw26_Light.j1 : Nat → List (S43) → Int → Bool → Option (Bool)
 | 0,_,_,_ => none
 | k + 1,x0,x3,x11 => if x11 = true then (if 0 ≤ x3 then (if x3 < (x0.length : Int) then (if (((rd_T43 x0 x3).f2).length : Int) > 20 then (some false) else (if (((rd_T43 x0 x3).f3).length : Int) > 20 then (some false) else (humuslaw26_Light.l0 k x0 (wrap64 (x3 + 1))))) else (none)) else (none)) else (some (decide ((x0.length : Int) ≤ 15)))
end
def humuslaw26_Light.f (k : Nat) (l0 : List (S43)) : Option (Bool):=humuslaw26_Light.l0 k l0 0
set_option maxHeartbeats 8000000 in
set_option maxRecDepth 100000 in
theorem humuslaw26_Light.calls (k : Nat) (A0 : Option Addr) (c0 : Nat) (l0 : List (S43)) (r : Bool) (w : World) (hr0 : Kd.C k43 w A0 l0.length l0) (hc0 : l0.length ≤ c0) (h : humuslaw26_Light.f k l0 = some r) :
  Calls Try.prog 17 #[.slice A0 l0.length c0] w fun e w' => e = .returned (.bool r) ∧ Drawn0 w w':=by
 have HR0:=Aside0.mk hr0
 have HC0:=Aside0.mk hc0
 clear hr0 hc0
 have H : (humuslaw26_Light.l0 k l0 0) = some r:=h
 clear h
 have H':=Aside0.mk H
 clear H
 go_enter Try.func17,Try.ntmps17
 go_wp2
 go_loopg [3] k (fun kq v3 w' => ∃ (x3_1 : Int),v3 = .int .i64 x3_1 ∧ Aside0 (humuslaw26_Light.l0 kq l0 x3_1 = some r) ∧ Aside0 (kq ≤ k) ∧ Drawn0 w w')
 case atStart => exact ⟨(0),(by first | rfl | (simp;done) | (simp [*];done)),H',⟨Nat.le_refl _⟩,by repeat (first | exact Drawn0.refl _ | apply Drawn0.step)⟩
 case round =>
  clear H'
  try clear c1
  obtain ⟨x3_1,rfl,HA,HK1,⟨m1,rfl⟩⟩:=hrel
  cases gk with
  | zero => exact absurd HA.out (by simp [humuslaw26_Light.l0])
  | succ k1 =>
   have H:=HA.out
   clear HA
   simp only [humuslaw26_Light.l0] at H
   have HC2:=Aside0.mk H
   clear H
   go_upto_region 2 with (fail)
   go_cut [11] (fun v11 wc => ∃ (kq : Nat) (x11_1 : Bool),v11 = .bool x11_1 ∧ Aside0 (humuslaw26_Light.j1 kq l0 x3_1 x11_1 = some r) ∧ Aside0 (kq ≤ k1) ∧ Drawn0 w wc)
   case first =>
    have H:=HC2.out
    clear HC2
    by_cases c3 : x3_1 < (l0.length : Int)
    ·rw [if_pos c3] at H
     have c3b0 : decide (x3_1 < (l0.length : Int)) = true:=decide_eq_true c3
     clear c3
     (first | rw [c3b0] | (simp only [i64_w,i32_w];rw [c3b0]) | skip)
     have H':=Aside0.mk H
     clear H
     go_wp2
     go_meet
     case rel => exact ⟨_,(decide (x3_1 < 15)),(by first | rfl | (simp;done) | (simp [*];done)),H',⟨by have:=HK1.out;first | omega | exact Nat.le_refl _⟩,by repeat (first | exact Drawn0.refl _ | apply Drawn0.step)⟩
    ·rw [if_neg c3] at H
     have c3b0 : decide (x3_1 < (l0.length : Int)) = false:=decide_eq_false c3
     clear c3
     (first | rw [c3b0] | (simp only [i64_w,i32_w];rw [c3b0]) | skip)
     have H':=Aside0.mk H
     clear H
     go_wp2
     go_meet
     case rel => exact ⟨_,(false),(by first | rfl | (simp;done) | (simp [*];done)),H',⟨by have:=HK1.out;first | omega | exact Nat.le_refl _⟩,by repeat (first | exact Drawn0.refl _ | apply Drawn0.step)⟩
   case rest =>
    clear HC2
    try clear c1
    try clear p2
    try clear c3
    try clear c3b0
    obtain ⟨kq,x11_1,rfl,HA,HJ1,⟨mc1,rfl⟩⟩:=hcut
    cases kq with
    | zero => exact absurd HA.out (by simp [humuslaw26_Light.j1])
    | succ kj1 =>
     have H:=HA.out
     clear HA
     simp only [humuslaw26_Light.j1] at H
     by_cases c4 : x11_1 = true
     ·subst c4
      have H1 : (if 0 ≤ x3_1 then (if x3_1 < (l0.length : Int) then (if (((rd_T43 l0 x3_1).f2).length : Int) > 20 then (some false) else (if (((rd_T43 l0 x3_1).f3).length : Int) > 20 then (some false) else (humuslaw26_Light.l0 kj1 l0 (wrap64 (x3_1 + 1))))) else (none)) else (none)) = some r:=by rw [if_pos rfl] at H;exact H
      clear H
      have H:=H1
      clear H1
      by_cases c5 : 0 ≤ x3_1
      ·rw [if_pos c5] at H
       have c5b0 : decide (0 ≤ x3_1) = true:=decide_eq_true c5
       clear c5
       by_cases c6 : x3_1 < (l0.length : Int)
       ·rw [if_pos c6] at H
        have c6b0 : decide (x3_1 < (l0.length : Int)) = true:=decide_eq_true c6
        clear c6
        by_cases c7 : (((rd_T43 l0 x3_1).f2).length : Int) > 20
        ·rw [if_pos c7] at H
         have c7b0 : decide (20 < (((rd_T43 l0 x3_1).f2).length : Int)) = true:=decide_eq_true c7
         have c7b1 : decide (20 < ((rd_T43 l0 x3_1).f2).length) = true:=decide_eq_true (by omega)
         clear c7
         obtain rfl:=Option.some.inj H
         have p131 : 0 ≤ (x3_1 : Int):=of_decide_eq_true (by first | (with_reducible assumption) | assumption)
         have q131 : x3_1 < (l0.length : Int):=of_decide_eq_true (by first | (with_reducible assumption) | assumption)
         obtain ⟨ad131,A131_2,c131_2,A131_3,c131_3,A131_4,c131_4,e131,hx131_0,hx131_1,hx131_2,hx131_3,hx131_4,hl131_2,hi131_2,hl131_3,hi131_3,hl131_4,hi131_4⟩:=at_T43 HR0.out x3_1 p131 q131
         cases e131
         have HR131_2:=Aside0.mk hi131_2
         have HC131_2:=Aside0.mk hl131_2
         clear hi131_2 hl131_2
         have HR131_3:=Aside0.mk hi131_3
         have HC131_3:=Aside0.mk hl131_3
         clear hi131_3 hl131_3
         have HR131_4:=Aside0.mk hi131_4
         have HC131_4:=Aside0.mk hl131_4
         clear hi131_4 hl131_4
         replace p131:=eq_true p131
         replace q131:=eq_true q131
         go_wp2
         go_ret
         exact ⟨by first | rfl | (simp;done) | (simp [*];done),by repeat (first | exact Drawn0.refl _ | apply Drawn0.step)⟩
        ·rw [if_neg c7] at H
         have c7b0 : decide (20 < (((rd_T43 l0 x3_1).f2).length : Int)) = false:=decide_eq_false c7
         have c7b1 : decide (20 < ((rd_T43 l0 x3_1).f2).length) = false:=decide_eq_false (by omega)
         clear c7
         by_cases c8 : (((rd_T43 l0 x3_1).f3).length : Int) > 20
         ·rw [if_pos c8] at H
          have c8b0 : decide (20 < (((rd_T43 l0 x3_1).f3).length : Int)) = true:=decide_eq_true c8
          have c8b1 : decide (20 < ((rd_T43 l0 x3_1).f3).length) = true:=decide_eq_true (by omega)
          clear c8
          obtain rfl:=Option.some.inj H
          have p131 : 0 ≤ (x3_1 : Int):=of_decide_eq_true (by first | (with_reducible assumption) | assumption)
          have q131 : x3_1 < (l0.length : Int):=of_decide_eq_true (by first | (with_reducible assumption) | assumption)
          obtain ⟨ad131,A131_2,c131_2,A131_3,c131_3,A131_4,c131_4,e131,hx131_0,hx131_1,hx131_2,hx131_3,hx131_4,hl131_2,hi131_2,hl131_3,hi131_3,hl131_4,hi131_4⟩:=at_T43 HR0.out x3_1 p131 q131
          cases e131
          have HR131_2:=Aside0.mk hi131_2
          have HC131_2:=Aside0.mk hl131_2
          clear hi131_2 hl131_2
          have HR131_3:=Aside0.mk hi131_3
          have HC131_3:=Aside0.mk hl131_3
          clear hi131_3 hl131_3
          have HR131_4:=Aside0.mk hi131_4
          have HC131_4:=Aside0.mk hl131_4
          clear hi131_4 hl131_4
          replace p131:=eq_true p131
          replace q131:=eq_true q131
          have p132 : 0 ≤ (x3_1 : Int):=of_decide_eq_true (by first | (with_reducible assumption) | assumption)
          have q132 : x3_1 < (l0.length : Int):=of_decide_eq_true (by first | (with_reducible assumption) | assumption)
          obtain ⟨ad132,A132_2,c132_2,A132_3,c132_3,A132_4,c132_4,e132,hx132_0,hx132_1,hx132_2,hx132_3,hx132_4,hl132_2,hi132_2,hl132_3,hi132_3,hl132_4,hi132_4⟩:=at_T43 HR0.out x3_1 p132 q132
          obtain rfl : ad131 = ad132:=(by injection e132)
          have HR132_2:=Aside0.mk hi132_2
          have HC132_2:=Aside0.mk hl132_2
          clear hi132_2 hl132_2
          have HR132_3:=Aside0.mk hi132_3
          have HC132_3:=Aside0.mk hl132_3
          clear hi132_3 hl132_3
          have HR132_4:=Aside0.mk hi132_4
          have HC132_4:=Aside0.mk hl132_4
          clear hi132_4 hl132_4
          replace p132:=eq_true p132
          replace q132:=eq_true q132
          have ea_:=Option.some.inj (hx131_2.symm.trans hx132_2)
          injection ea_ with ea_ en_ ec_
          subst ea_
          subst ec_
          clear en_
          have ea_:=Option.some.inj (hx131_3.symm.trans hx132_3)
          injection ea_ with ea_ en_ ec_
          subst ea_
          subst ec_
          clear en_
          have ea_:=Option.some.inj (hx131_4.symm.trans hx132_4)
          injection ea_ with ea_ en_ ec_
          subst ea_
          subst ec_
          clear en_
          go_wp2
          go_ret
          exact ⟨by first | rfl | (simp;done) | (simp [*];done),by repeat (first | exact Drawn0.refl _ | apply Drawn0.step)⟩
         ·rw [if_neg c8] at H
          have c8b0 : decide (20 < (((rd_T43 l0 x3_1).f3).length : Int)) = false:=decide_eq_false c8
          have c8b1 : decide (20 < ((rd_T43 l0 x3_1).f3).length) = false:=decide_eq_false (by omega)
          clear c8
          have H':=Aside0.mk H
          clear H
          have p131 : 0 ≤ (x3_1 : Int):=of_decide_eq_true (by first | (with_reducible assumption) | assumption)
          have q131 : x3_1 < (l0.length : Int):=of_decide_eq_true (by first | (with_reducible assumption) | assumption)
          obtain ⟨ad131,A131_2,c131_2,A131_3,c131_3,A131_4,c131_4,e131,hx131_0,hx131_1,hx131_2,hx131_3,hx131_4,hl131_2,hi131_2,hl131_3,hi131_3,hl131_4,hi131_4⟩:=at_T43 HR0.out x3_1 p131 q131
          cases e131
          have HR131_2:=Aside0.mk hi131_2
          have HC131_2:=Aside0.mk hl131_2
          clear hi131_2 hl131_2
          have HR131_3:=Aside0.mk hi131_3
          have HC131_3:=Aside0.mk hl131_3
          clear hi131_3 hl131_3
          have HR131_4:=Aside0.mk hi131_4
          have HC131_4:=Aside0.mk hl131_4
          clear hi131_4 hl131_4
          replace p131:=eq_true p131
          replace q131:=eq_true q131
          have p132 : 0 ≤ (x3_1 : Int):=of_decide_eq_true (by first | (with_reducible assumption) | assumption)
          have q132 : x3_1 < (l0.length : Int):=of_decide_eq_true (by first | (with_reducible assumption) | assumption)
          obtain ⟨ad132,A132_2,c132_2,A132_3,c132_3,A132_4,c132_4,e132,hx132_0,hx132_1,hx132_2,hx132_3,hx132_4,hl132_2,hi132_2,hl132_3,hi132_3,hl132_4,hi132_4⟩:=at_T43 HR0.out x3_1 p132 q132
          obtain rfl : ad131 = ad132:=(by injection e132)
          have HR132_2:=Aside0.mk hi132_2
          have HC132_2:=Aside0.mk hl132_2
          clear hi132_2 hl132_2
          have HR132_3:=Aside0.mk hi132_3
          have HC132_3:=Aside0.mk hl132_3
          clear hi132_3 hl132_3
          have HR132_4:=Aside0.mk hi132_4
          have HC132_4:=Aside0.mk hl132_4
          clear hi132_4 hl132_4
          replace p132:=eq_true p132
          replace q132:=eq_true q132
          have ea_:=Option.some.inj (hx131_2.symm.trans hx132_2)
          injection ea_ with ea_ en_ ec_
          subst ea_
          subst ec_
          clear en_
          have ea_:=Option.some.inj (hx131_3.symm.trans hx132_3)
          injection ea_ with ea_ en_ ec_
          subst ea_
          subst ec_
          clear en_
          have ea_:=Option.some.inj (hx131_4.symm.trans hx132_4)
          injection ea_ with ea_ en_ ec_
          subst ea_
          subst ec_
          clear en_
          go_wp2
          go_roundg kj1
          case measure => have:=HK1.out;have:=HJ1.out;omega
          case rel => exact ⟨(wrap64 (x3_1 + 1)),(by first | rfl | (simp;done) | (simp [*];done)),H',⟨by have:=HK1.out;have:=HJ1.out;omega⟩,by repeat (first | exact Drawn0.refl _ | apply Drawn0.step)⟩
       ·rw [if_neg c6] at H
        exact absurd H (by simp)
      ·rw [if_neg c5] at H
       exact absurd H (by simp)
     ·replace c4:=Bool.eq_false_iff.mpr c4
      subst c4
      have H1 : (some (decide ((l0.length : Int) ≤ 15))) = some r:=by rw [if_neg (show ¬ (false = true) by decide)] at H;exact H
      clear H
      have H:=H1
      clear H1
      obtain rfl:=Option.some.inj H
      go_wp2
      go_ret
      exact ⟨by first | rfl | (simp;done) | (simp [*];done),by repeat (first | exact Drawn0.refl _ | apply Drawn0.step)⟩
end Go.Proofs.Ytbmcbhpkefjhbaa.P
set_option linter.unusedVariables false
set_option linter.unusedSimpArgs false
namespace Go.Proofs.Ytbmcbhpkefjhbaa.P
open Go.RowKit Go.Proofs.Ytbmcbhpkefjhbaa Go.Proofs.Ytbmcbhpkefjhbaa.Mem Go.Proofs.YtbmcbhpkefjhbaaW.PrintWords Go.Proofs.YtbmcbhpkefjhbaaW.PrintLast Go.Proofs.YtbmcbhpkefjhbaaW.PrintMore
theorem Light26_l0 {l : List SSt} (hl : l.length ≤ maxLen) : ∀ (n i k : Nat), n = 15 - i → i ≤ 15 → 2 * n + 2 ≤ k → (∀ j, j < i → j < l.length → (rdS l (j : Int)).f2.length ≤ 20 ∧ (rdS l (j : Int)).f3.length ≤ 20) → ∃ b, humuslaw26_Light.l0 k l (i : Int) = some b ∧ (b = true → (∀ s ∈ l, s.f2.length ≤ 20 ∧ s.f3.length ≤ 20) ∧ l.length ≤ 15) := by
  have fin : ∀ (i k : Nat), 1 ≤ k → (l.length ≤ i ∨ 15 ≤ i) → (∀ j, j < i → j < l.length → (rdS l (j : Int)).f2.length ≤ 20 ∧ (rdS l (j : Int)).f3.length ≤ 20) → ∃ b, humuslaw26_Light.j1 k l (i : Int) false = some b ∧ (b = true → (∀ s ∈ l, s.f2.length ≤ 20 ∧ s.f3.length ≤ 20) ∧ l.length ≤ 15) := by
    intro i k hk hi hh
    obtain ⟨k, rfl⟩ : ∃ m, k = m + 1 := ⟨k - 1, by omega⟩
    rw [humuslaw26_Light.j1, if_neg (by decide)]
    refine ⟨_, rfl, fun h => ?_⟩
    have h15 : l.length ≤ 15 := by rw [decide_eq_true_eq] at h; omega
    refine ⟨fun s hm => ?_, h15⟩
    obtain ⟨j, hj⟩ := List.mem_iff_getElem?.1 hm
    have hj' := (List.getElem?_eq_some_iff.1 hj).1
    have := hh j (by omega) hj'
    have e := (rdS_at hj').symm.trans hj
    injection e with e
    rw [← e]; exact this
  intro n
  induction n with
  | zero =>
    intro i k hn hi hk hh
    obtain ⟨k, rfl⟩ : ∃ m, k = m + 1 := ⟨k - 1, by omega⟩
    rw [humuslaw26_Light.l0]
    by_cases hlt : (i : Int) < (l.length : Int)
    · rw [if_pos hlt, decide_eq_false (by omega)]; exact fin i k (by omega) (Or.inr (by omega)) hh
    · rw [if_neg hlt]; exact fin i k (by omega) (Or.inl (by omega)) hh
  | succ n ih =>
    intro i k hn hi hk hh
    obtain ⟨k, rfl⟩ : ∃ m, k = m + 2 := ⟨k - 2, by omega⟩
    rw [humuslaw26_Light.l0]
    by_cases hlt : (i : Int) < (l.length : Int)
    · rw [if_pos hlt, decide_eq_true (by omega), humuslaw26_Light.j1, if_pos rfl, if_pos (by omega), if_pos hlt, wsucc (by omega)]
      by_cases h6 : ((rdS l (i : Int)).f2.length : Int) > 20
      · rw [if_pos h6]; exact ⟨_, rfl, fun h => by cases h⟩
      rw [if_neg h6]
      by_cases h7 : ((rdS l (i : Int)).f3.length : Int) > 20
      · rw [if_pos h7]; exact ⟨_, rfl, fun h => by cases h⟩
      rw [if_neg h7]
      refine ih (i + 1) k (by omega) (by omega) (by omega) (fun j h1 h2 => ?_)
      by_cases e : j = i
      · subst e; omega
      · exact hh j (by omega) h2
    · rw [if_neg hlt]; exact fin i (k + 1) (by omega) (Or.inl (by omega)) hh
theorem Light26_ev {k : Nat} {l : List SSt} (hl : l.length ≤ maxLen) (hk : 50 ≤ k) : ∃ b, humuslaw26_Light.f k l = some b ∧ (b = true → (∀ s ∈ l, s.f2.length ≤ 20 ∧ s.f3.length ≤ 20) ∧ l.length ≤ 15) := by
  unfold humuslaw26_Light.f
  exact Light26_l0 hl 15 0 k rfl (by omega) (by omega) (fun j h => absurd h (Nat.not_lt_zero _))
theorem awake26_at : humuslaw26_awake.f 100 = some true := by kernel_rfl
theorem awake26_ev : ∀ {k : Nat}, 100 ≤ k → humuslaw26_awake.f k = some true := by
  intro k hk
  obtain ⟨d, rfl⟩ : ∃ d, k = 100 + d := ⟨k - 100, by omega⟩
  clear hk
  induction d with
  | zero => exact awake26_at
  | succ d ih => exact humuslaw26_awake.mono (100 + d) _ ih
theorem good_ok {s : SSt} (h : good_story s) : okEv s.f2 ∧ okRo s.f3 := by
  obtain ⟨_, _, h2, h3⟩ := h
  exact ⟨fun e he => ⟨(h2.1 e he).2.2.1, (h2.1 e he).2.2.2.1⟩, fun r hr => (h3.1 r hr).1⟩
end Go.Proofs.Ytbmcbhpkefjhbaa.P
namespace Go.Proofs.Ytbmcbhpkefjhbaa.P
open Go.RowKit Go.Proofs.YtbmcbhpkefjhbaaW.PrintWords Go.Proofs.YtbmcbhpkefjhbaaW.PrintLast Go.Proofs.YtbmcbhpkefjhbaaW.PrintMore
attribute [local go_sem] max2_int min2_int max_two min_two max_three min_three max_four min_four   -- for this text's walks alone
attribute [local go_sem] run_store_float
set_option linter.unusedVariables false
set_option linter.unusedSimpArgs false
mutual
def humuslaw26_DsgAlone.l0 : Nat → List (S43) → List (S43) → Int → Int → Option (Bool)
 | 0,_,_,_,_ => none
 | k + 1,x0,x3,x4,x5 => if x5 < (x0.length : Int) then (if 0 ≤ x5 then (if (((rd_T43 x0 x5).f3).length : Int) > 0 then (if x3.length < 1599289640401 then (humuslaw26_DsgAlone.l0 k x0 (x3 ++ [(⟨(rd_T43 x0 x5).f0,x4,(rd_T43 x0 x5).f2,(rd_T43 x0 x5).f3,(rd_T43 x0 x5).f4⟩ : S43)]) (wrap64 (x4 + 1)) (wrap64 (x5 + 1))) else (none)) else (if x3.length < 1599289640401 then (humuslaw26_DsgAlone.l0 k x0 (x3 ++ [(⟨(rd_T43 x0 x5).f0,x4,(rd_T43 x0 x5).f2,(rd_T43 x0 x5).f3,(rd_T43 x0 x5).f4⟩ : S43)]) x4 (wrap64 (x5 + 1))) else (none))) else (none)) else ((dsg_Edges.f k x3).bind fun t212 => (humuslaw26_DsgAlone.l1 k x3 t212 0))
def humuslaw26_DsgAlone.l1 : Nat → List (S43) → List (S33) → Int → Option (Bool)
 | 0,_,_,_ => none
 | k + 1,x3,x7,x8 => if x8 < (x7.length : Int) then (if 0 ≤ x8 then (if ((rd_T33 x7 x8).f0) ≥ ((rd_T33 x7 x8).f1) then (none) else (humuslaw26_DsgAlone.l1 k x3 x7 (wrap64 (x8 + 1)))) else (none)) else ((dsg_Order.f k (x3.length : Int) x7).bind fun bt217 => (if bt217.2 = true then ((humuslaw26_awake.f k).bind fun t221 => (humuslaw26_DsgAlone.j2 k t221)) else (none)))
def humuslaw26_DsgAlone.j2 : Nat → Bool → Option (Bool)
 | 0,_ => none
 | k + 1,x2 => some x2
end
def humuslaw26_DsgAlone.f (k : Nat) (l0 : List (S43)) : Option (Bool):=(humuslaw26_Light.f k l0).bind fun t199 => (if t199 = true then (humuslaw26_DsgAlone.l0 k l0 (([] : List (S43))) 0 0) else ((humuslaw26_awake.f k).bind fun t200 => (some t200)))
set_option maxHeartbeats 8000000 in
set_option maxRecDepth 100000 in
theorem humuslaw26_DsgAlone.calls (k : Nat) (P0_ : Nat → Prop) (A0 : Option Addr) (c0 : Nat) (l0 : List (S43)) (r : Bool) (w : World) (hs0 : Kd.V k43 43 w w.heap.size (fun k_ => P0_ k_) (.slice A0 l0.length c0) l0) (h : humuslaw26_DsgAlone.f k l0 = some r) :
  Calls Try.prog 6 #[.slice A0 l0.length c0] w fun e w' => e = .returned (.bool r) ∧ Below w.heap.size w w':=by
 have hu43:=Try.underlying43
 have HO0:=Aside0.mk (show Kd.V k43 43 w w.heap.size (fun k_ => (P0_ k_ ∨ w.heap.size ≤ k_)) (.slice A0 l0.length c0) l0 from Kd.V_mono hs0 (fun k_ hk => .inl hk))
 have HB:=Aside0.mk (Below.refl w.heap.size w)
 have H : ((humuslaw26_Light.f k l0).bind fun t199 => (if t199 = true then (humuslaw26_DsgAlone.l0 k l0 (([] : List (S43))) 0 0) else ((humuslaw26_awake.f k).bind fun t200 => (some t200)))) = some r:=h
 clear h
 replace H:=Option.bind_eq_some_iff.mp H
 obtain ⟨t199,A20,H⟩:=H
 replace H : (if t199 = true then (humuslaw26_DsgAlone.l0 k l0 (([] : List (S43))) 0 0) else ((humuslaw26_awake.f k).bind fun t200 => (some t200))) = some r:=H
 have A2:=Aside0.mk A20
 clear A20
 by_cases c3 : t199 = true
 ·subst c3
  have H1 : (humuslaw26_DsgAlone.l0 k l0 (([] : List (S43))) 0 0) = some r:=by rw [if_pos rfl] at H;exact H
  clear H
  have H:=H1
  clear H1
  obtain ⟨y201,hy201⟩ : ∃ y_ : List (S43),y_ = (([] : List (S43))):=⟨_,rfl⟩
  replace H : (humuslaw26_DsgAlone.l0 k l0 y201 0 0) = some r:=by first | (rw [hy201];with_reducible exact H) | (have H2_:=(Option.bind_some _ _).symm.trans H;rw [hy201];with_reducible exact H2_) | (have H2_:=(Option.bind_some _ _).symm.trans H;with_reducible exact H2_) | with_reducible exact H | (rw [hy201];exact H) | exact H
  have Ny201:=Aside0.mk hy201
  clear hy201
  have H':=Aside0.mk H
  clear H
  go_enter Try.func6,Try.ntmps6
  go_wp2_with (first | (go_at_call 17;(with_reducible refine (humuslaw26_Light.calls k _ _ l0 true _ ?side1 ?side2 A2.out).mono ?_);(case side1 => repeat (first | exact (Kd.V_reads' HO0.out).2.2 | (with_reducible refine Kd.C_alloc ?_ _) | (with_reducible refine Kd.C_drewN ?_ _) | (with_reducible refine Kd.C_drew ?_)));(case side2 => exact (Kd.V_reads' HO0.out).2.1);rintro e w' ⟨rfl,⟨nd,rfl⟩⟩;(try first | exact ⟨rfl,_,World.drewN_drewN _ _ _⟩ | exact ⟨rfl,_,Eq.trans (World.drewN_drewN _ _ _) (congrArg (World.drewN _) (Nat.add_assoc _ _ _))⟩)) | ((with_reducible refine gate_dst (N:=15) rfl ?_);refine Kd.N_lit k43 _ 43 ?hg (N':=15) ?hd (xs:=([] : List (S43))) (inner:=[]) (ok:=(fun k_ => (P0_ k_ ∨ w.heap.size ≤ k_))) (okp:=(fun k_ => (P0_ k_ ∨ w.heap.size ≤ k_))) ?hr ?hp (fun _ hk => hk) ((show ∀ k_,w.heap.size ≤ k_ → (fun k_ => (P0_ k_ ∨ w.heap.size ≤ k_)) k_ from fun k_ hk => (.inr (Nat.le_trans (below_size (by repeat (first | (with_reducible first | exact HB.out | apply below_alloc | apply pw_below_drewN | apply below_drew1) | exact HB.out))) hk))) _ (Nat.le_refl _)) (Below.refl _ _) (Nat.le_refl _) (by simp) ?_;(case hd => rfl);(case hg => rfl);(case hr => first | (go_simp;done) | (go_simp;rfl));(case hp => exact (Reps.none _ _));intro v202 w4 ho5 hb hg_ hnew_;clear hg_ hnew_;(first | rw [← Ny201.out] at ho5 | (simp only [Int.reduceToNat] at ho5;rw [← Ny201.out] at ho5));have n0_:=Aside0.mk (Kd.V_elder' (by (with_reducible repeat (first | apply Kd.V_alloc | apply Kd.V_drewN | apply Kd.V_drew));exact HO0.out) (Kd.N_base ho5) hb);have n1_:=Aside0.mk (Kd.N_lower ho5 (below_size (by repeat (first | (with_reducible first | exact HB.out | apply below_alloc | apply pw_below_drewN | apply below_drew1) | exact HB.out))));have n2_:=Aside0.mk (below_step (by repeat (first | (with_reducible first | exact HB.out | apply below_alloc | apply pw_below_drewN | apply below_drew1) | exact HB.out)) hb);clear HO0;clear HB;have HO0:=n0_;have HO203:=n1_;have HB:=n2_;clear n0_ n1_ n2_;clear hb ho5))
  repeat (go_quiet (first | (go_at_call 17;(with_reducible refine (humuslaw26_Light.calls k _ _ l0 true _ ?side1 ?side2 A2.out).mono ?_);(case side1 => repeat (first | exact (Kd.V_reads' HO0.out).2.2 | (with_reducible refine Kd.C_alloc ?_ _) | (with_reducible refine Kd.C_drewN ?_ _) | (with_reducible refine Kd.C_drew ?_)));(case side2 => exact (Kd.V_reads' HO0.out).2.1);rintro e w' ⟨rfl,⟨nd,rfl⟩⟩;(try first | exact ⟨rfl,_,World.drewN_drewN _ _ _⟩ | exact ⟨rfl,_,Eq.trans (World.drewN_drewN _ _ _) (congrArg (World.drewN _) (Nat.add_assoc _ _ _))⟩)) | ((with_reducible refine gate_dst (N:=15) rfl ?_);refine Kd.N_lit k43 _ 43 ?hg (N':=15) ?hd (xs:=([] : List (S43))) (inner:=[]) (ok:=(fun k_ => (P0_ k_ ∨ w.heap.size ≤ k_))) (okp:=(fun k_ => (P0_ k_ ∨ w.heap.size ≤ k_))) ?hr ?hp (fun _ hk => hk) ((show ∀ k_,w.heap.size ≤ k_ → (fun k_ => (P0_ k_ ∨ w.heap.size ≤ k_)) k_ from fun k_ hk => (.inr (Nat.le_trans (below_size (by repeat (first | (with_reducible first | exact HB.out | apply below_alloc | apply pw_below_drewN | apply below_drew1) | exact HB.out))) hk))) _ (Nat.le_refl _)) (Below.refl _ _) (Nat.le_refl _) (by simp) ?_;(case hd => rfl);(case hg => rfl);(case hr => first | (go_simp;done) | (go_simp;rfl));(case hp => exact (Reps.none _ _));intro v202 w4 ho5 hb hg_ hnew_;clear hg_ hnew_;(first | rw [← Ny201.out] at ho5 | (simp only [Int.reduceToNat] at ho5;rw [← Ny201.out] at ho5));have n0_:=Aside0.mk (Kd.V_elder' (by (with_reducible repeat (first | apply Kd.V_alloc | apply Kd.V_drewN | apply Kd.V_drew));exact HO0.out) (Kd.N_base ho5) hb);have n1_:=Aside0.mk (Kd.N_lower ho5 (below_size (by repeat (first | (with_reducible first | exact HB.out | apply below_alloc | apply pw_below_drewN | apply below_drew1) | exact HB.out))));have n2_:=Aside0.mk (below_step (by repeat (first | (with_reducible first | exact HB.out | apply below_alloc | apply pw_below_drewN | apply below_drew1) | exact HB.out)) hb);clear HO0;clear HB;have HO0:=n0_;have HO203:=n1_;have HB:=n2_;clear n0_ n1_ n2_;clear hb ho5));try go_wp2_with (first | (go_at_call 17;(with_reducible refine (humuslaw26_Light.calls k _ _ l0 true _ ?side1 ?side2 A2.out).mono ?_);(case side1 => repeat (first | exact (Kd.V_reads' HO0.out).2.2 | (with_reducible refine Kd.C_alloc ?_ _) | (with_reducible refine Kd.C_drewN ?_ _) | (with_reducible refine Kd.C_drew ?_)));(case side2 => exact (Kd.V_reads' HO0.out).2.1);rintro e w' ⟨rfl,⟨nd,rfl⟩⟩;(try first | exact ⟨rfl,_,World.drewN_drewN _ _ _⟩ | exact ⟨rfl,_,Eq.trans (World.drewN_drewN _ _ _) (congrArg (World.drewN _) (Nat.add_assoc _ _ _))⟩)) | ((with_reducible refine gate_dst (N:=15) rfl ?_);refine Kd.N_lit k43 _ 43 ?hg (N':=15) ?hd (xs:=([] : List (S43))) (inner:=[]) (ok:=(fun k_ => (P0_ k_ ∨ w.heap.size ≤ k_))) (okp:=(fun k_ => (P0_ k_ ∨ w.heap.size ≤ k_))) ?hr ?hp (fun _ hk => hk) ((show ∀ k_,w.heap.size ≤ k_ → (fun k_ => (P0_ k_ ∨ w.heap.size ≤ k_)) k_ from fun k_ hk => (.inr (Nat.le_trans (below_size (by repeat (first | (with_reducible first | exact HB.out | apply below_alloc | apply pw_below_drewN | apply below_drew1) | exact HB.out))) hk))) _ (Nat.le_refl _)) (Below.refl _ _) (Nat.le_refl _) (by simp) ?_;(case hd => rfl);(case hg => rfl);(case hr => first | (go_simp;done) | (go_simp;rfl));(case hp => exact (Reps.none _ _));intro v202 w4 ho5 hb hg_ hnew_;clear hg_ hnew_;(first | rw [← Ny201.out] at ho5 | (simp only [Int.reduceToNat] at ho5;rw [← Ny201.out] at ho5));have n0_:=Aside0.mk (Kd.V_elder' (by (with_reducible repeat (first | apply Kd.V_alloc | apply Kd.V_drewN | apply Kd.V_drew));exact HO0.out) (Kd.N_base ho5) hb);have n1_:=Aside0.mk (Kd.N_lower ho5 (below_size (by repeat (first | (with_reducible first | exact HB.out | apply below_alloc | apply pw_below_drewN | apply below_drew1) | exact HB.out))));have n2_:=Aside0.mk (below_step (by repeat (first | (with_reducible first | exact HB.out | apply below_alloc | apply pw_below_drewN | apply below_drew1) | exact HB.out)) hb);clear HO0;clear HB;have HO0:=n0_;have HO203:=n1_;have HB:=n2_;clear n0_ n1_ n2_;clear hb ho5)))
  go_loopg [3,4,5] k (fun kq v3 v4 v5 w' => ∃ (x3_1 : List (S43)) (x4_1 : Int) (x5_1 : Int),v4 = .int .i64 x4_1 ∧ v5 = .int .i64 x5_1 ∧ Aside0 (humuslaw26_DsgAlone.l0 kq l0 x3_1 x4_1 x5_1 = some r) ∧ Aside0 (kq ≤ k) ∧ Aside0 (Kd.V k43 43 w' w.heap.size (fun k_ => (P0_ k_ ∨ w.heap.size ≤ k_) ∧ some k_ ≠ (v3 : Value).ownBlock) (.slice A0 l0.length c0) l0) ∧ Aside0 (Kd.N k43 43 w' w.heap.size (fun k_ => (P0_ k_ ∨ w.heap.size ≤ k_)) v3 x3_1) ∧ Aside0 (Below w.heap.size w w'))
  case atStart => exact ⟨(y201),(0),(0),(by first | rfl | (simp;done) | (simp [*];done)),(by first | rfl | (simp;done) | (simp [*];done)),H',⟨Nat.le_refl _⟩,⟨by (with_reducible repeat (first | apply Kd.V_alloc | apply Kd.V_drewN | apply Kd.V_drew));exact HO0.out⟩,⟨by (with_reducible repeat (first | apply Kd.N_alloc | apply Kd.N_drewN | apply Kd.N_drew));exact HO203.out⟩,⟨by repeat (first | (with_reducible first | exact HB.out | apply below_alloc | apply pw_below_drewN | apply below_drew1) | exact HB.out)⟩⟩
  case round =>
   clear H'
   try clear p2
   try clear c3
   obtain ⟨x3_1,x4_1,x5_1,rfl,rfl,HA,HK1,HO_0,HO_3,HB⟩:=hrel
   cases gk with
   | zero => exact absurd HA.out (by simp [humuslaw26_DsgAlone.l0])
   | succ k1 =>
    have H:=HA.out
    clear HA
    simp only [humuslaw26_DsgAlone.l0] at H
    by_cases c6 : x5_1 < (l0.length : Int)
    ·rw [if_pos c6] at H
     have c6b0 : decide (x5_1 < (l0.length : Int)) = true:=decide_eq_true c6
     clear c6
     by_cases c7 : 0 ≤ x5_1
     ·rw [if_pos c7] at H
      have c7b0 : decide (0 ≤ x5_1) = true:=decide_eq_true c7
      clear c7
      by_cases c8 : (((rd_T43 l0 x5_1).f3).length : Int) > 0
      ·rw [if_pos c8] at H
       have c8b0 : decide (0 < (((rd_T43 l0 x5_1).f3).length : Int)) = true:=decide_eq_true c8
       have c8b1 : decide (0 < ((rd_T43 l0 x5_1).f3).length) = true:=decide_eq_true (by omega)
       clear c8
       by_cases c9 : x3_1.length < 1599289640401
       ·rw [if_pos c9] at H
        have LMc9:=Aside0.mk c9
        clear c9
        obtain ⟨y206,hy206⟩ : ∃ y_ : List (S43),y_ = (x3_1 ++ [(⟨(rd_T43 l0 x5_1).f0,x4_1,(rd_T43 l0 x5_1).f2,(rd_T43 l0 x5_1).f3,(rd_T43 l0 x5_1).f4⟩ : S43)]):=⟨_,rfl⟩
        replace H : (humuslaw26_DsgAlone.l0 k1 l0 y206 (wrap64 (x4_1 + 1)) (wrap64 (x5_1 + 1))) = some r:=by first | (rw [hy206];with_reducible exact H) | (have H2_:=(Option.bind_some _ _).symm.trans H;rw [hy206];with_reducible exact H2_) | (have H2_:=(Option.bind_some _ _).symm.trans H;with_reducible exact H2_) | with_reducible exact H | (rw [hy206];exact H) | exact H
        have Ny206:=Aside0.mk hy206
        clear hy206
        have H':=Aside0.mk H
        clear H
        have p204 : 0 ≤ (x5_1 : Int):=of_decide_eq_true (by first | (with_reducible assumption) | assumption)
        have q204 : x5_1 < (l0.length : Int):=of_decide_eq_true (by first | (with_reducible assumption) | assumption)
        obtain ⟨ad204,A204_2,c204_2,A204_3,c204_3,A204_4,c204_4,e204,hx204_0,hx204_1,hx204_2,hx204_3,hx204_4,hl204_2,hi204_2,hl204_3,hi204_3,hl204_4,hi204_4⟩:=at_T43 (Kd.V_reads' HO_0.out).2.2 x5_1 p204 q204
        cases e204
        obtain ⟨ce204,hce204,hMe204,hcc204⟩:=Kd.V_get HO_0.out z43 x5_1 p204 (by first | exact q204 | exact of_decide_eq_true (by first | (with_reducible assumption) | assumption) | (have e_:=(Kd.V_reads' HO_0.out).1;omega))
        obtain ⟨ua204_2,uc204_2,ua204_3,uc204_3,ua204_4,uc204_4,rfl,ul204_2,ge204_2,ul204_3,ge204_3,ul204_4,ge204_4⟩:=k43_openF hMe204
        have hv204_2:=hcc204 2 _ rfl
        rw [add_field _ _ 2 (by omega)] at hv204_2
        replace hv204_2:=Option.some.inj (hv204_2.symm.trans hx204_2)
        injection hv204_2 with hva_ hvn_ hvc_
        rw [hva_] at ge204_2
        rw [hvc_] at ul204_2
        have HL204_2:=Aside0.mk (show Kd.V k89 89 _ w.heap.size _ _ ((rd_T43 l0 x5_1).f2) from Kd.V_mk ul204_2 ge204_2)
        clear hva_ hvn_ hvc_ ge204_2 ul204_2
        have hv204_3:=hcc204 3 _ rfl
        rw [add_field _ _ 3 (by omega)] at hv204_3
        replace hv204_3:=Option.some.inj (hv204_3.symm.trans hx204_3)
        injection hv204_3 with hva_ hvn_ hvc_
        rw [hva_] at ge204_3
        rw [hvc_] at ul204_3
        have HL204_3:=Aside0.mk (show Kd.V k124 124 _ w.heap.size _ _ ((rd_T43 l0 x5_1).f3) from Kd.V_mk ul204_3 ge204_3)
        clear hva_ hvn_ hvc_ ge204_3 ul204_3
        have hv204_4:=hcc204 4 _ rfl
        rw [add_field _ _ 4 (by omega)] at hv204_4
        replace hv204_4:=Option.some.inj (hv204_4.symm.trans hx204_4)
        injection hv204_4 with hva_ hvn_ hvc_
        rw [hva_] at ge204_4
        rw [hvc_] at ul204_4
        have HL204_4:=Aside0.mk (show Kd.V (Kd.int .i64) 3 _ w.heap.size _ _ ((rd_T43 l0 x5_1).f4) from Kd.V_mk ul204_4 ge204_4)
        clear hva_ hvn_ hvc_ ge204_4 ul204_4
        clear hcc204 hce204
        have HR204_2:=Aside0.mk hi204_2
        have HC204_2:=Aside0.mk hl204_2
        clear hi204_2 hl204_2
        have HR204_3:=Aside0.mk hi204_3
        have HC204_3:=Aside0.mk hl204_3
        clear hi204_3 hl204_3
        have HR204_4:=Aside0.mk hi204_4
        have HC204_4:=Aside0.mk hl204_4
        clear hi204_4 hl204_4
        replace p204:=eq_true p204
        replace q204:=eq_true q204
        go_wp2_with (first | ((with_reducible refine gate_dst (N:=6) rfl ?_);refine box_event ?hg (N:=6) ?hd (cs:=#[.int .i64 0,.int .i64 0,.slice none 0 0,.slice none 0 0,.slice none 0 0]) (t:=43) ?hr ?_;(case hd => rfl);(case hg => rfl);(case hr => first | (go_simp;done) | (go_simp;rfl));intro gb205 hg w10 hbox hb;have n0_:=Aside0.mk (Kd.V_below (Kd.V_elderB (by (with_reducible repeat (first | apply Kd.V_alloc | apply Kd.V_drewN | apply Kd.V_drew));exact HO_0.out) gb205 (Nat.le_of_eq hg.symm)) hb);have n1_:=Aside0.mk (Kd.N_below (Kd.N_elderB (by (with_reducible repeat (first | apply Kd.N_alloc | apply Kd.N_drewN | apply Kd.N_drew));exact HO_3.out) gb205 (Nat.le_of_eq hg.symm)) hb);have n2_:=Aside0.mk (Kd.V_below (Kd.V_elderB (by (with_reducible repeat (first | apply Kd.V_alloc | apply Kd.V_drewN | apply Kd.V_drew));exact HL204_2.out) gb205 (Nat.le_of_eq hg.symm)) hb);have n3_:=Aside0.mk (Kd.V_below (Kd.V_elderB (by (with_reducible repeat (first | apply Kd.V_alloc | apply Kd.V_drewN | apply Kd.V_drew));exact HL204_3.out) gb205 (Nat.le_of_eq hg.symm)) hb);have n4_:=Aside0.mk (Kd.V_below (Kd.V_elderB (by (with_reducible repeat (first | apply Kd.V_alloc | apply Kd.V_drewN | apply Kd.V_drew));exact HL204_4.out) gb205 (Nat.le_of_eq hg.symm)) hb);have n5_:=Aside0.mk (Kd.C_below (by repeat (first | (with_reducible exact HR204_2.out) | (with_reducible refine Kd.C_alloc ?_ _) | (with_reducible refine Kd.C_drewN ?_ _) | (with_reducible refine Kd.C_drew ?_) | exact HR204_2.out)) hb);have n6_:=Aside0.mk (Kd.C_below (by repeat (first | (with_reducible exact HR204_3.out) | (with_reducible refine Kd.C_alloc ?_ _) | (with_reducible refine Kd.C_drewN ?_ _) | (with_reducible refine Kd.C_drew ?_) | exact HR204_3.out)) hb);have n7_:=Aside0.mk (Kd.C_below (by repeat (first | (with_reducible exact HR204_4.out) | (with_reducible refine Kd.C_alloc ?_ _) | (with_reducible refine Kd.C_drewN ?_ _) | (with_reducible refine Kd.C_drew ?_) | exact HR204_4.out)) hb);have n8_:=Aside0.mk (below_step (by repeat (first | (with_reducible first | exact HB.out | apply below_alloc | apply pw_below_drewN | apply below_drew1) | exact HB.out)) hb);have n9_:=Aside0.mk (hbox);have n10_:=Aside0.mk ((by rw [hg];exact (below_size (by repeat (first | (with_reducible first | exact HB.out | apply below_alloc | apply pw_below_drewN | apply below_drew1) | exact HB.out))) : w.heap.size ≤ gb205));have n11_:=Aside0.mk ((by rw [hg];exact (below_size (by repeat (first | (with_reducible first | exact HB.out | apply below_alloc | apply pw_below_drewN | apply below_drew1) | exact HB.out))) : w.heap.size ≤ gb205));clear HO_0;clear HO_3;clear HL204_2;clear HL204_3;clear HL204_4;clear HR204_2;clear HR204_3;clear HR204_4;clear HB;have HO_0:=n0_;have HO_3:=n1_;have HL204_2:=n2_;have HL204_3:=n3_;have HL204_4:=n4_;have HR204_2:=n5_;have HR204_3:=n6_;have HR204_4:=n7_;have HB:=n8_;have BK205:=n9_;have GW205:=n10_;have GE205:=n11_;clear n0_ n1_ n2_ n3_ n4_ n5_ n6_ n7_ n8_ n9_ n10_ n11_;clear hb hbox hg;obtain ⟨hcz11_0,hcz11_1,hcz11_2,hcz11_3,hcz11_4⟩:=blkc_5 BK205.out;obtain ⟨hfz11_0,hfz11_1,hfz11_2,hfz11_3⟩:=blkz_4 BK205.out;have hfz11_4:=blk_frozen BK205.out 4) | ((with_reducible refine gate_store (t:=43) (p:=6) rfl ?_);(try (rw [drewN_self w10];generalize hq_ : World.drewN w10 _ = w10;have n0_:=Aside0.mk (Kd.V_at hq_ HO_0.out);have n1_:=Aside0.mk (Kd.N_at hq_ HO_3.out);have n2_:=Aside0.mk (Kd.V_at hq_ HL204_2.out);have n3_:=Aside0.mk (Kd.V_at hq_ HL204_3.out);have n4_:=Aside0.mk (Kd.V_at hq_ HL204_4.out);have n5_:=Aside0.mk (blk_at hq_ BK205.out);have n6_:=Aside0.mk (Kd.C_at hq_ HR204_2.out);have n7_:=Aside0.mk (Kd.C_at hq_ HR204_3.out);have n8_:=Aside0.mk (Kd.C_at hq_ HR204_4.out);have n9_:=Aside0.mk (below_at hq_ HB.out);clear hq_ HO_0 HO_3 HL204_2 HL204_3 HL204_4 BK205 HR204_2 HR204_3 HR204_4 HB;have HO_0:=n0_;have HO_3:=n1_;have HL204_2:=n2_;have HL204_3:=n3_;have HL204_4:=n4_;have BK205:=n5_;have HR204_2:=n6_;have HR204_3:=n7_;have HR204_4:=n8_;have HB:=n9_;clear n0_ n1_ n2_ n3_ n4_ n5_ n6_ n7_ n8_ n9_));refine store_event (t:=43) (p:=6) (v:=?vo_w12) (w1:=(((((w10.setCell ⟨gb205,0,none⟩ (.int .i64 ((rd_T43 l0 x5_1).f0))).setCell ⟨gb205,1,none⟩ (.int .i64 ((rd_T43 l0 x5_1).f1))).setCell ⟨gb205,2,none⟩ (.slice A204_2 ((rd_T43 l0 x5_1).f2).length c204_2)).setCell ⟨gb205,3,none⟩ (.slice A204_3 ((rd_T43 l0 x5_1).f3).length c204_3)).setCell ⟨gb205,4,none⟩ (.slice A204_4 ((rd_T43 l0 x5_1).f4).length c204_4))) ?hg ?ho ?hn ?hr ?_;(case ho => rfl);(case hg => rfl);(case hn => rfl);(case hr => first | (go_simp;done) | (go_simp;rfl));intro w12 hw;have n0_ : Aside0 (Kd.V k43 43 w12 w.heap.size (fun k_ => (P0_ k_ ∨ w.heap.size ≤ k_) ∧ some k_ ≠ (u3 : Value).ownBlock ∧ k_ ≠ gb205) (.slice (some ad204) l0.length c0) l0):=⟨(by rw [hw];exact (by (with_reducible repeat (first | apply Kd.V_alloc | apply Kd.V_drewN | apply Kd.V_drew));exact Kd.V_mono (Kd.V_far (p:=⟨gb205,4,none⟩) (Kd.V_far (p:=⟨gb205,3,none⟩) (Kd.V_far (p:=⟨gb205,2,none⟩) (Kd.V_far (p:=⟨gb205,1,none⟩) (Kd.V_far (p:=⟨gb205,0,none⟩) (Kd.V_mono HO_0.out (fun k_ hk => (⟨hk,hk.2⟩ : _ ∧ k_ ≠ gb205))) (fun _ hk => hk.2) (.int .i64 ((rd_T43 l0 x5_1).f0))) (fun _ hk => hk.2) (.int .i64 ((rd_T43 l0 x5_1).f1))) (fun _ hk => hk.2) (.slice A204_2 ((rd_T43 l0 x5_1).f2).length c204_2)) (fun _ hk => hk.2) (.slice A204_3 ((rd_T43 l0 x5_1).f3).length c204_3)) (fun _ hk => hk.2) (.slice A204_4 ((rd_T43 l0 x5_1).f4).length c204_4)) (fun _ hk => ⟨hk.1.1.1,⟨hk.1.1.2,hk.1.2⟩⟩)))⟩;have n1_ : Aside0 (Kd.N k43 43 w12 w.heap.size (fun k_ => (P0_ k_ ∨ w.heap.size ≤ k_) ∧ k_ ≠ gb205) u3 x3_1):=⟨(by rw [hw];exact (by (with_reducible repeat (first | apply Kd.N_alloc | apply Kd.N_drewN | apply Kd.N_drew));exact Kd.N_mono (Kd.N_far (p:=⟨gb205,4,none⟩) (Kd.N_far (p:=⟨gb205,3,none⟩) (Kd.N_far (p:=⟨gb205,2,none⟩) (Kd.N_far (p:=⟨gb205,1,none⟩) (Kd.N_far (p:=⟨gb205,0,none⟩) (Kd.N_mono HO_3.out (fun k_ hk => (⟨hk,hk.2⟩ : _ ∧ k_ ≠ gb205))) (fun _ hk => hk.2) (.int .i64 ((rd_T43 l0 x5_1).f0))) (fun _ hk => hk.2) (.int .i64 ((rd_T43 l0 x5_1).f1))) (fun _ hk => hk.2) (.slice A204_2 ((rd_T43 l0 x5_1).f2).length c204_2)) (fun _ hk => hk.2) (.slice A204_3 ((rd_T43 l0 x5_1).f3).length c204_3)) (fun _ hk => hk.2) (.slice A204_4 ((rd_T43 l0 x5_1).f4).length c204_4)) (fun _ hk => ⟨hk.1.1,hk.1.2⟩)))⟩;have n2_ : Aside0 (Kd.V k89 89 w12 w.heap.size (fun k_ => (P0_ k_ ∨ w.heap.size ≤ k_) ∧ some k_ ≠ (u3 : Value).ownBlock ∧ k_ ≠ gb205) (.slice A204_2 ((rd_T43 l0 x5_1).f2).length c204_2) ((rd_T43 l0 x5_1).f2)):=⟨(by rw [hw];exact (by (with_reducible repeat (first | apply Kd.V_alloc | apply Kd.V_drewN | apply Kd.V_drew));exact Kd.V_mono (Kd.V_far (p:=⟨gb205,4,none⟩) (Kd.V_far (p:=⟨gb205,3,none⟩) (Kd.V_far (p:=⟨gb205,2,none⟩) (Kd.V_far (p:=⟨gb205,1,none⟩) (Kd.V_far (p:=⟨gb205,0,none⟩) (Kd.V_mono HL204_2.out (fun k_ hk => (⟨hk,hk.2⟩ : _ ∧ k_ ≠ gb205))) (fun _ hk => hk.2) (.int .i64 ((rd_T43 l0 x5_1).f0))) (fun _ hk => hk.2) (.int .i64 ((rd_T43 l0 x5_1).f1))) (fun _ hk => hk.2) (.slice A204_2 ((rd_T43 l0 x5_1).f2).length c204_2)) (fun _ hk => hk.2) (.slice A204_3 ((rd_T43 l0 x5_1).f3).length c204_3)) (fun _ hk => hk.2) (.slice A204_4 ((rd_T43 l0 x5_1).f4).length c204_4)) (fun _ hk => ⟨hk.1.1.1,⟨hk.1.1.2,hk.1.2⟩⟩)))⟩;have n3_ : Aside0 (Kd.V k124 124 w12 w.heap.size (fun k_ => (P0_ k_ ∨ w.heap.size ≤ k_) ∧ some k_ ≠ (u3 : Value).ownBlock ∧ k_ ≠ gb205) (.slice A204_3 ((rd_T43 l0 x5_1).f3).length c204_3) ((rd_T43 l0 x5_1).f3)):=⟨(by rw [hw];exact (by (with_reducible repeat (first | apply Kd.V_alloc | apply Kd.V_drewN | apply Kd.V_drew));exact Kd.V_mono (Kd.V_far (p:=⟨gb205,4,none⟩) (Kd.V_far (p:=⟨gb205,3,none⟩) (Kd.V_far (p:=⟨gb205,2,none⟩) (Kd.V_far (p:=⟨gb205,1,none⟩) (Kd.V_far (p:=⟨gb205,0,none⟩) (Kd.V_mono HL204_3.out (fun k_ hk => (⟨hk,hk.2⟩ : _ ∧ k_ ≠ gb205))) (fun _ hk => hk.2) (.int .i64 ((rd_T43 l0 x5_1).f0))) (fun _ hk => hk.2) (.int .i64 ((rd_T43 l0 x5_1).f1))) (fun _ hk => hk.2) (.slice A204_2 ((rd_T43 l0 x5_1).f2).length c204_2)) (fun _ hk => hk.2) (.slice A204_3 ((rd_T43 l0 x5_1).f3).length c204_3)) (fun _ hk => hk.2) (.slice A204_4 ((rd_T43 l0 x5_1).f4).length c204_4)) (fun _ hk => ⟨hk.1.1.1,⟨hk.1.1.2,hk.1.2⟩⟩)))⟩;have n4_ : Aside0 (Kd.V (Kd.int .i64) 3 w12 w.heap.size (fun k_ => (P0_ k_ ∨ w.heap.size ≤ k_) ∧ some k_ ≠ (u3 : Value).ownBlock ∧ k_ ≠ gb205) (.slice A204_4 ((rd_T43 l0 x5_1).f4).length c204_4) ((rd_T43 l0 x5_1).f4)):=⟨(by rw [hw];exact (by (with_reducible repeat (first | apply Kd.V_alloc | apply Kd.V_drewN | apply Kd.V_drew));exact Kd.V_mono (Kd.V_far (p:=⟨gb205,4,none⟩) (Kd.V_far (p:=⟨gb205,3,none⟩) (Kd.V_far (p:=⟨gb205,2,none⟩) (Kd.V_far (p:=⟨gb205,1,none⟩) (Kd.V_far (p:=⟨gb205,0,none⟩) (Kd.V_mono HL204_4.out (fun k_ hk => (⟨hk,hk.2⟩ : _ ∧ k_ ≠ gb205))) (fun _ hk => hk.2) (.int .i64 ((rd_T43 l0 x5_1).f0))) (fun _ hk => hk.2) (.int .i64 ((rd_T43 l0 x5_1).f1))) (fun _ hk => hk.2) (.slice A204_2 ((rd_T43 l0 x5_1).f2).length c204_2)) (fun _ hk => hk.2) (.slice A204_3 ((rd_T43 l0 x5_1).f3).length c204_3)) (fun _ hk => hk.2) (.slice A204_4 ((rd_T43 l0 x5_1).f4).length c204_4)) (fun _ hk => ⟨hk.1.1.1,⟨hk.1.1.2,hk.1.2⟩⟩)))⟩;have n5_ : Aside0 (w12.heap[gb205]? = some (.cells #[.int .i64 ((rd_T43 l0 x5_1).f0),.int .i64 ((rd_T43 l0 x5_1).f1),.slice A204_2 ((rd_T43 l0 x5_1).f2).length c204_2,.slice A204_3 ((rd_T43 l0 x5_1).f3).length c204_3,.slice A204_4 ((rd_T43 l0 x5_1).f4).length c204_4] 43 (0,0))):=⟨(by rw [hw];exact (by (with_reducible repeat (first | refine blk_drewN ?_ _ | refine blk_drew ?_ | refine blk_alloc ?_ _));apply blkf_5_0_4;(with_reducible repeat (first | refine blk_drewN ?_ _ | refine blk_drew ?_ | refine blk_alloc ?_ _));exact BK205.out))⟩;have n6_ : Aside0 (Below w.heap.size w w12):=⟨(by rw [hw];exact (by repeat (first | (with_reducible first | exact HB.out | apply below_alloc | apply pw_below_drewN | apply below_drew1 | refine below_set ?_ GE205.out) | exact HB.out)))⟩;clear hw;clear HO_0;clear HO_3;clear HL204_2;clear HL204_3;clear HL204_4;clear BK205;clear HB;have HO_0:=n0_;have HO_3:=n1_;have HL204_2:=n2_;have HL204_3:=n3_;have HL204_4:=n4_;have BK205:=n5_;have HB:=n6_;clear n0_ n1_ n2_ n3_ n4_ n5_ n6_;obtain ⟨hcz13_0,hcz13_1,hcz13_2,hcz13_3,hcz13_4⟩:=blkc_5 BK205.out;obtain ⟨hfz13_0,hfz13_1,hfz13_2,hfz13_3⟩:=blkz_4 BK205.out;have hfz13_4:=blk_frozen BK205.out 4) | ((with_reducible refine gate_store (t:=3) (p:=27) rfl ?_);(try (rw [drewN_self w12];generalize hq_ : World.drewN w12 _ = w12;have n0_:=Aside0.mk (Kd.V_at hq_ HO_0.out);have n1_:=Aside0.mk (Kd.N_at hq_ HO_3.out);have n2_:=Aside0.mk (Kd.V_at hq_ HL204_2.out);have n3_:=Aside0.mk (Kd.V_at hq_ HL204_3.out);have n4_:=Aside0.mk (Kd.V_at hq_ HL204_4.out);have n5_:=Aside0.mk (blk_at hq_ BK205.out);have n6_:=Aside0.mk (Kd.C_at hq_ HR204_2.out);have n7_:=Aside0.mk (Kd.C_at hq_ HR204_3.out);have n8_:=Aside0.mk (Kd.C_at hq_ HR204_4.out);have n9_:=Aside0.mk (below_at hq_ HB.out);clear hq_ HO_0 HO_3 HL204_2 HL204_3 HL204_4 BK205 HR204_2 HR204_3 HR204_4 HB;have HO_0:=n0_;have HO_3:=n1_;have HL204_2:=n2_;have HL204_3:=n3_;have HL204_4:=n4_;have BK205:=n5_;have HR204_2:=n6_;have HR204_3:=n7_;have HR204_4:=n8_;have HB:=n9_;clear n0_ n1_ n2_ n3_ n4_ n5_ n6_ n7_ n8_ n9_));refine store_event (t:=3) (p:=27) (v:=?vo_w14) (w1:=(w12.setCell ⟨gb205,1,none⟩ (.int .i64 x4_1))) ?hg ?ho ?hn ?hr ?_;(case ho => rfl);(case hg => rfl);(case hn => rfl);(case hr => first | (go_simp;done) | (go_simp;rfl));intro w14 hw;have n0_ : Aside0 (Kd.V k43 43 w14 w.heap.size (fun k_ => (P0_ k_ ∨ w.heap.size ≤ k_) ∧ some k_ ≠ (u3 : Value).ownBlock ∧ k_ ≠ gb205) (.slice (some ad204) l0.length c0) l0):=⟨(by rw [hw];exact (by (with_reducible repeat (first | apply Kd.V_alloc | apply Kd.V_drewN | apply Kd.V_drew));exact Kd.V_mono (Kd.V_far (p:=⟨gb205,1,none⟩) (Kd.V_mono HO_0.out (fun k_ hk => (⟨hk,hk.2.2⟩ : _ ∧ k_ ≠ gb205))) (fun _ hk => hk.2) (.int .i64 x4_1)) (fun _ hk => ⟨hk.1.1,⟨hk.1.2.1,hk.1.2.2⟩⟩)))⟩;have n1_ : Aside0 (Kd.N k43 43 w14 w.heap.size (fun k_ => (P0_ k_ ∨ w.heap.size ≤ k_) ∧ k_ ≠ gb205) u3 x3_1):=⟨(by rw [hw];exact (by (with_reducible repeat (first | apply Kd.N_alloc | apply Kd.N_drewN | apply Kd.N_drew));exact Kd.N_mono (Kd.N_far (p:=⟨gb205,1,none⟩) (Kd.N_mono HO_3.out (fun k_ hk => (⟨hk,hk.2⟩ : _ ∧ k_ ≠ gb205))) (fun _ hk => hk.2) (.int .i64 x4_1)) (fun _ hk => ⟨hk.1.1,hk.1.2⟩)))⟩;have n2_ : Aside0 (Kd.V k89 89 w14 w.heap.size (fun k_ => (P0_ k_ ∨ w.heap.size ≤ k_) ∧ some k_ ≠ (u3 : Value).ownBlock ∧ k_ ≠ gb205) (.slice A204_2 ((rd_T43 l0 x5_1).f2).length c204_2) ((rd_T43 l0 x5_1).f2)):=⟨(by rw [hw];exact (by (with_reducible repeat (first | apply Kd.V_alloc | apply Kd.V_drewN | apply Kd.V_drew));exact Kd.V_mono (Kd.V_far (p:=⟨gb205,1,none⟩) (Kd.V_mono HL204_2.out (fun k_ hk => (⟨hk,hk.2.2⟩ : _ ∧ k_ ≠ gb205))) (fun _ hk => hk.2) (.int .i64 x4_1)) (fun _ hk => ⟨hk.1.1,⟨hk.1.2.1,hk.1.2.2⟩⟩)))⟩;have n3_ : Aside0 (Kd.V k124 124 w14 w.heap.size (fun k_ => (P0_ k_ ∨ w.heap.size ≤ k_) ∧ some k_ ≠ (u3 : Value).ownBlock ∧ k_ ≠ gb205) (.slice A204_3 ((rd_T43 l0 x5_1).f3).length c204_3) ((rd_T43 l0 x5_1).f3)):=⟨(by rw [hw];exact (by (with_reducible repeat (first | apply Kd.V_alloc | apply Kd.V_drewN | apply Kd.V_drew));exact Kd.V_mono (Kd.V_far (p:=⟨gb205,1,none⟩) (Kd.V_mono HL204_3.out (fun k_ hk => (⟨hk,hk.2.2⟩ : _ ∧ k_ ≠ gb205))) (fun _ hk => hk.2) (.int .i64 x4_1)) (fun _ hk => ⟨hk.1.1,⟨hk.1.2.1,hk.1.2.2⟩⟩)))⟩;have n4_ : Aside0 (Kd.V (Kd.int .i64) 3 w14 w.heap.size (fun k_ => (P0_ k_ ∨ w.heap.size ≤ k_) ∧ some k_ ≠ (u3 : Value).ownBlock ∧ k_ ≠ gb205) (.slice A204_4 ((rd_T43 l0 x5_1).f4).length c204_4) ((rd_T43 l0 x5_1).f4)):=⟨(by rw [hw];exact (by (with_reducible repeat (first | apply Kd.V_alloc | apply Kd.V_drewN | apply Kd.V_drew));exact Kd.V_mono (Kd.V_far (p:=⟨gb205,1,none⟩) (Kd.V_mono HL204_4.out (fun k_ hk => (⟨hk,hk.2.2⟩ : _ ∧ k_ ≠ gb205))) (fun _ hk => hk.2) (.int .i64 x4_1)) (fun _ hk => ⟨hk.1.1,⟨hk.1.2.1,hk.1.2.2⟩⟩)))⟩;have n5_ : Aside0 (w14.heap[gb205]? = some (.cells #[.int .i64 ((rd_T43 l0 x5_1).f0),.int .i64 x4_1,.slice A204_2 ((rd_T43 l0 x5_1).f2).length c204_2,.slice A204_3 ((rd_T43 l0 x5_1).f3).length c204_3,.slice A204_4 ((rd_T43 l0 x5_1).f4).length c204_4] 43 (0,0))):=⟨(by rw [hw];exact (by (with_reducible repeat (first | refine blk_drewN ?_ _ | refine blk_drew ?_ | refine blk_alloc ?_ _));refine blk_put (cs:=#[.int .i64 ((rd_T43 l0 x5_1).f0),.int .i64 ((rd_T43 l0 x5_1).f1),.slice A204_2 ((rd_T43 l0 x5_1).f2).length c204_2,.slice A204_3 ((rd_T43 l0 x5_1).f3).length c204_3,.slice A204_4 ((rd_T43 l0 x5_1).f4).length c204_4]) ?_ 1 _ rfl;(with_reducible repeat (first | refine blk_drewN ?_ _ | refine blk_drew ?_ | refine blk_alloc ?_ _));exact BK205.out))⟩;have n6_ : Aside0 (Below w.heap.size w w14):=⟨(by rw [hw];exact (by repeat (first | (with_reducible first | exact HB.out | apply below_alloc | apply pw_below_drewN | apply below_drew1 | refine below_set ?_ GE205.out) | exact HB.out)))⟩;clear hw;clear HO_0;clear HO_3;clear HL204_2;clear HL204_3;clear HL204_4;clear BK205;clear HB;have HO_0:=n0_;have HO_3:=n1_;have HL204_2:=n2_;have HL204_3:=n3_;have HL204_4:=n4_;have BK205:=n5_;have HB:=n6_;clear n0_ n1_ n2_ n3_ n4_ n5_ n6_;obtain ⟨hcz15_0,hcz15_1,hcz15_2,hcz15_3,hcz15_4⟩:=blkc_5 BK205.out;obtain ⟨hfz15_0,hfz15_1,hfz15_2,hfz15_3⟩:=blkz_4 BK205.out;have hfz15_4:=blk_frozen BK205.out 4) | ((with_reducible refine gate_builtin (b:=.append) (xs:=#[.tmp 34,.tmp 36]) rfl ?_);at_builtin;refine Kd.N_append k43 (w0:=w) w.heap.size rfl (.tmp 34) (.tmp 36) 36 43 (.agg #[(.int .i64 0),(.int .i64 0),(.slice none 0 0),(.slice none 0 0),(.slice none 0 0)]) 88 rfl Try.underlying36 info43 rfl (by decide) (by omega) u3 x3_1 (⟨(rd_T43 l0 x5_1).f0,x4_1,(rd_T43 l0 x5_1).f2,(rd_T43 l0 x5_1).f3,(rd_T43 l0 x5_1).f4⟩ : S43) [.int .i64 ((rd_T43 l0 x5_1).f0),.int .i64 x4_1,.slice A204_2 ((rd_T43 l0 x5_1).f2).length c204_2,.slice A204_3 ((rd_T43 l0 x5_1).f3).length c204_3,.slice A204_4 ((rd_T43 l0 x5_1).f4).length c204_4] (fun k_ => (P0_ k_ ∨ w.heap.size ≤ k_) ∧ k_ ≠ gb205) (fun k_ => ((fun k_ => (P0_ k_ ∨ w.heap.size ≤ k_) ∧ k_ ≠ gb205)) k_ ∧ some k_ ≠ (u3 : Value).ownBlock) rfl rfl ?aP (fun _ hk => hk) ?aF ?aO ?aB ?aS ?aL ?_;(case aP => exact (k43_mkF _ _ (⟨(rd_T43 l0 x5_1).f0,x4_1,(rd_T43 l0 x5_1).f2,(rd_T43 l0 x5_1).f3,(rd_T43 l0 x5_1).f4⟩ : S43) (Kd.V_reads' (Kd.V_mono (ok':=(fun k_ => ((fun k_ => (P0_ k_ ∨ w.heap.size ≤ k_) ∧ k_ ≠ gb205)) k_ ∧ some k_ ≠ (u3 : Value).ownBlock)) (HL204_2.out) (fun k_ hk => ⟨⟨hk.1,hk.2.2⟩,hk.2.1⟩))).2.1 (Kd.V_F (Kd.V_mono (ok':=(fun k_ => ((fun k_ => (P0_ k_ ∨ w.heap.size ≤ k_) ∧ k_ ≠ gb205)) k_ ∧ some k_ ≠ (u3 : Value).ownBlock)) (HL204_2.out) (fun k_ hk => ⟨⟨hk.1,hk.2.2⟩,hk.2.1⟩))) (Kd.V_reads' (Kd.V_mono (ok':=(fun k_ => ((fun k_ => (P0_ k_ ∨ w.heap.size ≤ k_) ∧ k_ ≠ gb205)) k_ ∧ some k_ ≠ (u3 : Value).ownBlock)) (HL204_3.out) (fun k_ hk => ⟨⟨hk.1,hk.2.2⟩,hk.2.1⟩))).2.1 (Kd.V_F (Kd.V_mono (ok':=(fun k_ => ((fun k_ => (P0_ k_ ∨ w.heap.size ≤ k_) ∧ k_ ≠ gb205)) k_ ∧ some k_ ≠ (u3 : Value).ownBlock)) (HL204_3.out) (fun k_ hk => ⟨⟨hk.1,hk.2.2⟩,hk.2.1⟩))) (Kd.V_reads' (Kd.V_mono (ok':=(fun k_ => ((fun k_ => (P0_ k_ ∨ w.heap.size ≤ k_) ∧ k_ ≠ gb205)) k_ ∧ some k_ ≠ (u3 : Value).ownBlock)) (HL204_4.out) (fun k_ hk => ⟨⟨hk.1,hk.2.2⟩,hk.2.1⟩))).2.1 (Kd.V_F (Kd.V_mono (ok':=(fun k_ => ((fun k_ => (P0_ k_ ∨ w.heap.size ≤ k_) ∧ k_ ≠ gb205)) k_ ∧ some k_ ≠ (u3 : Value).ownBlock)) (HL204_4.out) (fun k_ hk => ⟨⟨hk.1,hk.2.2⟩,hk.2.1⟩)))));(case aB => exact (by repeat (first | (with_reducible first | exact HB.out | apply below_alloc | apply pw_below_drewN | apply below_drew1 | refine below_set ?_ GE205.out) | exact HB.out)));(case aF => exact (fun k_ hk => ⟨(.inr (Nat.le_trans (below_size (by repeat (first | (with_reducible first | exact HB.out | apply below_alloc | apply pw_below_drewN | apply below_drew1 | refine below_set ?_ GE205.out) | exact HB.out))) hk)),Kd.freshB (g:=gb205) (o:=.cells #[.int .i64 ((rd_T43 l0 x5_1).f0),.int .i64 x4_1,.slice A204_2 ((rd_T43 l0 x5_1).f2).length c204_2,.slice A204_3 ((rd_T43 l0 x5_1).f3).length c204_3,.slice A204_4 ((rd_T43 l0 x5_1).f4).length c204_4] 43 (0,0)) (by (with_reducible repeat (first | refine blk_drewN ?_ _ | refine blk_drew ?_ | refine blk_alloc ?_ _));exact BK205.out) k_ hk⟩));(case aO => exact (by (with_reducible repeat (first | apply Kd.N_alloc | apply Kd.N_drewN | apply Kd.N_drew));exact HO_3.out));(case aS => exact (below_size (by repeat (first | (with_reducible first | exact HB.out | apply below_alloc | apply pw_below_drewN | apply below_drew1 | refine below_set ?_ GE205.out) | exact HB.out))));(case aL => have:=LMc9.out;omega);intro v207 w16 ho hb hg hat;rw [← Ny206.out] at ho;have n0_:=Aside0.mk (Kd.V_afterv (ok:=(fun k_ => (P0_ k_ ∨ w.heap.size ≤ k_) ∧ k_ ≠ gb205)) (by (with_reducible repeat (first | apply Kd.V_alloc | apply Kd.V_drewN | apply Kd.V_drew));exact Kd.V_mono HO_0.out (fun _ hk => ⟨⟨hk.1,hk.2.2⟩,hk.2.1⟩)) hg hat);have n1_:=Aside0.mk (Kd.V_afterv (ok:=(fun k_ => (P0_ k_ ∨ w.heap.size ≤ k_) ∧ k_ ≠ gb205)) (by (with_reducible repeat (first | apply Kd.V_alloc | apply Kd.V_drewN | apply Kd.V_drew));exact Kd.V_mono HL204_2.out (fun _ hk => ⟨⟨hk.1,hk.2.2⟩,hk.2.1⟩)) hg hat);have n2_:=Aside0.mk (Kd.V_afterv (ok:=(fun k_ => (P0_ k_ ∨ w.heap.size ≤ k_) ∧ k_ ≠ gb205)) (by (with_reducible repeat (first | apply Kd.V_alloc | apply Kd.V_drewN | apply Kd.V_drew));exact Kd.V_mono HL204_3.out (fun _ hk => ⟨⟨hk.1,hk.2.2⟩,hk.2.1⟩)) hg hat);have n3_:=Aside0.mk (Kd.V_afterv (ok:=(fun k_ => (P0_ k_ ∨ w.heap.size ≤ k_) ∧ k_ ≠ gb205)) (by (with_reducible repeat (first | apply Kd.V_alloc | apply Kd.V_drewN | apply Kd.V_drew));exact Kd.V_mono HL204_4.out (fun _ hk => ⟨⟨hk.1,hk.2.2⟩,hk.2.1⟩)) hg hat);have n4_:=Aside0.mk (blk_grown (g:=gb205) (o:=.cells #[.int .i64 ((rd_T43 l0 x5_1).f0),.int .i64 x4_1,.slice A204_2 ((rd_T43 l0 x5_1).f2).length c204_2,.slice A204_3 ((rd_T43 l0 x5_1).f3).length c204_3,.slice A204_4 ((rd_T43 l0 x5_1).f4).length c204_4] 43 (0,0)) (by (with_reducible repeat (first | refine blk_drewN ?_ _ | refine blk_drew ?_ | refine blk_alloc ?_ _));exact BK205.out) hg (Kd.N_away HO_3.out (fun _ hk => hk.2)));have n5_:=Aside0.mk (hb);have n6_:=Aside0.mk (ho);clear HO_0;clear HL204_2;clear HL204_3;clear HL204_4;clear BK205;clear HB;clear HO_3;have HO_0:=n0_;have HL204_2:=n1_;have HL204_3:=n2_;have HL204_4:=n3_;have BK205:=n4_;have HB:=n5_;have HO208:=n6_;clear n0_ n1_ n2_ n3_ n4_ n5_ n6_;clear ho hb hg hat))
        repeat (go_quiet (first | ((with_reducible refine gate_dst (N:=6) rfl ?_);refine box_event ?hg (N:=6) ?hd (cs:=#[.int .i64 0,.int .i64 0,.slice none 0 0,.slice none 0 0,.slice none 0 0]) (t:=43) ?hr ?_;(case hd => rfl);(case hg => rfl);(case hr => first | (go_simp;done) | (go_simp;rfl));intro gb205 hg w10 hbox hb;have n0_:=Aside0.mk (Kd.V_below (Kd.V_elderB (by (with_reducible repeat (first | apply Kd.V_alloc | apply Kd.V_drewN | apply Kd.V_drew));exact HO_0.out) gb205 (Nat.le_of_eq hg.symm)) hb);have n1_:=Aside0.mk (Kd.N_below (Kd.N_elderB (by (with_reducible repeat (first | apply Kd.N_alloc | apply Kd.N_drewN | apply Kd.N_drew));exact HO_3.out) gb205 (Nat.le_of_eq hg.symm)) hb);have n2_:=Aside0.mk (Kd.V_below (Kd.V_elderB (by (with_reducible repeat (first | apply Kd.V_alloc | apply Kd.V_drewN | apply Kd.V_drew));exact HL204_2.out) gb205 (Nat.le_of_eq hg.symm)) hb);have n3_:=Aside0.mk (Kd.V_below (Kd.V_elderB (by (with_reducible repeat (first | apply Kd.V_alloc | apply Kd.V_drewN | apply Kd.V_drew));exact HL204_3.out) gb205 (Nat.le_of_eq hg.symm)) hb);have n4_:=Aside0.mk (Kd.V_below (Kd.V_elderB (by (with_reducible repeat (first | apply Kd.V_alloc | apply Kd.V_drewN | apply Kd.V_drew));exact HL204_4.out) gb205 (Nat.le_of_eq hg.symm)) hb);have n5_:=Aside0.mk (Kd.C_below (by repeat (first | (with_reducible exact HR204_2.out) | (with_reducible refine Kd.C_alloc ?_ _) | (with_reducible refine Kd.C_drewN ?_ _) | (with_reducible refine Kd.C_drew ?_) | exact HR204_2.out)) hb);have n6_:=Aside0.mk (Kd.C_below (by repeat (first | (with_reducible exact HR204_3.out) | (with_reducible refine Kd.C_alloc ?_ _) | (with_reducible refine Kd.C_drewN ?_ _) | (with_reducible refine Kd.C_drew ?_) | exact HR204_3.out)) hb);have n7_:=Aside0.mk (Kd.C_below (by repeat (first | (with_reducible exact HR204_4.out) | (with_reducible refine Kd.C_alloc ?_ _) | (with_reducible refine Kd.C_drewN ?_ _) | (with_reducible refine Kd.C_drew ?_) | exact HR204_4.out)) hb);have n8_:=Aside0.mk (below_step (by repeat (first | (with_reducible first | exact HB.out | apply below_alloc | apply pw_below_drewN | apply below_drew1) | exact HB.out)) hb);have n9_:=Aside0.mk (hbox);have n10_:=Aside0.mk ((by rw [hg];exact (below_size (by repeat (first | (with_reducible first | exact HB.out | apply below_alloc | apply pw_below_drewN | apply below_drew1) | exact HB.out))) : w.heap.size ≤ gb205));have n11_:=Aside0.mk ((by rw [hg];exact (below_size (by repeat (first | (with_reducible first | exact HB.out | apply below_alloc | apply pw_below_drewN | apply below_drew1) | exact HB.out))) : w.heap.size ≤ gb205));clear HO_0;clear HO_3;clear HL204_2;clear HL204_3;clear HL204_4;clear HR204_2;clear HR204_3;clear HR204_4;clear HB;have HO_0:=n0_;have HO_3:=n1_;have HL204_2:=n2_;have HL204_3:=n3_;have HL204_4:=n4_;have HR204_2:=n5_;have HR204_3:=n6_;have HR204_4:=n7_;have HB:=n8_;have BK205:=n9_;have GW205:=n10_;have GE205:=n11_;clear n0_ n1_ n2_ n3_ n4_ n5_ n6_ n7_ n8_ n9_ n10_ n11_;clear hb hbox hg;obtain ⟨hcz11_0,hcz11_1,hcz11_2,hcz11_3,hcz11_4⟩:=blkc_5 BK205.out;obtain ⟨hfz11_0,hfz11_1,hfz11_2,hfz11_3⟩:=blkz_4 BK205.out;have hfz11_4:=blk_frozen BK205.out 4) | ((with_reducible refine gate_store (t:=43) (p:=6) rfl ?_);(try (rw [drewN_self w10];generalize hq_ : World.drewN w10 _ = w10;have n0_:=Aside0.mk (Kd.V_at hq_ HO_0.out);have n1_:=Aside0.mk (Kd.N_at hq_ HO_3.out);have n2_:=Aside0.mk (Kd.V_at hq_ HL204_2.out);have n3_:=Aside0.mk (Kd.V_at hq_ HL204_3.out);have n4_:=Aside0.mk (Kd.V_at hq_ HL204_4.out);have n5_:=Aside0.mk (blk_at hq_ BK205.out);have n6_:=Aside0.mk (Kd.C_at hq_ HR204_2.out);have n7_:=Aside0.mk (Kd.C_at hq_ HR204_3.out);have n8_:=Aside0.mk (Kd.C_at hq_ HR204_4.out);have n9_:=Aside0.mk (below_at hq_ HB.out);clear hq_ HO_0 HO_3 HL204_2 HL204_3 HL204_4 BK205 HR204_2 HR204_3 HR204_4 HB;have HO_0:=n0_;have HO_3:=n1_;have HL204_2:=n2_;have HL204_3:=n3_;have HL204_4:=n4_;have BK205:=n5_;have HR204_2:=n6_;have HR204_3:=n7_;have HR204_4:=n8_;have HB:=n9_;clear n0_ n1_ n2_ n3_ n4_ n5_ n6_ n7_ n8_ n9_));refine store_event (t:=43) (p:=6) (v:=?vo_w12) (w1:=(((((w10.setCell ⟨gb205,0,none⟩ (.int .i64 ((rd_T43 l0 x5_1).f0))).setCell ⟨gb205,1,none⟩ (.int .i64 ((rd_T43 l0 x5_1).f1))).setCell ⟨gb205,2,none⟩ (.slice A204_2 ((rd_T43 l0 x5_1).f2).length c204_2)).setCell ⟨gb205,3,none⟩ (.slice A204_3 ((rd_T43 l0 x5_1).f3).length c204_3)).setCell ⟨gb205,4,none⟩ (.slice A204_4 ((rd_T43 l0 x5_1).f4).length c204_4))) ?hg ?ho ?hn ?hr ?_;(case ho => rfl);(case hg => rfl);(case hn => rfl);(case hr => first | (go_simp;done) | (go_simp;rfl));intro w12 hw;have n0_ : Aside0 (Kd.V k43 43 w12 w.heap.size (fun k_ => (P0_ k_ ∨ w.heap.size ≤ k_) ∧ some k_ ≠ (u3 : Value).ownBlock ∧ k_ ≠ gb205) (.slice (some ad204) l0.length c0) l0):=⟨(by rw [hw];exact (by (with_reducible repeat (first | apply Kd.V_alloc | apply Kd.V_drewN | apply Kd.V_drew));exact Kd.V_mono (Kd.V_far (p:=⟨gb205,4,none⟩) (Kd.V_far (p:=⟨gb205,3,none⟩) (Kd.V_far (p:=⟨gb205,2,none⟩) (Kd.V_far (p:=⟨gb205,1,none⟩) (Kd.V_far (p:=⟨gb205,0,none⟩) (Kd.V_mono HO_0.out (fun k_ hk => (⟨hk,hk.2⟩ : _ ∧ k_ ≠ gb205))) (fun _ hk => hk.2) (.int .i64 ((rd_T43 l0 x5_1).f0))) (fun _ hk => hk.2) (.int .i64 ((rd_T43 l0 x5_1).f1))) (fun _ hk => hk.2) (.slice A204_2 ((rd_T43 l0 x5_1).f2).length c204_2)) (fun _ hk => hk.2) (.slice A204_3 ((rd_T43 l0 x5_1).f3).length c204_3)) (fun _ hk => hk.2) (.slice A204_4 ((rd_T43 l0 x5_1).f4).length c204_4)) (fun _ hk => ⟨hk.1.1.1,⟨hk.1.1.2,hk.1.2⟩⟩)))⟩;have n1_ : Aside0 (Kd.N k43 43 w12 w.heap.size (fun k_ => (P0_ k_ ∨ w.heap.size ≤ k_) ∧ k_ ≠ gb205) u3 x3_1):=⟨(by rw [hw];exact (by (with_reducible repeat (first | apply Kd.N_alloc | apply Kd.N_drewN | apply Kd.N_drew));exact Kd.N_mono (Kd.N_far (p:=⟨gb205,4,none⟩) (Kd.N_far (p:=⟨gb205,3,none⟩) (Kd.N_far (p:=⟨gb205,2,none⟩) (Kd.N_far (p:=⟨gb205,1,none⟩) (Kd.N_far (p:=⟨gb205,0,none⟩) (Kd.N_mono HO_3.out (fun k_ hk => (⟨hk,hk.2⟩ : _ ∧ k_ ≠ gb205))) (fun _ hk => hk.2) (.int .i64 ((rd_T43 l0 x5_1).f0))) (fun _ hk => hk.2) (.int .i64 ((rd_T43 l0 x5_1).f1))) (fun _ hk => hk.2) (.slice A204_2 ((rd_T43 l0 x5_1).f2).length c204_2)) (fun _ hk => hk.2) (.slice A204_3 ((rd_T43 l0 x5_1).f3).length c204_3)) (fun _ hk => hk.2) (.slice A204_4 ((rd_T43 l0 x5_1).f4).length c204_4)) (fun _ hk => ⟨hk.1.1,hk.1.2⟩)))⟩;have n2_ : Aside0 (Kd.V k89 89 w12 w.heap.size (fun k_ => (P0_ k_ ∨ w.heap.size ≤ k_) ∧ some k_ ≠ (u3 : Value).ownBlock ∧ k_ ≠ gb205) (.slice A204_2 ((rd_T43 l0 x5_1).f2).length c204_2) ((rd_T43 l0 x5_1).f2)):=⟨(by rw [hw];exact (by (with_reducible repeat (first | apply Kd.V_alloc | apply Kd.V_drewN | apply Kd.V_drew));exact Kd.V_mono (Kd.V_far (p:=⟨gb205,4,none⟩) (Kd.V_far (p:=⟨gb205,3,none⟩) (Kd.V_far (p:=⟨gb205,2,none⟩) (Kd.V_far (p:=⟨gb205,1,none⟩) (Kd.V_far (p:=⟨gb205,0,none⟩) (Kd.V_mono HL204_2.out (fun k_ hk => (⟨hk,hk.2⟩ : _ ∧ k_ ≠ gb205))) (fun _ hk => hk.2) (.int .i64 ((rd_T43 l0 x5_1).f0))) (fun _ hk => hk.2) (.int .i64 ((rd_T43 l0 x5_1).f1))) (fun _ hk => hk.2) (.slice A204_2 ((rd_T43 l0 x5_1).f2).length c204_2)) (fun _ hk => hk.2) (.slice A204_3 ((rd_T43 l0 x5_1).f3).length c204_3)) (fun _ hk => hk.2) (.slice A204_4 ((rd_T43 l0 x5_1).f4).length c204_4)) (fun _ hk => ⟨hk.1.1.1,⟨hk.1.1.2,hk.1.2⟩⟩)))⟩;have n3_ : Aside0 (Kd.V k124 124 w12 w.heap.size (fun k_ => (P0_ k_ ∨ w.heap.size ≤ k_) ∧ some k_ ≠ (u3 : Value).ownBlock ∧ k_ ≠ gb205) (.slice A204_3 ((rd_T43 l0 x5_1).f3).length c204_3) ((rd_T43 l0 x5_1).f3)):=⟨(by rw [hw];exact (by (with_reducible repeat (first | apply Kd.V_alloc | apply Kd.V_drewN | apply Kd.V_drew));exact Kd.V_mono (Kd.V_far (p:=⟨gb205,4,none⟩) (Kd.V_far (p:=⟨gb205,3,none⟩) (Kd.V_far (p:=⟨gb205,2,none⟩) (Kd.V_far (p:=⟨gb205,1,none⟩) (Kd.V_far (p:=⟨gb205,0,none⟩) (Kd.V_mono HL204_3.out (fun k_ hk => (⟨hk,hk.2⟩ : _ ∧ k_ ≠ gb205))) (fun _ hk => hk.2) (.int .i64 ((rd_T43 l0 x5_1).f0))) (fun _ hk => hk.2) (.int .i64 ((rd_T43 l0 x5_1).f1))) (fun _ hk => hk.2) (.slice A204_2 ((rd_T43 l0 x5_1).f2).length c204_2)) (fun _ hk => hk.2) (.slice A204_3 ((rd_T43 l0 x5_1).f3).length c204_3)) (fun _ hk => hk.2) (.slice A204_4 ((rd_T43 l0 x5_1).f4).length c204_4)) (fun _ hk => ⟨hk.1.1.1,⟨hk.1.1.2,hk.1.2⟩⟩)))⟩;have n4_ : Aside0 (Kd.V (Kd.int .i64) 3 w12 w.heap.size (fun k_ => (P0_ k_ ∨ w.heap.size ≤ k_) ∧ some k_ ≠ (u3 : Value).ownBlock ∧ k_ ≠ gb205) (.slice A204_4 ((rd_T43 l0 x5_1).f4).length c204_4) ((rd_T43 l0 x5_1).f4)):=⟨(by rw [hw];exact (by (with_reducible repeat (first | apply Kd.V_alloc | apply Kd.V_drewN | apply Kd.V_drew));exact Kd.V_mono (Kd.V_far (p:=⟨gb205,4,none⟩) (Kd.V_far (p:=⟨gb205,3,none⟩) (Kd.V_far (p:=⟨gb205,2,none⟩) (Kd.V_far (p:=⟨gb205,1,none⟩) (Kd.V_far (p:=⟨gb205,0,none⟩) (Kd.V_mono HL204_4.out (fun k_ hk => (⟨hk,hk.2⟩ : _ ∧ k_ ≠ gb205))) (fun _ hk => hk.2) (.int .i64 ((rd_T43 l0 x5_1).f0))) (fun _ hk => hk.2) (.int .i64 ((rd_T43 l0 x5_1).f1))) (fun _ hk => hk.2) (.slice A204_2 ((rd_T43 l0 x5_1).f2).length c204_2)) (fun _ hk => hk.2) (.slice A204_3 ((rd_T43 l0 x5_1).f3).length c204_3)) (fun _ hk => hk.2) (.slice A204_4 ((rd_T43 l0 x5_1).f4).length c204_4)) (fun _ hk => ⟨hk.1.1.1,⟨hk.1.1.2,hk.1.2⟩⟩)))⟩;have n5_ : Aside0 (w12.heap[gb205]? = some (.cells #[.int .i64 ((rd_T43 l0 x5_1).f0),.int .i64 ((rd_T43 l0 x5_1).f1),.slice A204_2 ((rd_T43 l0 x5_1).f2).length c204_2,.slice A204_3 ((rd_T43 l0 x5_1).f3).length c204_3,.slice A204_4 ((rd_T43 l0 x5_1).f4).length c204_4] 43 (0,0))):=⟨(by rw [hw];exact (by (with_reducible repeat (first | refine blk_drewN ?_ _ | refine blk_drew ?_ | refine blk_alloc ?_ _));apply blkf_5_0_4;(with_reducible repeat (first | refine blk_drewN ?_ _ | refine blk_drew ?_ | refine blk_alloc ?_ _));exact BK205.out))⟩;have n6_ : Aside0 (Below w.heap.size w w12):=⟨(by rw [hw];exact (by repeat (first | (with_reducible first | exact HB.out | apply below_alloc | apply pw_below_drewN | apply below_drew1 | refine below_set ?_ GE205.out) | exact HB.out)))⟩;clear hw;clear HO_0;clear HO_3;clear HL204_2;clear HL204_3;clear HL204_4;clear BK205;clear HB;have HO_0:=n0_;have HO_3:=n1_;have HL204_2:=n2_;have HL204_3:=n3_;have HL204_4:=n4_;have BK205:=n5_;have HB:=n6_;clear n0_ n1_ n2_ n3_ n4_ n5_ n6_;obtain ⟨hcz13_0,hcz13_1,hcz13_2,hcz13_3,hcz13_4⟩:=blkc_5 BK205.out;obtain ⟨hfz13_0,hfz13_1,hfz13_2,hfz13_3⟩:=blkz_4 BK205.out;have hfz13_4:=blk_frozen BK205.out 4) | ((with_reducible refine gate_store (t:=3) (p:=27) rfl ?_);(try (rw [drewN_self w12];generalize hq_ : World.drewN w12 _ = w12;have n0_:=Aside0.mk (Kd.V_at hq_ HO_0.out);have n1_:=Aside0.mk (Kd.N_at hq_ HO_3.out);have n2_:=Aside0.mk (Kd.V_at hq_ HL204_2.out);have n3_:=Aside0.mk (Kd.V_at hq_ HL204_3.out);have n4_:=Aside0.mk (Kd.V_at hq_ HL204_4.out);have n5_:=Aside0.mk (blk_at hq_ BK205.out);have n6_:=Aside0.mk (Kd.C_at hq_ HR204_2.out);have n7_:=Aside0.mk (Kd.C_at hq_ HR204_3.out);have n8_:=Aside0.mk (Kd.C_at hq_ HR204_4.out);have n9_:=Aside0.mk (below_at hq_ HB.out);clear hq_ HO_0 HO_3 HL204_2 HL204_3 HL204_4 BK205 HR204_2 HR204_3 HR204_4 HB;have HO_0:=n0_;have HO_3:=n1_;have HL204_2:=n2_;have HL204_3:=n3_;have HL204_4:=n4_;have BK205:=n5_;have HR204_2:=n6_;have HR204_3:=n7_;have HR204_4:=n8_;have HB:=n9_;clear n0_ n1_ n2_ n3_ n4_ n5_ n6_ n7_ n8_ n9_));refine store_event (t:=3) (p:=27) (v:=?vo_w14) (w1:=(w12.setCell ⟨gb205,1,none⟩ (.int .i64 x4_1))) ?hg ?ho ?hn ?hr ?_;(case ho => rfl);(case hg => rfl);(case hn => rfl);(case hr => first | (go_simp;done) | (go_simp;rfl));intro w14 hw;have n0_ : Aside0 (Kd.V k43 43 w14 w.heap.size (fun k_ => (P0_ k_ ∨ w.heap.size ≤ k_) ∧ some k_ ≠ (u3 : Value).ownBlock ∧ k_ ≠ gb205) (.slice (some ad204) l0.length c0) l0):=⟨(by rw [hw];exact (by (with_reducible repeat (first | apply Kd.V_alloc | apply Kd.V_drewN | apply Kd.V_drew));exact Kd.V_mono (Kd.V_far (p:=⟨gb205,1,none⟩) (Kd.V_mono HO_0.out (fun k_ hk => (⟨hk,hk.2.2⟩ : _ ∧ k_ ≠ gb205))) (fun _ hk => hk.2) (.int .i64 x4_1)) (fun _ hk => ⟨hk.1.1,⟨hk.1.2.1,hk.1.2.2⟩⟩)))⟩;have n1_ : Aside0 (Kd.N k43 43 w14 w.heap.size (fun k_ => (P0_ k_ ∨ w.heap.size ≤ k_) ∧ k_ ≠ gb205) u3 x3_1):=⟨(by rw [hw];exact (by (with_reducible repeat (first | apply Kd.N_alloc | apply Kd.N_drewN | apply Kd.N_drew));exact Kd.N_mono (Kd.N_far (p:=⟨gb205,1,none⟩) (Kd.N_mono HO_3.out (fun k_ hk => (⟨hk,hk.2⟩ : _ ∧ k_ ≠ gb205))) (fun _ hk => hk.2) (.int .i64 x4_1)) (fun _ hk => ⟨hk.1.1,hk.1.2⟩)))⟩;have n2_ : Aside0 (Kd.V k89 89 w14 w.heap.size (fun k_ => (P0_ k_ ∨ w.heap.size ≤ k_) ∧ some k_ ≠ (u3 : Value).ownBlock ∧ k_ ≠ gb205) (.slice A204_2 ((rd_T43 l0 x5_1).f2).length c204_2) ((rd_T43 l0 x5_1).f2)):=⟨(by rw [hw];exact (by (with_reducible repeat (first | apply Kd.V_alloc | apply Kd.V_drewN | apply Kd.V_drew));exact Kd.V_mono (Kd.V_far (p:=⟨gb205,1,none⟩) (Kd.V_mono HL204_2.out (fun k_ hk => (⟨hk,hk.2.2⟩ : _ ∧ k_ ≠ gb205))) (fun _ hk => hk.2) (.int .i64 x4_1)) (fun _ hk => ⟨hk.1.1,⟨hk.1.2.1,hk.1.2.2⟩⟩)))⟩;have n3_ : Aside0 (Kd.V k124 124 w14 w.heap.size (fun k_ => (P0_ k_ ∨ w.heap.size ≤ k_) ∧ some k_ ≠ (u3 : Value).ownBlock ∧ k_ ≠ gb205) (.slice A204_3 ((rd_T43 l0 x5_1).f3).length c204_3) ((rd_T43 l0 x5_1).f3)):=⟨(by rw [hw];exact (by (with_reducible repeat (first | apply Kd.V_alloc | apply Kd.V_drewN | apply Kd.V_drew));exact Kd.V_mono (Kd.V_far (p:=⟨gb205,1,none⟩) (Kd.V_mono HL204_3.out (fun k_ hk => (⟨hk,hk.2.2⟩ : _ ∧ k_ ≠ gb205))) (fun _ hk => hk.2) (.int .i64 x4_1)) (fun _ hk => ⟨hk.1.1,⟨hk.1.2.1,hk.1.2.2⟩⟩)))⟩;have n4_ : Aside0 (Kd.V (Kd.int .i64) 3 w14 w.heap.size (fun k_ => (P0_ k_ ∨ w.heap.size ≤ k_) ∧ some k_ ≠ (u3 : Value).ownBlock ∧ k_ ≠ gb205) (.slice A204_4 ((rd_T43 l0 x5_1).f4).length c204_4) ((rd_T43 l0 x5_1).f4)):=⟨(by rw [hw];exact (by (with_reducible repeat (first | apply Kd.V_alloc | apply Kd.V_drewN | apply Kd.V_drew));exact Kd.V_mono (Kd.V_far (p:=⟨gb205,1,none⟩) (Kd.V_mono HL204_4.out (fun k_ hk => (⟨hk,hk.2.2⟩ : _ ∧ k_ ≠ gb205))) (fun _ hk => hk.2) (.int .i64 x4_1)) (fun _ hk => ⟨hk.1.1,⟨hk.1.2.1,hk.1.2.2⟩⟩)))⟩;have n5_ : Aside0 (w14.heap[gb205]? = some (.cells #[.int .i64 ((rd_T43 l0 x5_1).f0),.int .i64 x4_1,.slice A204_2 ((rd_T43 l0 x5_1).f2).length c204_2,.slice A204_3 ((rd_T43 l0 x5_1).f3).length c204_3,.slice A204_4 ((rd_T43 l0 x5_1).f4).length c204_4] 43 (0,0))):=⟨(by rw [hw];exact (by (with_reducible repeat (first | refine blk_drewN ?_ _ | refine blk_drew ?_ | refine blk_alloc ?_ _));refine blk_put (cs:=#[.int .i64 ((rd_T43 l0 x5_1).f0),.int .i64 ((rd_T43 l0 x5_1).f1),.slice A204_2 ((rd_T43 l0 x5_1).f2).length c204_2,.slice A204_3 ((rd_T43 l0 x5_1).f3).length c204_3,.slice A204_4 ((rd_T43 l0 x5_1).f4).length c204_4]) ?_ 1 _ rfl;(with_reducible repeat (first | refine blk_drewN ?_ _ | refine blk_drew ?_ | refine blk_alloc ?_ _));exact BK205.out))⟩;have n6_ : Aside0 (Below w.heap.size w w14):=⟨(by rw [hw];exact (by repeat (first | (with_reducible first | exact HB.out | apply below_alloc | apply pw_below_drewN | apply below_drew1 | refine below_set ?_ GE205.out) | exact HB.out)))⟩;clear hw;clear HO_0;clear HO_3;clear HL204_2;clear HL204_3;clear HL204_4;clear BK205;clear HB;have HO_0:=n0_;have HO_3:=n1_;have HL204_2:=n2_;have HL204_3:=n3_;have HL204_4:=n4_;have BK205:=n5_;have HB:=n6_;clear n0_ n1_ n2_ n3_ n4_ n5_ n6_;obtain ⟨hcz15_0,hcz15_1,hcz15_2,hcz15_3,hcz15_4⟩:=blkc_5 BK205.out;obtain ⟨hfz15_0,hfz15_1,hfz15_2,hfz15_3⟩:=blkz_4 BK205.out;have hfz15_4:=blk_frozen BK205.out 4) | ((with_reducible refine gate_builtin (b:=.append) (xs:=#[.tmp 34,.tmp 36]) rfl ?_);at_builtin;refine Kd.N_append k43 (w0:=w) w.heap.size rfl (.tmp 34) (.tmp 36) 36 43 (.agg #[(.int .i64 0),(.int .i64 0),(.slice none 0 0),(.slice none 0 0),(.slice none 0 0)]) 88 rfl Try.underlying36 info43 rfl (by decide) (by omega) u3 x3_1 (⟨(rd_T43 l0 x5_1).f0,x4_1,(rd_T43 l0 x5_1).f2,(rd_T43 l0 x5_1).f3,(rd_T43 l0 x5_1).f4⟩ : S43) [.int .i64 ((rd_T43 l0 x5_1).f0),.int .i64 x4_1,.slice A204_2 ((rd_T43 l0 x5_1).f2).length c204_2,.slice A204_3 ((rd_T43 l0 x5_1).f3).length c204_3,.slice A204_4 ((rd_T43 l0 x5_1).f4).length c204_4] (fun k_ => (P0_ k_ ∨ w.heap.size ≤ k_) ∧ k_ ≠ gb205) (fun k_ => ((fun k_ => (P0_ k_ ∨ w.heap.size ≤ k_) ∧ k_ ≠ gb205)) k_ ∧ some k_ ≠ (u3 : Value).ownBlock) rfl rfl ?aP (fun _ hk => hk) ?aF ?aO ?aB ?aS ?aL ?_;(case aP => exact (k43_mkF _ _ (⟨(rd_T43 l0 x5_1).f0,x4_1,(rd_T43 l0 x5_1).f2,(rd_T43 l0 x5_1).f3,(rd_T43 l0 x5_1).f4⟩ : S43) (Kd.V_reads' (Kd.V_mono (ok':=(fun k_ => ((fun k_ => (P0_ k_ ∨ w.heap.size ≤ k_) ∧ k_ ≠ gb205)) k_ ∧ some k_ ≠ (u3 : Value).ownBlock)) (HL204_2.out) (fun k_ hk => ⟨⟨hk.1,hk.2.2⟩,hk.2.1⟩))).2.1 (Kd.V_F (Kd.V_mono (ok':=(fun k_ => ((fun k_ => (P0_ k_ ∨ w.heap.size ≤ k_) ∧ k_ ≠ gb205)) k_ ∧ some k_ ≠ (u3 : Value).ownBlock)) (HL204_2.out) (fun k_ hk => ⟨⟨hk.1,hk.2.2⟩,hk.2.1⟩))) (Kd.V_reads' (Kd.V_mono (ok':=(fun k_ => ((fun k_ => (P0_ k_ ∨ w.heap.size ≤ k_) ∧ k_ ≠ gb205)) k_ ∧ some k_ ≠ (u3 : Value).ownBlock)) (HL204_3.out) (fun k_ hk => ⟨⟨hk.1,hk.2.2⟩,hk.2.1⟩))).2.1 (Kd.V_F (Kd.V_mono (ok':=(fun k_ => ((fun k_ => (P0_ k_ ∨ w.heap.size ≤ k_) ∧ k_ ≠ gb205)) k_ ∧ some k_ ≠ (u3 : Value).ownBlock)) (HL204_3.out) (fun k_ hk => ⟨⟨hk.1,hk.2.2⟩,hk.2.1⟩))) (Kd.V_reads' (Kd.V_mono (ok':=(fun k_ => ((fun k_ => (P0_ k_ ∨ w.heap.size ≤ k_) ∧ k_ ≠ gb205)) k_ ∧ some k_ ≠ (u3 : Value).ownBlock)) (HL204_4.out) (fun k_ hk => ⟨⟨hk.1,hk.2.2⟩,hk.2.1⟩))).2.1 (Kd.V_F (Kd.V_mono (ok':=(fun k_ => ((fun k_ => (P0_ k_ ∨ w.heap.size ≤ k_) ∧ k_ ≠ gb205)) k_ ∧ some k_ ≠ (u3 : Value).ownBlock)) (HL204_4.out) (fun k_ hk => ⟨⟨hk.1,hk.2.2⟩,hk.2.1⟩)))));(case aB => exact (by repeat (first | (with_reducible first | exact HB.out | apply below_alloc | apply pw_below_drewN | apply below_drew1 | refine below_set ?_ GE205.out) | exact HB.out)));(case aF => exact (fun k_ hk => ⟨(.inr (Nat.le_trans (below_size (by repeat (first | (with_reducible first | exact HB.out | apply below_alloc | apply pw_below_drewN | apply below_drew1 | refine below_set ?_ GE205.out) | exact HB.out))) hk)),Kd.freshB (g:=gb205) (o:=.cells #[.int .i64 ((rd_T43 l0 x5_1).f0),.int .i64 x4_1,.slice A204_2 ((rd_T43 l0 x5_1).f2).length c204_2,.slice A204_3 ((rd_T43 l0 x5_1).f3).length c204_3,.slice A204_4 ((rd_T43 l0 x5_1).f4).length c204_4] 43 (0,0)) (by (with_reducible repeat (first | refine blk_drewN ?_ _ | refine blk_drew ?_ | refine blk_alloc ?_ _));exact BK205.out) k_ hk⟩));(case aO => exact (by (with_reducible repeat (first | apply Kd.N_alloc | apply Kd.N_drewN | apply Kd.N_drew));exact HO_3.out));(case aS => exact (below_size (by repeat (first | (with_reducible first | exact HB.out | apply below_alloc | apply pw_below_drewN | apply below_drew1 | refine below_set ?_ GE205.out) | exact HB.out))));(case aL => have:=LMc9.out;omega);intro v207 w16 ho hb hg hat;rw [← Ny206.out] at ho;have n0_:=Aside0.mk (Kd.V_afterv (ok:=(fun k_ => (P0_ k_ ∨ w.heap.size ≤ k_) ∧ k_ ≠ gb205)) (by (with_reducible repeat (first | apply Kd.V_alloc | apply Kd.V_drewN | apply Kd.V_drew));exact Kd.V_mono HO_0.out (fun _ hk => ⟨⟨hk.1,hk.2.2⟩,hk.2.1⟩)) hg hat);have n1_:=Aside0.mk (Kd.V_afterv (ok:=(fun k_ => (P0_ k_ ∨ w.heap.size ≤ k_) ∧ k_ ≠ gb205)) (by (with_reducible repeat (first | apply Kd.V_alloc | apply Kd.V_drewN | apply Kd.V_drew));exact Kd.V_mono HL204_2.out (fun _ hk => ⟨⟨hk.1,hk.2.2⟩,hk.2.1⟩)) hg hat);have n2_:=Aside0.mk (Kd.V_afterv (ok:=(fun k_ => (P0_ k_ ∨ w.heap.size ≤ k_) ∧ k_ ≠ gb205)) (by (with_reducible repeat (first | apply Kd.V_alloc | apply Kd.V_drewN | apply Kd.V_drew));exact Kd.V_mono HL204_3.out (fun _ hk => ⟨⟨hk.1,hk.2.2⟩,hk.2.1⟩)) hg hat);have n3_:=Aside0.mk (Kd.V_afterv (ok:=(fun k_ => (P0_ k_ ∨ w.heap.size ≤ k_) ∧ k_ ≠ gb205)) (by (with_reducible repeat (first | apply Kd.V_alloc | apply Kd.V_drewN | apply Kd.V_drew));exact Kd.V_mono HL204_4.out (fun _ hk => ⟨⟨hk.1,hk.2.2⟩,hk.2.1⟩)) hg hat);have n4_:=Aside0.mk (blk_grown (g:=gb205) (o:=.cells #[.int .i64 ((rd_T43 l0 x5_1).f0),.int .i64 x4_1,.slice A204_2 ((rd_T43 l0 x5_1).f2).length c204_2,.slice A204_3 ((rd_T43 l0 x5_1).f3).length c204_3,.slice A204_4 ((rd_T43 l0 x5_1).f4).length c204_4] 43 (0,0)) (by (with_reducible repeat (first | refine blk_drewN ?_ _ | refine blk_drew ?_ | refine blk_alloc ?_ _));exact BK205.out) hg (Kd.N_away HO_3.out (fun _ hk => hk.2)));have n5_:=Aside0.mk (hb);have n6_:=Aside0.mk (ho);clear HO_0;clear HL204_2;clear HL204_3;clear HL204_4;clear BK205;clear HB;clear HO_3;have HO_0:=n0_;have HL204_2:=n1_;have HL204_3:=n2_;have HL204_4:=n3_;have BK205:=n4_;have HB:=n5_;have HO208:=n6_;clear n0_ n1_ n2_ n3_ n4_ n5_ n6_;clear ho hb hg hat));try go_wp2_with (first | ((with_reducible refine gate_dst (N:=6) rfl ?_);refine box_event ?hg (N:=6) ?hd (cs:=#[.int .i64 0,.int .i64 0,.slice none 0 0,.slice none 0 0,.slice none 0 0]) (t:=43) ?hr ?_;(case hd => rfl);(case hg => rfl);(case hr => first | (go_simp;done) | (go_simp;rfl));intro gb205 hg w10 hbox hb;have n0_:=Aside0.mk (Kd.V_below (Kd.V_elderB (by (with_reducible repeat (first | apply Kd.V_alloc | apply Kd.V_drewN | apply Kd.V_drew));exact HO_0.out) gb205 (Nat.le_of_eq hg.symm)) hb);have n1_:=Aside0.mk (Kd.N_below (Kd.N_elderB (by (with_reducible repeat (first | apply Kd.N_alloc | apply Kd.N_drewN | apply Kd.N_drew));exact HO_3.out) gb205 (Nat.le_of_eq hg.symm)) hb);have n2_:=Aside0.mk (Kd.V_below (Kd.V_elderB (by (with_reducible repeat (first | apply Kd.V_alloc | apply Kd.V_drewN | apply Kd.V_drew));exact HL204_2.out) gb205 (Nat.le_of_eq hg.symm)) hb);have n3_:=Aside0.mk (Kd.V_below (Kd.V_elderB (by (with_reducible repeat (first | apply Kd.V_alloc | apply Kd.V_drewN | apply Kd.V_drew));exact HL204_3.out) gb205 (Nat.le_of_eq hg.symm)) hb);have n4_:=Aside0.mk (Kd.V_below (Kd.V_elderB (by (with_reducible repeat (first | apply Kd.V_alloc | apply Kd.V_drewN | apply Kd.V_drew));exact HL204_4.out) gb205 (Nat.le_of_eq hg.symm)) hb);have n5_:=Aside0.mk (Kd.C_below (by repeat (first | (with_reducible exact HR204_2.out) | (with_reducible refine Kd.C_alloc ?_ _) | (with_reducible refine Kd.C_drewN ?_ _) | (with_reducible refine Kd.C_drew ?_) | exact HR204_2.out)) hb);have n6_:=Aside0.mk (Kd.C_below (by repeat (first | (with_reducible exact HR204_3.out) | (with_reducible refine Kd.C_alloc ?_ _) | (with_reducible refine Kd.C_drewN ?_ _) | (with_reducible refine Kd.C_drew ?_) | exact HR204_3.out)) hb);have n7_:=Aside0.mk (Kd.C_below (by repeat (first | (with_reducible exact HR204_4.out) | (with_reducible refine Kd.C_alloc ?_ _) | (with_reducible refine Kd.C_drewN ?_ _) | (with_reducible refine Kd.C_drew ?_) | exact HR204_4.out)) hb);have n8_:=Aside0.mk (below_step (by repeat (first | (with_reducible first | exact HB.out | apply below_alloc | apply pw_below_drewN | apply below_drew1) | exact HB.out)) hb);have n9_:=Aside0.mk (hbox);have n10_:=Aside0.mk ((by rw [hg];exact (below_size (by repeat (first | (with_reducible first | exact HB.out | apply below_alloc | apply pw_below_drewN | apply below_drew1) | exact HB.out))) : w.heap.size ≤ gb205));have n11_:=Aside0.mk ((by rw [hg];exact (below_size (by repeat (first | (with_reducible first | exact HB.out | apply below_alloc | apply pw_below_drewN | apply below_drew1) | exact HB.out))) : w.heap.size ≤ gb205));clear HO_0;clear HO_3;clear HL204_2;clear HL204_3;clear HL204_4;clear HR204_2;clear HR204_3;clear HR204_4;clear HB;have HO_0:=n0_;have HO_3:=n1_;have HL204_2:=n2_;have HL204_3:=n3_;have HL204_4:=n4_;have HR204_2:=n5_;have HR204_3:=n6_;have HR204_4:=n7_;have HB:=n8_;have BK205:=n9_;have GW205:=n10_;have GE205:=n11_;clear n0_ n1_ n2_ n3_ n4_ n5_ n6_ n7_ n8_ n9_ n10_ n11_;clear hb hbox hg;obtain ⟨hcz11_0,hcz11_1,hcz11_2,hcz11_3,hcz11_4⟩:=blkc_5 BK205.out;obtain ⟨hfz11_0,hfz11_1,hfz11_2,hfz11_3⟩:=blkz_4 BK205.out;have hfz11_4:=blk_frozen BK205.out 4) | ((with_reducible refine gate_store (t:=43) (p:=6) rfl ?_);(try (rw [drewN_self w10];generalize hq_ : World.drewN w10 _ = w10;have n0_:=Aside0.mk (Kd.V_at hq_ HO_0.out);have n1_:=Aside0.mk (Kd.N_at hq_ HO_3.out);have n2_:=Aside0.mk (Kd.V_at hq_ HL204_2.out);have n3_:=Aside0.mk (Kd.V_at hq_ HL204_3.out);have n4_:=Aside0.mk (Kd.V_at hq_ HL204_4.out);have n5_:=Aside0.mk (blk_at hq_ BK205.out);have n6_:=Aside0.mk (Kd.C_at hq_ HR204_2.out);have n7_:=Aside0.mk (Kd.C_at hq_ HR204_3.out);have n8_:=Aside0.mk (Kd.C_at hq_ HR204_4.out);have n9_:=Aside0.mk (below_at hq_ HB.out);clear hq_ HO_0 HO_3 HL204_2 HL204_3 HL204_4 BK205 HR204_2 HR204_3 HR204_4 HB;have HO_0:=n0_;have HO_3:=n1_;have HL204_2:=n2_;have HL204_3:=n3_;have HL204_4:=n4_;have BK205:=n5_;have HR204_2:=n6_;have HR204_3:=n7_;have HR204_4:=n8_;have HB:=n9_;clear n0_ n1_ n2_ n3_ n4_ n5_ n6_ n7_ n8_ n9_));refine store_event (t:=43) (p:=6) (v:=?vo_w12) (w1:=(((((w10.setCell ⟨gb205,0,none⟩ (.int .i64 ((rd_T43 l0 x5_1).f0))).setCell ⟨gb205,1,none⟩ (.int .i64 ((rd_T43 l0 x5_1).f1))).setCell ⟨gb205,2,none⟩ (.slice A204_2 ((rd_T43 l0 x5_1).f2).length c204_2)).setCell ⟨gb205,3,none⟩ (.slice A204_3 ((rd_T43 l0 x5_1).f3).length c204_3)).setCell ⟨gb205,4,none⟩ (.slice A204_4 ((rd_T43 l0 x5_1).f4).length c204_4))) ?hg ?ho ?hn ?hr ?_;(case ho => rfl);(case hg => rfl);(case hn => rfl);(case hr => first | (go_simp;done) | (go_simp;rfl));intro w12 hw;have n0_ : Aside0 (Kd.V k43 43 w12 w.heap.size (fun k_ => (P0_ k_ ∨ w.heap.size ≤ k_) ∧ some k_ ≠ (u3 : Value).ownBlock ∧ k_ ≠ gb205) (.slice (some ad204) l0.length c0) l0):=⟨(by rw [hw];exact (by (with_reducible repeat (first | apply Kd.V_alloc | apply Kd.V_drewN | apply Kd.V_drew));exact Kd.V_mono (Kd.V_far (p:=⟨gb205,4,none⟩) (Kd.V_far (p:=⟨gb205,3,none⟩) (Kd.V_far (p:=⟨gb205,2,none⟩) (Kd.V_far (p:=⟨gb205,1,none⟩) (Kd.V_far (p:=⟨gb205,0,none⟩) (Kd.V_mono HO_0.out (fun k_ hk => (⟨hk,hk.2⟩ : _ ∧ k_ ≠ gb205))) (fun _ hk => hk.2) (.int .i64 ((rd_T43 l0 x5_1).f0))) (fun _ hk => hk.2) (.int .i64 ((rd_T43 l0 x5_1).f1))) (fun _ hk => hk.2) (.slice A204_2 ((rd_T43 l0 x5_1).f2).length c204_2)) (fun _ hk => hk.2) (.slice A204_3 ((rd_T43 l0 x5_1).f3).length c204_3)) (fun _ hk => hk.2) (.slice A204_4 ((rd_T43 l0 x5_1).f4).length c204_4)) (fun _ hk => ⟨hk.1.1.1,⟨hk.1.1.2,hk.1.2⟩⟩)))⟩;have n1_ : Aside0 (Kd.N k43 43 w12 w.heap.size (fun k_ => (P0_ k_ ∨ w.heap.size ≤ k_) ∧ k_ ≠ gb205) u3 x3_1):=⟨(by rw [hw];exact (by (with_reducible repeat (first | apply Kd.N_alloc | apply Kd.N_drewN | apply Kd.N_drew));exact Kd.N_mono (Kd.N_far (p:=⟨gb205,4,none⟩) (Kd.N_far (p:=⟨gb205,3,none⟩) (Kd.N_far (p:=⟨gb205,2,none⟩) (Kd.N_far (p:=⟨gb205,1,none⟩) (Kd.N_far (p:=⟨gb205,0,none⟩) (Kd.N_mono HO_3.out (fun k_ hk => (⟨hk,hk.2⟩ : _ ∧ k_ ≠ gb205))) (fun _ hk => hk.2) (.int .i64 ((rd_T43 l0 x5_1).f0))) (fun _ hk => hk.2) (.int .i64 ((rd_T43 l0 x5_1).f1))) (fun _ hk => hk.2) (.slice A204_2 ((rd_T43 l0 x5_1).f2).length c204_2)) (fun _ hk => hk.2) (.slice A204_3 ((rd_T43 l0 x5_1).f3).length c204_3)) (fun _ hk => hk.2) (.slice A204_4 ((rd_T43 l0 x5_1).f4).length c204_4)) (fun _ hk => ⟨hk.1.1,hk.1.2⟩)))⟩;have n2_ : Aside0 (Kd.V k89 89 w12 w.heap.size (fun k_ => (P0_ k_ ∨ w.heap.size ≤ k_) ∧ some k_ ≠ (u3 : Value).ownBlock ∧ k_ ≠ gb205) (.slice A204_2 ((rd_T43 l0 x5_1).f2).length c204_2) ((rd_T43 l0 x5_1).f2)):=⟨(by rw [hw];exact (by (with_reducible repeat (first | apply Kd.V_alloc | apply Kd.V_drewN | apply Kd.V_drew));exact Kd.V_mono (Kd.V_far (p:=⟨gb205,4,none⟩) (Kd.V_far (p:=⟨gb205,3,none⟩) (Kd.V_far (p:=⟨gb205,2,none⟩) (Kd.V_far (p:=⟨gb205,1,none⟩) (Kd.V_far (p:=⟨gb205,0,none⟩) (Kd.V_mono HL204_2.out (fun k_ hk => (⟨hk,hk.2⟩ : _ ∧ k_ ≠ gb205))) (fun _ hk => hk.2) (.int .i64 ((rd_T43 l0 x5_1).f0))) (fun _ hk => hk.2) (.int .i64 ((rd_T43 l0 x5_1).f1))) (fun _ hk => hk.2) (.slice A204_2 ((rd_T43 l0 x5_1).f2).length c204_2)) (fun _ hk => hk.2) (.slice A204_3 ((rd_T43 l0 x5_1).f3).length c204_3)) (fun _ hk => hk.2) (.slice A204_4 ((rd_T43 l0 x5_1).f4).length c204_4)) (fun _ hk => ⟨hk.1.1.1,⟨hk.1.1.2,hk.1.2⟩⟩)))⟩;have n3_ : Aside0 (Kd.V k124 124 w12 w.heap.size (fun k_ => (P0_ k_ ∨ w.heap.size ≤ k_) ∧ some k_ ≠ (u3 : Value).ownBlock ∧ k_ ≠ gb205) (.slice A204_3 ((rd_T43 l0 x5_1).f3).length c204_3) ((rd_T43 l0 x5_1).f3)):=⟨(by rw [hw];exact (by (with_reducible repeat (first | apply Kd.V_alloc | apply Kd.V_drewN | apply Kd.V_drew));exact Kd.V_mono (Kd.V_far (p:=⟨gb205,4,none⟩) (Kd.V_far (p:=⟨gb205,3,none⟩) (Kd.V_far (p:=⟨gb205,2,none⟩) (Kd.V_far (p:=⟨gb205,1,none⟩) (Kd.V_far (p:=⟨gb205,0,none⟩) (Kd.V_mono HL204_3.out (fun k_ hk => (⟨hk,hk.2⟩ : _ ∧ k_ ≠ gb205))) (fun _ hk => hk.2) (.int .i64 ((rd_T43 l0 x5_1).f0))) (fun _ hk => hk.2) (.int .i64 ((rd_T43 l0 x5_1).f1))) (fun _ hk => hk.2) (.slice A204_2 ((rd_T43 l0 x5_1).f2).length c204_2)) (fun _ hk => hk.2) (.slice A204_3 ((rd_T43 l0 x5_1).f3).length c204_3)) (fun _ hk => hk.2) (.slice A204_4 ((rd_T43 l0 x5_1).f4).length c204_4)) (fun _ hk => ⟨hk.1.1.1,⟨hk.1.1.2,hk.1.2⟩⟩)))⟩;have n4_ : Aside0 (Kd.V (Kd.int .i64) 3 w12 w.heap.size (fun k_ => (P0_ k_ ∨ w.heap.size ≤ k_) ∧ some k_ ≠ (u3 : Value).ownBlock ∧ k_ ≠ gb205) (.slice A204_4 ((rd_T43 l0 x5_1).f4).length c204_4) ((rd_T43 l0 x5_1).f4)):=⟨(by rw [hw];exact (by (with_reducible repeat (first | apply Kd.V_alloc | apply Kd.V_drewN | apply Kd.V_drew));exact Kd.V_mono (Kd.V_far (p:=⟨gb205,4,none⟩) (Kd.V_far (p:=⟨gb205,3,none⟩) (Kd.V_far (p:=⟨gb205,2,none⟩) (Kd.V_far (p:=⟨gb205,1,none⟩) (Kd.V_far (p:=⟨gb205,0,none⟩) (Kd.V_mono HL204_4.out (fun k_ hk => (⟨hk,hk.2⟩ : _ ∧ k_ ≠ gb205))) (fun _ hk => hk.2) (.int .i64 ((rd_T43 l0 x5_1).f0))) (fun _ hk => hk.2) (.int .i64 ((rd_T43 l0 x5_1).f1))) (fun _ hk => hk.2) (.slice A204_2 ((rd_T43 l0 x5_1).f2).length c204_2)) (fun _ hk => hk.2) (.slice A204_3 ((rd_T43 l0 x5_1).f3).length c204_3)) (fun _ hk => hk.2) (.slice A204_4 ((rd_T43 l0 x5_1).f4).length c204_4)) (fun _ hk => ⟨hk.1.1.1,⟨hk.1.1.2,hk.1.2⟩⟩)))⟩;have n5_ : Aside0 (w12.heap[gb205]? = some (.cells #[.int .i64 ((rd_T43 l0 x5_1).f0),.int .i64 ((rd_T43 l0 x5_1).f1),.slice A204_2 ((rd_T43 l0 x5_1).f2).length c204_2,.slice A204_3 ((rd_T43 l0 x5_1).f3).length c204_3,.slice A204_4 ((rd_T43 l0 x5_1).f4).length c204_4] 43 (0,0))):=⟨(by rw [hw];exact (by (with_reducible repeat (first | refine blk_drewN ?_ _ | refine blk_drew ?_ | refine blk_alloc ?_ _));apply blkf_5_0_4;(with_reducible repeat (first | refine blk_drewN ?_ _ | refine blk_drew ?_ | refine blk_alloc ?_ _));exact BK205.out))⟩;have n6_ : Aside0 (Below w.heap.size w w12):=⟨(by rw [hw];exact (by repeat (first | (with_reducible first | exact HB.out | apply below_alloc | apply pw_below_drewN | apply below_drew1 | refine below_set ?_ GE205.out) | exact HB.out)))⟩;clear hw;clear HO_0;clear HO_3;clear HL204_2;clear HL204_3;clear HL204_4;clear BK205;clear HB;have HO_0:=n0_;have HO_3:=n1_;have HL204_2:=n2_;have HL204_3:=n3_;have HL204_4:=n4_;have BK205:=n5_;have HB:=n6_;clear n0_ n1_ n2_ n3_ n4_ n5_ n6_;obtain ⟨hcz13_0,hcz13_1,hcz13_2,hcz13_3,hcz13_4⟩:=blkc_5 BK205.out;obtain ⟨hfz13_0,hfz13_1,hfz13_2,hfz13_3⟩:=blkz_4 BK205.out;have hfz13_4:=blk_frozen BK205.out 4) | ((with_reducible refine gate_store (t:=3) (p:=27) rfl ?_);(try (rw [drewN_self w12];generalize hq_ : World.drewN w12 _ = w12;have n0_:=Aside0.mk (Kd.V_at hq_ HO_0.out);have n1_:=Aside0.mk (Kd.N_at hq_ HO_3.out);have n2_:=Aside0.mk (Kd.V_at hq_ HL204_2.out);have n3_:=Aside0.mk (Kd.V_at hq_ HL204_3.out);have n4_:=Aside0.mk (Kd.V_at hq_ HL204_4.out);have n5_:=Aside0.mk (blk_at hq_ BK205.out);have n6_:=Aside0.mk (Kd.C_at hq_ HR204_2.out);have n7_:=Aside0.mk (Kd.C_at hq_ HR204_3.out);have n8_:=Aside0.mk (Kd.C_at hq_ HR204_4.out);have n9_:=Aside0.mk (below_at hq_ HB.out);clear hq_ HO_0 HO_3 HL204_2 HL204_3 HL204_4 BK205 HR204_2 HR204_3 HR204_4 HB;have HO_0:=n0_;have HO_3:=n1_;have HL204_2:=n2_;have HL204_3:=n3_;have HL204_4:=n4_;have BK205:=n5_;have HR204_2:=n6_;have HR204_3:=n7_;have HR204_4:=n8_;have HB:=n9_;clear n0_ n1_ n2_ n3_ n4_ n5_ n6_ n7_ n8_ n9_));refine store_event (t:=3) (p:=27) (v:=?vo_w14) (w1:=(w12.setCell ⟨gb205,1,none⟩ (.int .i64 x4_1))) ?hg ?ho ?hn ?hr ?_;(case ho => rfl);(case hg => rfl);(case hn => rfl);(case hr => first | (go_simp;done) | (go_simp;rfl));intro w14 hw;have n0_ : Aside0 (Kd.V k43 43 w14 w.heap.size (fun k_ => (P0_ k_ ∨ w.heap.size ≤ k_) ∧ some k_ ≠ (u3 : Value).ownBlock ∧ k_ ≠ gb205) (.slice (some ad204) l0.length c0) l0):=⟨(by rw [hw];exact (by (with_reducible repeat (first | apply Kd.V_alloc | apply Kd.V_drewN | apply Kd.V_drew));exact Kd.V_mono (Kd.V_far (p:=⟨gb205,1,none⟩) (Kd.V_mono HO_0.out (fun k_ hk => (⟨hk,hk.2.2⟩ : _ ∧ k_ ≠ gb205))) (fun _ hk => hk.2) (.int .i64 x4_1)) (fun _ hk => ⟨hk.1.1,⟨hk.1.2.1,hk.1.2.2⟩⟩)))⟩;have n1_ : Aside0 (Kd.N k43 43 w14 w.heap.size (fun k_ => (P0_ k_ ∨ w.heap.size ≤ k_) ∧ k_ ≠ gb205) u3 x3_1):=⟨(by rw [hw];exact (by (with_reducible repeat (first | apply Kd.N_alloc | apply Kd.N_drewN | apply Kd.N_drew));exact Kd.N_mono (Kd.N_far (p:=⟨gb205,1,none⟩) (Kd.N_mono HO_3.out (fun k_ hk => (⟨hk,hk.2⟩ : _ ∧ k_ ≠ gb205))) (fun _ hk => hk.2) (.int .i64 x4_1)) (fun _ hk => ⟨hk.1.1,hk.1.2⟩)))⟩;have n2_ : Aside0 (Kd.V k89 89 w14 w.heap.size (fun k_ => (P0_ k_ ∨ w.heap.size ≤ k_) ∧ some k_ ≠ (u3 : Value).ownBlock ∧ k_ ≠ gb205) (.slice A204_2 ((rd_T43 l0 x5_1).f2).length c204_2) ((rd_T43 l0 x5_1).f2)):=⟨(by rw [hw];exact (by (with_reducible repeat (first | apply Kd.V_alloc | apply Kd.V_drewN | apply Kd.V_drew));exact Kd.V_mono (Kd.V_far (p:=⟨gb205,1,none⟩) (Kd.V_mono HL204_2.out (fun k_ hk => (⟨hk,hk.2.2⟩ : _ ∧ k_ ≠ gb205))) (fun _ hk => hk.2) (.int .i64 x4_1)) (fun _ hk => ⟨hk.1.1,⟨hk.1.2.1,hk.1.2.2⟩⟩)))⟩;have n3_ : Aside0 (Kd.V k124 124 w14 w.heap.size (fun k_ => (P0_ k_ ∨ w.heap.size ≤ k_) ∧ some k_ ≠ (u3 : Value).ownBlock ∧ k_ ≠ gb205) (.slice A204_3 ((rd_T43 l0 x5_1).f3).length c204_3) ((rd_T43 l0 x5_1).f3)):=⟨(by rw [hw];exact (by (with_reducible repeat (first | apply Kd.V_alloc | apply Kd.V_drewN | apply Kd.V_drew));exact Kd.V_mono (Kd.V_far (p:=⟨gb205,1,none⟩) (Kd.V_mono HL204_3.out (fun k_ hk => (⟨hk,hk.2.2⟩ : _ ∧ k_ ≠ gb205))) (fun _ hk => hk.2) (.int .i64 x4_1)) (fun _ hk => ⟨hk.1.1,⟨hk.1.2.1,hk.1.2.2⟩⟩)))⟩;have n4_ : Aside0 (Kd.V (Kd.int .i64) 3 w14 w.heap.size (fun k_ => (P0_ k_ ∨ w.heap.size ≤ k_) ∧ some k_ ≠ (u3 : Value).ownBlock ∧ k_ ≠ gb205) (.slice A204_4 ((rd_T43 l0 x5_1).f4).length c204_4) ((rd_T43 l0 x5_1).f4)):=⟨(by rw [hw];exact (by (with_reducible repeat (first | apply Kd.V_alloc | apply Kd.V_drewN | apply Kd.V_drew));exact Kd.V_mono (Kd.V_far (p:=⟨gb205,1,none⟩) (Kd.V_mono HL204_4.out (fun k_ hk => (⟨hk,hk.2.2⟩ : _ ∧ k_ ≠ gb205))) (fun _ hk => hk.2) (.int .i64 x4_1)) (fun _ hk => ⟨hk.1.1,⟨hk.1.2.1,hk.1.2.2⟩⟩)))⟩;have n5_ : Aside0 (w14.heap[gb205]? = some (.cells #[.int .i64 ((rd_T43 l0 x5_1).f0),.int .i64 x4_1,.slice A204_2 ((rd_T43 l0 x5_1).f2).length c204_2,.slice A204_3 ((rd_T43 l0 x5_1).f3).length c204_3,.slice A204_4 ((rd_T43 l0 x5_1).f4).length c204_4] 43 (0,0))):=⟨(by rw [hw];exact (by (with_reducible repeat (first | refine blk_drewN ?_ _ | refine blk_drew ?_ | refine blk_alloc ?_ _));refine blk_put (cs:=#[.int .i64 ((rd_T43 l0 x5_1).f0),.int .i64 ((rd_T43 l0 x5_1).f1),.slice A204_2 ((rd_T43 l0 x5_1).f2).length c204_2,.slice A204_3 ((rd_T43 l0 x5_1).f3).length c204_3,.slice A204_4 ((rd_T43 l0 x5_1).f4).length c204_4]) ?_ 1 _ rfl;(with_reducible repeat (first | refine blk_drewN ?_ _ | refine blk_drew ?_ | refine blk_alloc ?_ _));exact BK205.out))⟩;have n6_ : Aside0 (Below w.heap.size w w14):=⟨(by rw [hw];exact (by repeat (first | (with_reducible first | exact HB.out | apply below_alloc | apply pw_below_drewN | apply below_drew1 | refine below_set ?_ GE205.out) | exact HB.out)))⟩;clear hw;clear HO_0;clear HO_3;clear HL204_2;clear HL204_3;clear HL204_4;clear BK205;clear HB;have HO_0:=n0_;have HO_3:=n1_;have HL204_2:=n2_;have HL204_3:=n3_;have HL204_4:=n4_;have BK205:=n5_;have HB:=n6_;clear n0_ n1_ n2_ n3_ n4_ n5_ n6_;obtain ⟨hcz15_0,hcz15_1,hcz15_2,hcz15_3,hcz15_4⟩:=blkc_5 BK205.out;obtain ⟨hfz15_0,hfz15_1,hfz15_2,hfz15_3⟩:=blkz_4 BK205.out;have hfz15_4:=blk_frozen BK205.out 4) | ((with_reducible refine gate_builtin (b:=.append) (xs:=#[.tmp 34,.tmp 36]) rfl ?_);at_builtin;refine Kd.N_append k43 (w0:=w) w.heap.size rfl (.tmp 34) (.tmp 36) 36 43 (.agg #[(.int .i64 0),(.int .i64 0),(.slice none 0 0),(.slice none 0 0),(.slice none 0 0)]) 88 rfl Try.underlying36 info43 rfl (by decide) (by omega) u3 x3_1 (⟨(rd_T43 l0 x5_1).f0,x4_1,(rd_T43 l0 x5_1).f2,(rd_T43 l0 x5_1).f3,(rd_T43 l0 x5_1).f4⟩ : S43) [.int .i64 ((rd_T43 l0 x5_1).f0),.int .i64 x4_1,.slice A204_2 ((rd_T43 l0 x5_1).f2).length c204_2,.slice A204_3 ((rd_T43 l0 x5_1).f3).length c204_3,.slice A204_4 ((rd_T43 l0 x5_1).f4).length c204_4] (fun k_ => (P0_ k_ ∨ w.heap.size ≤ k_) ∧ k_ ≠ gb205) (fun k_ => ((fun k_ => (P0_ k_ ∨ w.heap.size ≤ k_) ∧ k_ ≠ gb205)) k_ ∧ some k_ ≠ (u3 : Value).ownBlock) rfl rfl ?aP (fun _ hk => hk) ?aF ?aO ?aB ?aS ?aL ?_;(case aP => exact (k43_mkF _ _ (⟨(rd_T43 l0 x5_1).f0,x4_1,(rd_T43 l0 x5_1).f2,(rd_T43 l0 x5_1).f3,(rd_T43 l0 x5_1).f4⟩ : S43) (Kd.V_reads' (Kd.V_mono (ok':=(fun k_ => ((fun k_ => (P0_ k_ ∨ w.heap.size ≤ k_) ∧ k_ ≠ gb205)) k_ ∧ some k_ ≠ (u3 : Value).ownBlock)) (HL204_2.out) (fun k_ hk => ⟨⟨hk.1,hk.2.2⟩,hk.2.1⟩))).2.1 (Kd.V_F (Kd.V_mono (ok':=(fun k_ => ((fun k_ => (P0_ k_ ∨ w.heap.size ≤ k_) ∧ k_ ≠ gb205)) k_ ∧ some k_ ≠ (u3 : Value).ownBlock)) (HL204_2.out) (fun k_ hk => ⟨⟨hk.1,hk.2.2⟩,hk.2.1⟩))) (Kd.V_reads' (Kd.V_mono (ok':=(fun k_ => ((fun k_ => (P0_ k_ ∨ w.heap.size ≤ k_) ∧ k_ ≠ gb205)) k_ ∧ some k_ ≠ (u3 : Value).ownBlock)) (HL204_3.out) (fun k_ hk => ⟨⟨hk.1,hk.2.2⟩,hk.2.1⟩))).2.1 (Kd.V_F (Kd.V_mono (ok':=(fun k_ => ((fun k_ => (P0_ k_ ∨ w.heap.size ≤ k_) ∧ k_ ≠ gb205)) k_ ∧ some k_ ≠ (u3 : Value).ownBlock)) (HL204_3.out) (fun k_ hk => ⟨⟨hk.1,hk.2.2⟩,hk.2.1⟩))) (Kd.V_reads' (Kd.V_mono (ok':=(fun k_ => ((fun k_ => (P0_ k_ ∨ w.heap.size ≤ k_) ∧ k_ ≠ gb205)) k_ ∧ some k_ ≠ (u3 : Value).ownBlock)) (HL204_4.out) (fun k_ hk => ⟨⟨hk.1,hk.2.2⟩,hk.2.1⟩))).2.1 (Kd.V_F (Kd.V_mono (ok':=(fun k_ => ((fun k_ => (P0_ k_ ∨ w.heap.size ≤ k_) ∧ k_ ≠ gb205)) k_ ∧ some k_ ≠ (u3 : Value).ownBlock)) (HL204_4.out) (fun k_ hk => ⟨⟨hk.1,hk.2.2⟩,hk.2.1⟩)))));(case aB => exact (by repeat (first | (with_reducible first | exact HB.out | apply below_alloc | apply pw_below_drewN | apply below_drew1 | refine below_set ?_ GE205.out) | exact HB.out)));(case aF => exact (fun k_ hk => ⟨(.inr (Nat.le_trans (below_size (by repeat (first | (with_reducible first | exact HB.out | apply below_alloc | apply pw_below_drewN | apply below_drew1 | refine below_set ?_ GE205.out) | exact HB.out))) hk)),Kd.freshB (g:=gb205) (o:=.cells #[.int .i64 ((rd_T43 l0 x5_1).f0),.int .i64 x4_1,.slice A204_2 ((rd_T43 l0 x5_1).f2).length c204_2,.slice A204_3 ((rd_T43 l0 x5_1).f3).length c204_3,.slice A204_4 ((rd_T43 l0 x5_1).f4).length c204_4] 43 (0,0)) (by (with_reducible repeat (first | refine blk_drewN ?_ _ | refine blk_drew ?_ | refine blk_alloc ?_ _));exact BK205.out) k_ hk⟩));(case aO => exact (by (with_reducible repeat (first | apply Kd.N_alloc | apply Kd.N_drewN | apply Kd.N_drew));exact HO_3.out));(case aS => exact (below_size (by repeat (first | (with_reducible first | exact HB.out | apply below_alloc | apply pw_below_drewN | apply below_drew1 | refine below_set ?_ GE205.out) | exact HB.out))));(case aL => have:=LMc9.out;omega);intro v207 w16 ho hb hg hat;rw [← Ny206.out] at ho;have n0_:=Aside0.mk (Kd.V_afterv (ok:=(fun k_ => (P0_ k_ ∨ w.heap.size ≤ k_) ∧ k_ ≠ gb205)) (by (with_reducible repeat (first | apply Kd.V_alloc | apply Kd.V_drewN | apply Kd.V_drew));exact Kd.V_mono HO_0.out (fun _ hk => ⟨⟨hk.1,hk.2.2⟩,hk.2.1⟩)) hg hat);have n1_:=Aside0.mk (Kd.V_afterv (ok:=(fun k_ => (P0_ k_ ∨ w.heap.size ≤ k_) ∧ k_ ≠ gb205)) (by (with_reducible repeat (first | apply Kd.V_alloc | apply Kd.V_drewN | apply Kd.V_drew));exact Kd.V_mono HL204_2.out (fun _ hk => ⟨⟨hk.1,hk.2.2⟩,hk.2.1⟩)) hg hat);have n2_:=Aside0.mk (Kd.V_afterv (ok:=(fun k_ => (P0_ k_ ∨ w.heap.size ≤ k_) ∧ k_ ≠ gb205)) (by (with_reducible repeat (first | apply Kd.V_alloc | apply Kd.V_drewN | apply Kd.V_drew));exact Kd.V_mono HL204_3.out (fun _ hk => ⟨⟨hk.1,hk.2.2⟩,hk.2.1⟩)) hg hat);have n3_:=Aside0.mk (Kd.V_afterv (ok:=(fun k_ => (P0_ k_ ∨ w.heap.size ≤ k_) ∧ k_ ≠ gb205)) (by (with_reducible repeat (first | apply Kd.V_alloc | apply Kd.V_drewN | apply Kd.V_drew));exact Kd.V_mono HL204_4.out (fun _ hk => ⟨⟨hk.1,hk.2.2⟩,hk.2.1⟩)) hg hat);have n4_:=Aside0.mk (blk_grown (g:=gb205) (o:=.cells #[.int .i64 ((rd_T43 l0 x5_1).f0),.int .i64 x4_1,.slice A204_2 ((rd_T43 l0 x5_1).f2).length c204_2,.slice A204_3 ((rd_T43 l0 x5_1).f3).length c204_3,.slice A204_4 ((rd_T43 l0 x5_1).f4).length c204_4] 43 (0,0)) (by (with_reducible repeat (first | refine blk_drewN ?_ _ | refine blk_drew ?_ | refine blk_alloc ?_ _));exact BK205.out) hg (Kd.N_away HO_3.out (fun _ hk => hk.2)));have n5_:=Aside0.mk (hb);have n6_:=Aside0.mk (ho);clear HO_0;clear HL204_2;clear HL204_3;clear HL204_4;clear BK205;clear HB;clear HO_3;have HO_0:=n0_;have HL204_2:=n1_;have HL204_3:=n2_;have HL204_4:=n3_;have BK205:=n4_;have HB:=n5_;have HO208:=n6_;clear n0_ n1_ n2_ n3_ n4_ n5_ n6_;clear ho hb hg hat)))
        go_roundg k1
        case measure => have:=HK1.out;omega
        case rel => exact ⟨(y206),(wrap64 (x4_1 + 1)),(wrap64 (x5_1 + 1)),(by first | rfl | (simp;done) | (simp [*];done)),(by first | rfl | (simp;done) | (simp [*];done)),H',⟨by have:=HK1.out;omega⟩,⟨by (with_reducible repeat (first | apply Kd.V_alloc | apply Kd.V_drewN | apply Kd.V_drew));exact Kd.V_mono HO_0.out (fun _ hk => ⟨hk.1.1,hk.2⟩)⟩,⟨by (with_reducible repeat (first | apply Kd.N_alloc | apply Kd.N_drewN | apply Kd.N_drew));exact Kd.N_mono HO208.out (fun _ hk => hk.1)⟩,⟨by repeat (first | (with_reducible first | exact HB.out | apply below_alloc | apply pw_below_drewN | apply below_drew1 | refine below_set ?_ GE205.out) | exact HB.out)⟩⟩
       ·rw [if_neg c9] at H
        exact absurd H (by simp)
      ·rw [if_neg c8] at H
       have c8b0 : decide (0 < (((rd_T43 l0 x5_1).f3).length : Int)) = false:=decide_eq_false c8
       have c8b1 : decide (0 < ((rd_T43 l0 x5_1).f3).length) = false:=decide_eq_false (by omega)
       clear c8
       by_cases c17 : x3_1.length < 1599289640401
       ·rw [if_pos c17] at H
        have LMc17:=Aside0.mk c17
        clear c17
        obtain ⟨y209,hy209⟩ : ∃ y_ : List (S43),y_ = (x3_1 ++ [(⟨(rd_T43 l0 x5_1).f0,x4_1,(rd_T43 l0 x5_1).f2,(rd_T43 l0 x5_1).f3,(rd_T43 l0 x5_1).f4⟩ : S43)]):=⟨_,rfl⟩
        replace H : (humuslaw26_DsgAlone.l0 k1 l0 y209 x4_1 (wrap64 (x5_1 + 1))) = some r:=by first | (rw [hy209];with_reducible exact H) | (have H2_:=(Option.bind_some _ _).symm.trans H;rw [hy209];with_reducible exact H2_) | (have H2_:=(Option.bind_some _ _).symm.trans H;with_reducible exact H2_) | with_reducible exact H | (rw [hy209];exact H) | exact H
        have Ny209:=Aside0.mk hy209
        clear hy209
        have H':=Aside0.mk H
        clear H
        have p204 : 0 ≤ (x5_1 : Int):=of_decide_eq_true (by first | (with_reducible assumption) | assumption)
        have q204 : x5_1 < (l0.length : Int):=of_decide_eq_true (by first | (with_reducible assumption) | assumption)
        obtain ⟨ad204,A204_2,c204_2,A204_3,c204_3,A204_4,c204_4,e204,hx204_0,hx204_1,hx204_2,hx204_3,hx204_4,hl204_2,hi204_2,hl204_3,hi204_3,hl204_4,hi204_4⟩:=at_T43 (Kd.V_reads' HO_0.out).2.2 x5_1 p204 q204
        cases e204
        obtain ⟨ce204,hce204,hMe204,hcc204⟩:=Kd.V_get HO_0.out z43 x5_1 p204 (by first | exact q204 | exact of_decide_eq_true (by first | (with_reducible assumption) | assumption) | (have e_:=(Kd.V_reads' HO_0.out).1;omega))
        obtain ⟨ua204_2,uc204_2,ua204_3,uc204_3,ua204_4,uc204_4,rfl,ul204_2,ge204_2,ul204_3,ge204_3,ul204_4,ge204_4⟩:=k43_openF hMe204
        have hv204_2:=hcc204 2 _ rfl
        rw [add_field _ _ 2 (by omega)] at hv204_2
        replace hv204_2:=Option.some.inj (hv204_2.symm.trans hx204_2)
        injection hv204_2 with hva_ hvn_ hvc_
        rw [hva_] at ge204_2
        rw [hvc_] at ul204_2
        have HL204_2:=Aside0.mk (show Kd.V k89 89 _ w.heap.size _ _ ((rd_T43 l0 x5_1).f2) from Kd.V_mk ul204_2 ge204_2)
        clear hva_ hvn_ hvc_ ge204_2 ul204_2
        have hv204_3:=hcc204 3 _ rfl
        rw [add_field _ _ 3 (by omega)] at hv204_3
        replace hv204_3:=Option.some.inj (hv204_3.symm.trans hx204_3)
        injection hv204_3 with hva_ hvn_ hvc_
        rw [hva_] at ge204_3
        rw [hvc_] at ul204_3
        have HL204_3:=Aside0.mk (show Kd.V k124 124 _ w.heap.size _ _ ((rd_T43 l0 x5_1).f3) from Kd.V_mk ul204_3 ge204_3)
        clear hva_ hvn_ hvc_ ge204_3 ul204_3
        have hv204_4:=hcc204 4 _ rfl
        rw [add_field _ _ 4 (by omega)] at hv204_4
        replace hv204_4:=Option.some.inj (hv204_4.symm.trans hx204_4)
        injection hv204_4 with hva_ hvn_ hvc_
        rw [hva_] at ge204_4
        rw [hvc_] at ul204_4
        have HL204_4:=Aside0.mk (show Kd.V (Kd.int .i64) 3 _ w.heap.size _ _ ((rd_T43 l0 x5_1).f4) from Kd.V_mk ul204_4 ge204_4)
        clear hva_ hvn_ hvc_ ge204_4 ul204_4
        clear hcc204 hce204
        have HR204_2:=Aside0.mk hi204_2
        have HC204_2:=Aside0.mk hl204_2
        clear hi204_2 hl204_2
        have HR204_3:=Aside0.mk hi204_3
        have HC204_3:=Aside0.mk hl204_3
        clear hi204_3 hl204_3
        have HR204_4:=Aside0.mk hi204_4
        have HC204_4:=Aside0.mk hl204_4
        clear hi204_4 hl204_4
        replace p204:=eq_true p204
        replace q204:=eq_true q204
        go_wp2_with (first | ((with_reducible refine gate_dst (N:=6) rfl ?_);refine box_event ?hg (N:=6) ?hd (cs:=#[.int .i64 0,.int .i64 0,.slice none 0 0,.slice none 0 0,.slice none 0 0]) (t:=43) ?hr ?_;(case hd => rfl);(case hg => rfl);(case hr => first | (go_simp;done) | (go_simp;rfl));intro gb205 hg w18 hbox hb;have n0_:=Aside0.mk (Kd.V_below (Kd.V_elderB (by (with_reducible repeat (first | apply Kd.V_alloc | apply Kd.V_drewN | apply Kd.V_drew));exact HO_0.out) gb205 (Nat.le_of_eq hg.symm)) hb);have n1_:=Aside0.mk (Kd.N_below (Kd.N_elderB (by (with_reducible repeat (first | apply Kd.N_alloc | apply Kd.N_drewN | apply Kd.N_drew));exact HO_3.out) gb205 (Nat.le_of_eq hg.symm)) hb);have n2_:=Aside0.mk (Kd.V_below (Kd.V_elderB (by (with_reducible repeat (first | apply Kd.V_alloc | apply Kd.V_drewN | apply Kd.V_drew));exact HL204_2.out) gb205 (Nat.le_of_eq hg.symm)) hb);have n3_:=Aside0.mk (Kd.V_below (Kd.V_elderB (by (with_reducible repeat (first | apply Kd.V_alloc | apply Kd.V_drewN | apply Kd.V_drew));exact HL204_3.out) gb205 (Nat.le_of_eq hg.symm)) hb);have n4_:=Aside0.mk (Kd.V_below (Kd.V_elderB (by (with_reducible repeat (first | apply Kd.V_alloc | apply Kd.V_drewN | apply Kd.V_drew));exact HL204_4.out) gb205 (Nat.le_of_eq hg.symm)) hb);have n5_:=Aside0.mk (Kd.C_below (by repeat (first | (with_reducible exact HR204_2.out) | (with_reducible refine Kd.C_alloc ?_ _) | (with_reducible refine Kd.C_drewN ?_ _) | (with_reducible refine Kd.C_drew ?_) | exact HR204_2.out)) hb);have n6_:=Aside0.mk (Kd.C_below (by repeat (first | (with_reducible exact HR204_3.out) | (with_reducible refine Kd.C_alloc ?_ _) | (with_reducible refine Kd.C_drewN ?_ _) | (with_reducible refine Kd.C_drew ?_) | exact HR204_3.out)) hb);have n7_:=Aside0.mk (Kd.C_below (by repeat (first | (with_reducible exact HR204_4.out) | (with_reducible refine Kd.C_alloc ?_ _) | (with_reducible refine Kd.C_drewN ?_ _) | (with_reducible refine Kd.C_drew ?_) | exact HR204_4.out)) hb);have n8_:=Aside0.mk (below_step (by repeat (first | (with_reducible first | exact HB.out | apply below_alloc | apply pw_below_drewN | apply below_drew1) | exact HB.out)) hb);have n9_:=Aside0.mk (hbox);have n10_:=Aside0.mk ((by rw [hg];exact (below_size (by repeat (first | (with_reducible first | exact HB.out | apply below_alloc | apply pw_below_drewN | apply below_drew1) | exact HB.out))) : w.heap.size ≤ gb205));have n11_:=Aside0.mk ((by rw [hg];exact (below_size (by repeat (first | (with_reducible first | exact HB.out | apply below_alloc | apply pw_below_drewN | apply below_drew1) | exact HB.out))) : w.heap.size ≤ gb205));clear HO_0;clear HO_3;clear HL204_2;clear HL204_3;clear HL204_4;clear HR204_2;clear HR204_3;clear HR204_4;clear HB;have HO_0:=n0_;have HO_3:=n1_;have HL204_2:=n2_;have HL204_3:=n3_;have HL204_4:=n4_;have HR204_2:=n5_;have HR204_3:=n6_;have HR204_4:=n7_;have HB:=n8_;have BK205:=n9_;have GW205:=n10_;have GE205:=n11_;clear n0_ n1_ n2_ n3_ n4_ n5_ n6_ n7_ n8_ n9_ n10_ n11_;clear hb hbox hg;obtain ⟨hcz19_0,hcz19_1,hcz19_2,hcz19_3,hcz19_4⟩:=blkc_5 BK205.out;obtain ⟨hfz19_0,hfz19_1,hfz19_2,hfz19_3⟩:=blkz_4 BK205.out;have hfz19_4:=blk_frozen BK205.out 4) | ((with_reducible refine gate_store (t:=43) (p:=6) rfl ?_);(try (rw [drewN_self w18];generalize hq_ : World.drewN w18 _ = w18;have n0_:=Aside0.mk (Kd.V_at hq_ HO_0.out);have n1_:=Aside0.mk (Kd.N_at hq_ HO_3.out);have n2_:=Aside0.mk (Kd.V_at hq_ HL204_2.out);have n3_:=Aside0.mk (Kd.V_at hq_ HL204_3.out);have n4_:=Aside0.mk (Kd.V_at hq_ HL204_4.out);have n5_:=Aside0.mk (blk_at hq_ BK205.out);have n6_:=Aside0.mk (Kd.C_at hq_ HR204_2.out);have n7_:=Aside0.mk (Kd.C_at hq_ HR204_3.out);have n8_:=Aside0.mk (Kd.C_at hq_ HR204_4.out);have n9_:=Aside0.mk (below_at hq_ HB.out);clear hq_ HO_0 HO_3 HL204_2 HL204_3 HL204_4 BK205 HR204_2 HR204_3 HR204_4 HB;have HO_0:=n0_;have HO_3:=n1_;have HL204_2:=n2_;have HL204_3:=n3_;have HL204_4:=n4_;have BK205:=n5_;have HR204_2:=n6_;have HR204_3:=n7_;have HR204_4:=n8_;have HB:=n9_;clear n0_ n1_ n2_ n3_ n4_ n5_ n6_ n7_ n8_ n9_));refine store_event (t:=43) (p:=6) (v:=?vo_w20) (w1:=(((((w18.setCell ⟨gb205,0,none⟩ (.int .i64 ((rd_T43 l0 x5_1).f0))).setCell ⟨gb205,1,none⟩ (.int .i64 ((rd_T43 l0 x5_1).f1))).setCell ⟨gb205,2,none⟩ (.slice A204_2 ((rd_T43 l0 x5_1).f2).length c204_2)).setCell ⟨gb205,3,none⟩ (.slice A204_3 ((rd_T43 l0 x5_1).f3).length c204_3)).setCell ⟨gb205,4,none⟩ (.slice A204_4 ((rd_T43 l0 x5_1).f4).length c204_4))) ?hg ?ho ?hn ?hr ?_;(case ho => rfl);(case hg => rfl);(case hn => rfl);(case hr => first | (go_simp;done) | (go_simp;rfl));intro w20 hw;have n0_ : Aside0 (Kd.V k43 43 w20 w.heap.size (fun k_ => (P0_ k_ ∨ w.heap.size ≤ k_) ∧ some k_ ≠ (u3 : Value).ownBlock ∧ k_ ≠ gb205) (.slice (some ad204) l0.length c0) l0):=⟨(by rw [hw];exact (by (with_reducible repeat (first | apply Kd.V_alloc | apply Kd.V_drewN | apply Kd.V_drew));exact Kd.V_mono (Kd.V_far (p:=⟨gb205,4,none⟩) (Kd.V_far (p:=⟨gb205,3,none⟩) (Kd.V_far (p:=⟨gb205,2,none⟩) (Kd.V_far (p:=⟨gb205,1,none⟩) (Kd.V_far (p:=⟨gb205,0,none⟩) (Kd.V_mono HO_0.out (fun k_ hk => (⟨hk,hk.2⟩ : _ ∧ k_ ≠ gb205))) (fun _ hk => hk.2) (.int .i64 ((rd_T43 l0 x5_1).f0))) (fun _ hk => hk.2) (.int .i64 ((rd_T43 l0 x5_1).f1))) (fun _ hk => hk.2) (.slice A204_2 ((rd_T43 l0 x5_1).f2).length c204_2)) (fun _ hk => hk.2) (.slice A204_3 ((rd_T43 l0 x5_1).f3).length c204_3)) (fun _ hk => hk.2) (.slice A204_4 ((rd_T43 l0 x5_1).f4).length c204_4)) (fun _ hk => ⟨hk.1.1.1,⟨hk.1.1.2,hk.1.2⟩⟩)))⟩;have n1_ : Aside0 (Kd.N k43 43 w20 w.heap.size (fun k_ => (P0_ k_ ∨ w.heap.size ≤ k_) ∧ k_ ≠ gb205) u3 x3_1):=⟨(by rw [hw];exact (by (with_reducible repeat (first | apply Kd.N_alloc | apply Kd.N_drewN | apply Kd.N_drew));exact Kd.N_mono (Kd.N_far (p:=⟨gb205,4,none⟩) (Kd.N_far (p:=⟨gb205,3,none⟩) (Kd.N_far (p:=⟨gb205,2,none⟩) (Kd.N_far (p:=⟨gb205,1,none⟩) (Kd.N_far (p:=⟨gb205,0,none⟩) (Kd.N_mono HO_3.out (fun k_ hk => (⟨hk,hk.2⟩ : _ ∧ k_ ≠ gb205))) (fun _ hk => hk.2) (.int .i64 ((rd_T43 l0 x5_1).f0))) (fun _ hk => hk.2) (.int .i64 ((rd_T43 l0 x5_1).f1))) (fun _ hk => hk.2) (.slice A204_2 ((rd_T43 l0 x5_1).f2).length c204_2)) (fun _ hk => hk.2) (.slice A204_3 ((rd_T43 l0 x5_1).f3).length c204_3)) (fun _ hk => hk.2) (.slice A204_4 ((rd_T43 l0 x5_1).f4).length c204_4)) (fun _ hk => ⟨hk.1.1,hk.1.2⟩)))⟩;have n2_ : Aside0 (Kd.V k89 89 w20 w.heap.size (fun k_ => (P0_ k_ ∨ w.heap.size ≤ k_) ∧ some k_ ≠ (u3 : Value).ownBlock ∧ k_ ≠ gb205) (.slice A204_2 ((rd_T43 l0 x5_1).f2).length c204_2) ((rd_T43 l0 x5_1).f2)):=⟨(by rw [hw];exact (by (with_reducible repeat (first | apply Kd.V_alloc | apply Kd.V_drewN | apply Kd.V_drew));exact Kd.V_mono (Kd.V_far (p:=⟨gb205,4,none⟩) (Kd.V_far (p:=⟨gb205,3,none⟩) (Kd.V_far (p:=⟨gb205,2,none⟩) (Kd.V_far (p:=⟨gb205,1,none⟩) (Kd.V_far (p:=⟨gb205,0,none⟩) (Kd.V_mono HL204_2.out (fun k_ hk => (⟨hk,hk.2⟩ : _ ∧ k_ ≠ gb205))) (fun _ hk => hk.2) (.int .i64 ((rd_T43 l0 x5_1).f0))) (fun _ hk => hk.2) (.int .i64 ((rd_T43 l0 x5_1).f1))) (fun _ hk => hk.2) (.slice A204_2 ((rd_T43 l0 x5_1).f2).length c204_2)) (fun _ hk => hk.2) (.slice A204_3 ((rd_T43 l0 x5_1).f3).length c204_3)) (fun _ hk => hk.2) (.slice A204_4 ((rd_T43 l0 x5_1).f4).length c204_4)) (fun _ hk => ⟨hk.1.1.1,⟨hk.1.1.2,hk.1.2⟩⟩)))⟩;have n3_ : Aside0 (Kd.V k124 124 w20 w.heap.size (fun k_ => (P0_ k_ ∨ w.heap.size ≤ k_) ∧ some k_ ≠ (u3 : Value).ownBlock ∧ k_ ≠ gb205) (.slice A204_3 ((rd_T43 l0 x5_1).f3).length c204_3) ((rd_T43 l0 x5_1).f3)):=⟨(by rw [hw];exact (by (with_reducible repeat (first | apply Kd.V_alloc | apply Kd.V_drewN | apply Kd.V_drew));exact Kd.V_mono (Kd.V_far (p:=⟨gb205,4,none⟩) (Kd.V_far (p:=⟨gb205,3,none⟩) (Kd.V_far (p:=⟨gb205,2,none⟩) (Kd.V_far (p:=⟨gb205,1,none⟩) (Kd.V_far (p:=⟨gb205,0,none⟩) (Kd.V_mono HL204_3.out (fun k_ hk => (⟨hk,hk.2⟩ : _ ∧ k_ ≠ gb205))) (fun _ hk => hk.2) (.int .i64 ((rd_T43 l0 x5_1).f0))) (fun _ hk => hk.2) (.int .i64 ((rd_T43 l0 x5_1).f1))) (fun _ hk => hk.2) (.slice A204_2 ((rd_T43 l0 x5_1).f2).length c204_2)) (fun _ hk => hk.2) (.slice A204_3 ((rd_T43 l0 x5_1).f3).length c204_3)) (fun _ hk => hk.2) (.slice A204_4 ((rd_T43 l0 x5_1).f4).length c204_4)) (fun _ hk => ⟨hk.1.1.1,⟨hk.1.1.2,hk.1.2⟩⟩)))⟩;have n4_ : Aside0 (Kd.V (Kd.int .i64) 3 w20 w.heap.size (fun k_ => (P0_ k_ ∨ w.heap.size ≤ k_) ∧ some k_ ≠ (u3 : Value).ownBlock ∧ k_ ≠ gb205) (.slice A204_4 ((rd_T43 l0 x5_1).f4).length c204_4) ((rd_T43 l0 x5_1).f4)):=⟨(by rw [hw];exact (by (with_reducible repeat (first | apply Kd.V_alloc | apply Kd.V_drewN | apply Kd.V_drew));exact Kd.V_mono (Kd.V_far (p:=⟨gb205,4,none⟩) (Kd.V_far (p:=⟨gb205,3,none⟩) (Kd.V_far (p:=⟨gb205,2,none⟩) (Kd.V_far (p:=⟨gb205,1,none⟩) (Kd.V_far (p:=⟨gb205,0,none⟩) (Kd.V_mono HL204_4.out (fun k_ hk => (⟨hk,hk.2⟩ : _ ∧ k_ ≠ gb205))) (fun _ hk => hk.2) (.int .i64 ((rd_T43 l0 x5_1).f0))) (fun _ hk => hk.2) (.int .i64 ((rd_T43 l0 x5_1).f1))) (fun _ hk => hk.2) (.slice A204_2 ((rd_T43 l0 x5_1).f2).length c204_2)) (fun _ hk => hk.2) (.slice A204_3 ((rd_T43 l0 x5_1).f3).length c204_3)) (fun _ hk => hk.2) (.slice A204_4 ((rd_T43 l0 x5_1).f4).length c204_4)) (fun _ hk => ⟨hk.1.1.1,⟨hk.1.1.2,hk.1.2⟩⟩)))⟩;have n5_ : Aside0 (w20.heap[gb205]? = some (.cells #[.int .i64 ((rd_T43 l0 x5_1).f0),.int .i64 ((rd_T43 l0 x5_1).f1),.slice A204_2 ((rd_T43 l0 x5_1).f2).length c204_2,.slice A204_3 ((rd_T43 l0 x5_1).f3).length c204_3,.slice A204_4 ((rd_T43 l0 x5_1).f4).length c204_4] 43 (0,0))):=⟨(by rw [hw];exact (by (with_reducible repeat (first | refine blk_drewN ?_ _ | refine blk_drew ?_ | refine blk_alloc ?_ _));apply blkf_5_0_4;(with_reducible repeat (first | refine blk_drewN ?_ _ | refine blk_drew ?_ | refine blk_alloc ?_ _));exact BK205.out))⟩;have n6_ : Aside0 (Below w.heap.size w w20):=⟨(by rw [hw];exact (by repeat (first | (with_reducible first | exact HB.out | apply below_alloc | apply pw_below_drewN | apply below_drew1 | refine below_set ?_ GE205.out) | exact HB.out)))⟩;clear hw;clear HO_0;clear HO_3;clear HL204_2;clear HL204_3;clear HL204_4;clear BK205;clear HB;have HO_0:=n0_;have HO_3:=n1_;have HL204_2:=n2_;have HL204_3:=n3_;have HL204_4:=n4_;have BK205:=n5_;have HB:=n6_;clear n0_ n1_ n2_ n3_ n4_ n5_ n6_;obtain ⟨hcz21_0,hcz21_1,hcz21_2,hcz21_3,hcz21_4⟩:=blkc_5 BK205.out;obtain ⟨hfz21_0,hfz21_1,hfz21_2,hfz21_3⟩:=blkz_4 BK205.out;have hfz21_4:=blk_frozen BK205.out 4) | ((with_reducible refine gate_store (t:=3) (p:=27) rfl ?_);(try (rw [drewN_self w20];generalize hq_ : World.drewN w20 _ = w20;have n0_:=Aside0.mk (Kd.V_at hq_ HO_0.out);have n1_:=Aside0.mk (Kd.N_at hq_ HO_3.out);have n2_:=Aside0.mk (Kd.V_at hq_ HL204_2.out);have n3_:=Aside0.mk (Kd.V_at hq_ HL204_3.out);have n4_:=Aside0.mk (Kd.V_at hq_ HL204_4.out);have n5_:=Aside0.mk (blk_at hq_ BK205.out);have n6_:=Aside0.mk (Kd.C_at hq_ HR204_2.out);have n7_:=Aside0.mk (Kd.C_at hq_ HR204_3.out);have n8_:=Aside0.mk (Kd.C_at hq_ HR204_4.out);have n9_:=Aside0.mk (below_at hq_ HB.out);clear hq_ HO_0 HO_3 HL204_2 HL204_3 HL204_4 BK205 HR204_2 HR204_3 HR204_4 HB;have HO_0:=n0_;have HO_3:=n1_;have HL204_2:=n2_;have HL204_3:=n3_;have HL204_4:=n4_;have BK205:=n5_;have HR204_2:=n6_;have HR204_3:=n7_;have HR204_4:=n8_;have HB:=n9_;clear n0_ n1_ n2_ n3_ n4_ n5_ n6_ n7_ n8_ n9_));refine store_event (t:=3) (p:=27) (v:=?vo_w22) (w1:=(w20.setCell ⟨gb205,1,none⟩ (.int .i64 x4_1))) ?hg ?ho ?hn ?hr ?_;(case ho => rfl);(case hg => rfl);(case hn => rfl);(case hr => first | (go_simp;done) | (go_simp;rfl));intro w22 hw;have n0_ : Aside0 (Kd.V k43 43 w22 w.heap.size (fun k_ => (P0_ k_ ∨ w.heap.size ≤ k_) ∧ some k_ ≠ (u3 : Value).ownBlock ∧ k_ ≠ gb205) (.slice (some ad204) l0.length c0) l0):=⟨(by rw [hw];exact (by (with_reducible repeat (first | apply Kd.V_alloc | apply Kd.V_drewN | apply Kd.V_drew));exact Kd.V_mono (Kd.V_far (p:=⟨gb205,1,none⟩) (Kd.V_mono HO_0.out (fun k_ hk => (⟨hk,hk.2.2⟩ : _ ∧ k_ ≠ gb205))) (fun _ hk => hk.2) (.int .i64 x4_1)) (fun _ hk => ⟨hk.1.1,⟨hk.1.2.1,hk.1.2.2⟩⟩)))⟩;have n1_ : Aside0 (Kd.N k43 43 w22 w.heap.size (fun k_ => (P0_ k_ ∨ w.heap.size ≤ k_) ∧ k_ ≠ gb205) u3 x3_1):=⟨(by rw [hw];exact (by (with_reducible repeat (first | apply Kd.N_alloc | apply Kd.N_drewN | apply Kd.N_drew));exact Kd.N_mono (Kd.N_far (p:=⟨gb205,1,none⟩) (Kd.N_mono HO_3.out (fun k_ hk => (⟨hk,hk.2⟩ : _ ∧ k_ ≠ gb205))) (fun _ hk => hk.2) (.int .i64 x4_1)) (fun _ hk => ⟨hk.1.1,hk.1.2⟩)))⟩;have n2_ : Aside0 (Kd.V k89 89 w22 w.heap.size (fun k_ => (P0_ k_ ∨ w.heap.size ≤ k_) ∧ some k_ ≠ (u3 : Value).ownBlock ∧ k_ ≠ gb205) (.slice A204_2 ((rd_T43 l0 x5_1).f2).length c204_2) ((rd_T43 l0 x5_1).f2)):=⟨(by rw [hw];exact (by (with_reducible repeat (first | apply Kd.V_alloc | apply Kd.V_drewN | apply Kd.V_drew));exact Kd.V_mono (Kd.V_far (p:=⟨gb205,1,none⟩) (Kd.V_mono HL204_2.out (fun k_ hk => (⟨hk,hk.2.2⟩ : _ ∧ k_ ≠ gb205))) (fun _ hk => hk.2) (.int .i64 x4_1)) (fun _ hk => ⟨hk.1.1,⟨hk.1.2.1,hk.1.2.2⟩⟩)))⟩;have n3_ : Aside0 (Kd.V k124 124 w22 w.heap.size (fun k_ => (P0_ k_ ∨ w.heap.size ≤ k_) ∧ some k_ ≠ (u3 : Value).ownBlock ∧ k_ ≠ gb205) (.slice A204_3 ((rd_T43 l0 x5_1).f3).length c204_3) ((rd_T43 l0 x5_1).f3)):=⟨(by rw [hw];exact (by (with_reducible repeat (first | apply Kd.V_alloc | apply Kd.V_drewN | apply Kd.V_drew));exact Kd.V_mono (Kd.V_far (p:=⟨gb205,1,none⟩) (Kd.V_mono HL204_3.out (fun k_ hk => (⟨hk,hk.2.2⟩ : _ ∧ k_ ≠ gb205))) (fun _ hk => hk.2) (.int .i64 x4_1)) (fun _ hk => ⟨hk.1.1,⟨hk.1.2.1,hk.1.2.2⟩⟩)))⟩;have n4_ : Aside0 (Kd.V (Kd.int .i64) 3 w22 w.heap.size (fun k_ => (P0_ k_ ∨ w.heap.size ≤ k_) ∧ some k_ ≠ (u3 : Value).ownBlock ∧ k_ ≠ gb205) (.slice A204_4 ((rd_T43 l0 x5_1).f4).length c204_4) ((rd_T43 l0 x5_1).f4)):=⟨(by rw [hw];exact (by (with_reducible repeat (first | apply Kd.V_alloc | apply Kd.V_drewN | apply Kd.V_drew));exact Kd.V_mono (Kd.V_far (p:=⟨gb205,1,none⟩) (Kd.V_mono HL204_4.out (fun k_ hk => (⟨hk,hk.2.2⟩ : _ ∧ k_ ≠ gb205))) (fun _ hk => hk.2) (.int .i64 x4_1)) (fun _ hk => ⟨hk.1.1,⟨hk.1.2.1,hk.1.2.2⟩⟩)))⟩;have n5_ : Aside0 (w22.heap[gb205]? = some (.cells #[.int .i64 ((rd_T43 l0 x5_1).f0),.int .i64 x4_1,.slice A204_2 ((rd_T43 l0 x5_1).f2).length c204_2,.slice A204_3 ((rd_T43 l0 x5_1).f3).length c204_3,.slice A204_4 ((rd_T43 l0 x5_1).f4).length c204_4] 43 (0,0))):=⟨(by rw [hw];exact (by (with_reducible repeat (first | refine blk_drewN ?_ _ | refine blk_drew ?_ | refine blk_alloc ?_ _));refine blk_put (cs:=#[.int .i64 ((rd_T43 l0 x5_1).f0),.int .i64 ((rd_T43 l0 x5_1).f1),.slice A204_2 ((rd_T43 l0 x5_1).f2).length c204_2,.slice A204_3 ((rd_T43 l0 x5_1).f3).length c204_3,.slice A204_4 ((rd_T43 l0 x5_1).f4).length c204_4]) ?_ 1 _ rfl;(with_reducible repeat (first | refine blk_drewN ?_ _ | refine blk_drew ?_ | refine blk_alloc ?_ _));exact BK205.out))⟩;have n6_ : Aside0 (Below w.heap.size w w22):=⟨(by rw [hw];exact (by repeat (first | (with_reducible first | exact HB.out | apply below_alloc | apply pw_below_drewN | apply below_drew1 | refine below_set ?_ GE205.out) | exact HB.out)))⟩;clear hw;clear HO_0;clear HO_3;clear HL204_2;clear HL204_3;clear HL204_4;clear BK205;clear HB;have HO_0:=n0_;have HO_3:=n1_;have HL204_2:=n2_;have HL204_3:=n3_;have HL204_4:=n4_;have BK205:=n5_;have HB:=n6_;clear n0_ n1_ n2_ n3_ n4_ n5_ n6_;obtain ⟨hcz23_0,hcz23_1,hcz23_2,hcz23_3,hcz23_4⟩:=blkc_5 BK205.out;obtain ⟨hfz23_0,hfz23_1,hfz23_2,hfz23_3⟩:=blkz_4 BK205.out;have hfz23_4:=blk_frozen BK205.out 4) | ((with_reducible refine gate_builtin (b:=.append) (xs:=#[.tmp 34,.tmp 36]) rfl ?_);at_builtin;refine Kd.N_append k43 (w0:=w) w.heap.size rfl (.tmp 34) (.tmp 36) 36 43 (.agg #[(.int .i64 0),(.int .i64 0),(.slice none 0 0),(.slice none 0 0),(.slice none 0 0)]) 88 rfl Try.underlying36 info43 rfl (by decide) (by omega) u3 x3_1 (⟨(rd_T43 l0 x5_1).f0,x4_1,(rd_T43 l0 x5_1).f2,(rd_T43 l0 x5_1).f3,(rd_T43 l0 x5_1).f4⟩ : S43) [.int .i64 ((rd_T43 l0 x5_1).f0),.int .i64 x4_1,.slice A204_2 ((rd_T43 l0 x5_1).f2).length c204_2,.slice A204_3 ((rd_T43 l0 x5_1).f3).length c204_3,.slice A204_4 ((rd_T43 l0 x5_1).f4).length c204_4] (fun k_ => (P0_ k_ ∨ w.heap.size ≤ k_) ∧ k_ ≠ gb205) (fun k_ => ((fun k_ => (P0_ k_ ∨ w.heap.size ≤ k_) ∧ k_ ≠ gb205)) k_ ∧ some k_ ≠ (u3 : Value).ownBlock) rfl rfl ?aP (fun _ hk => hk) ?aF ?aO ?aB ?aS ?aL ?_;(case aP => exact (k43_mkF _ _ (⟨(rd_T43 l0 x5_1).f0,x4_1,(rd_T43 l0 x5_1).f2,(rd_T43 l0 x5_1).f3,(rd_T43 l0 x5_1).f4⟩ : S43) (Kd.V_reads' (Kd.V_mono (ok':=(fun k_ => ((fun k_ => (P0_ k_ ∨ w.heap.size ≤ k_) ∧ k_ ≠ gb205)) k_ ∧ some k_ ≠ (u3 : Value).ownBlock)) (HL204_2.out) (fun k_ hk => ⟨⟨hk.1,hk.2.2⟩,hk.2.1⟩))).2.1 (Kd.V_F (Kd.V_mono (ok':=(fun k_ => ((fun k_ => (P0_ k_ ∨ w.heap.size ≤ k_) ∧ k_ ≠ gb205)) k_ ∧ some k_ ≠ (u3 : Value).ownBlock)) (HL204_2.out) (fun k_ hk => ⟨⟨hk.1,hk.2.2⟩,hk.2.1⟩))) (Kd.V_reads' (Kd.V_mono (ok':=(fun k_ => ((fun k_ => (P0_ k_ ∨ w.heap.size ≤ k_) ∧ k_ ≠ gb205)) k_ ∧ some k_ ≠ (u3 : Value).ownBlock)) (HL204_3.out) (fun k_ hk => ⟨⟨hk.1,hk.2.2⟩,hk.2.1⟩))).2.1 (Kd.V_F (Kd.V_mono (ok':=(fun k_ => ((fun k_ => (P0_ k_ ∨ w.heap.size ≤ k_) ∧ k_ ≠ gb205)) k_ ∧ some k_ ≠ (u3 : Value).ownBlock)) (HL204_3.out) (fun k_ hk => ⟨⟨hk.1,hk.2.2⟩,hk.2.1⟩))) (Kd.V_reads' (Kd.V_mono (ok':=(fun k_ => ((fun k_ => (P0_ k_ ∨ w.heap.size ≤ k_) ∧ k_ ≠ gb205)) k_ ∧ some k_ ≠ (u3 : Value).ownBlock)) (HL204_4.out) (fun k_ hk => ⟨⟨hk.1,hk.2.2⟩,hk.2.1⟩))).2.1 (Kd.V_F (Kd.V_mono (ok':=(fun k_ => ((fun k_ => (P0_ k_ ∨ w.heap.size ≤ k_) ∧ k_ ≠ gb205)) k_ ∧ some k_ ≠ (u3 : Value).ownBlock)) (HL204_4.out) (fun k_ hk => ⟨⟨hk.1,hk.2.2⟩,hk.2.1⟩)))));(case aB => exact (by repeat (first | (with_reducible first | exact HB.out | apply below_alloc | apply pw_below_drewN | apply below_drew1 | refine below_set ?_ GE205.out) | exact HB.out)));(case aF => exact (fun k_ hk => ⟨(.inr (Nat.le_trans (below_size (by repeat (first | (with_reducible first | exact HB.out | apply below_alloc | apply pw_below_drewN | apply below_drew1 | refine below_set ?_ GE205.out) | exact HB.out))) hk)),Kd.freshB (g:=gb205) (o:=.cells #[.int .i64 ((rd_T43 l0 x5_1).f0),.int .i64 x4_1,.slice A204_2 ((rd_T43 l0 x5_1).f2).length c204_2,.slice A204_3 ((rd_T43 l0 x5_1).f3).length c204_3,.slice A204_4 ((rd_T43 l0 x5_1).f4).length c204_4] 43 (0,0)) (by (with_reducible repeat (first | refine blk_drewN ?_ _ | refine blk_drew ?_ | refine blk_alloc ?_ _));exact BK205.out) k_ hk⟩));(case aO => exact (by (with_reducible repeat (first | apply Kd.N_alloc | apply Kd.N_drewN | apply Kd.N_drew));exact HO_3.out));(case aS => exact (below_size (by repeat (first | (with_reducible first | exact HB.out | apply below_alloc | apply pw_below_drewN | apply below_drew1 | refine below_set ?_ GE205.out) | exact HB.out))));(case aL => have:=LMc17.out;omega);intro v210 w24 ho hb hg hat;rw [← Ny209.out] at ho;have n0_:=Aside0.mk (Kd.V_afterv (ok:=(fun k_ => (P0_ k_ ∨ w.heap.size ≤ k_) ∧ k_ ≠ gb205)) (by (with_reducible repeat (first | apply Kd.V_alloc | apply Kd.V_drewN | apply Kd.V_drew));exact Kd.V_mono HO_0.out (fun _ hk => ⟨⟨hk.1,hk.2.2⟩,hk.2.1⟩)) hg hat);have n1_:=Aside0.mk (Kd.V_afterv (ok:=(fun k_ => (P0_ k_ ∨ w.heap.size ≤ k_) ∧ k_ ≠ gb205)) (by (with_reducible repeat (first | apply Kd.V_alloc | apply Kd.V_drewN | apply Kd.V_drew));exact Kd.V_mono HL204_2.out (fun _ hk => ⟨⟨hk.1,hk.2.2⟩,hk.2.1⟩)) hg hat);have n2_:=Aside0.mk (Kd.V_afterv (ok:=(fun k_ => (P0_ k_ ∨ w.heap.size ≤ k_) ∧ k_ ≠ gb205)) (by (with_reducible repeat (first | apply Kd.V_alloc | apply Kd.V_drewN | apply Kd.V_drew));exact Kd.V_mono HL204_3.out (fun _ hk => ⟨⟨hk.1,hk.2.2⟩,hk.2.1⟩)) hg hat);have n3_:=Aside0.mk (Kd.V_afterv (ok:=(fun k_ => (P0_ k_ ∨ w.heap.size ≤ k_) ∧ k_ ≠ gb205)) (by (with_reducible repeat (first | apply Kd.V_alloc | apply Kd.V_drewN | apply Kd.V_drew));exact Kd.V_mono HL204_4.out (fun _ hk => ⟨⟨hk.1,hk.2.2⟩,hk.2.1⟩)) hg hat);have n4_:=Aside0.mk (blk_grown (g:=gb205) (o:=.cells #[.int .i64 ((rd_T43 l0 x5_1).f0),.int .i64 x4_1,.slice A204_2 ((rd_T43 l0 x5_1).f2).length c204_2,.slice A204_3 ((rd_T43 l0 x5_1).f3).length c204_3,.slice A204_4 ((rd_T43 l0 x5_1).f4).length c204_4] 43 (0,0)) (by (with_reducible repeat (first | refine blk_drewN ?_ _ | refine blk_drew ?_ | refine blk_alloc ?_ _));exact BK205.out) hg (Kd.N_away HO_3.out (fun _ hk => hk.2)));have n5_:=Aside0.mk (hb);have n6_:=Aside0.mk (ho);clear HO_0;clear HL204_2;clear HL204_3;clear HL204_4;clear BK205;clear HB;clear HO_3;have HO_0:=n0_;have HL204_2:=n1_;have HL204_3:=n2_;have HL204_4:=n3_;have BK205:=n4_;have HB:=n5_;have HO211:=n6_;clear n0_ n1_ n2_ n3_ n4_ n5_ n6_;clear ho hb hg hat))
        repeat (go_quiet (first | ((with_reducible refine gate_dst (N:=6) rfl ?_);refine box_event ?hg (N:=6) ?hd (cs:=#[.int .i64 0,.int .i64 0,.slice none 0 0,.slice none 0 0,.slice none 0 0]) (t:=43) ?hr ?_;(case hd => rfl);(case hg => rfl);(case hr => first | (go_simp;done) | (go_simp;rfl));intro gb205 hg w18 hbox hb;have n0_:=Aside0.mk (Kd.V_below (Kd.V_elderB (by (with_reducible repeat (first | apply Kd.V_alloc | apply Kd.V_drewN | apply Kd.V_drew));exact HO_0.out) gb205 (Nat.le_of_eq hg.symm)) hb);have n1_:=Aside0.mk (Kd.N_below (Kd.N_elderB (by (with_reducible repeat (first | apply Kd.N_alloc | apply Kd.N_drewN | apply Kd.N_drew));exact HO_3.out) gb205 (Nat.le_of_eq hg.symm)) hb);have n2_:=Aside0.mk (Kd.V_below (Kd.V_elderB (by (with_reducible repeat (first | apply Kd.V_alloc | apply Kd.V_drewN | apply Kd.V_drew));exact HL204_2.out) gb205 (Nat.le_of_eq hg.symm)) hb);have n3_:=Aside0.mk (Kd.V_below (Kd.V_elderB (by (with_reducible repeat (first | apply Kd.V_alloc | apply Kd.V_drewN | apply Kd.V_drew));exact HL204_3.out) gb205 (Nat.le_of_eq hg.symm)) hb);have n4_:=Aside0.mk (Kd.V_below (Kd.V_elderB (by (with_reducible repeat (first | apply Kd.V_alloc | apply Kd.V_drewN | apply Kd.V_drew));exact HL204_4.out) gb205 (Nat.le_of_eq hg.symm)) hb);have n5_:=Aside0.mk (Kd.C_below (by repeat (first | (with_reducible exact HR204_2.out) | (with_reducible refine Kd.C_alloc ?_ _) | (with_reducible refine Kd.C_drewN ?_ _) | (with_reducible refine Kd.C_drew ?_) | exact HR204_2.out)) hb);have n6_:=Aside0.mk (Kd.C_below (by repeat (first | (with_reducible exact HR204_3.out) | (with_reducible refine Kd.C_alloc ?_ _) | (with_reducible refine Kd.C_drewN ?_ _) | (with_reducible refine Kd.C_drew ?_) | exact HR204_3.out)) hb);have n7_:=Aside0.mk (Kd.C_below (by repeat (first | (with_reducible exact HR204_4.out) | (with_reducible refine Kd.C_alloc ?_ _) | (with_reducible refine Kd.C_drewN ?_ _) | (with_reducible refine Kd.C_drew ?_) | exact HR204_4.out)) hb);have n8_:=Aside0.mk (below_step (by repeat (first | (with_reducible first | exact HB.out | apply below_alloc | apply pw_below_drewN | apply below_drew1) | exact HB.out)) hb);have n9_:=Aside0.mk (hbox);have n10_:=Aside0.mk ((by rw [hg];exact (below_size (by repeat (first | (with_reducible first | exact HB.out | apply below_alloc | apply pw_below_drewN | apply below_drew1) | exact HB.out))) : w.heap.size ≤ gb205));have n11_:=Aside0.mk ((by rw [hg];exact (below_size (by repeat (first | (with_reducible first | exact HB.out | apply below_alloc | apply pw_below_drewN | apply below_drew1) | exact HB.out))) : w.heap.size ≤ gb205));clear HO_0;clear HO_3;clear HL204_2;clear HL204_3;clear HL204_4;clear HR204_2;clear HR204_3;clear HR204_4;clear HB;have HO_0:=n0_;have HO_3:=n1_;have HL204_2:=n2_;have HL204_3:=n3_;have HL204_4:=n4_;have HR204_2:=n5_;have HR204_3:=n6_;have HR204_4:=n7_;have HB:=n8_;have BK205:=n9_;have GW205:=n10_;have GE205:=n11_;clear n0_ n1_ n2_ n3_ n4_ n5_ n6_ n7_ n8_ n9_ n10_ n11_;clear hb hbox hg;obtain ⟨hcz19_0,hcz19_1,hcz19_2,hcz19_3,hcz19_4⟩:=blkc_5 BK205.out;obtain ⟨hfz19_0,hfz19_1,hfz19_2,hfz19_3⟩:=blkz_4 BK205.out;have hfz19_4:=blk_frozen BK205.out 4) | ((with_reducible refine gate_store (t:=43) (p:=6) rfl ?_);(try (rw [drewN_self w18];generalize hq_ : World.drewN w18 _ = w18;have n0_:=Aside0.mk (Kd.V_at hq_ HO_0.out);have n1_:=Aside0.mk (Kd.N_at hq_ HO_3.out);have n2_:=Aside0.mk (Kd.V_at hq_ HL204_2.out);have n3_:=Aside0.mk (Kd.V_at hq_ HL204_3.out);have n4_:=Aside0.mk (Kd.V_at hq_ HL204_4.out);have n5_:=Aside0.mk (blk_at hq_ BK205.out);have n6_:=Aside0.mk (Kd.C_at hq_ HR204_2.out);have n7_:=Aside0.mk (Kd.C_at hq_ HR204_3.out);have n8_:=Aside0.mk (Kd.C_at hq_ HR204_4.out);have n9_:=Aside0.mk (below_at hq_ HB.out);clear hq_ HO_0 HO_3 HL204_2 HL204_3 HL204_4 BK205 HR204_2 HR204_3 HR204_4 HB;have HO_0:=n0_;have HO_3:=n1_;have HL204_2:=n2_;have HL204_3:=n3_;have HL204_4:=n4_;have BK205:=n5_;have HR204_2:=n6_;have HR204_3:=n7_;have HR204_4:=n8_;have HB:=n9_;clear n0_ n1_ n2_ n3_ n4_ n5_ n6_ n7_ n8_ n9_));refine store_event (t:=43) (p:=6) (v:=?vo_w20) (w1:=(((((w18.setCell ⟨gb205,0,none⟩ (.int .i64 ((rd_T43 l0 x5_1).f0))).setCell ⟨gb205,1,none⟩ (.int .i64 ((rd_T43 l0 x5_1).f1))).setCell ⟨gb205,2,none⟩ (.slice A204_2 ((rd_T43 l0 x5_1).f2).length c204_2)).setCell ⟨gb205,3,none⟩ (.slice A204_3 ((rd_T43 l0 x5_1).f3).length c204_3)).setCell ⟨gb205,4,none⟩ (.slice A204_4 ((rd_T43 l0 x5_1).f4).length c204_4))) ?hg ?ho ?hn ?hr ?_;(case ho => rfl);(case hg => rfl);(case hn => rfl);(case hr => first | (go_simp;done) | (go_simp;rfl));intro w20 hw;have n0_ : Aside0 (Kd.V k43 43 w20 w.heap.size (fun k_ => (P0_ k_ ∨ w.heap.size ≤ k_) ∧ some k_ ≠ (u3 : Value).ownBlock ∧ k_ ≠ gb205) (.slice (some ad204) l0.length c0) l0):=⟨(by rw [hw];exact (by (with_reducible repeat (first | apply Kd.V_alloc | apply Kd.V_drewN | apply Kd.V_drew));exact Kd.V_mono (Kd.V_far (p:=⟨gb205,4,none⟩) (Kd.V_far (p:=⟨gb205,3,none⟩) (Kd.V_far (p:=⟨gb205,2,none⟩) (Kd.V_far (p:=⟨gb205,1,none⟩) (Kd.V_far (p:=⟨gb205,0,none⟩) (Kd.V_mono HO_0.out (fun k_ hk => (⟨hk,hk.2⟩ : _ ∧ k_ ≠ gb205))) (fun _ hk => hk.2) (.int .i64 ((rd_T43 l0 x5_1).f0))) (fun _ hk => hk.2) (.int .i64 ((rd_T43 l0 x5_1).f1))) (fun _ hk => hk.2) (.slice A204_2 ((rd_T43 l0 x5_1).f2).length c204_2)) (fun _ hk => hk.2) (.slice A204_3 ((rd_T43 l0 x5_1).f3).length c204_3)) (fun _ hk => hk.2) (.slice A204_4 ((rd_T43 l0 x5_1).f4).length c204_4)) (fun _ hk => ⟨hk.1.1.1,⟨hk.1.1.2,hk.1.2⟩⟩)))⟩;have n1_ : Aside0 (Kd.N k43 43 w20 w.heap.size (fun k_ => (P0_ k_ ∨ w.heap.size ≤ k_) ∧ k_ ≠ gb205) u3 x3_1):=⟨(by rw [hw];exact (by (with_reducible repeat (first | apply Kd.N_alloc | apply Kd.N_drewN | apply Kd.N_drew));exact Kd.N_mono (Kd.N_far (p:=⟨gb205,4,none⟩) (Kd.N_far (p:=⟨gb205,3,none⟩) (Kd.N_far (p:=⟨gb205,2,none⟩) (Kd.N_far (p:=⟨gb205,1,none⟩) (Kd.N_far (p:=⟨gb205,0,none⟩) (Kd.N_mono HO_3.out (fun k_ hk => (⟨hk,hk.2⟩ : _ ∧ k_ ≠ gb205))) (fun _ hk => hk.2) (.int .i64 ((rd_T43 l0 x5_1).f0))) (fun _ hk => hk.2) (.int .i64 ((rd_T43 l0 x5_1).f1))) (fun _ hk => hk.2) (.slice A204_2 ((rd_T43 l0 x5_1).f2).length c204_2)) (fun _ hk => hk.2) (.slice A204_3 ((rd_T43 l0 x5_1).f3).length c204_3)) (fun _ hk => hk.2) (.slice A204_4 ((rd_T43 l0 x5_1).f4).length c204_4)) (fun _ hk => ⟨hk.1.1,hk.1.2⟩)))⟩;have n2_ : Aside0 (Kd.V k89 89 w20 w.heap.size (fun k_ => (P0_ k_ ∨ w.heap.size ≤ k_) ∧ some k_ ≠ (u3 : Value).ownBlock ∧ k_ ≠ gb205) (.slice A204_2 ((rd_T43 l0 x5_1).f2).length c204_2) ((rd_T43 l0 x5_1).f2)):=⟨(by rw [hw];exact (by (with_reducible repeat (first | apply Kd.V_alloc | apply Kd.V_drewN | apply Kd.V_drew));exact Kd.V_mono (Kd.V_far (p:=⟨gb205,4,none⟩) (Kd.V_far (p:=⟨gb205,3,none⟩) (Kd.V_far (p:=⟨gb205,2,none⟩) (Kd.V_far (p:=⟨gb205,1,none⟩) (Kd.V_far (p:=⟨gb205,0,none⟩) (Kd.V_mono HL204_2.out (fun k_ hk => (⟨hk,hk.2⟩ : _ ∧ k_ ≠ gb205))) (fun _ hk => hk.2) (.int .i64 ((rd_T43 l0 x5_1).f0))) (fun _ hk => hk.2) (.int .i64 ((rd_T43 l0 x5_1).f1))) (fun _ hk => hk.2) (.slice A204_2 ((rd_T43 l0 x5_1).f2).length c204_2)) (fun _ hk => hk.2) (.slice A204_3 ((rd_T43 l0 x5_1).f3).length c204_3)) (fun _ hk => hk.2) (.slice A204_4 ((rd_T43 l0 x5_1).f4).length c204_4)) (fun _ hk => ⟨hk.1.1.1,⟨hk.1.1.2,hk.1.2⟩⟩)))⟩;have n3_ : Aside0 (Kd.V k124 124 w20 w.heap.size (fun k_ => (P0_ k_ ∨ w.heap.size ≤ k_) ∧ some k_ ≠ (u3 : Value).ownBlock ∧ k_ ≠ gb205) (.slice A204_3 ((rd_T43 l0 x5_1).f3).length c204_3) ((rd_T43 l0 x5_1).f3)):=⟨(by rw [hw];exact (by (with_reducible repeat (first | apply Kd.V_alloc | apply Kd.V_drewN | apply Kd.V_drew));exact Kd.V_mono (Kd.V_far (p:=⟨gb205,4,none⟩) (Kd.V_far (p:=⟨gb205,3,none⟩) (Kd.V_far (p:=⟨gb205,2,none⟩) (Kd.V_far (p:=⟨gb205,1,none⟩) (Kd.V_far (p:=⟨gb205,0,none⟩) (Kd.V_mono HL204_3.out (fun k_ hk => (⟨hk,hk.2⟩ : _ ∧ k_ ≠ gb205))) (fun _ hk => hk.2) (.int .i64 ((rd_T43 l0 x5_1).f0))) (fun _ hk => hk.2) (.int .i64 ((rd_T43 l0 x5_1).f1))) (fun _ hk => hk.2) (.slice A204_2 ((rd_T43 l0 x5_1).f2).length c204_2)) (fun _ hk => hk.2) (.slice A204_3 ((rd_T43 l0 x5_1).f3).length c204_3)) (fun _ hk => hk.2) (.slice A204_4 ((rd_T43 l0 x5_1).f4).length c204_4)) (fun _ hk => ⟨hk.1.1.1,⟨hk.1.1.2,hk.1.2⟩⟩)))⟩;have n4_ : Aside0 (Kd.V (Kd.int .i64) 3 w20 w.heap.size (fun k_ => (P0_ k_ ∨ w.heap.size ≤ k_) ∧ some k_ ≠ (u3 : Value).ownBlock ∧ k_ ≠ gb205) (.slice A204_4 ((rd_T43 l0 x5_1).f4).length c204_4) ((rd_T43 l0 x5_1).f4)):=⟨(by rw [hw];exact (by (with_reducible repeat (first | apply Kd.V_alloc | apply Kd.V_drewN | apply Kd.V_drew));exact Kd.V_mono (Kd.V_far (p:=⟨gb205,4,none⟩) (Kd.V_far (p:=⟨gb205,3,none⟩) (Kd.V_far (p:=⟨gb205,2,none⟩) (Kd.V_far (p:=⟨gb205,1,none⟩) (Kd.V_far (p:=⟨gb205,0,none⟩) (Kd.V_mono HL204_4.out (fun k_ hk => (⟨hk,hk.2⟩ : _ ∧ k_ ≠ gb205))) (fun _ hk => hk.2) (.int .i64 ((rd_T43 l0 x5_1).f0))) (fun _ hk => hk.2) (.int .i64 ((rd_T43 l0 x5_1).f1))) (fun _ hk => hk.2) (.slice A204_2 ((rd_T43 l0 x5_1).f2).length c204_2)) (fun _ hk => hk.2) (.slice A204_3 ((rd_T43 l0 x5_1).f3).length c204_3)) (fun _ hk => hk.2) (.slice A204_4 ((rd_T43 l0 x5_1).f4).length c204_4)) (fun _ hk => ⟨hk.1.1.1,⟨hk.1.1.2,hk.1.2⟩⟩)))⟩;have n5_ : Aside0 (w20.heap[gb205]? = some (.cells #[.int .i64 ((rd_T43 l0 x5_1).f0),.int .i64 ((rd_T43 l0 x5_1).f1),.slice A204_2 ((rd_T43 l0 x5_1).f2).length c204_2,.slice A204_3 ((rd_T43 l0 x5_1).f3).length c204_3,.slice A204_4 ((rd_T43 l0 x5_1).f4).length c204_4] 43 (0,0))):=⟨(by rw [hw];exact (by (with_reducible repeat (first | refine blk_drewN ?_ _ | refine blk_drew ?_ | refine blk_alloc ?_ _));apply blkf_5_0_4;(with_reducible repeat (first | refine blk_drewN ?_ _ | refine blk_drew ?_ | refine blk_alloc ?_ _));exact BK205.out))⟩;have n6_ : Aside0 (Below w.heap.size w w20):=⟨(by rw [hw];exact (by repeat (first | (with_reducible first | exact HB.out | apply below_alloc | apply pw_below_drewN | apply below_drew1 | refine below_set ?_ GE205.out) | exact HB.out)))⟩;clear hw;clear HO_0;clear HO_3;clear HL204_2;clear HL204_3;clear HL204_4;clear BK205;clear HB;have HO_0:=n0_;have HO_3:=n1_;have HL204_2:=n2_;have HL204_3:=n3_;have HL204_4:=n4_;have BK205:=n5_;have HB:=n6_;clear n0_ n1_ n2_ n3_ n4_ n5_ n6_;obtain ⟨hcz21_0,hcz21_1,hcz21_2,hcz21_3,hcz21_4⟩:=blkc_5 BK205.out;obtain ⟨hfz21_0,hfz21_1,hfz21_2,hfz21_3⟩:=blkz_4 BK205.out;have hfz21_4:=blk_frozen BK205.out 4) | ((with_reducible refine gate_store (t:=3) (p:=27) rfl ?_);(try (rw [drewN_self w20];generalize hq_ : World.drewN w20 _ = w20;have n0_:=Aside0.mk (Kd.V_at hq_ HO_0.out);have n1_:=Aside0.mk (Kd.N_at hq_ HO_3.out);have n2_:=Aside0.mk (Kd.V_at hq_ HL204_2.out);have n3_:=Aside0.mk (Kd.V_at hq_ HL204_3.out);have n4_:=Aside0.mk (Kd.V_at hq_ HL204_4.out);have n5_:=Aside0.mk (blk_at hq_ BK205.out);have n6_:=Aside0.mk (Kd.C_at hq_ HR204_2.out);have n7_:=Aside0.mk (Kd.C_at hq_ HR204_3.out);have n8_:=Aside0.mk (Kd.C_at hq_ HR204_4.out);have n9_:=Aside0.mk (below_at hq_ HB.out);clear hq_ HO_0 HO_3 HL204_2 HL204_3 HL204_4 BK205 HR204_2 HR204_3 HR204_4 HB;have HO_0:=n0_;have HO_3:=n1_;have HL204_2:=n2_;have HL204_3:=n3_;have HL204_4:=n4_;have BK205:=n5_;have HR204_2:=n6_;have HR204_3:=n7_;have HR204_4:=n8_;have HB:=n9_;clear n0_ n1_ n2_ n3_ n4_ n5_ n6_ n7_ n8_ n9_));refine store_event (t:=3) (p:=27) (v:=?vo_w22) (w1:=(w20.setCell ⟨gb205,1,none⟩ (.int .i64 x4_1))) ?hg ?ho ?hn ?hr ?_;(case ho => rfl);(case hg => rfl);(case hn => rfl);(case hr => first | (go_simp;done) | (go_simp;rfl));intro w22 hw;have n0_ : Aside0 (Kd.V k43 43 w22 w.heap.size (fun k_ => (P0_ k_ ∨ w.heap.size ≤ k_) ∧ some k_ ≠ (u3 : Value).ownBlock ∧ k_ ≠ gb205) (.slice (some ad204) l0.length c0) l0):=⟨(by rw [hw];exact (by (with_reducible repeat (first | apply Kd.V_alloc | apply Kd.V_drewN | apply Kd.V_drew));exact Kd.V_mono (Kd.V_far (p:=⟨gb205,1,none⟩) (Kd.V_mono HO_0.out (fun k_ hk => (⟨hk,hk.2.2⟩ : _ ∧ k_ ≠ gb205))) (fun _ hk => hk.2) (.int .i64 x4_1)) (fun _ hk => ⟨hk.1.1,⟨hk.1.2.1,hk.1.2.2⟩⟩)))⟩;have n1_ : Aside0 (Kd.N k43 43 w22 w.heap.size (fun k_ => (P0_ k_ ∨ w.heap.size ≤ k_) ∧ k_ ≠ gb205) u3 x3_1):=⟨(by rw [hw];exact (by (with_reducible repeat (first | apply Kd.N_alloc | apply Kd.N_drewN | apply Kd.N_drew));exact Kd.N_mono (Kd.N_far (p:=⟨gb205,1,none⟩) (Kd.N_mono HO_3.out (fun k_ hk => (⟨hk,hk.2⟩ : _ ∧ k_ ≠ gb205))) (fun _ hk => hk.2) (.int .i64 x4_1)) (fun _ hk => ⟨hk.1.1,hk.1.2⟩)))⟩;have n2_ : Aside0 (Kd.V k89 89 w22 w.heap.size (fun k_ => (P0_ k_ ∨ w.heap.size ≤ k_) ∧ some k_ ≠ (u3 : Value).ownBlock ∧ k_ ≠ gb205) (.slice A204_2 ((rd_T43 l0 x5_1).f2).length c204_2) ((rd_T43 l0 x5_1).f2)):=⟨(by rw [hw];exact (by (with_reducible repeat (first | apply Kd.V_alloc | apply Kd.V_drewN | apply Kd.V_drew));exact Kd.V_mono (Kd.V_far (p:=⟨gb205,1,none⟩) (Kd.V_mono HL204_2.out (fun k_ hk => (⟨hk,hk.2.2⟩ : _ ∧ k_ ≠ gb205))) (fun _ hk => hk.2) (.int .i64 x4_1)) (fun _ hk => ⟨hk.1.1,⟨hk.1.2.1,hk.1.2.2⟩⟩)))⟩;have n3_ : Aside0 (Kd.V k124 124 w22 w.heap.size (fun k_ => (P0_ k_ ∨ w.heap.size ≤ k_) ∧ some k_ ≠ (u3 : Value).ownBlock ∧ k_ ≠ gb205) (.slice A204_3 ((rd_T43 l0 x5_1).f3).length c204_3) ((rd_T43 l0 x5_1).f3)):=⟨(by rw [hw];exact (by (with_reducible repeat (first | apply Kd.V_alloc | apply Kd.V_drewN | apply Kd.V_drew));exact Kd.V_mono (Kd.V_far (p:=⟨gb205,1,none⟩) (Kd.V_mono HL204_3.out (fun k_ hk => (⟨hk,hk.2.2⟩ : _ ∧ k_ ≠ gb205))) (fun _ hk => hk.2) (.int .i64 x4_1)) (fun _ hk => ⟨hk.1.1,⟨hk.1.2.1,hk.1.2.2⟩⟩)))⟩;have n4_ : Aside0 (Kd.V (Kd.int .i64) 3 w22 w.heap.size (fun k_ => (P0_ k_ ∨ w.heap.size ≤ k_) ∧ some k_ ≠ (u3 : Value).ownBlock ∧ k_ ≠ gb205) (.slice A204_4 ((rd_T43 l0 x5_1).f4).length c204_4) ((rd_T43 l0 x5_1).f4)):=⟨(by rw [hw];exact (by (with_reducible repeat (first | apply Kd.V_alloc | apply Kd.V_drewN | apply Kd.V_drew));exact Kd.V_mono (Kd.V_far (p:=⟨gb205,1,none⟩) (Kd.V_mono HL204_4.out (fun k_ hk => (⟨hk,hk.2.2⟩ : _ ∧ k_ ≠ gb205))) (fun _ hk => hk.2) (.int .i64 x4_1)) (fun _ hk => ⟨hk.1.1,⟨hk.1.2.1,hk.1.2.2⟩⟩)))⟩;have n5_ : Aside0 (w22.heap[gb205]? = some (.cells #[.int .i64 ((rd_T43 l0 x5_1).f0),.int .i64 x4_1,.slice A204_2 ((rd_T43 l0 x5_1).f2).length c204_2,.slice A204_3 ((rd_T43 l0 x5_1).f3).length c204_3,.slice A204_4 ((rd_T43 l0 x5_1).f4).length c204_4] 43 (0,0))):=⟨(by rw [hw];exact (by (with_reducible repeat (first | refine blk_drewN ?_ _ | refine blk_drew ?_ | refine blk_alloc ?_ _));refine blk_put (cs:=#[.int .i64 ((rd_T43 l0 x5_1).f0),.int .i64 ((rd_T43 l0 x5_1).f1),.slice A204_2 ((rd_T43 l0 x5_1).f2).length c204_2,.slice A204_3 ((rd_T43 l0 x5_1).f3).length c204_3,.slice A204_4 ((rd_T43 l0 x5_1).f4).length c204_4]) ?_ 1 _ rfl;(with_reducible repeat (first | refine blk_drewN ?_ _ | refine blk_drew ?_ | refine blk_alloc ?_ _));exact BK205.out))⟩;have n6_ : Aside0 (Below w.heap.size w w22):=⟨(by rw [hw];exact (by repeat (first | (with_reducible first | exact HB.out | apply below_alloc | apply pw_below_drewN | apply below_drew1 | refine below_set ?_ GE205.out) | exact HB.out)))⟩;clear hw;clear HO_0;clear HO_3;clear HL204_2;clear HL204_3;clear HL204_4;clear BK205;clear HB;have HO_0:=n0_;have HO_3:=n1_;have HL204_2:=n2_;have HL204_3:=n3_;have HL204_4:=n4_;have BK205:=n5_;have HB:=n6_;clear n0_ n1_ n2_ n3_ n4_ n5_ n6_;obtain ⟨hcz23_0,hcz23_1,hcz23_2,hcz23_3,hcz23_4⟩:=blkc_5 BK205.out;obtain ⟨hfz23_0,hfz23_1,hfz23_2,hfz23_3⟩:=blkz_4 BK205.out;have hfz23_4:=blk_frozen BK205.out 4) | ((with_reducible refine gate_builtin (b:=.append) (xs:=#[.tmp 34,.tmp 36]) rfl ?_);at_builtin;refine Kd.N_append k43 (w0:=w) w.heap.size rfl (.tmp 34) (.tmp 36) 36 43 (.agg #[(.int .i64 0),(.int .i64 0),(.slice none 0 0),(.slice none 0 0),(.slice none 0 0)]) 88 rfl Try.underlying36 info43 rfl (by decide) (by omega) u3 x3_1 (⟨(rd_T43 l0 x5_1).f0,x4_1,(rd_T43 l0 x5_1).f2,(rd_T43 l0 x5_1).f3,(rd_T43 l0 x5_1).f4⟩ : S43) [.int .i64 ((rd_T43 l0 x5_1).f0),.int .i64 x4_1,.slice A204_2 ((rd_T43 l0 x5_1).f2).length c204_2,.slice A204_3 ((rd_T43 l0 x5_1).f3).length c204_3,.slice A204_4 ((rd_T43 l0 x5_1).f4).length c204_4] (fun k_ => (P0_ k_ ∨ w.heap.size ≤ k_) ∧ k_ ≠ gb205) (fun k_ => ((fun k_ => (P0_ k_ ∨ w.heap.size ≤ k_) ∧ k_ ≠ gb205)) k_ ∧ some k_ ≠ (u3 : Value).ownBlock) rfl rfl ?aP (fun _ hk => hk) ?aF ?aO ?aB ?aS ?aL ?_;(case aP => exact (k43_mkF _ _ (⟨(rd_T43 l0 x5_1).f0,x4_1,(rd_T43 l0 x5_1).f2,(rd_T43 l0 x5_1).f3,(rd_T43 l0 x5_1).f4⟩ : S43) (Kd.V_reads' (Kd.V_mono (ok':=(fun k_ => ((fun k_ => (P0_ k_ ∨ w.heap.size ≤ k_) ∧ k_ ≠ gb205)) k_ ∧ some k_ ≠ (u3 : Value).ownBlock)) (HL204_2.out) (fun k_ hk => ⟨⟨hk.1,hk.2.2⟩,hk.2.1⟩))).2.1 (Kd.V_F (Kd.V_mono (ok':=(fun k_ => ((fun k_ => (P0_ k_ ∨ w.heap.size ≤ k_) ∧ k_ ≠ gb205)) k_ ∧ some k_ ≠ (u3 : Value).ownBlock)) (HL204_2.out) (fun k_ hk => ⟨⟨hk.1,hk.2.2⟩,hk.2.1⟩))) (Kd.V_reads' (Kd.V_mono (ok':=(fun k_ => ((fun k_ => (P0_ k_ ∨ w.heap.size ≤ k_) ∧ k_ ≠ gb205)) k_ ∧ some k_ ≠ (u3 : Value).ownBlock)) (HL204_3.out) (fun k_ hk => ⟨⟨hk.1,hk.2.2⟩,hk.2.1⟩))).2.1 (Kd.V_F (Kd.V_mono (ok':=(fun k_ => ((fun k_ => (P0_ k_ ∨ w.heap.size ≤ k_) ∧ k_ ≠ gb205)) k_ ∧ some k_ ≠ (u3 : Value).ownBlock)) (HL204_3.out) (fun k_ hk => ⟨⟨hk.1,hk.2.2⟩,hk.2.1⟩))) (Kd.V_reads' (Kd.V_mono (ok':=(fun k_ => ((fun k_ => (P0_ k_ ∨ w.heap.size ≤ k_) ∧ k_ ≠ gb205)) k_ ∧ some k_ ≠ (u3 : Value).ownBlock)) (HL204_4.out) (fun k_ hk => ⟨⟨hk.1,hk.2.2⟩,hk.2.1⟩))).2.1 (Kd.V_F (Kd.V_mono (ok':=(fun k_ => ((fun k_ => (P0_ k_ ∨ w.heap.size ≤ k_) ∧ k_ ≠ gb205)) k_ ∧ some k_ ≠ (u3 : Value).ownBlock)) (HL204_4.out) (fun k_ hk => ⟨⟨hk.1,hk.2.2⟩,hk.2.1⟩)))));(case aB => exact (by repeat (first | (with_reducible first | exact HB.out | apply below_alloc | apply pw_below_drewN | apply below_drew1 | refine below_set ?_ GE205.out) | exact HB.out)));(case aF => exact (fun k_ hk => ⟨(.inr (Nat.le_trans (below_size (by repeat (first | (with_reducible first | exact HB.out | apply below_alloc | apply pw_below_drewN | apply below_drew1 | refine below_set ?_ GE205.out) | exact HB.out))) hk)),Kd.freshB (g:=gb205) (o:=.cells #[.int .i64 ((rd_T43 l0 x5_1).f0),.int .i64 x4_1,.slice A204_2 ((rd_T43 l0 x5_1).f2).length c204_2,.slice A204_3 ((rd_T43 l0 x5_1).f3).length c204_3,.slice A204_4 ((rd_T43 l0 x5_1).f4).length c204_4] 43 (0,0)) (by (with_reducible repeat (first | refine blk_drewN ?_ _ | refine blk_drew ?_ | refine blk_alloc ?_ _));exact BK205.out) k_ hk⟩));(case aO => exact (by (with_reducible repeat (first | apply Kd.N_alloc | apply Kd.N_drewN | apply Kd.N_drew));exact HO_3.out));(case aS => exact (below_size (by repeat (first | (with_reducible first | exact HB.out | apply below_alloc | apply pw_below_drewN | apply below_drew1 | refine below_set ?_ GE205.out) | exact HB.out))));(case aL => have:=LMc17.out;omega);intro v210 w24 ho hb hg hat;rw [← Ny209.out] at ho;have n0_:=Aside0.mk (Kd.V_afterv (ok:=(fun k_ => (P0_ k_ ∨ w.heap.size ≤ k_) ∧ k_ ≠ gb205)) (by (with_reducible repeat (first | apply Kd.V_alloc | apply Kd.V_drewN | apply Kd.V_drew));exact Kd.V_mono HO_0.out (fun _ hk => ⟨⟨hk.1,hk.2.2⟩,hk.2.1⟩)) hg hat);have n1_:=Aside0.mk (Kd.V_afterv (ok:=(fun k_ => (P0_ k_ ∨ w.heap.size ≤ k_) ∧ k_ ≠ gb205)) (by (with_reducible repeat (first | apply Kd.V_alloc | apply Kd.V_drewN | apply Kd.V_drew));exact Kd.V_mono HL204_2.out (fun _ hk => ⟨⟨hk.1,hk.2.2⟩,hk.2.1⟩)) hg hat);have n2_:=Aside0.mk (Kd.V_afterv (ok:=(fun k_ => (P0_ k_ ∨ w.heap.size ≤ k_) ∧ k_ ≠ gb205)) (by (with_reducible repeat (first | apply Kd.V_alloc | apply Kd.V_drewN | apply Kd.V_drew));exact Kd.V_mono HL204_3.out (fun _ hk => ⟨⟨hk.1,hk.2.2⟩,hk.2.1⟩)) hg hat);have n3_:=Aside0.mk (Kd.V_afterv (ok:=(fun k_ => (P0_ k_ ∨ w.heap.size ≤ k_) ∧ k_ ≠ gb205)) (by (with_reducible repeat (first | apply Kd.V_alloc | apply Kd.V_drewN | apply Kd.V_drew));exact Kd.V_mono HL204_4.out (fun _ hk => ⟨⟨hk.1,hk.2.2⟩,hk.2.1⟩)) hg hat);have n4_:=Aside0.mk (blk_grown (g:=gb205) (o:=.cells #[.int .i64 ((rd_T43 l0 x5_1).f0),.int .i64 x4_1,.slice A204_2 ((rd_T43 l0 x5_1).f2).length c204_2,.slice A204_3 ((rd_T43 l0 x5_1).f3).length c204_3,.slice A204_4 ((rd_T43 l0 x5_1).f4).length c204_4] 43 (0,0)) (by (with_reducible repeat (first | refine blk_drewN ?_ _ | refine blk_drew ?_ | refine blk_alloc ?_ _));exact BK205.out) hg (Kd.N_away HO_3.out (fun _ hk => hk.2)));have n5_:=Aside0.mk (hb);have n6_:=Aside0.mk (ho);clear HO_0;clear HL204_2;clear HL204_3;clear HL204_4;clear BK205;clear HB;clear HO_3;have HO_0:=n0_;have HL204_2:=n1_;have HL204_3:=n2_;have HL204_4:=n3_;have BK205:=n4_;have HB:=n5_;have HO211:=n6_;clear n0_ n1_ n2_ n3_ n4_ n5_ n6_;clear ho hb hg hat));try go_wp2_with (first | ((with_reducible refine gate_dst (N:=6) rfl ?_);refine box_event ?hg (N:=6) ?hd (cs:=#[.int .i64 0,.int .i64 0,.slice none 0 0,.slice none 0 0,.slice none 0 0]) (t:=43) ?hr ?_;(case hd => rfl);(case hg => rfl);(case hr => first | (go_simp;done) | (go_simp;rfl));intro gb205 hg w18 hbox hb;have n0_:=Aside0.mk (Kd.V_below (Kd.V_elderB (by (with_reducible repeat (first | apply Kd.V_alloc | apply Kd.V_drewN | apply Kd.V_drew));exact HO_0.out) gb205 (Nat.le_of_eq hg.symm)) hb);have n1_:=Aside0.mk (Kd.N_below (Kd.N_elderB (by (with_reducible repeat (first | apply Kd.N_alloc | apply Kd.N_drewN | apply Kd.N_drew));exact HO_3.out) gb205 (Nat.le_of_eq hg.symm)) hb);have n2_:=Aside0.mk (Kd.V_below (Kd.V_elderB (by (with_reducible repeat (first | apply Kd.V_alloc | apply Kd.V_drewN | apply Kd.V_drew));exact HL204_2.out) gb205 (Nat.le_of_eq hg.symm)) hb);have n3_:=Aside0.mk (Kd.V_below (Kd.V_elderB (by (with_reducible repeat (first | apply Kd.V_alloc | apply Kd.V_drewN | apply Kd.V_drew));exact HL204_3.out) gb205 (Nat.le_of_eq hg.symm)) hb);have n4_:=Aside0.mk (Kd.V_below (Kd.V_elderB (by (with_reducible repeat (first | apply Kd.V_alloc | apply Kd.V_drewN | apply Kd.V_drew));exact HL204_4.out) gb205 (Nat.le_of_eq hg.symm)) hb);have n5_:=Aside0.mk (Kd.C_below (by repeat (first | (with_reducible exact HR204_2.out) | (with_reducible refine Kd.C_alloc ?_ _) | (with_reducible refine Kd.C_drewN ?_ _) | (with_reducible refine Kd.C_drew ?_) | exact HR204_2.out)) hb);have n6_:=Aside0.mk (Kd.C_below (by repeat (first | (with_reducible exact HR204_3.out) | (with_reducible refine Kd.C_alloc ?_ _) | (with_reducible refine Kd.C_drewN ?_ _) | (with_reducible refine Kd.C_drew ?_) | exact HR204_3.out)) hb);have n7_:=Aside0.mk (Kd.C_below (by repeat (first | (with_reducible exact HR204_4.out) | (with_reducible refine Kd.C_alloc ?_ _) | (with_reducible refine Kd.C_drewN ?_ _) | (with_reducible refine Kd.C_drew ?_) | exact HR204_4.out)) hb);have n8_:=Aside0.mk (below_step (by repeat (first | (with_reducible first | exact HB.out | apply below_alloc | apply pw_below_drewN | apply below_drew1) | exact HB.out)) hb);have n9_:=Aside0.mk (hbox);have n10_:=Aside0.mk ((by rw [hg];exact (below_size (by repeat (first | (with_reducible first | exact HB.out | apply below_alloc | apply pw_below_drewN | apply below_drew1) | exact HB.out))) : w.heap.size ≤ gb205));have n11_:=Aside0.mk ((by rw [hg];exact (below_size (by repeat (first | (with_reducible first | exact HB.out | apply below_alloc | apply pw_below_drewN | apply below_drew1) | exact HB.out))) : w.heap.size ≤ gb205));clear HO_0;clear HO_3;clear HL204_2;clear HL204_3;clear HL204_4;clear HR204_2;clear HR204_3;clear HR204_4;clear HB;have HO_0:=n0_;have HO_3:=n1_;have HL204_2:=n2_;have HL204_3:=n3_;have HL204_4:=n4_;have HR204_2:=n5_;have HR204_3:=n6_;have HR204_4:=n7_;have HB:=n8_;have BK205:=n9_;have GW205:=n10_;have GE205:=n11_;clear n0_ n1_ n2_ n3_ n4_ n5_ n6_ n7_ n8_ n9_ n10_ n11_;clear hb hbox hg;obtain ⟨hcz19_0,hcz19_1,hcz19_2,hcz19_3,hcz19_4⟩:=blkc_5 BK205.out;obtain ⟨hfz19_0,hfz19_1,hfz19_2,hfz19_3⟩:=blkz_4 BK205.out;have hfz19_4:=blk_frozen BK205.out 4) | ((with_reducible refine gate_store (t:=43) (p:=6) rfl ?_);(try (rw [drewN_self w18];generalize hq_ : World.drewN w18 _ = w18;have n0_:=Aside0.mk (Kd.V_at hq_ HO_0.out);have n1_:=Aside0.mk (Kd.N_at hq_ HO_3.out);have n2_:=Aside0.mk (Kd.V_at hq_ HL204_2.out);have n3_:=Aside0.mk (Kd.V_at hq_ HL204_3.out);have n4_:=Aside0.mk (Kd.V_at hq_ HL204_4.out);have n5_:=Aside0.mk (blk_at hq_ BK205.out);have n6_:=Aside0.mk (Kd.C_at hq_ HR204_2.out);have n7_:=Aside0.mk (Kd.C_at hq_ HR204_3.out);have n8_:=Aside0.mk (Kd.C_at hq_ HR204_4.out);have n9_:=Aside0.mk (below_at hq_ HB.out);clear hq_ HO_0 HO_3 HL204_2 HL204_3 HL204_4 BK205 HR204_2 HR204_3 HR204_4 HB;have HO_0:=n0_;have HO_3:=n1_;have HL204_2:=n2_;have HL204_3:=n3_;have HL204_4:=n4_;have BK205:=n5_;have HR204_2:=n6_;have HR204_3:=n7_;have HR204_4:=n8_;have HB:=n9_;clear n0_ n1_ n2_ n3_ n4_ n5_ n6_ n7_ n8_ n9_));refine store_event (t:=43) (p:=6) (v:=?vo_w20) (w1:=(((((w18.setCell ⟨gb205,0,none⟩ (.int .i64 ((rd_T43 l0 x5_1).f0))).setCell ⟨gb205,1,none⟩ (.int .i64 ((rd_T43 l0 x5_1).f1))).setCell ⟨gb205,2,none⟩ (.slice A204_2 ((rd_T43 l0 x5_1).f2).length c204_2)).setCell ⟨gb205,3,none⟩ (.slice A204_3 ((rd_T43 l0 x5_1).f3).length c204_3)).setCell ⟨gb205,4,none⟩ (.slice A204_4 ((rd_T43 l0 x5_1).f4).length c204_4))) ?hg ?ho ?hn ?hr ?_;(case ho => rfl);(case hg => rfl);(case hn => rfl);(case hr => first | (go_simp;done) | (go_simp;rfl));intro w20 hw;have n0_ : Aside0 (Kd.V k43 43 w20 w.heap.size (fun k_ => (P0_ k_ ∨ w.heap.size ≤ k_) ∧ some k_ ≠ (u3 : Value).ownBlock ∧ k_ ≠ gb205) (.slice (some ad204) l0.length c0) l0):=⟨(by rw [hw];exact (by (with_reducible repeat (first | apply Kd.V_alloc | apply Kd.V_drewN | apply Kd.V_drew));exact Kd.V_mono (Kd.V_far (p:=⟨gb205,4,none⟩) (Kd.V_far (p:=⟨gb205,3,none⟩) (Kd.V_far (p:=⟨gb205,2,none⟩) (Kd.V_far (p:=⟨gb205,1,none⟩) (Kd.V_far (p:=⟨gb205,0,none⟩) (Kd.V_mono HO_0.out (fun k_ hk => (⟨hk,hk.2⟩ : _ ∧ k_ ≠ gb205))) (fun _ hk => hk.2) (.int .i64 ((rd_T43 l0 x5_1).f0))) (fun _ hk => hk.2) (.int .i64 ((rd_T43 l0 x5_1).f1))) (fun _ hk => hk.2) (.slice A204_2 ((rd_T43 l0 x5_1).f2).length c204_2)) (fun _ hk => hk.2) (.slice A204_3 ((rd_T43 l0 x5_1).f3).length c204_3)) (fun _ hk => hk.2) (.slice A204_4 ((rd_T43 l0 x5_1).f4).length c204_4)) (fun _ hk => ⟨hk.1.1.1,⟨hk.1.1.2,hk.1.2⟩⟩)))⟩;have n1_ : Aside0 (Kd.N k43 43 w20 w.heap.size (fun k_ => (P0_ k_ ∨ w.heap.size ≤ k_) ∧ k_ ≠ gb205) u3 x3_1):=⟨(by rw [hw];exact (by (with_reducible repeat (first | apply Kd.N_alloc | apply Kd.N_drewN | apply Kd.N_drew));exact Kd.N_mono (Kd.N_far (p:=⟨gb205,4,none⟩) (Kd.N_far (p:=⟨gb205,3,none⟩) (Kd.N_far (p:=⟨gb205,2,none⟩) (Kd.N_far (p:=⟨gb205,1,none⟩) (Kd.N_far (p:=⟨gb205,0,none⟩) (Kd.N_mono HO_3.out (fun k_ hk => (⟨hk,hk.2⟩ : _ ∧ k_ ≠ gb205))) (fun _ hk => hk.2) (.int .i64 ((rd_T43 l0 x5_1).f0))) (fun _ hk => hk.2) (.int .i64 ((rd_T43 l0 x5_1).f1))) (fun _ hk => hk.2) (.slice A204_2 ((rd_T43 l0 x5_1).f2).length c204_2)) (fun _ hk => hk.2) (.slice A204_3 ((rd_T43 l0 x5_1).f3).length c204_3)) (fun _ hk => hk.2) (.slice A204_4 ((rd_T43 l0 x5_1).f4).length c204_4)) (fun _ hk => ⟨hk.1.1,hk.1.2⟩)))⟩;have n2_ : Aside0 (Kd.V k89 89 w20 w.heap.size (fun k_ => (P0_ k_ ∨ w.heap.size ≤ k_) ∧ some k_ ≠ (u3 : Value).ownBlock ∧ k_ ≠ gb205) (.slice A204_2 ((rd_T43 l0 x5_1).f2).length c204_2) ((rd_T43 l0 x5_1).f2)):=⟨(by rw [hw];exact (by (with_reducible repeat (first | apply Kd.V_alloc | apply Kd.V_drewN | apply Kd.V_drew));exact Kd.V_mono (Kd.V_far (p:=⟨gb205,4,none⟩) (Kd.V_far (p:=⟨gb205,3,none⟩) (Kd.V_far (p:=⟨gb205,2,none⟩) (Kd.V_far (p:=⟨gb205,1,none⟩) (Kd.V_far (p:=⟨gb205,0,none⟩) (Kd.V_mono HL204_2.out (fun k_ hk => (⟨hk,hk.2⟩ : _ ∧ k_ ≠ gb205))) (fun _ hk => hk.2) (.int .i64 ((rd_T43 l0 x5_1).f0))) (fun _ hk => hk.2) (.int .i64 ((rd_T43 l0 x5_1).f1))) (fun _ hk => hk.2) (.slice A204_2 ((rd_T43 l0 x5_1).f2).length c204_2)) (fun _ hk => hk.2) (.slice A204_3 ((rd_T43 l0 x5_1).f3).length c204_3)) (fun _ hk => hk.2) (.slice A204_4 ((rd_T43 l0 x5_1).f4).length c204_4)) (fun _ hk => ⟨hk.1.1.1,⟨hk.1.1.2,hk.1.2⟩⟩)))⟩;have n3_ : Aside0 (Kd.V k124 124 w20 w.heap.size (fun k_ => (P0_ k_ ∨ w.heap.size ≤ k_) ∧ some k_ ≠ (u3 : Value).ownBlock ∧ k_ ≠ gb205) (.slice A204_3 ((rd_T43 l0 x5_1).f3).length c204_3) ((rd_T43 l0 x5_1).f3)):=⟨(by rw [hw];exact (by (with_reducible repeat (first | apply Kd.V_alloc | apply Kd.V_drewN | apply Kd.V_drew));exact Kd.V_mono (Kd.V_far (p:=⟨gb205,4,none⟩) (Kd.V_far (p:=⟨gb205,3,none⟩) (Kd.V_far (p:=⟨gb205,2,none⟩) (Kd.V_far (p:=⟨gb205,1,none⟩) (Kd.V_far (p:=⟨gb205,0,none⟩) (Kd.V_mono HL204_3.out (fun k_ hk => (⟨hk,hk.2⟩ : _ ∧ k_ ≠ gb205))) (fun _ hk => hk.2) (.int .i64 ((rd_T43 l0 x5_1).f0))) (fun _ hk => hk.2) (.int .i64 ((rd_T43 l0 x5_1).f1))) (fun _ hk => hk.2) (.slice A204_2 ((rd_T43 l0 x5_1).f2).length c204_2)) (fun _ hk => hk.2) (.slice A204_3 ((rd_T43 l0 x5_1).f3).length c204_3)) (fun _ hk => hk.2) (.slice A204_4 ((rd_T43 l0 x5_1).f4).length c204_4)) (fun _ hk => ⟨hk.1.1.1,⟨hk.1.1.2,hk.1.2⟩⟩)))⟩;have n4_ : Aside0 (Kd.V (Kd.int .i64) 3 w20 w.heap.size (fun k_ => (P0_ k_ ∨ w.heap.size ≤ k_) ∧ some k_ ≠ (u3 : Value).ownBlock ∧ k_ ≠ gb205) (.slice A204_4 ((rd_T43 l0 x5_1).f4).length c204_4) ((rd_T43 l0 x5_1).f4)):=⟨(by rw [hw];exact (by (with_reducible repeat (first | apply Kd.V_alloc | apply Kd.V_drewN | apply Kd.V_drew));exact Kd.V_mono (Kd.V_far (p:=⟨gb205,4,none⟩) (Kd.V_far (p:=⟨gb205,3,none⟩) (Kd.V_far (p:=⟨gb205,2,none⟩) (Kd.V_far (p:=⟨gb205,1,none⟩) (Kd.V_far (p:=⟨gb205,0,none⟩) (Kd.V_mono HL204_4.out (fun k_ hk => (⟨hk,hk.2⟩ : _ ∧ k_ ≠ gb205))) (fun _ hk => hk.2) (.int .i64 ((rd_T43 l0 x5_1).f0))) (fun _ hk => hk.2) (.int .i64 ((rd_T43 l0 x5_1).f1))) (fun _ hk => hk.2) (.slice A204_2 ((rd_T43 l0 x5_1).f2).length c204_2)) (fun _ hk => hk.2) (.slice A204_3 ((rd_T43 l0 x5_1).f3).length c204_3)) (fun _ hk => hk.2) (.slice A204_4 ((rd_T43 l0 x5_1).f4).length c204_4)) (fun _ hk => ⟨hk.1.1.1,⟨hk.1.1.2,hk.1.2⟩⟩)))⟩;have n5_ : Aside0 (w20.heap[gb205]? = some (.cells #[.int .i64 ((rd_T43 l0 x5_1).f0),.int .i64 ((rd_T43 l0 x5_1).f1),.slice A204_2 ((rd_T43 l0 x5_1).f2).length c204_2,.slice A204_3 ((rd_T43 l0 x5_1).f3).length c204_3,.slice A204_4 ((rd_T43 l0 x5_1).f4).length c204_4] 43 (0,0))):=⟨(by rw [hw];exact (by (with_reducible repeat (first | refine blk_drewN ?_ _ | refine blk_drew ?_ | refine blk_alloc ?_ _));apply blkf_5_0_4;(with_reducible repeat (first | refine blk_drewN ?_ _ | refine blk_drew ?_ | refine blk_alloc ?_ _));exact BK205.out))⟩;have n6_ : Aside0 (Below w.heap.size w w20):=⟨(by rw [hw];exact (by repeat (first | (with_reducible first | exact HB.out | apply below_alloc | apply pw_below_drewN | apply below_drew1 | refine below_set ?_ GE205.out) | exact HB.out)))⟩;clear hw;clear HO_0;clear HO_3;clear HL204_2;clear HL204_3;clear HL204_4;clear BK205;clear HB;have HO_0:=n0_;have HO_3:=n1_;have HL204_2:=n2_;have HL204_3:=n3_;have HL204_4:=n4_;have BK205:=n5_;have HB:=n6_;clear n0_ n1_ n2_ n3_ n4_ n5_ n6_;obtain ⟨hcz21_0,hcz21_1,hcz21_2,hcz21_3,hcz21_4⟩:=blkc_5 BK205.out;obtain ⟨hfz21_0,hfz21_1,hfz21_2,hfz21_3⟩:=blkz_4 BK205.out;have hfz21_4:=blk_frozen BK205.out 4) | ((with_reducible refine gate_store (t:=3) (p:=27) rfl ?_);(try (rw [drewN_self w20];generalize hq_ : World.drewN w20 _ = w20;have n0_:=Aside0.mk (Kd.V_at hq_ HO_0.out);have n1_:=Aside0.mk (Kd.N_at hq_ HO_3.out);have n2_:=Aside0.mk (Kd.V_at hq_ HL204_2.out);have n3_:=Aside0.mk (Kd.V_at hq_ HL204_3.out);have n4_:=Aside0.mk (Kd.V_at hq_ HL204_4.out);have n5_:=Aside0.mk (blk_at hq_ BK205.out);have n6_:=Aside0.mk (Kd.C_at hq_ HR204_2.out);have n7_:=Aside0.mk (Kd.C_at hq_ HR204_3.out);have n8_:=Aside0.mk (Kd.C_at hq_ HR204_4.out);have n9_:=Aside0.mk (below_at hq_ HB.out);clear hq_ HO_0 HO_3 HL204_2 HL204_3 HL204_4 BK205 HR204_2 HR204_3 HR204_4 HB;have HO_0:=n0_;have HO_3:=n1_;have HL204_2:=n2_;have HL204_3:=n3_;have HL204_4:=n4_;have BK205:=n5_;have HR204_2:=n6_;have HR204_3:=n7_;have HR204_4:=n8_;have HB:=n9_;clear n0_ n1_ n2_ n3_ n4_ n5_ n6_ n7_ n8_ n9_));refine store_event (t:=3) (p:=27) (v:=?vo_w22) (w1:=(w20.setCell ⟨gb205,1,none⟩ (.int .i64 x4_1))) ?hg ?ho ?hn ?hr ?_;(case ho => rfl);(case hg => rfl);(case hn => rfl);(case hr => first | (go_simp;done) | (go_simp;rfl));intro w22 hw;have n0_ : Aside0 (Kd.V k43 43 w22 w.heap.size (fun k_ => (P0_ k_ ∨ w.heap.size ≤ k_) ∧ some k_ ≠ (u3 : Value).ownBlock ∧ k_ ≠ gb205) (.slice (some ad204) l0.length c0) l0):=⟨(by rw [hw];exact (by (with_reducible repeat (first | apply Kd.V_alloc | apply Kd.V_drewN | apply Kd.V_drew));exact Kd.V_mono (Kd.V_far (p:=⟨gb205,1,none⟩) (Kd.V_mono HO_0.out (fun k_ hk => (⟨hk,hk.2.2⟩ : _ ∧ k_ ≠ gb205))) (fun _ hk => hk.2) (.int .i64 x4_1)) (fun _ hk => ⟨hk.1.1,⟨hk.1.2.1,hk.1.2.2⟩⟩)))⟩;have n1_ : Aside0 (Kd.N k43 43 w22 w.heap.size (fun k_ => (P0_ k_ ∨ w.heap.size ≤ k_) ∧ k_ ≠ gb205) u3 x3_1):=⟨(by rw [hw];exact (by (with_reducible repeat (first | apply Kd.N_alloc | apply Kd.N_drewN | apply Kd.N_drew));exact Kd.N_mono (Kd.N_far (p:=⟨gb205,1,none⟩) (Kd.N_mono HO_3.out (fun k_ hk => (⟨hk,hk.2⟩ : _ ∧ k_ ≠ gb205))) (fun _ hk => hk.2) (.int .i64 x4_1)) (fun _ hk => ⟨hk.1.1,hk.1.2⟩)))⟩;have n2_ : Aside0 (Kd.V k89 89 w22 w.heap.size (fun k_ => (P0_ k_ ∨ w.heap.size ≤ k_) ∧ some k_ ≠ (u3 : Value).ownBlock ∧ k_ ≠ gb205) (.slice A204_2 ((rd_T43 l0 x5_1).f2).length c204_2) ((rd_T43 l0 x5_1).f2)):=⟨(by rw [hw];exact (by (with_reducible repeat (first | apply Kd.V_alloc | apply Kd.V_drewN | apply Kd.V_drew));exact Kd.V_mono (Kd.V_far (p:=⟨gb205,1,none⟩) (Kd.V_mono HL204_2.out (fun k_ hk => (⟨hk,hk.2.2⟩ : _ ∧ k_ ≠ gb205))) (fun _ hk => hk.2) (.int .i64 x4_1)) (fun _ hk => ⟨hk.1.1,⟨hk.1.2.1,hk.1.2.2⟩⟩)))⟩;have n3_ : Aside0 (Kd.V k124 124 w22 w.heap.size (fun k_ => (P0_ k_ ∨ w.heap.size ≤ k_) ∧ some k_ ≠ (u3 : Value).ownBlock ∧ k_ ≠ gb205) (.slice A204_3 ((rd_T43 l0 x5_1).f3).length c204_3) ((rd_T43 l0 x5_1).f3)):=⟨(by rw [hw];exact (by (with_reducible repeat (first | apply Kd.V_alloc | apply Kd.V_drewN | apply Kd.V_drew));exact Kd.V_mono (Kd.V_far (p:=⟨gb205,1,none⟩) (Kd.V_mono HL204_3.out (fun k_ hk => (⟨hk,hk.2.2⟩ : _ ∧ k_ ≠ gb205))) (fun _ hk => hk.2) (.int .i64 x4_1)) (fun _ hk => ⟨hk.1.1,⟨hk.1.2.1,hk.1.2.2⟩⟩)))⟩;have n4_ : Aside0 (Kd.V (Kd.int .i64) 3 w22 w.heap.size (fun k_ => (P0_ k_ ∨ w.heap.size ≤ k_) ∧ some k_ ≠ (u3 : Value).ownBlock ∧ k_ ≠ gb205) (.slice A204_4 ((rd_T43 l0 x5_1).f4).length c204_4) ((rd_T43 l0 x5_1).f4)):=⟨(by rw [hw];exact (by (with_reducible repeat (first | apply Kd.V_alloc | apply Kd.V_drewN | apply Kd.V_drew));exact Kd.V_mono (Kd.V_far (p:=⟨gb205,1,none⟩) (Kd.V_mono HL204_4.out (fun k_ hk => (⟨hk,hk.2.2⟩ : _ ∧ k_ ≠ gb205))) (fun _ hk => hk.2) (.int .i64 x4_1)) (fun _ hk => ⟨hk.1.1,⟨hk.1.2.1,hk.1.2.2⟩⟩)))⟩;have n5_ : Aside0 (w22.heap[gb205]? = some (.cells #[.int .i64 ((rd_T43 l0 x5_1).f0),.int .i64 x4_1,.slice A204_2 ((rd_T43 l0 x5_1).f2).length c204_2,.slice A204_3 ((rd_T43 l0 x5_1).f3).length c204_3,.slice A204_4 ((rd_T43 l0 x5_1).f4).length c204_4] 43 (0,0))):=⟨(by rw [hw];exact (by (with_reducible repeat (first | refine blk_drewN ?_ _ | refine blk_drew ?_ | refine blk_alloc ?_ _));refine blk_put (cs:=#[.int .i64 ((rd_T43 l0 x5_1).f0),.int .i64 ((rd_T43 l0 x5_1).f1),.slice A204_2 ((rd_T43 l0 x5_1).f2).length c204_2,.slice A204_3 ((rd_T43 l0 x5_1).f3).length c204_3,.slice A204_4 ((rd_T43 l0 x5_1).f4).length c204_4]) ?_ 1 _ rfl;(with_reducible repeat (first | refine blk_drewN ?_ _ | refine blk_drew ?_ | refine blk_alloc ?_ _));exact BK205.out))⟩;have n6_ : Aside0 (Below w.heap.size w w22):=⟨(by rw [hw];exact (by repeat (first | (with_reducible first | exact HB.out | apply below_alloc | apply pw_below_drewN | apply below_drew1 | refine below_set ?_ GE205.out) | exact HB.out)))⟩;clear hw;clear HO_0;clear HO_3;clear HL204_2;clear HL204_3;clear HL204_4;clear BK205;clear HB;have HO_0:=n0_;have HO_3:=n1_;have HL204_2:=n2_;have HL204_3:=n3_;have HL204_4:=n4_;have BK205:=n5_;have HB:=n6_;clear n0_ n1_ n2_ n3_ n4_ n5_ n6_;obtain ⟨hcz23_0,hcz23_1,hcz23_2,hcz23_3,hcz23_4⟩:=blkc_5 BK205.out;obtain ⟨hfz23_0,hfz23_1,hfz23_2,hfz23_3⟩:=blkz_4 BK205.out;have hfz23_4:=blk_frozen BK205.out 4) | ((with_reducible refine gate_builtin (b:=.append) (xs:=#[.tmp 34,.tmp 36]) rfl ?_);at_builtin;refine Kd.N_append k43 (w0:=w) w.heap.size rfl (.tmp 34) (.tmp 36) 36 43 (.agg #[(.int .i64 0),(.int .i64 0),(.slice none 0 0),(.slice none 0 0),(.slice none 0 0)]) 88 rfl Try.underlying36 info43 rfl (by decide) (by omega) u3 x3_1 (⟨(rd_T43 l0 x5_1).f0,x4_1,(rd_T43 l0 x5_1).f2,(rd_T43 l0 x5_1).f3,(rd_T43 l0 x5_1).f4⟩ : S43) [.int .i64 ((rd_T43 l0 x5_1).f0),.int .i64 x4_1,.slice A204_2 ((rd_T43 l0 x5_1).f2).length c204_2,.slice A204_3 ((rd_T43 l0 x5_1).f3).length c204_3,.slice A204_4 ((rd_T43 l0 x5_1).f4).length c204_4] (fun k_ => (P0_ k_ ∨ w.heap.size ≤ k_) ∧ k_ ≠ gb205) (fun k_ => ((fun k_ => (P0_ k_ ∨ w.heap.size ≤ k_) ∧ k_ ≠ gb205)) k_ ∧ some k_ ≠ (u3 : Value).ownBlock) rfl rfl ?aP (fun _ hk => hk) ?aF ?aO ?aB ?aS ?aL ?_;(case aP => exact (k43_mkF _ _ (⟨(rd_T43 l0 x5_1).f0,x4_1,(rd_T43 l0 x5_1).f2,(rd_T43 l0 x5_1).f3,(rd_T43 l0 x5_1).f4⟩ : S43) (Kd.V_reads' (Kd.V_mono (ok':=(fun k_ => ((fun k_ => (P0_ k_ ∨ w.heap.size ≤ k_) ∧ k_ ≠ gb205)) k_ ∧ some k_ ≠ (u3 : Value).ownBlock)) (HL204_2.out) (fun k_ hk => ⟨⟨hk.1,hk.2.2⟩,hk.2.1⟩))).2.1 (Kd.V_F (Kd.V_mono (ok':=(fun k_ => ((fun k_ => (P0_ k_ ∨ w.heap.size ≤ k_) ∧ k_ ≠ gb205)) k_ ∧ some k_ ≠ (u3 : Value).ownBlock)) (HL204_2.out) (fun k_ hk => ⟨⟨hk.1,hk.2.2⟩,hk.2.1⟩))) (Kd.V_reads' (Kd.V_mono (ok':=(fun k_ => ((fun k_ => (P0_ k_ ∨ w.heap.size ≤ k_) ∧ k_ ≠ gb205)) k_ ∧ some k_ ≠ (u3 : Value).ownBlock)) (HL204_3.out) (fun k_ hk => ⟨⟨hk.1,hk.2.2⟩,hk.2.1⟩))).2.1 (Kd.V_F (Kd.V_mono (ok':=(fun k_ => ((fun k_ => (P0_ k_ ∨ w.heap.size ≤ k_) ∧ k_ ≠ gb205)) k_ ∧ some k_ ≠ (u3 : Value).ownBlock)) (HL204_3.out) (fun k_ hk => ⟨⟨hk.1,hk.2.2⟩,hk.2.1⟩))) (Kd.V_reads' (Kd.V_mono (ok':=(fun k_ => ((fun k_ => (P0_ k_ ∨ w.heap.size ≤ k_) ∧ k_ ≠ gb205)) k_ ∧ some k_ ≠ (u3 : Value).ownBlock)) (HL204_4.out) (fun k_ hk => ⟨⟨hk.1,hk.2.2⟩,hk.2.1⟩))).2.1 (Kd.V_F (Kd.V_mono (ok':=(fun k_ => ((fun k_ => (P0_ k_ ∨ w.heap.size ≤ k_) ∧ k_ ≠ gb205)) k_ ∧ some k_ ≠ (u3 : Value).ownBlock)) (HL204_4.out) (fun k_ hk => ⟨⟨hk.1,hk.2.2⟩,hk.2.1⟩)))));(case aB => exact (by repeat (first | (with_reducible first | exact HB.out | apply below_alloc | apply pw_below_drewN | apply below_drew1 | refine below_set ?_ GE205.out) | exact HB.out)));(case aF => exact (fun k_ hk => ⟨(.inr (Nat.le_trans (below_size (by repeat (first | (with_reducible first | exact HB.out | apply below_alloc | apply pw_below_drewN | apply below_drew1 | refine below_set ?_ GE205.out) | exact HB.out))) hk)),Kd.freshB (g:=gb205) (o:=.cells #[.int .i64 ((rd_T43 l0 x5_1).f0),.int .i64 x4_1,.slice A204_2 ((rd_T43 l0 x5_1).f2).length c204_2,.slice A204_3 ((rd_T43 l0 x5_1).f3).length c204_3,.slice A204_4 ((rd_T43 l0 x5_1).f4).length c204_4] 43 (0,0)) (by (with_reducible repeat (first | refine blk_drewN ?_ _ | refine blk_drew ?_ | refine blk_alloc ?_ _));exact BK205.out) k_ hk⟩));(case aO => exact (by (with_reducible repeat (first | apply Kd.N_alloc | apply Kd.N_drewN | apply Kd.N_drew));exact HO_3.out));(case aS => exact (below_size (by repeat (first | (with_reducible first | exact HB.out | apply below_alloc | apply pw_below_drewN | apply below_drew1 | refine below_set ?_ GE205.out) | exact HB.out))));(case aL => have:=LMc17.out;omega);intro v210 w24 ho hb hg hat;rw [← Ny209.out] at ho;have n0_:=Aside0.mk (Kd.V_afterv (ok:=(fun k_ => (P0_ k_ ∨ w.heap.size ≤ k_) ∧ k_ ≠ gb205)) (by (with_reducible repeat (first | apply Kd.V_alloc | apply Kd.V_drewN | apply Kd.V_drew));exact Kd.V_mono HO_0.out (fun _ hk => ⟨⟨hk.1,hk.2.2⟩,hk.2.1⟩)) hg hat);have n1_:=Aside0.mk (Kd.V_afterv (ok:=(fun k_ => (P0_ k_ ∨ w.heap.size ≤ k_) ∧ k_ ≠ gb205)) (by (with_reducible repeat (first | apply Kd.V_alloc | apply Kd.V_drewN | apply Kd.V_drew));exact Kd.V_mono HL204_2.out (fun _ hk => ⟨⟨hk.1,hk.2.2⟩,hk.2.1⟩)) hg hat);have n2_:=Aside0.mk (Kd.V_afterv (ok:=(fun k_ => (P0_ k_ ∨ w.heap.size ≤ k_) ∧ k_ ≠ gb205)) (by (with_reducible repeat (first | apply Kd.V_alloc | apply Kd.V_drewN | apply Kd.V_drew));exact Kd.V_mono HL204_3.out (fun _ hk => ⟨⟨hk.1,hk.2.2⟩,hk.2.1⟩)) hg hat);have n3_:=Aside0.mk (Kd.V_afterv (ok:=(fun k_ => (P0_ k_ ∨ w.heap.size ≤ k_) ∧ k_ ≠ gb205)) (by (with_reducible repeat (first | apply Kd.V_alloc | apply Kd.V_drewN | apply Kd.V_drew));exact Kd.V_mono HL204_4.out (fun _ hk => ⟨⟨hk.1,hk.2.2⟩,hk.2.1⟩)) hg hat);have n4_:=Aside0.mk (blk_grown (g:=gb205) (o:=.cells #[.int .i64 ((rd_T43 l0 x5_1).f0),.int .i64 x4_1,.slice A204_2 ((rd_T43 l0 x5_1).f2).length c204_2,.slice A204_3 ((rd_T43 l0 x5_1).f3).length c204_3,.slice A204_4 ((rd_T43 l0 x5_1).f4).length c204_4] 43 (0,0)) (by (with_reducible repeat (first | refine blk_drewN ?_ _ | refine blk_drew ?_ | refine blk_alloc ?_ _));exact BK205.out) hg (Kd.N_away HO_3.out (fun _ hk => hk.2)));have n5_:=Aside0.mk (hb);have n6_:=Aside0.mk (ho);clear HO_0;clear HL204_2;clear HL204_3;clear HL204_4;clear BK205;clear HB;clear HO_3;have HO_0:=n0_;have HL204_2:=n1_;have HL204_3:=n2_;have HL204_4:=n3_;have BK205:=n4_;have HB:=n5_;have HO211:=n6_;clear n0_ n1_ n2_ n3_ n4_ n5_ n6_;clear ho hb hg hat)))
        go_roundg k1
        case measure => have:=HK1.out;omega
        case rel => exact ⟨(y209),(x4_1),(wrap64 (x5_1 + 1)),(by first | rfl | (simp;done) | (simp [*];done)),(by first | rfl | (simp;done) | (simp [*];done)),H',⟨by have:=HK1.out;omega⟩,⟨by (with_reducible repeat (first | apply Kd.V_alloc | apply Kd.V_drewN | apply Kd.V_drew));exact Kd.V_mono HO_0.out (fun _ hk => ⟨hk.1.1,hk.2⟩)⟩,⟨by (with_reducible repeat (first | apply Kd.N_alloc | apply Kd.N_drewN | apply Kd.N_drew));exact Kd.N_mono HO211.out (fun _ hk => hk.1)⟩,⟨by repeat (first | (with_reducible first | exact HB.out | apply below_alloc | apply pw_below_drewN | apply below_drew1 | refine below_set ?_ GE205.out) | exact HB.out)⟩⟩
       ·rw [if_neg c17] at H
        exact absurd H (by simp)
     ·rw [if_neg c7] at H
      exact absurd H (by simp)
    ·rw [if_neg c6] at H
     have c6b0 : decide (x5_1 < (l0.length : Int)) = false:=decide_eq_false c6
     clear c6
     replace H:=Option.bind_eq_some_iff.mp H
     obtain ⟨t212,A250,H⟩:=H
     replace H : (humuslaw26_DsgAlone.l1 k1 x3_1 t212 0) = some r:=H
     have A25:=Aside0.mk A250
     clear A250
     have H':=Aside0.mk H
     clear H
     obtain ⟨Ao26,co26,eo26⟩:=Kd.N_slice HO_3.out
     subst eo26
     go_wp2_with (first | (go_at_call 21;(with_reducible refine (dsg_Edges.calls k1 _ _ x3_1 t212 _ ?side1 ?side2 A25.out).mono ?_);(case side1 => repeat (first | exact (Kd.N_reads' HO_3.out).2.2 | (with_reducible refine Kd.C_alloc ?_ _) | (with_reducible refine Kd.C_drewN ?_ _) | (with_reducible refine Kd.C_drew ?_)));(case side2 => exact (Kd.N_reads' HO_3.out).2.1);rintro e w27 ⟨v213,rfl,ho0,hb⟩;have n0_:=Aside0.mk (Kd.V_elder' (by (with_reducible repeat (first | apply Kd.V_alloc | apply Kd.V_drewN | apply Kd.V_drew));exact HO_0.out) (Kd.R_base ho0) hb);have n1_:=Aside0.mk (Kd.N_elder' (by (with_reducible repeat (first | apply Kd.N_alloc | apply Kd.N_drewN | apply Kd.N_drew));exact HO_3.out) (Kd.R_base ho0) hb);have n2_:=Aside0.mk (Kd.R_lower (Kd.R_newM (M:=fun k_ => (w.heap.size ≤ k_)) ho0 (below_size (by repeat (first | (with_reducible first | exact HB.out | apply below_alloc | apply pw_below_drewN | apply below_drew1) | exact HB.out))) (fun k_ h_ => h_)) (below_size (by repeat (first | (with_reducible first | exact HB.out | apply below_alloc | apply pw_below_drewN | apply below_drew1) | exact HB.out))));have n3_:=Aside0.mk (below_step (by repeat (first | (with_reducible first | exact HB.out | apply below_alloc | apply pw_below_drewN | apply below_drew1) | exact HB.out)) hb);clear HO_0;clear HO_3;clear HB;have HO_0:=n0_;have HO_3:=n1_;have HO214:=n2_;have HB:=n3_;clear n0_ n1_ n2_ n3_;(try clear hb);(try clear hb2);(try clear hk);(try clear hi);(try clear ho0)))
     repeat (go_quiet (first | (go_at_call 21;(with_reducible refine (dsg_Edges.calls k1 _ _ x3_1 t212 _ ?side1 ?side2 A25.out).mono ?_);(case side1 => repeat (first | exact (Kd.N_reads' HO_3.out).2.2 | (with_reducible refine Kd.C_alloc ?_ _) | (with_reducible refine Kd.C_drewN ?_ _) | (with_reducible refine Kd.C_drew ?_)));(case side2 => exact (Kd.N_reads' HO_3.out).2.1);rintro e w27 ⟨v213,rfl,ho0,hb⟩;have n0_:=Aside0.mk (Kd.V_elder' (by (with_reducible repeat (first | apply Kd.V_alloc | apply Kd.V_drewN | apply Kd.V_drew));exact HO_0.out) (Kd.R_base ho0) hb);have n1_:=Aside0.mk (Kd.N_elder' (by (with_reducible repeat (first | apply Kd.N_alloc | apply Kd.N_drewN | apply Kd.N_drew));exact HO_3.out) (Kd.R_base ho0) hb);have n2_:=Aside0.mk (Kd.R_lower (Kd.R_newM (M:=fun k_ => (w.heap.size ≤ k_)) ho0 (below_size (by repeat (first | (with_reducible first | exact HB.out | apply below_alloc | apply pw_below_drewN | apply below_drew1) | exact HB.out))) (fun k_ h_ => h_)) (below_size (by repeat (first | (with_reducible first | exact HB.out | apply below_alloc | apply pw_below_drewN | apply below_drew1) | exact HB.out))));have n3_:=Aside0.mk (below_step (by repeat (first | (with_reducible first | exact HB.out | apply below_alloc | apply pw_below_drewN | apply below_drew1) | exact HB.out)) hb);clear HO_0;clear HO_3;clear HB;have HO_0:=n0_;have HO_3:=n1_;have HO214:=n2_;have HB:=n3_;clear n0_ n1_ n2_ n3_;(try clear hb);(try clear hb2);(try clear hk);(try clear hi);(try clear ho0)));try go_wp2_with (first | (go_at_call 21;(with_reducible refine (dsg_Edges.calls k1 _ _ x3_1 t212 _ ?side1 ?side2 A25.out).mono ?_);(case side1 => repeat (first | exact (Kd.N_reads' HO_3.out).2.2 | (with_reducible refine Kd.C_alloc ?_ _) | (with_reducible refine Kd.C_drewN ?_ _) | (with_reducible refine Kd.C_drew ?_)));(case side2 => exact (Kd.N_reads' HO_3.out).2.1);rintro e w27 ⟨v213,rfl,ho0,hb⟩;have n0_:=Aside0.mk (Kd.V_elder' (by (with_reducible repeat (first | apply Kd.V_alloc | apply Kd.V_drewN | apply Kd.V_drew));exact HO_0.out) (Kd.R_base ho0) hb);have n1_:=Aside0.mk (Kd.N_elder' (by (with_reducible repeat (first | apply Kd.N_alloc | apply Kd.N_drewN | apply Kd.N_drew));exact HO_3.out) (Kd.R_base ho0) hb);have n2_:=Aside0.mk (Kd.R_lower (Kd.R_newM (M:=fun k_ => (w.heap.size ≤ k_)) ho0 (below_size (by repeat (first | (with_reducible first | exact HB.out | apply below_alloc | apply pw_below_drewN | apply below_drew1) | exact HB.out))) (fun k_ h_ => h_)) (below_size (by repeat (first | (with_reducible first | exact HB.out | apply below_alloc | apply pw_below_drewN | apply below_drew1) | exact HB.out))));have n3_:=Aside0.mk (below_step (by repeat (first | (with_reducible first | exact HB.out | apply below_alloc | apply pw_below_drewN | apply below_drew1) | exact HB.out)) hb);clear HO_0;clear HO_3;clear HB;have HO_0:=n0_;have HO_3:=n1_;have HO214:=n2_;have HB:=n3_;clear n0_ n1_ n2_ n3_;(try clear hb);(try clear hb2);(try clear hk);(try clear hi);(try clear ho0))))
     go_loopg [8] k1 (fun kq v8 w' => ∃ (x8_2 : Int),v8 = .int .i64 x8_2 ∧ Aside0 (humuslaw26_DsgAlone.l1 kq x3_1 t212 x8_2 = some r) ∧ Aside0 (kq ≤ k1) ∧ Aside0 (Kd.N k43 43 w' w.heap.size (fun k_ => (P0_ k_ ∨ w.heap.size ≤ k_) ∧ some k_ ≠ (v213 : Value).ownBlock) (.slice Ao26 x3_1.length co26) x3_1) ∧ Aside0 (Kd.R k33 33 w' w.heap.size (fun k_ => (w.heap.size ≤ k_)) v213 t212) ∧ Aside0 (Below w.heap.size w w'))
     case atStart => exact ⟨(0),(by first | rfl | (simp;done) | (simp [*];done)),H',⟨Nat.le_refl _⟩,⟨by (with_reducible repeat (first | apply Kd.N_alloc | apply Kd.N_drewN | apply Kd.N_drew));exact HO_3.out⟩,⟨by (with_reducible repeat (first | apply Kd.R_alloc | apply Kd.R_drewN | apply Kd.R_drew));exact Kd.R_mono HO214.out (fun _ hk => hk.1)⟩,⟨by repeat (first | (with_reducible first | exact HB.out | apply below_alloc | apply pw_below_drewN | apply below_drew1) | exact HB.out)⟩⟩
     case round =>
      clear H'
      try clear c1
      try clear c2
      try clear p2
      try clear q2
      try clear hx2
      try clear c3
      try clear c6
      try clear c6b0
      try clear p6
      try clear c7
      try clear c7b0
      try clear c8
      try clear c8b0
      try clear c8b1
      try clear c9
      try clear c17
      try clear c20
      try clear p20
      try clear q20
      try clear hx20
      try clear hcz11_0
      try clear hcz11_1
      try clear hcz11_2
      try clear hcz11_3
      try clear hcz11_4
      try clear hcz13_0
      try clear hcz13_1
      try clear hcz13_2
      try clear hcz13_3
      try clear hcz13_4
      try clear hcz15_0
      try clear hcz15_1
      try clear hcz15_2
      try clear hcz15_3
      try clear hcz15_4
      try clear hcz19_0
      try clear hcz19_1
      try clear hcz19_2
      try clear hcz19_3
      try clear hcz19_4
      try clear hcz21_0
      try clear hcz21_1
      try clear hcz21_2
      try clear hcz21_3
      try clear hcz21_4
      try clear hcz23_0
      try clear hcz23_1
      try clear hcz23_2
      try clear hcz23_3
      try clear hcz23_4
      try clear hfz11_0
      try clear hfz11_1
      try clear hfz11_2
      try clear hfz11_3
      try clear hfz11_4
      try clear hfz13_0
      try clear hfz13_1
      try clear hfz13_2
      try clear hfz13_3
      try clear hfz13_4
      try clear hfz15_0
      try clear hfz15_1
      try clear hfz15_2
      try clear hfz15_3
      try clear hfz15_4
      try clear hfz19_0
      try clear hfz19_1
      try clear hfz19_2
      try clear hfz19_3
      try clear hfz19_4
      try clear hfz21_0
      try clear hfz21_1
      try clear hfz21_2
      try clear hfz21_3
      try clear hfz21_4
      try clear hfz23_0
      try clear hfz23_1
      try clear hfz23_2
      try clear hfz23_3
      try clear hfz23_4
      try clear hx204_0
      try clear hx204_1
      try clear hx204_2
      try clear hx204_3
      try clear hx204_4
      try clear p2
      try clear p204
      try clear q204
      obtain ⟨x8_2,rfl,HA,HK2,HO_3,HO_7,HB⟩:=hrel
      cases gk with
      | zero => exact absurd HA.out (by simp [humuslaw26_DsgAlone.l1])
      | succ k2 =>
       have H:=HA.out
       clear HA
       simp only [humuslaw26_DsgAlone.l1] at H
       by_cases c28 : x8_2 < (t212.length : Int)
       ·rw [if_pos c28] at H
        have c28b0 : decide (x8_2 < (t212.length : Int)) = true:=decide_eq_true c28
        clear c28
        by_cases c29 : 0 ≤ x8_2
        ·rw [if_pos c29] at H
         have c29b0 : decide (0 ≤ x8_2) = true:=decide_eq_true c29
         clear c29
         by_cases c30 : ((rd_T33 t212 x8_2).f0) ≥ ((rd_T33 t212 x8_2).f1)
         ·rw [if_pos c30] at H
          exact absurd H (by simp)
         ·rw [if_neg c30] at H
          have c30b0 : decide (((rd_T33 t212 x8_2).f1) ≤ ((rd_T33 t212 x8_2).f0)) = false:=decide_eq_false c30
          clear c30
          have H':=Aside0.mk H
          clear H
          obtain ⟨Ao31,co31,eo31⟩:=Kd.R_slice HO_7.out
          subst eo31
          have p215 : 0 ≤ (x8_2 : Int):=of_decide_eq_true (by first | (with_reducible assumption) | assumption)
          have q215 : x8_2 < (t212.length : Int):=of_decide_eq_true (by first | (with_reducible assumption) | assumption)
          obtain ⟨ad215,e215,hx215_0,hx215_1⟩:=at_T33 (Kd.R_reads' HO_7.out).2.2 x8_2 p215 q215
          cases e215
          replace p215:=eq_true p215
          replace q215:=eq_true q215
          have p216 : 0 ≤ (x8_2 : Int):=of_decide_eq_true (by first | (with_reducible assumption) | assumption)
          have q216 : x8_2 < (t212.length : Int):=of_decide_eq_true (by first | (with_reducible assumption) | assumption)
          obtain ⟨ad216,e216,hx216_0,hx216_1⟩:=at_T33 (Kd.R_reads' HO_7.out).2.2 x8_2 p216 q216
          obtain rfl : ad215 = ad216:=(by injection e216)
          replace p216:=eq_true p216
          replace q216:=eq_true q216
          go_wp2
          repeat (go_quiet (fail);try go_wp2)
          go_roundg k2
          case measure => have:=HK1.out;have:=HK2.out;omega
          case rel => exact ⟨(wrap64 (x8_2 + 1)),(by first | rfl | (simp;done) | (simp [*];done)),H',⟨by have:=HK1.out;have:=HK2.out;omega⟩,⟨by (with_reducible repeat (first | apply Kd.N_alloc | apply Kd.N_drewN | apply Kd.N_drew));exact HO_3.out⟩,⟨by (with_reducible repeat (first | apply Kd.R_alloc | apply Kd.R_drewN | apply Kd.R_drew));exact HO_7.out⟩,⟨by repeat (first | (with_reducible first | exact HB.out | apply below_alloc | apply pw_below_drewN | apply below_drew1) | exact HB.out)⟩⟩
        ·rw [if_neg c29] at H
         exact absurd H (by simp)
       ·rw [if_neg c28] at H
        have c28b0 : decide (x8_2 < (t212.length : Int)) = false:=decide_eq_false c28
        clear c28
        replace H:=Option.bind_eq_some_iff.mp H
        obtain ⟨⟨t217,t218⟩,A320,H⟩:=H
        replace H : (if t218 = true then ((humuslaw26_awake.f k2).bind fun t221 => (humuslaw26_DsgAlone.j2 k2 t221)) else (none)) = some r:=H
        have A32:=Aside0.mk A320
        clear A320
        have HC33:=Aside0.mk H
        clear H
        obtain ⟨Ao34,co34,eo34⟩:=Kd.R_slice HO_7.out
        subst eo34
        go_upto_region 20 with (first | (go_at_call 14;(with_reducible refine (dsg_Order.calls k2 (x3_1.length : Int) _ _ t212 t217 t218 _ ?side1 ?side2 A32.out).mono ?_);(case side1 => repeat (first | exact (Kd.R_reads' HO_7.out).2.2 | (with_reducible refine Kd.C_alloc ?_ _) | (with_reducible refine Kd.C_drewN ?_ _) | (with_reducible refine Kd.C_drew ?_)));(case side2 => exact (Kd.R_reads' HO_7.out).2.1);rintro e w35 ⟨v219,rfl,ho0,hb⟩;have n0_:=Aside0.mk (Kd.N_elder' (by (with_reducible repeat (first | apply Kd.N_alloc | apply Kd.N_drewN | apply Kd.N_drew));exact HO_3.out) (Kd.R_base ho0) hb);have n1_:=Aside0.mk (Kd.R_below (by (with_reducible repeat (first | apply Kd.R_alloc | apply Kd.R_drewN | apply Kd.R_drew));exact HO_7.out) hb);have n2_:=Aside0.mk (Kd.R_lower (Kd.R_newM (M:=fun k_ => (w.heap.size ≤ k_)) ho0 (below_size (by repeat (first | (with_reducible first | exact HB.out | apply below_alloc | apply pw_below_drewN | apply below_drew1) | exact HB.out))) (fun k_ h_ => h_)) (below_size (by repeat (first | (with_reducible first | exact HB.out | apply below_alloc | apply pw_below_drewN | apply below_drew1) | exact HB.out))));have n3_:=Aside0.mk (below_step (by repeat (first | (with_reducible first | exact HB.out | apply below_alloc | apply pw_below_drewN | apply below_drew1) | exact HB.out)) hb);clear HO_3;clear HO_7;clear HB;have HO_3:=n0_;have HO_7:=n1_;have HO220:=n2_;have HB:=n3_;clear n0_ n1_ n2_ n3_;(try clear hb);(try clear hb2);(try clear hk);(try clear hi);(try clear ho0)))
        repeat (go_quiet (first | (go_at_call 14;(with_reducible refine (dsg_Order.calls k2 (x3_1.length : Int) _ _ t212 t217 t218 _ ?side1 ?side2 A32.out).mono ?_);(case side1 => repeat (first | exact (Kd.R_reads' HO_7.out).2.2 | (with_reducible refine Kd.C_alloc ?_ _) | (with_reducible refine Kd.C_drewN ?_ _) | (with_reducible refine Kd.C_drew ?_)));(case side2 => exact (Kd.R_reads' HO_7.out).2.1);rintro e w35 ⟨v219,rfl,ho0,hb⟩;have n0_:=Aside0.mk (Kd.N_elder' (by (with_reducible repeat (first | apply Kd.N_alloc | apply Kd.N_drewN | apply Kd.N_drew));exact HO_3.out) (Kd.R_base ho0) hb);have n1_:=Aside0.mk (Kd.R_below (by (with_reducible repeat (first | apply Kd.R_alloc | apply Kd.R_drewN | apply Kd.R_drew));exact HO_7.out) hb);have n2_:=Aside0.mk (Kd.R_lower (Kd.R_newM (M:=fun k_ => (w.heap.size ≤ k_)) ho0 (below_size (by repeat (first | (with_reducible first | exact HB.out | apply below_alloc | apply pw_below_drewN | apply below_drew1) | exact HB.out))) (fun k_ h_ => h_)) (below_size (by repeat (first | (with_reducible first | exact HB.out | apply below_alloc | apply pw_below_drewN | apply below_drew1) | exact HB.out))));have n3_:=Aside0.mk (below_step (by repeat (first | (with_reducible first | exact HB.out | apply below_alloc | apply pw_below_drewN | apply below_drew1) | exact HB.out)) hb);clear HO_3;clear HO_7;clear HB;have HO_3:=n0_;have HO_7:=n1_;have HO220:=n2_;have HB:=n3_;clear n0_ n1_ n2_ n3_;(try clear hb);(try clear hb2);(try clear hk);(try clear hi);(try clear ho0)));go_upto_region 20 with (first | (go_at_call 14;(with_reducible refine (dsg_Order.calls k2 (x3_1.length : Int) _ _ t212 t217 t218 _ ?side1 ?side2 A32.out).mono ?_);(case side1 => repeat (first | exact (Kd.R_reads' HO_7.out).2.2 | (with_reducible refine Kd.C_alloc ?_ _) | (with_reducible refine Kd.C_drewN ?_ _) | (with_reducible refine Kd.C_drew ?_)));(case side2 => exact (Kd.R_reads' HO_7.out).2.1);rintro e w35 ⟨v219,rfl,ho0,hb⟩;have n0_:=Aside0.mk (Kd.N_elder' (by (with_reducible repeat (first | apply Kd.N_alloc | apply Kd.N_drewN | apply Kd.N_drew));exact HO_3.out) (Kd.R_base ho0) hb);have n1_:=Aside0.mk (Kd.R_below (by (with_reducible repeat (first | apply Kd.R_alloc | apply Kd.R_drewN | apply Kd.R_drew));exact HO_7.out) hb);have n2_:=Aside0.mk (Kd.R_lower (Kd.R_newM (M:=fun k_ => (w.heap.size ≤ k_)) ho0 (below_size (by repeat (first | (with_reducible first | exact HB.out | apply below_alloc | apply pw_below_drewN | apply below_drew1) | exact HB.out))) (fun k_ h_ => h_)) (below_size (by repeat (first | (with_reducible first | exact HB.out | apply below_alloc | apply pw_below_drewN | apply below_drew1) | exact HB.out))));have n3_:=Aside0.mk (below_step (by repeat (first | (with_reducible first | exact HB.out | apply below_alloc | apply pw_below_drewN | apply below_drew1) | exact HB.out)) hb);clear HO_3;clear HO_7;clear HB;have HO_3:=n0_;have HO_7:=n1_;have HO220:=n2_;have HB:=n3_;clear n0_ n1_ n2_ n3_;(try clear hb);(try clear hb2);(try clear hk);(try clear hi);(try clear ho0))))
        (try simp only [Act.put,List.setIfInBounds_toArray,List.set_cons_zero,List.set_cons_succ])
        go_cut [2] (fun v2 wc => ∃ (kq : Nat) (x2_32 : Bool),v2 = .bool x2_32 ∧ Aside0 (humuslaw26_DsgAlone.j2 kq x2_32 = some r) ∧ Aside0 (kq ≤ k2) ∧ Aside0 (Below w.heap.size w wc))
        case first =>
         have H:=HC33.out
         clear HC33
         by_cases c36 : t218 = true
         ·subst c36
          have H1 : ((humuslaw26_awake.f k2).bind fun t221 => (humuslaw26_DsgAlone.j2 k2 t221)) = some r:=by rw [if_pos rfl] at H;exact H
          clear H
          have H:=H1
          clear H1
          replace H:=Option.bind_eq_some_iff.mp H
          obtain ⟨t221,A370,H⟩:=H
          replace H : (humuslaw26_DsgAlone.j2 k2 t221) = some r:=H
          have A37:=Aside0.mk A370
          clear A370
          have H':=Aside0.mk H
          clear H
          go_wp2_with (first | (go_at_call 13;(with_reducible refine (humuslaw26_awake.calls k2  t221 _ A37.out).mono ?_);rintro e w38 ⟨rfl,hb⟩;have n0_:=Aside0.mk (Kd.N_below (by (with_reducible repeat (first | apply Kd.N_alloc | apply Kd.N_drewN | apply Kd.N_drew));exact HO_3.out) hb);have n1_:=Aside0.mk (Kd.R_below (by (with_reducible repeat (first | apply Kd.R_alloc | apply Kd.R_drewN | apply Kd.R_drew));exact HO_7.out) hb);have n2_:=Aside0.mk (Kd.R_below (by (with_reducible repeat (first | apply Kd.R_alloc | apply Kd.R_drewN | apply Kd.R_drew));exact HO220.out) hb);have n3_:=Aside0.mk (below_step (by repeat (first | (with_reducible first | exact HB.out | apply below_alloc | apply pw_below_drewN | apply below_drew1) | exact HB.out)) hb);clear HO_3;clear HO_7;clear HO220;clear HB;have HO_3:=n0_;have HO_7:=n1_;have HO220:=n2_;have HB:=n3_;clear n0_ n1_ n2_ n3_;(try clear hb);(try clear hb2);(try clear hk);(try clear hi)))
          repeat (go_quiet (first | (go_at_call 13;(with_reducible refine (humuslaw26_awake.calls k2  t221 _ A37.out).mono ?_);rintro e w38 ⟨rfl,hb⟩;have n0_:=Aside0.mk (Kd.N_below (by (with_reducible repeat (first | apply Kd.N_alloc | apply Kd.N_drewN | apply Kd.N_drew));exact HO_3.out) hb);have n1_:=Aside0.mk (Kd.R_below (by (with_reducible repeat (first | apply Kd.R_alloc | apply Kd.R_drewN | apply Kd.R_drew));exact HO_7.out) hb);have n2_:=Aside0.mk (Kd.R_below (by (with_reducible repeat (first | apply Kd.R_alloc | apply Kd.R_drewN | apply Kd.R_drew));exact HO220.out) hb);have n3_:=Aside0.mk (below_step (by repeat (first | (with_reducible first | exact HB.out | apply below_alloc | apply pw_below_drewN | apply below_drew1) | exact HB.out)) hb);clear HO_3;clear HO_7;clear HO220;clear HB;have HO_3:=n0_;have HO_7:=n1_;have HO220:=n2_;have HB:=n3_;clear n0_ n1_ n2_ n3_;(try clear hb);(try clear hb2);(try clear hk);(try clear hi)));try go_wp2_with (first | (go_at_call 13;(with_reducible refine (humuslaw26_awake.calls k2  t221 _ A37.out).mono ?_);rintro e w38 ⟨rfl,hb⟩;have n0_:=Aside0.mk (Kd.N_below (by (with_reducible repeat (first | apply Kd.N_alloc | apply Kd.N_drewN | apply Kd.N_drew));exact HO_3.out) hb);have n1_:=Aside0.mk (Kd.R_below (by (with_reducible repeat (first | apply Kd.R_alloc | apply Kd.R_drewN | apply Kd.R_drew));exact HO_7.out) hb);have n2_:=Aside0.mk (Kd.R_below (by (with_reducible repeat (first | apply Kd.R_alloc | apply Kd.R_drewN | apply Kd.R_drew));exact HO220.out) hb);have n3_:=Aside0.mk (below_step (by repeat (first | (with_reducible first | exact HB.out | apply below_alloc | apply pw_below_drewN | apply below_drew1) | exact HB.out)) hb);clear HO_3;clear HO_7;clear HO220;clear HB;have HO_3:=n0_;have HO_7:=n1_;have HO220:=n2_;have HB:=n3_;clear n0_ n1_ n2_ n3_;(try clear hb);(try clear hb2);(try clear hk);(try clear hi))))
          go_meet
          case rel => exact ⟨_,(t221),(by first | rfl | (simp;done) | (simp [*];done)),H',⟨by have:=HK1.out;have:=HK2.out;first | omega | exact Nat.le_refl _⟩,⟨by repeat (first | (with_reducible first | exact HB.out | apply below_alloc | apply pw_below_drewN | apply below_drew1) | exact HB.out)⟩⟩
         ·replace c36:=Bool.eq_false_iff.mpr c36
          subst c36
          have H1 : (none) = some r:=by rw [if_neg (show ¬ (false = true) by decide)] at H;exact H
          clear H
          have H:=H1
          clear H1
          exact absurd H (by simp)
        case rest =>
         clear HC33
         try clear c1
         try clear c2
         try clear p2
         try clear q2
         try clear hx2
         try clear c3
         try clear c6
         try clear c6b0
         try clear p6
         try clear c7
         try clear c7b0
         try clear c8
         try clear c8b0
         try clear c8b1
         try clear c9
         try clear c17
         try clear c20
         try clear p20
         try clear q20
         try clear hx20
         try clear p21
         try clear q21
         try clear hx21
         try clear c28
         try clear c28b0
         try clear c29
         try clear c29b0
         try clear c30
         try clear c30b0
         try clear c36
         try clear hcz11_0
         try clear hcz11_1
         try clear hcz11_2
         try clear hcz11_3
         try clear hcz11_4
         try clear hcz13_0
         try clear hcz13_1
         try clear hcz13_2
         try clear hcz13_3
         try clear hcz13_4
         try clear hcz15_0
         try clear hcz15_1
         try clear hcz15_2
         try clear hcz15_3
         try clear hcz15_4
         try clear hcz19_0
         try clear hcz19_1
         try clear hcz19_2
         try clear hcz19_3
         try clear hcz19_4
         try clear hcz21_0
         try clear hcz21_1
         try clear hcz21_2
         try clear hcz21_3
         try clear hcz21_4
         try clear hcz23_0
         try clear hcz23_1
         try clear hcz23_2
         try clear hcz23_3
         try clear hcz23_4
         try clear hfz11_0
         try clear hfz11_1
         try clear hfz11_2
         try clear hfz11_3
         try clear hfz11_4
         try clear hfz13_0
         try clear hfz13_1
         try clear hfz13_2
         try clear hfz13_3
         try clear hfz13_4
         try clear hfz15_0
         try clear hfz15_1
         try clear hfz15_2
         try clear hfz15_3
         try clear hfz15_4
         try clear hfz19_0
         try clear hfz19_1
         try clear hfz19_2
         try clear hfz19_3
         try clear hfz19_4
         try clear hfz21_0
         try clear hfz21_1
         try clear hfz21_2
         try clear hfz21_3
         try clear hfz21_4
         try clear hfz23_0
         try clear hfz23_1
         try clear hfz23_2
         try clear hfz23_3
         try clear hfz23_4
         try clear hx204_0
         try clear hx204_1
         try clear hx204_2
         try clear hx204_3
         try clear hx204_4
         try clear hx215_0
         try clear hx215_1
         try clear hx216_0
         try clear hx216_1
         try clear p2
         try clear p20
         try clear p204
         try clear p215
         try clear p216
         try clear p6
         try clear q2
         try clear q20
         try clear q204
         try clear q215
         try clear q216
         obtain ⟨kq,x2_32,rfl,HA,HJ32,HB⟩:=hcut
         cases kq with
         | zero => exact absurd HA.out (by simp [humuslaw26_DsgAlone.j2])
         | succ kj32 =>
          have H:=HA.out
          clear HA
          simp only [humuslaw26_DsgAlone.j2] at H
          obtain rfl:=Option.some.inj H
          go_wp2
          repeat (go_quiet (fail);try go_wp2)
          go_ret
          exact ⟨by first | rfl | (simp [errW_none,errW_some] <;> rfl) | (simp [*,errW_none,errW_some] <;> rfl),by repeat (first | (with_reducible first | exact HB.out | apply below_alloc | apply pw_below_drewN | apply below_drew1) | exact HB.out)⟩
 ·replace c3:=Bool.eq_false_iff.mpr c3
  subst c3
  have H1 : ((humuslaw26_awake.f k).bind fun t200 => (some t200)) = some r:=by rw [if_neg (show ¬ (false = true) by decide)] at H;exact H
  clear H
  have H:=H1
  clear H1
  replace H:=Option.bind_eq_some_iff.mp H
  obtain ⟨t200,A390,H⟩:=H
  replace H : (some t200) = some r:=H
  have A39:=Aside0.mk A390
  clear A390
  obtain rfl:=Option.some.inj H
  go_enter Try.func6,Try.ntmps6
  go_wp2_with (first | (go_at_call 17;(with_reducible refine (humuslaw26_Light.calls k _ _ l0 false _ ?side1 ?side2 A2.out).mono ?_);(case side1 => repeat (first | exact (Kd.V_reads' HO0.out).2.2 | (with_reducible refine Kd.C_alloc ?_ _) | (with_reducible refine Kd.C_drewN ?_ _) | (with_reducible refine Kd.C_drew ?_)));(case side2 => exact (Kd.V_reads' HO0.out).2.1);rintro e w' ⟨rfl,⟨nd,rfl⟩⟩;(try first | exact ⟨rfl,_,World.drewN_drewN _ _ _⟩ | exact ⟨rfl,_,Eq.trans (World.drewN_drewN _ _ _) (congrArg (World.drewN _) (Nat.add_assoc _ _ _))⟩)) | (go_at_call 13;(with_reducible refine (humuslaw26_awake.calls k  t200 _ A39.out).mono ?_);rintro e w40 ⟨rfl,hb⟩;have n0_:=Aside0.mk (Kd.V_below (by (with_reducible repeat (first | apply Kd.V_alloc | apply Kd.V_drewN | apply Kd.V_drew));exact HO0.out) hb);have n1_:=Aside0.mk (below_step (by repeat (first | (with_reducible first | exact HB.out | apply below_alloc | apply pw_below_drewN | apply below_drew1) | exact HB.out)) hb);clear HO0;clear HB;have HO0:=n0_;have HB:=n1_;clear n0_ n1_;(try clear hb);(try clear hb2);(try clear hk);(try clear hi)))
  repeat (go_quiet (first | (go_at_call 17;(with_reducible refine (humuslaw26_Light.calls k _ _ l0 false _ ?side1 ?side2 A2.out).mono ?_);(case side1 => repeat (first | exact (Kd.V_reads' HO0.out).2.2 | (with_reducible refine Kd.C_alloc ?_ _) | (with_reducible refine Kd.C_drewN ?_ _) | (with_reducible refine Kd.C_drew ?_)));(case side2 => exact (Kd.V_reads' HO0.out).2.1);rintro e w' ⟨rfl,⟨nd,rfl⟩⟩;(try first | exact ⟨rfl,_,World.drewN_drewN _ _ _⟩ | exact ⟨rfl,_,Eq.trans (World.drewN_drewN _ _ _) (congrArg (World.drewN _) (Nat.add_assoc _ _ _))⟩)) | (go_at_call 13;(with_reducible refine (humuslaw26_awake.calls k  t200 _ A39.out).mono ?_);rintro e w40 ⟨rfl,hb⟩;have n0_:=Aside0.mk (Kd.V_below (by (with_reducible repeat (first | apply Kd.V_alloc | apply Kd.V_drewN | apply Kd.V_drew));exact HO0.out) hb);have n1_:=Aside0.mk (below_step (by repeat (first | (with_reducible first | exact HB.out | apply below_alloc | apply pw_below_drewN | apply below_drew1) | exact HB.out)) hb);clear HO0;clear HB;have HO0:=n0_;have HB:=n1_;clear n0_ n1_;(try clear hb);(try clear hb2);(try clear hk);(try clear hi)));try go_wp2_with (first | (go_at_call 17;(with_reducible refine (humuslaw26_Light.calls k _ _ l0 false _ ?side1 ?side2 A2.out).mono ?_);(case side1 => repeat (first | exact (Kd.V_reads' HO0.out).2.2 | (with_reducible refine Kd.C_alloc ?_ _) | (with_reducible refine Kd.C_drewN ?_ _) | (with_reducible refine Kd.C_drew ?_)));(case side2 => exact (Kd.V_reads' HO0.out).2.1);rintro e w' ⟨rfl,⟨nd,rfl⟩⟩;(try first | exact ⟨rfl,_,World.drewN_drewN _ _ _⟩ | exact ⟨rfl,_,Eq.trans (World.drewN_drewN _ _ _) (congrArg (World.drewN _) (Nat.add_assoc _ _ _))⟩)) | (go_at_call 13;(with_reducible refine (humuslaw26_awake.calls k  t200 _ A39.out).mono ?_);rintro e w40 ⟨rfl,hb⟩;have n0_:=Aside0.mk (Kd.V_below (by (with_reducible repeat (first | apply Kd.V_alloc | apply Kd.V_drewN | apply Kd.V_drew));exact HO0.out) hb);have n1_:=Aside0.mk (below_step (by repeat (first | (with_reducible first | exact HB.out | apply below_alloc | apply pw_below_drewN | apply below_drew1) | exact HB.out)) hb);clear HO0;clear HB;have HO0:=n0_;have HB:=n1_;clear n0_ n1_;(try clear hb);(try clear hb2);(try clear hk);(try clear hi))))
  go_ret
  exact ⟨by first | rfl | (simp [errW_none,errW_some] <;> rfl) | (simp [*,errW_none,errW_some] <;> rfl),by repeat (first | (with_reducible first | exact HB.out | apply below_alloc | apply pw_below_drewN | apply below_drew1) | exact HB.out)⟩
end Go.Proofs.Ytbmcbhpkefjhbaa.P
set_option linter.unusedVariables false
set_option linter.unusedSimpArgs false
namespace Go.Proofs.Ytbmcbhpkefjhbaa.P
open Go.RowKit Go.Proofs.Ytbmcbhpkefjhbaa Go.Proofs.Ytbmcbhpkefjhbaa.Mem Go.Proofs.YtbmcbhpkefjhbaaW.PrintWords Go.Proofs.YtbmcbhpkefjhbaaW.PrintLast Go.Proofs.YtbmcbhpkefjhbaaW.PrintMore
def mst (l : List SSt) (i : Nat) : SSt := ⟨(rdS l (i : Int)).f0, (cntW (l.take i) : Int), (rdS l (i : Int)).f2, (rdS l (i : Int)).f3, (rdS l (i : Int)).f4⟩
def told (l : List SSt) : List SSt := (List.range l.length).map (mst l)
theorem told_len (l : List SSt) : (told l).length = l.length := by unfold told; rw [List.length_map, List.length_range]
theorem told_rd {l : List SSt} {i : Nat} (h : i < l.length) : rdS (told l) (i : Int) = mst l i := by
  unfold rdS rd_T43 told
  rw [Int.toNat_natCast, List.getD_eq_getElem?_getD, List.getElem?_map, List.getElem?_range h]; rfl
theorem told_mem {l : List SSt} {s : SSt} (h : s ∈ told l) : ∃ t ∈ l, s.f2 = t.f2 ∧ s.f3 = t.f3 := by
  obtain ⟨i, hi, rfl⟩ := List.mem_map.1 h
  exact ⟨_, rdS_mem (List.mem_range.1 hi), rfl, rfl⟩
theorem told_light {l : List SSt} (hL : LightL l) : LightL (told l) := by
  refine ⟨by rw [told_len]; exact hL.len, ?_, ?_, ?_, ?_⟩ <;> intro s hs <;> obtain ⟨t, ht, e2, e3⟩ := told_mem hs
  · rw [e2]; exact hL.ev t ht
  · rw [e3]; exact hL.wr t ht
  · rw [e2]; exact hL.oe t ht
  · rw [e3]; exact hL.ow t ht
theorem told_cnt {l : List SSt} : ∀ i, i ≤ l.length → cntW ((told l).take i) = cntW (l.take i)
  | 0, _ => by rw [List.take_zero, List.take_zero]
  | i + 1, h => by
    rw [cntW_succ (l := told l) (by rw [told_len]; omega), cntW_succ (l := l) (by omega), told_cnt i (by omega), told_rd (by omega)]
    rfl
theorem cntW_mono {l : List SSt} {i j : Nat} (h : i ≤ j) (hj : j ≤ l.length) : cntW (l.take i) ≤ cntW (l.take j) := by
  obtain ⟨d, rfl⟩ : ∃ d, j = i + d := ⟨j - i, by omega⟩
  clear h
  induction d with
  | zero => exact Nat.le_refl _
  | succ d ih =>
    have := ih (by omega)
    have h2 := cntW_succ (l := l) (i := i + d) (by omega)
    rw [show i + (d + 1) = i + d + 1 by omega, h2]
    omega
theorem plc_told {l : List SSt} {i : Nat} (h : i < l.length) : plc (told l) i = if (rdS l (i : Int)).f3.length = 0 then -1 else (cntW (l.take i) : Int) := by
  unfold plc
  rw [told_rd h, told_cnt i (by omega)]
  rfl
theorem AH_fwd {l : List SSt} {i j : Nat} (hi : i < l.length) (hj : j < l.length) (hne : i ≠ j) (h : AH (told l) i j = true) : i < j := by
  unfold AH at h
  rw [told_rd hi, told_rd hj, plc_told hi, plc_told hj] at h
  refine Nat.lt_of_not_le (fun hle => ?_)
  have hlt : j + 1 ≤ i := by omega
  have m1 := cntW_mono (l := l) (i := j) (j := i) (by omega) (by omega)
  have m2 := cntW_mono (l := l) hlt (by omega)
  have m3 := cntW_succ (l := l) (i := j) hj
  unfold aheadB mst at h
  simp only [Bool.or_eq_true, Bool.and_eq_true, List.any_eq_true, decide_eq_true_eq] at h
  generalize cntW (l.take i) = ci at *
  generalize cntW (l.take (j + 1)) = cj1 at *
  generalize cntW (l.take j) = cj at *
  rcases h with (⟨⟨⟨h1, h2⟩, h3⟩, _⟩ | ⟨⟨h1, h2⟩, _⟩) | ⟨⟨h1, h2⟩, _⟩
  · split at h1 <;> split at h2 <;> split at h3 <;> (try split at h3) <;> omega
  · split at h1 <;> split at h2 <;> omega
  · split at h1 <;> split at h2 <;> split at m3 <;> omega
def Fw (l : List SSt) (e : SPr) : Prop := ∃ a b : Nat, e = ⟨(a : Int), (b : Int)⟩ ∧ a < l.length ∧ b < l.length ∧ a ≠ b ∧ AH l a b = true
theorem inn_mem {l : List SSt} {i : Nat} (hi : i < l.length) : ∀ (d j : Nat) (acc : List SPr), j + d = l.length → (∀ e ∈ acc, Fw l e) → ∀ e ∈ inn l i j d acc, Fw l e := by
  intro d
  induction d with
  | zero => intro j acc _ h; exact h
  | succ d ih =>
    intro j acc hj h
    rw [inn]
    refine ih (j + 1) _ (by omega) ?_
    by_cases hij : i = j
    · rw [if_pos hij]; exact h
    rw [if_neg hij]
    by_cases hA : AH l i j = true
    · rw [if_pos hA]
      intro e he
      rcases List.mem_append.1 he with he | he
      · exact h e he
      · rw [List.mem_singleton] at he
        exact ⟨i, j, he, hi, by omega, hij, hA⟩
    · rw [if_neg hA]; exact h
theorem outP_mem {l : List SSt} : ∀ (d i : Nat) (acc : List SPr), i + d = l.length → (∀ e ∈ acc, Fw l e) → ∀ e ∈ outP l i d acc, Fw l e := by
  intro d
  induction d with
  | zero => intro i acc _ h; exact h
  | succ d ih =>
    intro i acc hi h
    rw [outP]
    exact ih (i + 1) _ (by omega) (inn_mem (by omega) l.length 0 acc (by omega) h)
theorem edges_fwd (l : List SSt) : Fwd l.length (outP (told l) 0 (told l).length []) := by
  intro e he
  obtain ⟨a, b, rfl, ha, hb, hne, hA⟩ := outP_mem (l := told l) (told l).length 0 [] (by omega) (fun e h => by cases h) e he
  rw [told_len] at ha hb
  have := AH_fwd ha hb hne hA
  refine ⟨?_, ?_, ?_⟩ <;> simp only <;> omega
theorem alone_l1 {m : List SSt} {n : Nat} (hm : m.length = n) (hn : n ≤ 15) {E : List SPr} (hF : Fwd n E) (hE : E.length ≤ 300) : ∀ (d i k : Nat), i + d = E.length → 8100 + d ≤ k → humuslaw26_DsgAlone.l1 k m E (i : Int) = some true := by
  intro d
  induction d with
  | zero =>
    intro i k hi hk
    obtain ⟨k, rfl⟩ : ∃ m, k = m + 1 + 1 := ⟨k - 2, by omega⟩
    obtain ⟨o, ho⟩ := Order_fwd hn hF hE (k := k + 1) (by omega)
    rw [humuslaw26_DsgAlone.l1, if_neg (by omega), hm, ho, Option.bind_some, if_pos rfl, awake26_ev (by omega), Option.bind_some, humuslaw26_DsgAlone.j2]
  | succ d ih =>
    intro i k hi hk
    obtain ⟨k, rfl⟩ : ∃ m, k = m + 1 := ⟨k - 1, by omega⟩
    have hlt : i < E.length := by omega
    have hf := hF _ (rdP_mem hlt)
    rw [humuslaw26_DsgAlone.l1, if_pos (by omega), if_pos (by omega), if_neg (by omega), wsucc (by omega)]
    exact ih (i + 1) k (by omega) (by omega)
theorem alone_l0 {l : List SSt} (hL : LightL l) : ∀ (d i k : Nat), i + d = l.length → 9000 + d ≤ k → humuslaw26_DsgAlone.l0 k l ((List.range i).map (mst l)) (cntW (l.take i) : Int) (i : Int) = some true := by
  have hl := hL.len
  intro d
  induction d with
  | zero =>
    intro i k hi hk
    obtain ⟨k, rfl⟩ : ∃ m, k = m + 1 := ⟨k - 1, by omega⟩
    have h0 : i = l.length := by omega
    have hn := outP_len (told l) (told l).length 0 []
    rw [told_len] at hn
    have hn2 : l.length * l.length ≤ 15 * 15 := Nat.mul_le_mul hl hl
    have hFw := edges_fwd l
    rw [humuslaw26_DsgAlone.l0, if_neg (by omega), h0]
    refine (congrArg (fun o => Option.bind o _) (pEdges_ev (told_light hL) (k := k) (by omega))).trans ?_
    rw [Option.bind_some]
    refine alone_l1 (told_len l) hl hFw (by rw [told_len]; simp only [List.length_nil] at hn; omega) _ 0 k (Nat.zero_add _) ?_
    rw [told_len]
    simp only [List.length_nil] at hn
    omega
  | succ d ih =>
    intro i k hi hk
    obtain ⟨k, rfl⟩ : ∃ m, k = m + 1 := ⟨k - 1, by omega⟩
    have hlt : i < l.length := by omega
    have hc := cntW_succ hlt
    have hle := cntW_le (l.take i)
    rw [List.length_take] at hle
    have ih' := ih (i + 1) k (by omega) (by omega)
    rw [List.range_succ, List.map_append, List.map_singleton, hc] at ih'
    have hxl : ((List.range i).map (mst l)).length < 1599289640401 := by rw [List.length_map, List.length_range]; omega
    rw [humuslaw26_DsgAlone.l0, if_pos (by omega), if_pos (by omega), wsucc (i := i) (by omega)]
    by_cases h0 : (rdS l (i : Int)).f3.length = 0
    · rw [if_neg (show ¬ ((rdS l (i : Int)).f3.length : Int) > 0 by omega), if_pos hxl]
      rw [if_pos h0, Nat.add_zero] at ih'
      exact ih'
    · rw [if_pos (show ((rdS l (i : Int)).f3.length : Int) > 0 by omega), if_pos hxl, wsucc (i := cntW (l.take i)) (by omega)]
      rw [if_neg h0] at ih'
      exact ih'
theorem DsgAlone_f {l : List SSt} (hl : l.length ≤ maxLen) (ho : ∀ s ∈ l, okEv s.f2 ∧ okRo s.f3) : humuslaw26_DsgAlone.f 9100 l = some true := by
  obtain ⟨b, hb, hh⟩ := @Light26_ev 9100 l hl (by decide)
  unfold humuslaw26_DsgAlone.f
  rw [hb, Option.bind_some]
  cases b with
  | false => rw [if_neg (by decide), awake26_ev (by decide), Option.bind_some]
  | true =>
    obtain ⟨h1, h2⟩ := hh rfl
    rw [if_pos rfl]
    exact alone_l0 ⟨h2, fun s hs => (h1 s hs).1, fun s hs => (h1 s hs).2, fun s hs => (ho s hs).1, fun s hs => (ho s hs).2⟩ l.length 0 9100 (by omega) (by omega)
theorem heap_deed : Kd.Heap k85 := Kd.heap_iso _ (Kd.heap_pair (Kd.heap_int .i64) (Kd.heap_pair (Kd.heap_int .i64) (Kd.heap_pair Kd.heap_f64 (Kd.heap_pair Kd.heap_f64 (Kd.heap_pair (Kd.heap_slice _ Kd.heap_f64) (Kd.heap_pair (Kd.heap_int .i64) (Kd.heap_slice _ Kd.heap_bool)))))))
theorem heap_roll : Kd.Heap k122 := Kd.heap_iso _ (Kd.heap_pair (Kd.heap_int .i64) (Kd.heap_int .i64))
theorem heap_row : Kd.Heap k124 := Kd.heap_iso _ (Kd.heap_pair Kd.heap_f64 (Kd.heap_pair Kd.heap_bool (Kd.heap_pair (Kd.heap_slice _ Kd.heap_f64) (Kd.heap_pair (Kd.heap_int .i64) heap_roll))))
theorem heap_reply : Kd.Heap k87 := Kd.heap_iso _ (Kd.heap_pair (Kd.heap_int .i64) (Kd.heap_pair Kd.heap_bool (Kd.heap_pair (Kd.heap_slice _ heap_row) (Kd.heap_int .i64))))
theorem heap_event : Kd.Heap k89 := Kd.heap_iso _ (Kd.heap_pair heap_deed heap_reply)
theorem heap_story : Kd.Heap k43 := Kd.heap_iso _ (Kd.heap_pair (Kd.heap_int .i64) (Kd.heap_pair (Kd.heap_int .i64) (Kd.heap_pair (Kd.heap_slice _ heap_event) (Kd.heap_pair (Kd.heap_slice _ heap_row) (Kd.heap_slice _ (Kd.heap_int .i64))))))
theorem V_of_C {α : Type} {d : Kd α} (hd : Kd.Heap d) {e base : Nat} {w : World} {A : Option Addr} {c : Nat} {xs : List α} (hc : xs.length ≤ c) (h : Kd.C d w A xs.length xs) : Kd.V d e w base (fun _ => True) (.slice A xs.length c) xs :=
  Kd.V_mk hc (fun W' hW => hd.C (fun k hk => hW k trivial hk) h)
theorem DsgAlone_walk {w : World} (l : List SSt) (A : Option Addr) (c : Nat) (h1 : l.length ≤ c) (h2 : Kd.C k43 w A l.length l) (h3 : ∀ x ∈ l, good_story x) (h4 : l.length ≤ maxLen) :
    Calls Try.prog 6 #[.slice A l.length c] w fun e w' => e = .returned (.bool true) ∧ Below w.heap.size w w' :=
  humuslaw26_DsgAlone.calls 9100 (fun _ => True) A c l true w (V_of_C heap_story h1 h2) (DsgAlone_f h4 (fun s hs => good_ok (h3 s hs)))
end Go.Proofs.Ytbmcbhpkefjhbaa.P
