/- Put together by wip/prune.py out of this claim's texts. -/
import Derived.Test.YtdcllbhkjcdnoaaMRowDecodes5
import Derived.Test.YtdcllbhkjcdnoaaMRowDecodes13
import Derived.Test.YtdcllbhkjcdnoaaMRowDecodes15
namespace Go.Proofs.Ytdcllbhkjcdnoaa.P
open Go.RowKit Go.Proofs.YtdcllbhkjcdnoaaW.PrintWords Go.Proofs.YtdcllbhkjcdnoaaW.PrintLast Go.Proofs.YtdcllbhkjcdnoaaW.PrintMore
attribute [local go_sem] max2_int min2_int max_two min_two max_three min_three max_four min_four   -- for this text's walks alone
attribute [local go_sem] run_store_float
set_option linter.unusedVariables false
set_option linter.unusedSimpArgs false
mutual
def humusref04_Bytes.j0 : Nat → Int → Nat → Bool → List Nat → Int → Int → Int → Option (List Int)
  | 0,_,_,_,_,_,_,_ => none
  | k + 1,x3,x425000,x425001,x425002,x425003,x425004,x425005 => humusref04_Bytes.l0 k (([(⟨1,x3,0,(⟨#[]⟩ : ByteArray)⟩ : S86),(⟨4,0,x425000,(⟨#[]⟩ : ByteArray)⟩ : S86),(⟨3,x425003,0,(⟨#[]⟩ : ByteArray)⟩ : S86),(⟨2,x425004,0,(⟨#[]⟩ : ByteArray)⟩ : S86),(⟨3,x425005,0,(⟨#[]⟩ : ByteArray)⟩ : S86),(⟨1,(x425002.length : Int),0,(⟨#[]⟩ : ByteArray)⟩ : S86)] : List (S86))) 0 x425000 x425001 x425002 x425003 x425004 x425005
def humusref04_Bytes.l0 : Nat → List (S86) → Int → Nat → Bool → List Nat → Int → Int → Int → Option (List Int)
  | 0,_,_,_,_,_,_,_,_ => none
  | k + 1,x4,x5,x425000,x425001,x425002,x425003,x425004,x425005 => if x5 < (x425002.length : Int) then (if 0 ≤ x5 then (if x4.length < 3518437208883 then (humusref04_Bytes.l0 k (x4 ++ [(⟨4,0,rdF x425002 x5,(⟨#[]⟩ : ByteArray)⟩ : S86)]) (wrap64 (x5 + 1)) x425000 x425001 x425002 x425003 x425004 x425005) else (none)) else (none)) else ((humusref03_Put.f x4).bind fun bt432 => (some bt432.1))
end
def humusref04_Bytes.f (k : Nat) (a0_0 : Nat) (a0_1 : Bool) (l0_2 : List Nat) (a0_3 : Int) (a0_4 : Int) (a0_5 : Int) : Option (List Int):=if a0_1 = true then (humusref04_Bytes.j0 k 1 a0_0 a0_1 l0_2 a0_3 a0_4 a0_5) else (humusref04_Bytes.j0 k 0 a0_0 a0_1 l0_2 a0_3 a0_4 a0_5)
set_option maxHeartbeats 8000000 in
set_option maxRecDepth 100000 in
theorem humusref04_Bytes.calls (k : Nat) (a0_0 : Nat) (a0_1 : Bool) (A0_2 : Option Addr) (c0_2 : Nat) (l0_2 : List Nat) (a0_3 : Int) (a0_4 : Int) (a0_5 : Int) (r : List Int) (w : World) (hr0_2 : Kd.C Kd.f64 w A0_2 l0_2.length l0_2) (hc0_2 : l0_2.length ≤ c0_2) (h : humusref04_Bytes.f k a0_0 a0_1 l0_2 a0_3 a0_4 a0_5 = some r) :
    Calls Try.prog 36 #[.agg #[.float .f64 a0_0,.bool a0_1,.slice A0_2 l0_2.length c0_2,.int .i64 a0_3,.int .i64 a0_4,.int .i64 a0_5]] w fun e w' => ∃ v0_ : Value,e = .returned (v0_) ∧ Kd.R (Kd.int .u8) 5 w' w.heap.size (fun _ => True) v0_ r ∧ Below w.heap.size w w':=by
  have hu30:=Try.underlying30
  have hu86:=Try.underlying86
  have HR0_2:=Aside0.mk hr0_2
  have HC0_2:=Aside0.mk hc0_2
  clear hr0_2 hc0_2
  have HB:=Aside0.mk (Below.refl w.heap.size w)
  have H : (if a0_1 = true then (humusref04_Bytes.j0 k 1 a0_0 a0_1 l0_2 a0_3 a0_4 a0_5) else (humusref04_Bytes.j0 k 0 a0_0 a0_1 l0_2 a0_3 a0_4 a0_5)) = some r:=h
  clear h
  have HC2:=Aside0.mk H
  clear H
  go_enter Try.func36,Try.ntmps36
  go_upto_if 9 with (first | ((with_reducible refine gate_dst (N:=1) rfl ?_);refine box_event ?hg (N:=1) ?hd (cs:=#[.float .f64 a0_0,.bool a0_1,.slice A0_2 l0_2.length c0_2,.int .i64 a0_3,.int .i64 a0_4,.int .i64 a0_5]) (t:=30) ?hr ?_;(case hd => rfl);(case hg => rfl);(case hr => first | (go_simp;done) | (go_simp;rfl));intro gb424 hg w3 hbox hb;have n0_:=Aside0.mk (below_step (by repeat (first | (with_reducible first | exact HB.out | apply below_alloc | apply pw_below_drewN | apply below_drew1) | exact HB.out)) hb);have n1_:=Aside0.mk (hbox);have n2_:=Aside0.mk ((by rw [hg];exact (below_size (by repeat (first | (with_reducible first | exact HB.out | apply below_alloc | apply pw_below_drewN | apply below_drew1) | exact HB.out))) : w.heap.size ≤ gb424));have n3_:=Aside0.mk ((by rw [hg];exact (below_size (by repeat (first | (with_reducible first | exact HB.out | apply below_alloc | apply pw_below_drewN | apply below_drew1) | exact HB.out))) : w.heap.size ≤ gb424));clear HB;have HB:=n0_;have BK424:=n1_;have GW424:=n2_;have GE424:=n3_;clear n0_ n1_ n2_ n3_;clear hb hbox hg;have hcz4_0 : w3.cell? ⟨gb424,0,none⟩ = some (.float .f64 a0_0):=(blk_cell BK424.out 0).trans rfl;have hcz4_1 : w3.cell? ⟨gb424,1,none⟩ = some (.bool a0_1):=(blk_cell BK424.out 1).trans rfl;have hcz4_2 : w3.cell? ⟨gb424,2,none⟩ = some (.slice A0_2 l0_2.length c0_2):=(blk_cell BK424.out 2).trans rfl;have hcz4_3 : w3.cell? ⟨gb424,3,none⟩ = some (.int .i64 a0_3):=(blk_cell BK424.out 3).trans rfl;have hcz4_4 : w3.cell? ⟨gb424,4,none⟩ = some (.int .i64 a0_4):=(blk_cell BK424.out 4).trans rfl;have hcz4_5 : w3.cell? ⟨gb424,5,none⟩ = some (.int .i64 a0_5):=(blk_cell BK424.out 5).trans rfl;have hfz4_0:=blk_frozen BK424.out 0;have hfz4_1:=blk_frozen BK424.out 1;have hfz4_2:=blk_frozen BK424.out 2;have hfz4_3:=blk_frozen BK424.out 3;have hfz4_4:=blk_frozen BK424.out 4;have hfz4_5:=blk_frozen BK424.out 5))
  (try simp only [Act.put,List.setIfInBounds_toArray,List.set_cons_zero,List.set_cons_succ])
  go_cut [3] (fun v3 wc => ∃ (kq : Nat) (x3_1 : Int),v3 = .int .i64 x3_1 ∧ Aside0 (humusref04_Bytes.j0 kq x3_1 a0_0 a0_1 l0_2 a0_3 a0_4 a0_5 = some r) ∧ Aside0 (kq ≤ k) ∧ Aside0 (wc.heap[gb424]? = some (.cells #[.float .f64 a0_0,.bool a0_1,(.slice A0_2 l0_2.length c0_2),.int .i64 a0_3,.int .i64 a0_4,.int .i64 a0_5] 30 (0,0))) ∧ Aside0 (Below w.heap.size w wc))
  case first =>
    have H:=HC2.out
    clear HC2
    by_cases c5 : a0_1 = true
    · subst c5
      have H1 : (humusref04_Bytes.j0 k 1 a0_0 true l0_2 a0_3 a0_4 a0_5) = some r:=by rw [if_pos rfl] at H;exact H
      clear H
      have H:=H1
      clear H1
      have H':=Aside0.mk H
      clear H
      go_wp2
      go_meet
      case rel => exact ⟨_,(1),(by first | rfl | (simp;done) | (simp [*];done)),H',⟨by first | omega | exact Nat.le_refl _⟩,⟨by (with_reducible repeat (first | refine blk_drewN ?_ _ | refine blk_drew ?_ | refine blk_alloc ?_ _));exact BK424.out⟩,⟨by repeat (first | (with_reducible first | exact HB.out | apply below_alloc | apply pw_below_drewN | apply below_drew1 | refine below_set ?_ GE424.out) | exact HB.out)⟩⟩
    · replace c5:=Bool.eq_false_iff.mpr c5
      subst c5
      have H1 : (humusref04_Bytes.j0 k 0 a0_0 false l0_2 a0_3 a0_4 a0_5) = some r:=by rw [if_neg (show ¬ (false = true) by decide)] at H;exact H
      clear H
      have H:=H1
      clear H1
      have H':=Aside0.mk H
      clear H
      go_wp2
      go_meet
      case rel => exact ⟨_,(0),(by first | rfl | (simp;done) | (simp [*];done)),H',⟨by first | omega | exact Nat.le_refl _⟩,⟨by (with_reducible repeat (first | refine blk_drewN ?_ _ | refine blk_drew ?_ | refine blk_alloc ?_ _));exact BK424.out⟩,⟨by repeat (first | (with_reducible first | exact HB.out | apply below_alloc | apply pw_below_drewN | apply below_drew1 | refine below_set ?_ GE424.out) | exact HB.out)⟩⟩
  case rest =>
    clear HC2
    try clear p2
    try clear c3
    try clear c5
    try clear hcz4_0
    try clear hcz4_1
    try clear hcz4_2
    try clear hcz4_3
    try clear hcz4_4
    try clear hcz4_5
    try clear hfz4_0
    try clear hfz4_1
    try clear hfz4_2
    try clear hfz4_3
    try clear hfz4_4
    try clear hfz4_5
    obtain ⟨kq,x3_1,rfl,HA,HJ1,BK424,HB⟩:=hcut
    cases kq with
    | zero => exact absurd HA.out (by simp [humusref04_Bytes.j0])
    | succ kj1 =>
      have H:=HA.out
      clear HA
      simp only [humusref04_Bytes.j0] at H
      obtain ⟨y425,hy425⟩ : ∃ y_ : List (S86),y_ = (([(⟨1,x3_1,0,(⟨#[]⟩ : ByteArray)⟩ : S86),(⟨4,0,a0_0,(⟨#[]⟩ : ByteArray)⟩ : S86),(⟨3,a0_3,0,(⟨#[]⟩ : ByteArray)⟩ : S86),(⟨2,a0_4,0,(⟨#[]⟩ : ByteArray)⟩ : S86),(⟨3,a0_5,0,(⟨#[]⟩ : ByteArray)⟩ : S86),(⟨1,(l0_2.length : Int),0,(⟨#[]⟩ : ByteArray)⟩ : S86)] : List (S86))):=⟨_,rfl⟩
      replace H : (humusref04_Bytes.l0 kj1 y425 0 a0_0 a0_1 l0_2 a0_3 a0_4 a0_5) = some r:=by first | (rw [hy425];with_reducible exact H) | (have H2_:=(Option.bind_some _ _).symm.trans H;rw [hy425];with_reducible exact H2_) | (have H2_:=(Option.bind_some _ _).symm.trans H;with_reducible exact H2_) | with_reducible exact H | (rw [hy425];exact H) | exact H
      have Ny425:=Aside0.mk hy425
      clear hy425
      have H':=Aside0.mk H
      clear H
      have hcz6_0 : wc.cell? ⟨gb424,0,none⟩ = some (.float .f64 a0_0):=(blk_cell BK424.out 0).trans rfl
      have hcz6_1 : wc.cell? ⟨gb424,1,none⟩ = some (.bool a0_1):=(blk_cell BK424.out 1).trans rfl
      have hcz6_2 : wc.cell? ⟨gb424,2,none⟩ = some (.slice A0_2 l0_2.length c0_2):=(blk_cell BK424.out 2).trans rfl
      have hcz6_3 : wc.cell? ⟨gb424,3,none⟩ = some (.int .i64 a0_3):=(blk_cell BK424.out 3).trans rfl
      have hcz6_4 : wc.cell? ⟨gb424,4,none⟩ = some (.int .i64 a0_4):=(blk_cell BK424.out 4).trans rfl
      have hcz6_5 : wc.cell? ⟨gb424,5,none⟩ = some (.int .i64 a0_5):=(blk_cell BK424.out 5).trans rfl
      have hfz6_0:=blk_frozen BK424.out 0
      have hfz6_1:=blk_frozen BK424.out 1
      have hfz6_2:=blk_frozen BK424.out 2
      have hfz6_3:=blk_frozen BK424.out 3
      have hfz6_4:=blk_frozen BK424.out 4
      have hfz6_5:=blk_frozen BK424.out 5
      go_wp2_with (first | ((with_reducible refine gate_dst (N:=30) rfl ?_);refine Kd.R_lit k86 _ 86 ?hg (N:=30) ?hd (xs:=([(⟨1,x3_1,0,(⟨#[]⟩ : ByteArray)⟩ : S86),(⟨4,0,a0_0,(⟨#[]⟩ : ByteArray)⟩ : S86),(⟨3,a0_3,0,(⟨#[]⟩ : ByteArray)⟩ : S86),(⟨2,a0_4,0,(⟨#[]⟩ : ByteArray)⟩ : S86),(⟨3,a0_5,0,(⟨#[]⟩ : ByteArray)⟩ : S86),(⟨1,(l0_2.length : Int),0,(⟨#[]⟩ : ByteArray)⟩ : S86)] : List (S86))) (inner:=[.int .i64 1,.int .i64 x3_1,.float .f64 0,.string (⟨#[]⟩ : ByteArray),.int .i64 4,.int .i64 0,.float .f64 a0_0,.string (⟨#[]⟩ : ByteArray),.int .i64 3,.int .i64 a0_3,.float .f64 0,.string (⟨#[]⟩ : ByteArray),.int .i64 2,.int .i64 a0_4,.float .f64 0,.string (⟨#[]⟩ : ByteArray),.int .i64 3,.int .i64 a0_5,.float .f64 0,.string (⟨#[]⟩ : ByteArray),.int .i64 1,.int .i64 (l0_2.length : Int),.float .f64 0,.string (⟨#[]⟩ : ByteArray)]) (ok:=fun _ => True) (okp:=fun _ => True) ?hr ?hp (fun _ hk => hk) trivial (Below.refl _ _) (Nat.le_refl _) (by simp) ?_;(case hd => rfl);(case hg => rfl);(case hr => first | (go_simp;done) | (go_simp;rfl));(case hp => exact (Reps.c4 (show Kd.M k86 _ _ _ (⟨1,x3_1,0,(⟨#[]⟩ : ByteArray)⟩ : S86) [.int .i64 1,.int .i64 x3_1,.float .f64 0,.string (⟨#[]⟩ : ByteArray)] from (k86_mkM _ _ _ (⟨1,x3_1,0,(⟨#[]⟩ : ByteArray)⟩ : S86) )) (Reps.c4 (show Kd.M k86 _ _ _ (⟨4,0,a0_0,(⟨#[]⟩ : ByteArray)⟩ : S86) [.int .i64 4,.int .i64 0,.float .f64 a0_0,.string (⟨#[]⟩ : ByteArray)] from (k86_mkM _ _ _ (⟨4,0,a0_0,(⟨#[]⟩ : ByteArray)⟩ : S86) )) (Reps.c4 (show Kd.M k86 _ _ _ (⟨3,a0_3,0,(⟨#[]⟩ : ByteArray)⟩ : S86) [.int .i64 3,.int .i64 a0_3,.float .f64 0,.string (⟨#[]⟩ : ByteArray)] from (k86_mkM _ _ _ (⟨3,a0_3,0,(⟨#[]⟩ : ByteArray)⟩ : S86) )) (Reps.c4 (show Kd.M k86 _ _ _ (⟨2,a0_4,0,(⟨#[]⟩ : ByteArray)⟩ : S86) [.int .i64 2,.int .i64 a0_4,.float .f64 0,.string (⟨#[]⟩ : ByteArray)] from (k86_mkM _ _ _ (⟨2,a0_4,0,(⟨#[]⟩ : ByteArray)⟩ : S86) )) (Reps.c4 (show Kd.M k86 _ _ _ (⟨3,a0_5,0,(⟨#[]⟩ : ByteArray)⟩ : S86) [.int .i64 3,.int .i64 a0_5,.float .f64 0,.string (⟨#[]⟩ : ByteArray)] from (k86_mkM _ _ _ (⟨3,a0_5,0,(⟨#[]⟩ : ByteArray)⟩ : S86) )) (Reps.c4 (show Kd.M k86 _ _ _ (⟨1,(l0_2.length : Int),0,(⟨#[]⟩ : ByteArray)⟩ : S86) [.int .i64 1,.int .i64 (l0_2.length : Int),.float .f64 0,.string (⟨#[]⟩ : ByteArray)] from (k86_mkM _ _ _ (⟨1,(l0_2.length : Int),0,(⟨#[]⟩ : ByteArray)⟩ : S86) )) (Reps.none _ _))))))));intro v426 w7 ho8 hb hg_ hnew_;clear hg_ hnew_;(first | rw [← Ny425.out] at ho8 | (simp only [Int.reduceToNat] at ho8;rw [← Ny425.out] at ho8));have n0_:=Aside0.mk (Kd.R_lower ho8 (below_size (by repeat (first | (with_reducible first | exact HB.out | apply below_alloc | apply pw_below_drewN | apply below_drew1 | refine below_set ?_ GE424.out) | exact HB.out))));have n1_:=Aside0.mk (blk_below (g:=gb424) (o:=.cells #[.float .f64 a0_0,.bool a0_1,.slice A0_2 l0_2.length c0_2,.int .i64 a0_3,.int .i64 a0_4,.int .i64 a0_5] 30 (0,0)) (by (with_reducible repeat (first | refine blk_drewN ?_ _ | refine blk_drew ?_ | refine blk_alloc ?_ _));exact BK424.out) hb);have n2_:=Aside0.mk (below_step (by repeat (first | (with_reducible first | exact HB.out | apply below_alloc | apply pw_below_drewN | apply below_drew1 | refine below_set ?_ GE424.out) | exact HB.out)) hb);clear BK424;clear HB;have HO427:=n0_;have BK424:=n1_;have HB:=n2_;clear n0_ n1_ n2_;clear hb ho8))
      go_loopg [4,5] kj1 (fun kq v4 v5 w' => ∃ (x4_2 : List (S86)) (x5_2 : Int),v5 = .int .i64 x5_2 ∧ Aside0 (humusref04_Bytes.l0 kq x4_2 x5_2 a0_0 a0_1 l0_2 a0_3 a0_4 a0_5 = some r) ∧ Aside0 (kq ≤ kj1) ∧ Aside0 (Kd.R k86 86 w' w.heap.size (fun _ => True) v4 x4_2) ∧ Aside0 (w'.heap[gb424]? = some (.cells #[.float .f64 a0_0,.bool a0_1,(.slice A0_2 l0_2.length c0_2),.int .i64 a0_3,.int .i64 a0_4,.int .i64 a0_5] 30 (0,0))) ∧ Aside0 (Below w.heap.size w w'))
      case atStart => exact ⟨(y425),(0),(by first | rfl | (simp;done) | (simp [*];done)),H',⟨Nat.le_refl _⟩,⟨by (with_reducible repeat (first | apply Kd.R_alloc | apply Kd.R_drewN | apply Kd.R_drew));exact HO427.out⟩,⟨by (with_reducible repeat (first | refine blk_drewN ?_ _ | refine blk_drew ?_ | refine blk_alloc ?_ _));exact BK424.out⟩,⟨by repeat (first | (with_reducible first | exact HB.out | apply below_alloc | apply pw_below_drewN | apply below_drew1 | refine below_set ?_ GE424.out) | exact HB.out)⟩⟩
      case round =>
        clear H'
        try clear p2
        try clear c3
        try clear c4
        try clear c5
        try clear hcz4_0
        try clear hcz4_1
        try clear hcz4_2
        try clear hcz4_3
        try clear hcz4_4
        try clear hcz4_5
        try clear hcz6_0
        try clear hcz6_1
        try clear hcz6_2
        try clear hcz6_3
        try clear hcz6_4
        try clear hcz6_5
        try clear hfz4_0
        try clear hfz4_1
        try clear hfz4_2
        try clear hfz4_3
        try clear hfz4_4
        try clear hfz4_5
        try clear hfz6_0
        try clear hfz6_1
        try clear hfz6_2
        try clear hfz6_3
        try clear hfz6_4
        try clear hfz6_5
        try clear p2
        obtain ⟨x4_2,x5_2,rfl,HA,HK2,HO_4,BK424,HB⟩:=hrel
        cases gk with
        | zero => exact absurd HA.out (by simp [humusref04_Bytes.l0])
        | succ k2 =>
          have H:=HA.out
          clear HA
          simp only [humusref04_Bytes.l0] at H
          by_cases c9 : x5_2 < (l0_2.length : Int)
          · rw [if_pos c9] at H
            have c9b0 : decide (x5_2 < (l0_2.length : Int)) = true:=decide_eq_true c9
            clear c9
            by_cases c10 : 0 ≤ x5_2
            · rw [if_pos c10] at H
              have c10b0 : decide (0 ≤ x5_2) = true:=decide_eq_true c10
              clear c10
              by_cases c11 : x4_2.length < 3518437208883
              · rw [if_pos c11] at H
                have LMc11:=Aside0.mk c11
                clear c11
                obtain ⟨y429,hy429⟩ : ∃ y_ : List (S86),y_ = (x4_2 ++ [(⟨4,0,rdF l0_2 x5_2,(⟨#[]⟩ : ByteArray)⟩ : S86)]):=⟨_,rfl⟩
                replace H : (humusref04_Bytes.l0 k2 y429 (wrap64 (x5_2 + 1)) a0_0 a0_1 l0_2 a0_3 a0_4 a0_5) = some r:=by first | (rw [hy429];with_reducible exact H) | (have H2_:=(Option.bind_some _ _).symm.trans H;rw [hy429];with_reducible exact H2_) | (have H2_:=(Option.bind_some _ _).symm.trans H;with_reducible exact H2_) | with_reducible exact H | (rw [hy429];exact H) | exact H
                have Ny429:=Aside0.mk hy429
                clear hy429
                have H':=Aside0.mk H
                clear H
                have hcz12_0 : wr.cell? ⟨gb424,0,none⟩ = some (.float .f64 a0_0):=(blk_cell BK424.out 0).trans rfl
                have hcz12_1 : wr.cell? ⟨gb424,1,none⟩ = some (.bool a0_1):=(blk_cell BK424.out 1).trans rfl
                have hcz12_2 : wr.cell? ⟨gb424,2,none⟩ = some (.slice A0_2 l0_2.length c0_2):=(blk_cell BK424.out 2).trans rfl
                have hcz12_3 : wr.cell? ⟨gb424,3,none⟩ = some (.int .i64 a0_3):=(blk_cell BK424.out 3).trans rfl
                have hcz12_4 : wr.cell? ⟨gb424,4,none⟩ = some (.int .i64 a0_4):=(blk_cell BK424.out 4).trans rfl
                have hcz12_5 : wr.cell? ⟨gb424,5,none⟩ = some (.int .i64 a0_5):=(blk_cell BK424.out 5).trans rfl
                have hfz12_0:=blk_frozen BK424.out 0
                have hfz12_1:=blk_frozen BK424.out 1
                have hfz12_2:=blk_frozen BK424.out 2
                have hfz12_3:=blk_frozen BK424.out 3
                have hfz12_4:=blk_frozen BK424.out 4
                have hfz12_5:=blk_frozen BK424.out 5
                have p428 : 0 ≤ (x5_2 : Int):=of_decide_eq_true (by first | (with_reducible assumption) | assumption)
                have q428 : x5_2 < (l0_2.length : Int):=of_decide_eq_true (by first | (with_reducible assumption) | assumption)
                obtain ⟨ad428,e428,hx428_0⟩:=Kd.at_f64 HR0_2.out x5_2 p428 q428
                cases e428
                replace hx428_0:=(HB.out.cell (World.block_lt_of_cell? w _ hx428_0)).trans hx428_0
                replace p428:=eq_true p428
                replace q428:=eq_true q428
                go_wp2_with (first | ((with_reducible refine gate_builtin (b:=.append) (xs:=#[.tmp 38,.tmp 45]) rfl ?_);at_builtin;refine Kd.R_append k86 (w0:=w) w.heap.size rfl (.tmp 38) (.tmp 45) 87 86 (.agg #[(.int .i64 0),(.int .i64 0),(.float .f64 0),(.string ⟨#[]⟩)]) 40 rfl Try.underlying87 info86 rfl (by decide) (by omega) u4 x4_2 (⟨4,0,rdF l0_2 x5_2,(⟨#[]⟩ : ByteArray)⟩ : S86) [.int .i64 4,.int .i64 0,.float .f64 (rdF l0_2 x5_2),.string (⟨#[]⟩ : ByteArray)] (fun _ => True) (fun _ => False) rfl rfl ?aP (fun _ hk => hk.elim) ?aF ?aO ?aB ?aS ?aL ?_;(case aP => exact k86_mkM _ _ _ (⟨4,0,rdF l0_2 x5_2,(⟨#[]⟩ : ByteArray)⟩ : S86));(case aB => exact (by repeat (first | (with_reducible first | exact HB.out | apply below_alloc | apply pw_below_drewN | apply below_drew1 | refine below_set ?_ GE424.out) | exact HB.out)));(case aF => exact (fun _ _ => trivial));(case aO => exact (by (with_reducible repeat (first | apply Kd.R_alloc | apply Kd.R_drewN | apply Kd.R_drew));exact HO_4.out));(case aS => exact (below_size (by repeat (first | (with_reducible first | exact HB.out | apply below_alloc | apply pw_below_drewN | apply below_drew1 | refine below_set ?_ GE424.out) | exact HB.out))));(case aL => have:=LMc11.out;omega);intro v430 w13 ho hb hg hat;rw [← Ny429.out] at ho;have n0_:=Aside0.mk (blk_grown (g:=gb424) (o:=.cells #[.float .f64 a0_0,.bool a0_1,.slice (some ad428) l0_2.length c0_2,.int .i64 a0_3,.int .i64 a0_4,.int .i64 a0_5] 30 (0,0)) (by (with_reducible repeat (first | refine blk_drewN ?_ _ | refine blk_drew ?_ | refine blk_alloc ?_ _));exact BK424.out) hg (Kd.R_ne HO_4.out BK424.out (by decide)));have n1_:=Aside0.mk (hb);have n2_:=Aside0.mk (ho);clear BK424;clear HB;clear HO_4;have BK424:=n0_;have HB:=n1_;have HO431:=n2_;clear n0_ n1_ n2_;clear ho hb hg hat))
                go_roundg k2
                case measure => have:=HJ1.out;have:=HK2.out;omega
                case rel => exact ⟨(y429),(wrap64 (x5_2 + 1)),(by first | rfl | (simp;done) | (simp [*];done)),H',⟨by have:=HJ1.out;have:=HK2.out;omega⟩,⟨by (with_reducible repeat (first | apply Kd.R_alloc | apply Kd.R_drewN | apply Kd.R_drew));exact HO431.out⟩,⟨by (with_reducible repeat (first | refine blk_drewN ?_ _ | refine blk_drew ?_ | refine blk_alloc ?_ _));exact BK424.out⟩,⟨by repeat (first | (with_reducible first | exact HB.out | apply below_alloc | apply pw_below_drewN | apply below_drew1 | refine below_set ?_ GE424.out) | exact HB.out)⟩⟩
              · rw [if_neg c11] at H
                exact absurd H (by simp)
            · rw [if_neg c10] at H
              exact absurd H (by simp)
          · rw [if_neg c9] at H
            have c9b0 : decide (x5_2 < (l0_2.length : Int)) = false:=decide_eq_false c9
            clear c9
            replace H:=Option.bind_eq_some_iff.mp H
            obtain ⟨⟨t432,t433⟩,A140,H⟩:=H
            replace H : (some t432) = some r:=H
            have A14:=Aside0.mk A140
            clear A140
            obtain rfl:=Option.some.inj H
            have hcz15_0 : wr.cell? ⟨gb424,0,none⟩ = some (.float .f64 a0_0):=(blk_cell BK424.out 0).trans rfl
            have hcz15_1 : wr.cell? ⟨gb424,1,none⟩ = some (.bool a0_1):=(blk_cell BK424.out 1).trans rfl
            have hcz15_2 : wr.cell? ⟨gb424,2,none⟩ = some (.slice A0_2 l0_2.length c0_2):=(blk_cell BK424.out 2).trans rfl
            have hcz15_3 : wr.cell? ⟨gb424,3,none⟩ = some (.int .i64 a0_3):=(blk_cell BK424.out 3).trans rfl
            have hcz15_4 : wr.cell? ⟨gb424,4,none⟩ = some (.int .i64 a0_4):=(blk_cell BK424.out 4).trans rfl
            have hcz15_5 : wr.cell? ⟨gb424,5,none⟩ = some (.int .i64 a0_5):=(blk_cell BK424.out 5).trans rfl
            have hfz15_0:=blk_frozen BK424.out 0
            have hfz15_1:=blk_frozen BK424.out 1
            have hfz15_2:=blk_frozen BK424.out 2
            have hfz15_3:=blk_frozen BK424.out 3
            have hfz15_4:=blk_frozen BK424.out 4
            have hfz15_5:=blk_frozen BK424.out 5
            obtain ⟨Ao16,co16,eo16⟩:=Kd.R_slice HO_4.out
            subst eo16
            go_wp2_with (first | ((with_reducible refine gate_callee (f:=75) rfl ?_);refine goesL_ (some 49) rfl rfl Try.func75 (by kernel_rfl) rfl #[.slice Ao16 x4_2.length co16] rfl (by (try simp only [List.map_toArray,List.map_cons,List.map_nil]);first | done | rfl | (simp only [List.length_drop,List.length_take];rfl)) ?_;(with_reducible refine (humusref03_Put.calls _ _ x4_2 t432 t433 _ ?side1 ?side2 A14.out).mono ?_);(case side1 => repeat (first | exact (Kd.R_reads' HO_4.out).2.2 | (with_reducible refine Kd.C_alloc ?_ _) | (with_reducible refine Kd.C_drewN ?_ _) | (with_reducible refine Kd.C_drew ?_)));(case side2 => exact (Kd.R_reads' HO_4.out).2.1);rintro e w17 ⟨v434,rfl,ho0,hb⟩;refine ⟨_,rfl,?_⟩;have n0_:=Aside0.mk (Kd.R_below (by (with_reducible repeat (first | apply Kd.R_alloc | apply Kd.R_drewN | apply Kd.R_drew));exact HO_4.out) hb);have n1_:=Aside0.mk (Kd.R_lower ho0 (below_size (by repeat (first | (with_reducible first | exact HB.out | apply below_alloc | apply pw_below_drewN | apply below_drew1 | refine below_set ?_ GE424.out) | exact HB.out))));have n2_:=Aside0.mk (blk_below (g:=gb424) (o:=.cells #[.float .f64 a0_0,.bool a0_1,.slice A0_2 l0_2.length c0_2,.int .i64 a0_3,.int .i64 a0_4,.int .i64 a0_5] 30 (0,0)) (by (with_reducible repeat (first | refine blk_drewN ?_ _ | refine blk_drew ?_ | refine blk_alloc ?_ _));exact BK424.out) hb);have n3_:=Aside0.mk (below_step (by repeat (first | (with_reducible first | exact HB.out | apply below_alloc | apply pw_below_drewN | apply below_drew1 | refine below_set ?_ GE424.out) | exact HB.out)) hb);clear HO_4;clear BK424;clear HB;have HO_4:=n0_;have HO435:=n1_;have BK424:=n2_;have HB:=n3_;clear n0_ n1_ n2_ n3_;(try clear hb);(try clear hb2);(try clear hk);(try clear hi);(try clear ho0)))
            go_ret
            exact ⟨_,by first | rfl | (simp [errW_none,errW_some] <;> rfl) | (simp [*,errW_none,errW_some] <;> rfl),by (with_reducible repeat (first | apply Kd.R_alloc | apply Kd.R_drewN | apply Kd.R_drew));exact HO435.out,by repeat (first | (with_reducible first | exact HB.out | apply below_alloc | apply pw_below_drewN | apply below_drew1 | refine below_set ?_ GE424.out) | exact HB.out)⟩
end Go.Proofs.Ytdcllbhkjcdnoaa.P
namespace Go.Proofs.Ytdcllbhkjcdnoaa.P
open Go.RowKit Go.Proofs.YtdcllbhkjcdnoaaW.PrintWords Go.Proofs.YtdcllbhkjcdnoaaW.PrintLast Go.Proofs.YtdcllbhkjcdnoaaW.PrintMore
attribute [local go_sem] max2_int min2_int max_two min_two max_three min_three max_four min_four   -- for this text's walks alone
attribute [local go_sem] run_store_float
set_option linter.unusedVariables false
set_option linter.unusedSimpArgs false
mutual
def humusref04_Decode.j0 : Nat → List Int → Bool → Option (Nat × Bool × List Nat × Int × Int × Int × Bool)
  | 0,_,_ => none
  | k + 1,x0,x19 => if x19 = true then (some (0,false,([] : List Nat),0,0,0,false)) else (humusref04_Decode.l0 k x0 (([1,4,3,2,3,1] : List Int)) 0)
def humusref04_Decode.l0 : Nat → List Int → List Int → Int → Option (Nat × Bool × List Nat × Int × Int × Int × Bool)
  | 0,_,_,_ => none
  | k + 1,x0,x4,x5 => if 19 < (x0.length : Int) then (if x5 < (wrap64 (rd x0 19)) then (if x4.length < 17592186044416 then (humusref04_Decode.l0 k x0 (x4 ++ [4]) (wrap64 (x5 + 1))) else (none)) else ((humusref03_Take.f x0 x4).bind fun bt470 => (if bt470.2.2 = 0 then (if 0 < (bt470.1.length : Int) then (if 1 < (bt470.1.length : Int) then (if 2 < (bt470.1.length : Int) then (if 3 < (bt470.1.length : Int) then (if 4 < (bt470.1.length : Int) then (humusref04_Decode.l1 k x0 bt470.1 6 ((rd_T86 bt470.1 1).f2) (((rd_T86 bt470.1 0).f1) == 1) ([] : List Nat) ((rd_T86 bt470.1 2).f1) ((rd_T86 bt470.1 3).f1) ((rd_T86 bt470.1 4).f1)) else (none)) else (none)) else (none)) else (none)) else (none)) else (some (0,false,([] : List Nat),0,0,0,false))))) else (none)
def humusref04_Decode.l1 : Nat → List Int → List (S86) → Int → Nat → Bool → List Nat → Int → Int → Int → Option (Nat × Bool × List Nat × Int × Int × Int × Bool)
  | 0,_,_,_,_,_,_,_,_,_ => none
  | k + 1,x0,x6,x10,x481000,x481001,x481002,x481003,x481004,x481005 => if x10 < (x6.length : Int) then (if 0 ≤ x10 then (if x481002.length < 17592186044416 then (humusref04_Decode.l1 k x0 x6 (wrap64 (x10 + 1)) x481000 x481001 (x481002 ++ [(rd_T86 x6 x10).f2]) x481003 x481004 x481005) else (none)) else (none)) else ((humusref04_May.f k x481000 x481001 x481002 x481003 x481004 x481005).bind fun t485 => (if t485 = true then ((humusref04_Bytes.f k x481000 x481001 x481002 x481003 x481004 x481005).bind fun t486 => (if (strOfNums t486).toList = (strOfNums x0).toList then (some (x481000,x481001,x481002,x481003,x481004,x481005,true)) else (some (0,false,([] : List Nat),0,0,0,false)))) else (some (0,false,([] : List Nat),0,0,0,false))))
end
def humusref04_Decode.f (k : Nat) (l0 : List Int) : Option (Nat × Bool × List Nat × Int × Int × Int × Bool):=if (l0.length : Int) < 20 then (humusref04_Decode.j0 k l0 true) else (if 19 < (l0.length : Int) then (humusref04_Decode.j0 k l0 (decide ((rd l0 19) > 4))) else (none))
def humusref04_Decode.T11 : Bool × List (List Nat × List Nat):=(true,[([],[]),([0],[0]),([1],[1]),([2],[2]),([3],[3]),([],[]),([5],[5]),([6],[6]),([7],[7]),([],[]),([9],[9]),([10],[10]),([11],[11]),([],[]),([13],[13]),([14],[14]),([15],[15]),([],[]),([17],[17]),([18],[18]),([19],[19]),([16,20],[16,20]),([4,8,12,21],[4,8,12,21]),([],[]),([23,22,0,1,2,3,4,5,6,7,8,9,10,11,12,13,14,15,16,17,18,19,20,21,22,23],[22,23])])
def humusref04_Decode.B11 : List Nat:=[0,1,3,7,15,0,32,96,224,0,512,1536,3584,0,8192,24576,57344,0,131072,393216,917504,2088960,4194303,0,16777215]
theorem humusref04_Decode.tab11 : rtab .any (opsOf Try.f38 11) = humusref04_Decode.T11:=by kernel_rfl
theorem humusref04_Decode.bits11 : waitsOk humusref04_Decode.T11.2 humusref04_Decode.B11 = true:=by kernel_rfl
def humusref04_Decode.T15 : Bool × List (List Nat × List Nat):=(true,[([],[]),([0],[0]),([],[]),([],[]),([2,3],[2,3]),([4],[4]),([5],[5]),([6],[6]),([1,7],[1,7]),([0,1,2,3,4,5,6,7,8],[]),([9,8,8,0,1,2,3,4,5,6,7,8],[8,9])])
def humusref04_Decode.B15 : List Nat:=[0,1,0,0,12,28,60,124,255,511,1023]
theorem humusref04_Decode.tab15 : rtab .any (opsOf Try.f38 15) = humusref04_Decode.T15:=by kernel_rfl
theorem humusref04_Decode.bits15 : waitsOk humusref04_Decode.T15.2 humusref04_Decode.B15 = true:=by kernel_rfl
def humusref04_Decode.T16 : Bool × List (List Nat × List Nat):=(true,[([],[]),([0],[0]),([1],[1]),([2,1],[2]),([3],[3]),([4,3,3],[3,4]),([5,3],[3,5]),([3],[3]),([7,3],[3,7]),([6,8,3],[3,6,8]),([3,9],[3,9])])
def humusref04_Decode.B16 : List Nat:=[0,1,3,7,15,31,63,15,143,511,1023]
theorem humusref04_Decode.tab16 : rtab .any (opsOf Try.f38 16) = humusref04_Decode.T16:=by kernel_rfl
theorem humusref04_Decode.bits16 : waitsOk humusref04_Decode.T16.2 humusref04_Decode.B16 = true:=by kernel_rfl
set_option maxHeartbeats 8000000 in
set_option maxRecDepth 100000 in
theorem humusref04_Decode.calls (k : Nat) (A0 : Option Addr) (c0 : Nat) (l0 : List Int) (r1 : Nat) (r2 : Bool) (r3 : List Nat) (r4 : Int) (r5 : Int) (r6 : Int) (r7 : Bool) (w : World) (hr0 : Kd.C (Kd.int .u8) w A0 l0.length l0) (hc0 : l0.length ≤ c0) (h : humusref04_Decode.f k l0 = some (r1,r2,r3,r4,r5,r6,r7)) :
    Calls Try.prog 38 #[.slice A0 l0.length c0] w fun e w' => ∃ v2_ : Value,e = .returned (.tuple #[.agg #[.float .f64 r1,.bool r2,v2_,.int .i64 r4,.int .i64 r5,.int .i64 r6],.bool r7]) ∧ Kd.R Kd.f64 25 w' w.heap.size (fun _ => True) v2_ r3 ∧ Below w.heap.size w w':=by
  have hu30:=Try.underlying30
  have hu28:=Try.underlying28
  have HR0:=Aside0.mk hr0
  have HC0:=Aside0.mk hc0
  clear hr0 hc0
  have HB:=Aside0.mk (Below.refl w.heap.size w)
  have H : (if (l0.length : Int) < 20 then (humusref04_Decode.j0 k l0 true) else (if 19 < (l0.length : Int) then (humusref04_Decode.j0 k l0 (decide ((rd l0 19) > 4))) else (none))) = some (r1,r2,r3,r4,r5,r6,r7):=h
  clear h
  have HC2:=Aside0.mk H
  clear H
  go_enter Try.func38,Try.ntmps38
  go_upto_region 1 with (first | ((with_reducible refine gate_dst (N:=2) rfl ?_);refine box_event ?hg (N:=2) ?hd (cs:=#[.float .f64 0,.bool false,.slice none 0 0,.int .i64 0,.int .i64 0,.int .i64 0]) (t:=30) ?hr ?_;(case hd => rfl);(case hg => rfl);(case hr => first | (go_simp;done) | (go_simp;rfl));intro gb461 hg w3 hbox hb;have n0_:=Aside0.mk (below_step (by repeat (first | (with_reducible first | exact HB.out | apply below_alloc | apply pw_below_drewN | apply below_drew1) | exact HB.out)) hb);have n1_:=Aside0.mk (hbox);have n2_:=Aside0.mk ((by rw [hg];exact (below_size (by repeat (first | (with_reducible first | exact HB.out | apply below_alloc | apply pw_below_drewN | apply below_drew1) | exact HB.out))) : w.heap.size ≤ gb461));have n3_:=Aside0.mk ((by rw [hg];exact (below_size (by repeat (first | (with_reducible first | exact HB.out | apply below_alloc | apply pw_below_drewN | apply below_drew1) | exact HB.out))) : w.heap.size ≤ gb461));clear HB;have HB:=n0_;have BK461:=n1_;have GW461:=n2_;have GE461:=n3_;clear n0_ n1_ n2_ n3_;clear hb hbox hg))
  (try simp only [Act.put,List.setIfInBounds_toArray,List.set_cons_zero,List.set_cons_succ])
  go_cut [19] (fun v19 wc => ∃ (kq : Nat) (x19_1 : Bool),v19 = .bool x19_1 ∧ Aside0 (humusref04_Decode.j0 kq l0 x19_1 = some (r1,r2,r3,r4,r5,r6,r7)) ∧ Aside0 (kq ≤ k) ∧ Aside0 (wc.heap[gb461]? = some (.cells #[.float .f64 0,.bool false,(.slice none 0 0),.int .i64 0,.int .i64 0,.int .i64 0] 30 (0,0))) ∧ Aside0 (Below w.heap.size w wc))
  case first =>
    have H:=HC2.out
    clear HC2
    by_cases c4 : (l0.length : Int) < 20
    · rw [if_pos c4] at H
      have c4b0 : decide ((l0.length : Int) < 20) = true:=decide_eq_true c4
      have c4b1 : decide (l0.length < 20) = true:=decide_eq_true (by omega)
      clear c4
      (first | rw [c4b0] | (simp only [i64_w,i32_w];rw [c4b0]) | skip)
      have H':=Aside0.mk H
      clear H
      go_wp2
      go_meet
      case rel => exact ⟨_,(true),(by first | rfl | (simp;done) | (simp [*];done)),H',⟨by first | omega | exact Nat.le_refl _⟩,⟨by (with_reducible repeat (first | refine blk_drewN ?_ _ | refine blk_drew ?_ | refine blk_alloc ?_ _));exact BK461.out⟩,⟨by repeat (first | (with_reducible first | exact HB.out | apply below_alloc | apply pw_below_drewN | apply below_drew1 | refine below_set ?_ GE461.out) | exact HB.out)⟩⟩
    · rw [if_neg c4] at H
      have c4b0 : decide ((l0.length : Int) < 20) = false:=decide_eq_false c4
      have c4b1 : decide (l0.length < 20) = false:=decide_eq_false (by omega)
      clear c4
      (first | rw [c4b0] | (simp only [i64_w,i32_w];rw [c4b0]) | skip)
      by_cases c5 : 19 < (l0.length : Int)
      · rw [if_pos c5] at H
        have c5b0 : decide (19 < (l0.length : Int)) = true:=decide_eq_true c5
        have c5b1 : decide (19 < l0.length) = true:=decide_eq_true (by omega)
        clear c5
        have H':=Aside0.mk H
        clear H
        have p462 : 0 ≤ (19 : Int):=(by omega)
        have q462 : 19 < (l0.length : Int):=of_decide_eq_true (by first | (with_reducible assumption) | assumption)
        obtain ⟨ad462,e462,hx462_0⟩:=Kd.at_int HR0.out 19 p462 q462
        cases e462
        (try simp only [show (19 : Int).toNat = 19 from rfl,Nat.reduceMul,Nat.reduceEqDiff,Go.Addr.add,↓reduceIte] at hx462_0)
        have qi462 : (19 < l0.length) = True:=eq_true (by omega)
        (try rw [show ((19 : Int)).toNat = 19 from rfl] at hx462_0)
        replace hx462_0:=(HB.out.cell (World.block_lt_of_cell? w _ hx462_0)).trans hx462_0
        replace p462:=eq_true p462
        replace q462:=eq_true q462
        go_wp2
        go_meet
        case rel => exact ⟨_,(decide ((rd l0 19) > 4)),(by first | rfl | (simp;done) | (simp [*];done)),H',⟨by first | omega | exact Nat.le_refl _⟩,⟨by (with_reducible repeat (first | refine blk_drewN ?_ _ | refine blk_drew ?_ | refine blk_alloc ?_ _));exact BK461.out⟩,⟨by repeat (first | (with_reducible first | exact HB.out | apply below_alloc | apply pw_below_drewN | apply below_drew1 | refine below_set ?_ GE461.out) | exact HB.out)⟩⟩
      · rw [if_neg c5] at H
        exact absurd H (by simp)
  case rest =>
    clear HC2
    try clear p2
    try clear c3
    try clear c4
    try clear c4b0
    try clear c4b1
    try clear p4
    try clear q4
    try clear hx4
    try clear qi4
    try clear c5
    try clear c5b0
    try clear c5b1
    try clear hx462_0
    try clear p462
    try clear q462
    obtain ⟨kq,x19_1,rfl,HA,HJ1,BK461,HB⟩:=hcut
    cases kq with
    | zero => exact absurd HA.out (by simp [humusref04_Decode.j0])
    | succ kj1 =>
      have H:=HA.out
      clear HA
      simp only [humusref04_Decode.j0] at H
      by_cases c6 : x19_1 = true
      · subst c6
        have H1 : (some (0,false,([] : List Nat),0,0,0,false)) = some (r1,r2,r3,r4,r5,r6,r7):=by rw [if_pos rfl] at H;exact H
        clear H
        have H:=H1
        clear H1
        simp only [Option.some.injEq,Prod.mk.injEq] at H
        obtain ⟨rfl,rfl,rfl,rfl,rfl,rfl,rfl⟩:=H
        have hcz7_0 : wc.cell? ⟨gb461,0,none⟩ = some (.float .f64 0):=(blk_cell BK461.out 0).trans rfl
        have hcz7_1 : wc.cell? ⟨gb461,1,none⟩ = some (.bool false):=(blk_cell BK461.out 1).trans rfl
        have hcz7_2 : wc.cell? ⟨gb461,2,none⟩ = some (.slice none 0 0):=(blk_cell BK461.out 2).trans rfl
        have hcz7_3 : wc.cell? ⟨gb461,3,none⟩ = some (.int .i64 0):=(blk_cell BK461.out 3).trans rfl
        have hcz7_4 : wc.cell? ⟨gb461,4,none⟩ = some (.int .i64 0):=(blk_cell BK461.out 4).trans rfl
        have hcz7_5 : wc.cell? ⟨gb461,5,none⟩ = some (.int .i64 0):=(blk_cell BK461.out 5).trans rfl
        have hfz7_0:=blk_frozen BK461.out 0
        have hfz7_1:=blk_frozen BK461.out 1
        have hfz7_2:=blk_frozen BK461.out 2
        have hfz7_3:=blk_frozen BK461.out 3
        have hfz7_4:=blk_frozen BK461.out 4
        have hfz7_5:=blk_frozen BK461.out 5
        go_wp2
        refine bodyPost_ret (results_ct rfl _ _ gb461 30 #[.float .f64 0,.bool false,.slice none 0 0,.int .i64 0,.int .i64 0,.int .i64 0] (0,0) _ rfl (by (with_reducible repeat (first | refine blk_drewN ?_ _ | refine blk_drew ?_ | refine blk_alloc ?_ _));refine blk_put (cs:=#[.float .f64 0,.bool false,.slice none 0 0,.int .i64 0,.int .i64 0,.int .i64 0]) ?_ 5 _ rfl;(with_reducible repeat (first | refine blk_drewN ?_ _ | refine blk_drew ?_ | refine blk_alloc ?_ _));refine blk_put (cs:=#[.float .f64 0,.bool false,.slice none 0 0,.int .i64 0,.int .i64 0,.int .i64 0]) ?_ 4 _ rfl;(with_reducible repeat (first | refine blk_drewN ?_ _ | refine blk_drew ?_ | refine blk_alloc ?_ _));refine blk_put (cs:=#[.float .f64 0,.bool false,.slice none 0 0,.int .i64 0,.int .i64 0,.int .i64 0]) ?_ 3 _ rfl;(with_reducible repeat (first | refine blk_drewN ?_ _ | refine blk_drew ?_ | refine blk_alloc ?_ _));refine blk_put (cs:=#[.float .f64 0,.bool false,.slice none 0 0,.int .i64 0,.int .i64 0,.int .i64 0]) ?_ 2 _ rfl;(with_reducible repeat (first | refine blk_drewN ?_ _ | refine blk_drew ?_ | refine blk_alloc ?_ _));refine blk_put (cs:=#[.float .f64 0,.bool false,.slice none 0 0,.int .i64 0,.int .i64 0,.int .i64 0]) ?_ 1 _ rfl;(with_reducible repeat (first | refine blk_drewN ?_ _ | refine blk_drew ?_ | refine blk_alloc ?_ _));refine blk_put (cs:=#[.float .f64 0,.bool false,.slice none 0 0,.int .i64 0,.int .i64 0,.int .i64 0]) ?_ 0 _ rfl;(with_reducible repeat (first | refine blk_drewN ?_ _ | refine blk_drew ?_ | refine blk_alloc ?_ _));exact BK461.out) Try.underlying30 rfl (by kernel_rfl)) rfl ?_
        exact ⟨_,by first | rfl | (simp [errW_none,errW_some] <;> rfl) | (simp [*,errW_none,errW_some] <;> rfl),by first | exact Kd.R_nil _ _ _ _ _ | exact Kd.N_nil _ _ _ _ _ | exact Kd.V_nil _ _ _ _ _ | exact Kd.Q_nil _ _ _ _ _ | exact Kd.S_nil _ _ _ _ _,by repeat (first | (with_reducible first | exact HB.out | apply below_alloc | apply pw_below_drewN | apply below_drew1 | refine below_set ?_ GE461.out) | exact HB.out)⟩
      · replace c6:=Bool.eq_false_iff.mpr c6
        subst c6
        have H1 : (humusref04_Decode.l0 kj1 l0 (([1,4,3,2,3,1] : List Int)) 0) = some (r1,r2,r3,r4,r5,r6,r7):=by rw [if_neg (show ¬ (false = true) by decide)] at H;exact H
        clear H
        have H:=H1
        clear H1
        obtain ⟨y463,hy463⟩ : ∃ y_ : List Int,y_ = (([1,4,3,2,3,1] : List Int)):=⟨_,rfl⟩
        replace H : (humusref04_Decode.l0 kj1 l0 y463 0) = some (r1,r2,r3,r4,r5,r6,r7):=by first | (rw [hy463];with_reducible exact H) | (have H2_:=(Option.bind_some _ _).symm.trans H;rw [hy463];with_reducible exact H2_) | (have H2_:=(Option.bind_some _ _).symm.trans H;with_reducible exact H2_) | with_reducible exact H | (rw [hy463];exact H) | exact H
        have Ny463:=Aside0.mk hy463
        clear hy463
        have H':=Aside0.mk H
        clear H
        go_wp2_with (first | ((with_reducible refine gate_dst (N:=21) rfl ?_);refine Kd.R_lit (Kd.int .i64) _ 3 ?hg (N:=21) ?hd (xs:=([1,4,3,2,3,1] : List Int)) (inner:=[.int .i64 1,.int .i64 4,.int .i64 3,.int .i64 2,.int .i64 3,.int .i64 1]) (ok:=fun _ => True) (okp:=fun _ => True) ?hr ?hp (fun _ hk => hk) trivial (Below.refl _ _) (Nat.le_refl _) (by simp) ?_;(case hd => rfl);(case hg => rfl);(case hr => first | (go_simp;done) | (go_simp;rfl));(case hp => exact (Reps.one (show Kd.M (Kd.int .i64) _ _ _ 1 [.int .i64 1] from rfl) (Reps.one (show Kd.M (Kd.int .i64) _ _ _ 4 [.int .i64 4] from rfl) (Reps.one (show Kd.M (Kd.int .i64) _ _ _ 3 [.int .i64 3] from rfl) (Reps.one (show Kd.M (Kd.int .i64) _ _ _ 2 [.int .i64 2] from rfl) (Reps.one (show Kd.M (Kd.int .i64) _ _ _ 3 [.int .i64 3] from rfl) (Reps.one (show Kd.M (Kd.int .i64) _ _ _ 1 [.int .i64 1] from rfl) (Reps.none _ _))))))));intro v464 w8 ho9 hb hg_ hnew_;clear hg_ hnew_;(first | rw [← Ny463.out] at ho9 | (simp only [Int.reduceToNat] at ho9;rw [← Ny463.out] at ho9));have n0_:=Aside0.mk (Kd.R_lower ho9 (below_size (by repeat (first | (with_reducible first | exact HB.out | apply below_alloc | apply pw_below_drewN | apply below_drew1 | refine below_set ?_ GE461.out) | exact HB.out))));have n1_:=Aside0.mk (blk_below (g:=gb461) (o:=.cells #[.float .f64 0,.bool false,.slice none 0 0,.int .i64 0,.int .i64 0,.int .i64 0] 30 (0,0)) (by (with_reducible repeat (first | refine blk_drewN ?_ _ | refine blk_drew ?_ | refine blk_alloc ?_ _));exact BK461.out) hb);have n2_:=Aside0.mk (below_step (by repeat (first | (with_reducible first | exact HB.out | apply below_alloc | apply pw_below_drewN | apply below_drew1 | refine below_set ?_ GE461.out) | exact HB.out)) hb);clear BK461;clear HB;have HO465:=n0_;have BK461:=n1_;have HB:=n2_;clear n0_ n1_ n2_;clear hb ho9))
        go_loopg [4,5] kj1 (fun kq v4 v5 w' => ∃ (x4_2 : List Int) (x5_2 : Int),v5 = .int .i64 x5_2 ∧ Aside0 (humusref04_Decode.l0 kq l0 x4_2 x5_2 = some (r1,r2,r3,r4,r5,r6,r7)) ∧ Aside0 (kq ≤ kj1) ∧ Aside0 (Kd.R (Kd.int .i64) 3 w' w.heap.size (fun _ => True) v4 x4_2) ∧ Aside0 (w'.heap[gb461]? = some (.cells #[.float .f64 0,.bool false,(.slice none 0 0),.int .i64 0,.int .i64 0,.int .i64 0] 30 (0,0))) ∧ Aside0 (Below w.heap.size w w'))
        case atStart => exact ⟨(y463),(0),(by first | rfl | (simp;done) | (simp [*];done)),H',⟨Nat.le_refl _⟩,⟨by (with_reducible repeat (first | apply Kd.R_alloc | apply Kd.R_drewN | apply Kd.R_drew));exact HO465.out⟩,⟨by (with_reducible repeat (first | refine blk_drewN ?_ _ | refine blk_drew ?_ | refine blk_alloc ?_ _));exact BK461.out⟩,⟨by repeat (first | (with_reducible first | exact HB.out | apply below_alloc | apply pw_below_drewN | apply below_drew1 | refine below_set ?_ GE461.out) | exact HB.out)⟩⟩
        case round =>
          clear H'
          try clear p2
          try clear c3
          try clear c4
          try clear c4b0
          try clear c4b1
          try clear p4
          try clear q4
          try clear hx4
          try clear qi4
          try clear c5
          try clear c5b0
          try clear c5b1
          try clear c6
          try clear hcz7_0
          try clear hcz7_1
          try clear hcz7_2
          try clear hcz7_3
          try clear hcz7_4
          try clear hcz7_5
          try clear hfz7_0
          try clear hfz7_1
          try clear hfz7_2
          try clear hfz7_3
          try clear hfz7_4
          try clear hfz7_5
          try clear hx462_0
          try clear p2
          try clear p4
          try clear p462
          try clear q4
          try clear q462
          obtain ⟨x4_2,x5_2,rfl,HA,HK2,HO_4,BK461,HB⟩:=hrel
          cases gk with
          | zero => exact absurd HA.out (by simp [humusref04_Decode.l0])
          | succ k2 =>
            have H:=HA.out
            clear HA
            simp only [humusref04_Decode.l0] at H
            by_cases c10 : 19 < (l0.length : Int)
            · rw [if_pos c10] at H
              have c10b0 : decide (19 < (l0.length : Int)) = true:=decide_eq_true c10
              have c10b1 : decide (19 < l0.length) = true:=decide_eq_true (by omega)
              clear c10
              by_cases c11 : x5_2 < (wrap64 (rd l0 19))
              · rw [if_pos c11] at H
                have c11b0 : decide (x5_2 < (wrap64 (rd l0 19))) = true:=decide_eq_true c11
                clear c11
                by_cases c12 : x4_2.length < 17592186044416
                · rw [if_pos c12] at H
                  have LMc12:=Aside0.mk c12
                  clear c12
                  obtain ⟨y467,hy467⟩ : ∃ y_ : List Int,y_ = (x4_2 ++ [4]):=⟨_,rfl⟩
                  replace H : (humusref04_Decode.l0 k2 l0 y467 (wrap64 (x5_2 + 1))) = some (r1,r2,r3,r4,r5,r6,r7):=by first | (rw [hy467];with_reducible exact H) | (have H2_:=(Option.bind_some _ _).symm.trans H;rw [hy467];with_reducible exact H2_) | (have H2_:=(Option.bind_some _ _).symm.trans H;with_reducible exact H2_) | with_reducible exact H | (rw [hy467];exact H) | exact H
                  have Ny467:=Aside0.mk hy467
                  clear hy467
                  have H':=Aside0.mk H
                  clear H
                  have p466 : 0 ≤ (19 : Int):=(by omega)
                  have q466 : 19 < (l0.length : Int):=of_decide_eq_true (by first | (with_reducible assumption) | assumption)
                  obtain ⟨ad466,e466,hx466_0⟩:=Kd.at_int HR0.out 19 p466 q466
                  cases e466
                  (try simp only [show (19 : Int).toNat = 19 from rfl,Nat.reduceMul,Nat.reduceEqDiff,Go.Addr.add,↓reduceIte] at hx466_0)
                  have qi466 : (19 < l0.length) = True:=eq_true (by omega)
                  (try rw [show ((19 : Int)).toNat = 19 from rfl] at hx466_0)
                  replace hx466_0:=(HB.out.cell (World.block_lt_of_cell? w _ hx466_0)).trans hx466_0
                  replace p466:=eq_true p466
                  replace q466:=eq_true q466
                  go_wp2_with (first | ((with_reducible refine gate_builtin (b:=.append) (xs:=#[.tmp 30,.tmp 31]) rfl ?_);at_builtin;refine Kd.R_append (Kd.int .i64) (w0:=w) w.heap.size rfl (.tmp 30) (.tmp 31) 88 3 (.int .i64 0) 8 rfl Try.underlying88 info3 rfl (by decide) (by omega) u4 x4_2 4 [.int .i64 4] (fun _ => True) (fun _ => False) rfl rfl ?aP (fun _ hk => hk.elim) ?aF ?aO ?aB ?aS ?aL ?_;(case aP => exact rfl);(case aB => exact (by repeat (first | (with_reducible first | exact HB.out | apply below_alloc | apply pw_below_drewN | apply below_drew1 | refine below_set ?_ GE461.out) | exact HB.out)));(case aF => exact (fun _ _ => trivial));(case aO => exact (by (with_reducible repeat (first | apply Kd.R_alloc | apply Kd.R_drewN | apply Kd.R_drew));exact HO_4.out));(case aS => exact (below_size (by repeat (first | (with_reducible first | exact HB.out | apply below_alloc | apply pw_below_drewN | apply below_drew1 | refine below_set ?_ GE461.out) | exact HB.out))));(case aL => have:=LMc12.out;omega);intro v468 w13 ho hb hg hat;rw [← Ny467.out] at ho;have n0_:=Aside0.mk (blk_grown (g:=gb461) (o:=.cells #[.float .f64 0,.bool false,.slice none 0 0,.int .i64 0,.int .i64 0,.int .i64 0] 30 (0,0)) (by (with_reducible repeat (first | refine blk_drewN ?_ _ | refine blk_drew ?_ | refine blk_alloc ?_ _));exact BK461.out) hg (Kd.R_ne HO_4.out BK461.out (by decide)));have n1_:=Aside0.mk (hb);have n2_:=Aside0.mk (ho);clear BK461;clear HB;clear HO_4;have BK461:=n0_;have HB:=n1_;have HO469:=n2_;clear n0_ n1_ n2_;clear ho hb hg hat))
                  go_roundg k2
                  case measure => have:=HJ1.out;have:=HK2.out;omega
                  case rel => exact ⟨(y467),(wrap64 (x5_2 + 1)),(by first | rfl | (simp;done) | (simp [*];done)),H',⟨by have:=HJ1.out;have:=HK2.out;omega⟩,⟨by (with_reducible repeat (first | apply Kd.R_alloc | apply Kd.R_drewN | apply Kd.R_drew));exact HO469.out⟩,⟨by (with_reducible repeat (first | refine blk_drewN ?_ _ | refine blk_drew ?_ | refine blk_alloc ?_ _));exact BK461.out⟩,⟨by repeat (first | (with_reducible first | exact HB.out | apply below_alloc | apply pw_below_drewN | apply below_drew1 | refine below_set ?_ GE461.out) | exact HB.out)⟩⟩
                · rw [if_neg c12] at H
                  exact absurd H (by simp)
              · rw [if_neg c11] at H
                have c11b0 : decide (x5_2 < (wrap64 (rd l0 19))) = false:=decide_eq_false c11
                clear c11
                replace H:=Option.bind_eq_some_iff.mp H
                obtain ⟨⟨t470,t471,t472⟩,A140,H⟩:=H
                replace H : (if t472 = 0 then (if 0 < (t470.length : Int) then (if 1 < (t470.length : Int) then (if 2 < (t470.length : Int) then (if 3 < (t470.length : Int) then (if 4 < (t470.length : Int) then (humusref04_Decode.l1 k2 l0 t470 6 ((rd_T86 t470 1).f2) (((rd_T86 t470 0).f1) == 1) ([] : List Nat) ((rd_T86 t470 2).f1) ((rd_T86 t470 3).f1) ((rd_T86 t470 4).f1)) else (none)) else (none)) else (none)) else (none)) else (none)) else (some (0,false,([] : List Nat),0,0,0,false))) = some (r1,r2,r3,r4,r5,r6,r7):=H
                have A14:=Aside0.mk A140
                clear A140
                by_cases c15 : t472 = 0
                · rw [if_pos c15] at H
                  have c15b0 : (t472 == 0) = true:=beq_iff_eq.mpr c15
                  have c15b1 : (t472 != 0) = false:=bne_eq_false_iff_eq.mpr c15
                  clear c15
                  by_cases c16 : 0 < (t470.length : Int)
                  · rw [if_pos c16] at H
                    have c16b0 : decide (0 < (t470.length : Int)) = true:=decide_eq_true c16
                    have c16b1 : decide (0 < t470.length) = true:=decide_eq_true (by omega)
                    clear c16
                    by_cases c17 : 1 < (t470.length : Int)
                    · rw [if_pos c17] at H
                      have c17b0 : decide (1 < (t470.length : Int)) = true:=decide_eq_true c17
                      have c17b1 : decide (1 < t470.length) = true:=decide_eq_true (by omega)
                      clear c17
                      by_cases c18 : 2 < (t470.length : Int)
                      · rw [if_pos c18] at H
                        have c18b0 : decide (2 < (t470.length : Int)) = true:=decide_eq_true c18
                        have c18b1 : decide (2 < t470.length) = true:=decide_eq_true (by omega)
                        clear c18
                        by_cases c19 : 3 < (t470.length : Int)
                        · rw [if_pos c19] at H
                          have c19b0 : decide (3 < (t470.length : Int)) = true:=decide_eq_true c19
                          have c19b1 : decide (3 < t470.length) = true:=decide_eq_true (by omega)
                          clear c19
                          by_cases c20 : 4 < (t470.length : Int)
                          · rw [if_pos c20] at H
                            have c20b0 : decide (4 < (t470.length : Int)) = true:=decide_eq_true c20
                            have c20b1 : decide (4 < t470.length) = true:=decide_eq_true (by omega)
                            clear c20
                            have H':=Aside0.mk H
                            clear H
                            have p466 : 0 ≤ (19 : Int):=(by omega)
                            have q466 : 19 < (l0.length : Int):=of_decide_eq_true (by first | (with_reducible assumption) | assumption)
                            obtain ⟨ad466,e466,hx466_0⟩:=Kd.at_int HR0.out 19 p466 q466
                            cases e466
                            (try simp only [show (19 : Int).toNat = 19 from rfl,Nat.reduceMul,Nat.reduceEqDiff,Go.Addr.add,↓reduceIte] at hx466_0)
                            have qi466 : (19 < l0.length) = True:=eq_true (by omega)
                            (try rw [show ((19 : Int)).toNat = 19 from rfl] at hx466_0)
                            replace hx466_0:=(HB.out.cell (World.block_lt_of_cell? w _ hx466_0)).trans hx466_0
                            replace p466:=eq_true p466
                            replace q466:=eq_true q466
                            obtain ⟨Ao21,co21,eo21⟩:=Kd.R_slice HO_4.out
                            subst eo21
                            try go_wp2_with (first | ((with_reducible refine gate_callee (f:=77) rfl ?_);refine goesL_ (some 36) rfl rfl Try.func77 (by kernel_rfl) rfl #[.slice (some ad466) l0.length c0,.slice Ao21 x4_2.length co21] rfl (by (try simp only [List.map_toArray,List.map_cons,List.map_nil]);first | done | rfl | (simp only [List.length_drop,List.length_take];rfl)) ?_;(with_reducible refine (humusref03_Take.calls _ _ l0 _ _ x4_2 t470 t471 t472 _ ?side1 ?side2 ?side3 ?side4 A14.out).mono ?_);(case side1 => repeat (first | exact (Kd.C_below HR0.out HB.out) | (with_reducible refine Kd.C_alloc ?_ _) | (with_reducible refine Kd.C_drewN ?_ _) | (with_reducible refine Kd.C_drew ?_)));(case side2 => exact HC0.out);(case side3 => repeat (first | exact (Kd.R_reads' HO_4.out).2.2 | (with_reducible refine Kd.C_alloc ?_ _) | (with_reducible refine Kd.C_drewN ?_ _) | (with_reducible refine Kd.C_drew ?_)));(case side4 => exact (Kd.R_reads' HO_4.out).2.1);rintro e w22 ⟨v473,rfl,ho0,hb⟩;refine ⟨_,rfl,?_⟩;have n0_:=Aside0.mk (Kd.R_below (by (with_reducible repeat (first | apply Kd.R_alloc | apply Kd.R_drewN | apply Kd.R_drew));exact HO_4.out) hb);have n1_:=Aside0.mk (Kd.R_lower ho0 (below_size (by repeat (first | (with_reducible first | exact HB.out | apply below_alloc | apply pw_below_drewN | apply below_drew1 | refine below_set ?_ GE461.out) | exact HB.out))));have n2_:=Aside0.mk (blk_below (g:=gb461) (o:=.cells #[.float .f64 0,.bool false,.slice none 0 0,.int .i64 0,.int .i64 0,.int .i64 0] 30 (0,0)) (by (with_reducible repeat (first | refine blk_drewN ?_ _ | refine blk_drew ?_ | refine blk_alloc ?_ _));exact BK461.out) hb);have n3_:=Aside0.mk (below_step (by repeat (first | (with_reducible first | exact HB.out | apply below_alloc | apply pw_below_drewN | apply below_drew1 | refine below_set ?_ GE461.out) | exact HB.out)) hb);clear HO_4;clear BK461;clear HB;have HO_4:=n0_;have HO474:=n1_;have BK461:=n2_;have HB:=n3_;clear n0_ n1_ n2_ n3_;(try clear hb);(try clear hb2);(try clear hk);(try clear hi);(try clear ho0)))
                            have n0_:=Aside0.mk (Kd.R_drew HO_4.out)
                            have n1_:=Aside0.mk (Kd.R_drew HO474.out)
                            have n2_:=Aside0.mk (blk_drew BK461.out)
                            have n3_:=Aside0.mk (below_drew1 HB.out)
                            clear HO_4
                            clear HO474
                            clear BK461
                            clear HB
                            have HO_4:=n0_
                            have HO474:=n1_
                            have BK461:=n2_
                            have HB:=n3_
                            clear n0_ n1_ n2_ n3_
                            obtain ⟨Ao24,co24,eo24⟩:=Kd.R_slice HO474.out
                            (first | subst eo24 | (injection eo24 with f1_ f2_ f3_;have f4_:=f1_.symm;have f5_:=f3_.symm;clear f1_ f2_ f3_;subst f4_;subst f5_))
                            have p475 : 0 ≤ (0 : Int):=(by omega)
                            have q475 : 0 < (t470.length : Int):=of_decide_eq_true (by first | (with_reducible assumption) | assumption)
                            obtain ⟨ad475,e475,hx475_0,hx475_1,hx475_2,hx475_3⟩:=at_T86 (Kd.R_reads' HO474.out).2.2 0 p475 q475
                            cases e475
                            have qi475 : (0 < t470.length) = True:=eq_true (by omega)
                            (try rw [show ((0 : Int)).toNat = 0 from rfl] at hx475_0)
                            (try rw [show 0 * 4 = 0 from rfl] at hx475_0)
                            (try rw [Addr.add_zero'] at hx475_0)
                            (try rw [show ((0 : Int)).toNat = 0 from rfl] at hx475_1)
                            (try rw [show 0 * 4 = 0 from rfl] at hx475_1)
                            (try rw [Addr.add_zero'] at hx475_1)
                            (try rw [show ((0 : Int)).toNat = 0 from rfl] at hx475_2)
                            (try rw [show 0 * 4 = 0 from rfl] at hx475_2)
                            (try rw [Addr.add_zero'] at hx475_2)
                            (try rw [show ((0 : Int)).toNat = 0 from rfl] at hx475_3)
                            (try rw [show 0 * 4 = 0 from rfl] at hx475_3)
                            (try rw [Addr.add_zero'] at hx475_3)
                            replace p475:=eq_true p475
                            replace q475:=eq_true q475
                            have p476 : 0 ≤ (1 : Int):=(by omega)
                            have q476 : 1 < (t470.length : Int):=of_decide_eq_true (by first | (with_reducible assumption) | assumption)
                            obtain ⟨ad476,e476,hx476_0,hx476_1,hx476_2,hx476_3⟩:=at_T86 (Kd.R_reads' HO474.out).2.2 1 p476 q476
                            obtain rfl : ad475 = ad476:=(by injection e476)
                            (try simp only [show (1 : Int).toNat = 1 from rfl,Nat.reduceMul,Nat.reduceEqDiff,Go.Addr.add,↓reduceIte] at hx476_0)
                            (try simp only [show (1 : Int).toNat = 1 from rfl,Nat.reduceMul,Nat.reduceEqDiff,Go.Addr.add,↓reduceIte] at hx476_1)
                            (try simp only [show (1 : Int).toNat = 1 from rfl,Nat.reduceMul,Nat.reduceEqDiff,Go.Addr.add,↓reduceIte] at hx476_2)
                            (try simp only [show (1 : Int).toNat = 1 from rfl,Nat.reduceMul,Nat.reduceEqDiff,Go.Addr.add,↓reduceIte] at hx476_3)
                            have qi476 : (1 < t470.length) = True:=eq_true (by omega)
                            (try rw [show ((1 : Int)).toNat = 1 from rfl] at hx476_0)
                            (try rw [show 1 * 4 = 4 from rfl] at hx476_0)
                            (try rw [show ((1 : Int)).toNat = 1 from rfl] at hx476_1)
                            (try rw [show 1 * 4 = 4 from rfl] at hx476_1)
                            (try rw [show ((1 : Int)).toNat = 1 from rfl] at hx476_2)
                            (try rw [show 1 * 4 = 4 from rfl] at hx476_2)
                            (try rw [show ((1 : Int)).toNat = 1 from rfl] at hx476_3)
                            (try rw [show 1 * 4 = 4 from rfl] at hx476_3)
                            replace p476:=eq_true p476
                            replace q476:=eq_true q476
                            have p477 : 0 ≤ (2 : Int):=(by omega)
                            have q477 : 2 < (t470.length : Int):=of_decide_eq_true (by first | (with_reducible assumption) | assumption)
                            obtain ⟨ad477,e477,hx477_0,hx477_1,hx477_2,hx477_3⟩:=at_T86 (Kd.R_reads' HO474.out).2.2 2 p477 q477
                            obtain rfl : ad475 = ad477:=(by injection e477)
                            (try simp only [show (2 : Int).toNat = 2 from rfl,Nat.reduceMul,Nat.reduceEqDiff,Go.Addr.add,↓reduceIte] at hx477_0)
                            (try simp only [show (2 : Int).toNat = 2 from rfl,Nat.reduceMul,Nat.reduceEqDiff,Go.Addr.add,↓reduceIte] at hx477_1)
                            (try simp only [show (2 : Int).toNat = 2 from rfl,Nat.reduceMul,Nat.reduceEqDiff,Go.Addr.add,↓reduceIte] at hx477_2)
                            (try simp only [show (2 : Int).toNat = 2 from rfl,Nat.reduceMul,Nat.reduceEqDiff,Go.Addr.add,↓reduceIte] at hx477_3)
                            have qi477 : (2 < t470.length) = True:=eq_true (by omega)
                            (try rw [show ((2 : Int)).toNat = 2 from rfl] at hx477_0)
                            (try rw [show 2 * 4 = 8 from rfl] at hx477_0)
                            (try rw [show ((2 : Int)).toNat = 2 from rfl] at hx477_1)
                            (try rw [show 2 * 4 = 8 from rfl] at hx477_1)
                            (try rw [show ((2 : Int)).toNat = 2 from rfl] at hx477_2)
                            (try rw [show 2 * 4 = 8 from rfl] at hx477_2)
                            (try rw [show ((2 : Int)).toNat = 2 from rfl] at hx477_3)
                            (try rw [show 2 * 4 = 8 from rfl] at hx477_3)
                            replace p477:=eq_true p477
                            replace q477:=eq_true q477
                            have p478 : 0 ≤ (3 : Int):=(by omega)
                            have q478 : 3 < (t470.length : Int):=of_decide_eq_true (by first | (with_reducible assumption) | assumption)
                            obtain ⟨ad478,e478,hx478_0,hx478_1,hx478_2,hx478_3⟩:=at_T86 (Kd.R_reads' HO474.out).2.2 3 p478 q478
                            obtain rfl : ad475 = ad478:=(by injection e478)
                            (try simp only [show (3 : Int).toNat = 3 from rfl,Nat.reduceMul,Nat.reduceEqDiff,Go.Addr.add,↓reduceIte] at hx478_0)
                            (try simp only [show (3 : Int).toNat = 3 from rfl,Nat.reduceMul,Nat.reduceEqDiff,Go.Addr.add,↓reduceIte] at hx478_1)
                            (try simp only [show (3 : Int).toNat = 3 from rfl,Nat.reduceMul,Nat.reduceEqDiff,Go.Addr.add,↓reduceIte] at hx478_2)
                            (try simp only [show (3 : Int).toNat = 3 from rfl,Nat.reduceMul,Nat.reduceEqDiff,Go.Addr.add,↓reduceIte] at hx478_3)
                            have qi478 : (3 < t470.length) = True:=eq_true (by omega)
                            (try rw [show ((3 : Int)).toNat = 3 from rfl] at hx478_0)
                            (try rw [show 3 * 4 = 12 from rfl] at hx478_0)
                            (try rw [show ((3 : Int)).toNat = 3 from rfl] at hx478_1)
                            (try rw [show 3 * 4 = 12 from rfl] at hx478_1)
                            (try rw [show ((3 : Int)).toNat = 3 from rfl] at hx478_2)
                            (try rw [show 3 * 4 = 12 from rfl] at hx478_2)
                            (try rw [show ((3 : Int)).toNat = 3 from rfl] at hx478_3)
                            (try rw [show 3 * 4 = 12 from rfl] at hx478_3)
                            replace p478:=eq_true p478
                            replace q478:=eq_true q478
                            have p479 : 0 ≤ (4 : Int):=(by omega)
                            have q479 : 4 < (t470.length : Int):=of_decide_eq_true (by first | (with_reducible assumption) | assumption)
                            obtain ⟨ad479,e479,hx479_0,hx479_1,hx479_2,hx479_3⟩:=at_T86 (Kd.R_reads' HO474.out).2.2 4 p479 q479
                            obtain rfl : ad475 = ad479:=(by injection e479)
                            (try simp only [show (4 : Int).toNat = 4 from rfl,Nat.reduceMul,Nat.reduceEqDiff,Go.Addr.add,↓reduceIte] at hx479_0)
                            (try simp only [show (4 : Int).toNat = 4 from rfl,Nat.reduceMul,Nat.reduceEqDiff,Go.Addr.add,↓reduceIte] at hx479_1)
                            (try simp only [show (4 : Int).toNat = 4 from rfl,Nat.reduceMul,Nat.reduceEqDiff,Go.Addr.add,↓reduceIte] at hx479_2)
                            (try simp only [show (4 : Int).toNat = 4 from rfl,Nat.reduceMul,Nat.reduceEqDiff,Go.Addr.add,↓reduceIte] at hx479_3)
                            have qi479 : (4 < t470.length) = True:=eq_true (by omega)
                            (try rw [show ((4 : Int)).toNat = 4 from rfl] at hx479_0)
                            (try rw [show 4 * 4 = 16 from rfl] at hx479_0)
                            (try rw [show ((4 : Int)).toNat = 4 from rfl] at hx479_1)
                            (try rw [show 4 * 4 = 16 from rfl] at hx479_1)
                            (try rw [show ((4 : Int)).toNat = 4 from rfl] at hx479_2)
                            (try rw [show 4 * 4 = 16 from rfl] at hx479_2)
                            (try rw [show ((4 : Int)).toNat = 4 from rfl] at hx479_3)
                            (try rw [show 4 * 4 = 16 from rfl] at hx479_3)
                            replace p479:=eq_true p479
                            replace q479:=eq_true q479
                            refine start_ (n:=25) (S:=fun w' => w'.cell? ad475 = some (.int .i64 ((rd_T86 t470 0).f0)) ∧ w'.cell? ⟨ad475.block,ad475.off + 1,none⟩ = some (.int .i64 ((rd_T86 t470 0).f1)) ∧ w'.cell? ⟨ad475.block,ad475.off + 2,none⟩ = some (.float .f64 ((rd_T86 t470 0).f2)) ∧ w'.cell? ⟨ad475.block,ad475.off + 3,none⟩ = some (.string ((rd_T86 t470 0).f3)) ∧ w'.cell? ⟨ad475.block,ad475.off + 4,none⟩ = some (.int .i64 ((rd_T86 t470 1).f0)) ∧ w'.cell? ⟨ad475.block,ad475.off + 4 + 1,none⟩ = some (.int .i64 ((rd_T86 t470 1).f1)) ∧ w'.cell? ⟨ad475.block,ad475.off + 4 + 2,none⟩ = some (.float .f64 ((rd_T86 t470 1).f2)) ∧ w'.cell? ⟨ad475.block,ad475.off + 4 + 3,none⟩ = some (.string ((rd_T86 t470 1).f3)) ∧ w'.cell? ⟨ad475.block,ad475.off + 8,none⟩ = some (.int .i64 ((rd_T86 t470 2).f0)) ∧ w'.cell? ⟨ad475.block,ad475.off + 8 + 1,none⟩ = some (.int .i64 ((rd_T86 t470 2).f1)) ∧ w'.cell? ⟨ad475.block,ad475.off + 8 + 2,none⟩ = some (.float .f64 ((rd_T86 t470 2).f2)) ∧ w'.cell? ⟨ad475.block,ad475.off + 8 + 3,none⟩ = some (.string ((rd_T86 t470 2).f3)) ∧ w'.cell? ⟨ad475.block,ad475.off + 12,none⟩ = some (.int .i64 ((rd_T86 t470 3).f0)) ∧ w'.cell? ⟨ad475.block,ad475.off + 12 + 1,none⟩ = some (.int .i64 ((rd_T86 t470 3).f1)) ∧ w'.cell? ⟨ad475.block,ad475.off + 12 + 2,none⟩ = some (.float .f64 ((rd_T86 t470 3).f2)) ∧ w'.cell? ⟨ad475.block,ad475.off + 12 + 3,none⟩ = some (.string ((rd_T86 t470 3).f3)) ∧ w'.cell? ⟨ad475.block,ad475.off + 16,none⟩ = some (.int .i64 ((rd_T86 t470 4).f0)) ∧ w'.cell? ⟨ad475.block,ad475.off + 16 + 1,none⟩ = some (.int .i64 ((rd_T86 t470 4).f1)) ∧ w'.cell? ⟨ad475.block,ad475.off + 16 + 2,none⟩ = some (.float .f64 ((rd_T86 t470 4).f2)) ∧ w'.cell? ⟨ad475.block,ad475.off + 16 + 3,none⟩ = some (.string ((rd_T86 t470 4).f3))) (ds:=[24]) #[false,false,false,false,false,false,false,false,false,false,false,false,false,false,false,false,false,false,false,false,false,false,false,false,false] (by kernel_rfl) rfl rfl ⟨hx475_0,hx475_1,hx475_2,hx475_3,hx476_0,hx476_1,hx476_2,hx476_3,hx477_0,hx477_1,hx477_2,hx477_3,hx478_0,hx478_1,hx478_2,hx478_3,hx479_0,hx479_1,hx479_2,hx479_3⟩ (fun hHeld => ?_);refine with_tabW humusref04_Decode.tab11 humusref04_Decode.bits11 (fun HT_ HW_ => ?_)
                            generalize w22.drew = w23 at HO_4 HO474 BK461 HB hx475_0 hx475_1 hx475_2 hx475_3 hx476_0 hx476_1 hx476_2 hx476_3 hx477_0 hx477_1 hx477_2 hx477_3 hx478_0 hx478_1 hx478_2 hx478_3 hx479_0 hx479_1 hx479_2 hx479_3 hHeld ⊢
                            refine pure_ (i:=0) (N:=some 43) (v:=?_) (a':=?_) #[true,false,false,false,false,false,false,false,false,false,false,false,false,false,false,false,false,false,false,false,false,false,false,false,false] rfl rfl (any_of HT_.out (by kernel_rfl)) (fun _ _ _ h => h) (Or.inl ⟨by rfl,?_⟩) ?_ ?_
                            rotate_left
                            · intro w'
                              go_simp
                              with_reducible rfl
                            rotate_left
                            · simp only [Act.put,List.setIfInBounds_toArray,List.set_cons_zero,List.set_cons_succ,i64_w,i32_w]
                              rfl
                            refine pure_ (i:=1) (N:=some 44) (v:=?_) (a':=?_) #[true,true,false,false,false,false,false,false,false,false,false,false,false,false,false,false,false,false,false,false,false,false,false,false,false] rfl rfl (any_of HT_.out (by kernel_rfl)) (fun _ _ _ h => h) (Or.inl ⟨by rfl,?_⟩) ?_ ?_
                            rotate_left
                            · intro w'
                              go_simp
                              with_reducible rfl
                            rotate_left
                            · simp only [Act.put,List.setIfInBounds_toArray,List.set_cons_zero,List.set_cons_succ,i64_w,i32_w]
                              rfl
                            refine pure_ (i:=2) (N:=some 45) (v:=?_) (a':=?_) #[true,true,true,false,false,false,false,false,false,false,false,false,false,false,false,false,false,false,false,false,false,false,false,false,false] rfl rfl (any_of HT_.out (by kernel_rfl)) (fun _ _ _ h => h) (Or.inl ⟨by rfl,?_⟩) ?_ ?_
                            rotate_left
                            · intro w'
                              go_simp
                              with_reducible rfl
                            rotate_left
                            · simp only [Act.put,List.setIfInBounds_toArray,List.set_cons_zero,List.set_cons_succ,i64_w,i32_w]
                              rfl
                            refine pure_ (i:=5) (N:=some 48) (v:=?_) (a':=?_) #[true,true,true,false,false,true,false,false,false,false,false,false,false,false,false,false,false,false,false,false,false,false,false,false,false] rfl rfl (any_of HT_.out (by kernel_rfl)) (fun _ _ _ h => h) (Or.inl ⟨by rfl,?_⟩) ?_ ?_
                            rotate_left
                            · intro w'
                              go_simp
                              with_reducible rfl
                            rotate_left
                            · simp only [Act.put,List.setIfInBounds_toArray,List.set_cons_zero,List.set_cons_succ,i64_w,i32_w]
                              rfl
                            refine pure_ (i:=6) (N:=some 49) (v:=?_) (a':=?_) #[true,true,true,false,false,true,true,false,false,false,false,false,false,false,false,false,false,false,false,false,false,false,false,false,false] rfl rfl (any_of HT_.out (by kernel_rfl)) (fun _ _ _ h => h) (Or.inl ⟨by rfl,?_⟩) ?_ ?_
                            rotate_left
                            · intro w'
                              go_simp
                              with_reducible rfl
                            rotate_left
                            · simp only [Act.put,List.setIfInBounds_toArray,List.set_cons_zero,List.set_cons_succ,i64_w,i32_w]
                              rfl
                            refine pure_ (i:=7) (N:=some 50) (v:=?_) (a':=?_) #[true,true,true,false,false,true,true,true,false,false,false,false,false,false,false,false,false,false,false,false,false,false,false,false,false] rfl rfl (any_of HT_.out (by kernel_rfl)) (fun _ _ _ h => h) (Or.inl ⟨by rfl,?_⟩) ?_ ?_
                            rotate_left
                            · intro w'
                              go_simp
                              with_reducible rfl
                            rotate_left
                            · simp only [Act.put,List.setIfInBounds_toArray,List.set_cons_zero,List.set_cons_succ,i64_w,i32_w]
                              rfl
                            refine pure_ (i:=9) (N:=some 52) (v:=?_) (a':=?_) #[true,true,true,false,false,true,true,true,false,true,false,false,false,false,false,false,false,false,false,false,false,false,false,false,false] rfl rfl (any_of HT_.out (by kernel_rfl)) (fun _ _ _ h => h) (Or.inl ⟨by rfl,?_⟩) ?_ ?_
                            rotate_left
                            · intro w'
                              go_simp
                              with_reducible rfl
                            rotate_left
                            · simp only [Act.put,List.setIfInBounds_toArray,List.set_cons_zero,List.set_cons_succ,i64_w,i32_w]
                              rfl
                            refine pure_ (i:=10) (N:=some 53) (v:=?_) (a':=?_) #[true,true,true,false,false,true,true,true,false,true,true,false,false,false,false,false,false,false,false,false,false,false,false,false,false] rfl rfl (any_of HT_.out (by kernel_rfl)) (fun _ _ _ h => h) (Or.inl ⟨by rfl,?_⟩) ?_ ?_
                            rotate_left
                            · intro w'
                              go_simp
                              with_reducible rfl
                            rotate_left
                            · simp only [Act.put,List.setIfInBounds_toArray,List.set_cons_zero,List.set_cons_succ,i64_w,i32_w]
                              rfl
                            refine pure_ (i:=11) (N:=some 54) (v:=?_) (a':=?_) #[true,true,true,false,false,true,true,true,false,true,true,true,false,false,false,false,false,false,false,false,false,false,false,false,false] rfl rfl (any_of HT_.out (by kernel_rfl)) (fun _ _ _ h => h) (Or.inl ⟨by rfl,?_⟩) ?_ ?_
                            rotate_left
                            · intro w'
                              go_simp
                              with_reducible rfl
                            rotate_left
                            · simp only [Act.put,List.setIfInBounds_toArray,List.set_cons_zero,List.set_cons_succ,i64_w,i32_w]
                              rfl
                            refine pure_ (i:=13) (N:=some 56) (v:=?_) (a':=?_) #[true,true,true,false,false,true,true,true,false,true,true,true,false,true,false,false,false,false,false,false,false,false,false,false,false] rfl rfl (any_of HT_.out (by kernel_rfl)) (fun _ _ _ h => h) (Or.inl ⟨by rfl,?_⟩) ?_ ?_
                            rotate_left
                            · intro w'
                              go_simp
                              with_reducible rfl
                            rotate_left
                            · simp only [Act.put,List.setIfInBounds_toArray,List.set_cons_zero,List.set_cons_succ,i64_w,i32_w]
                              rfl
                            refine pure_ (i:=14) (N:=some 57) (v:=?_) (a':=?_) #[true,true,true,false,false,true,true,true,false,true,true,true,false,true,true,false,false,false,false,false,false,false,false,false,false] rfl rfl (any_of HT_.out (by kernel_rfl)) (fun _ _ _ h => h) (Or.inl ⟨by rfl,?_⟩) ?_ ?_
                            rotate_left
                            · intro w'
                              go_simp
                              with_reducible rfl
                            rotate_left
                            · simp only [Act.put,List.setIfInBounds_toArray,List.set_cons_zero,List.set_cons_succ,i64_w,i32_w]
                              rfl
                            refine pure_ (i:=15) (N:=some 58) (v:=?_) (a':=?_) #[true,true,true,false,false,true,true,true,false,true,true,true,false,true,true,true,false,false,false,false,false,false,false,false,false] rfl rfl (any_of HT_.out (by kernel_rfl)) (fun _ _ _ h => h) (Or.inl ⟨by rfl,?_⟩) ?_ ?_
                            rotate_left
                            · intro w'
                              go_simp
                              with_reducible rfl
                            rotate_left
                            · simp only [Act.put,List.setIfInBounds_toArray,List.set_cons_zero,List.set_cons_succ,i64_w,i32_w]
                              rfl
                            refine pure_ (i:=17) (N:=some 60) (v:=?_) (a':=?_) #[true,true,true,false,false,true,true,true,false,true,true,true,false,true,true,true,false,true,false,false,false,false,false,false,false] rfl rfl (any_of HT_.out (by kernel_rfl)) (fun _ _ _ h => h) (Or.inl ⟨by rfl,?_⟩) ?_ ?_
                            rotate_left
                            · intro w'
                              go_simp
                              with_reducible rfl
                            rotate_left
                            · simp only [Act.put,List.setIfInBounds_toArray,List.set_cons_zero,List.set_cons_succ,i64_w,i32_w]
                              rfl
                            refine pure_ (i:=18) (N:=some 61) (v:=?_) (a':=?_) #[true,true,true,false,false,true,true,true,false,true,true,true,false,true,true,true,false,true,true,false,false,false,false,false,false] rfl rfl (any_of HT_.out (by kernel_rfl)) (fun _ _ _ h => h) (Or.inl ⟨by rfl,?_⟩) ?_ ?_
                            rotate_left
                            · intro w'
                              go_simp
                              with_reducible rfl
                            rotate_left
                            · simp only [Act.put,List.setIfInBounds_toArray,List.set_cons_zero,List.set_cons_succ,i64_w,i32_w]
                              rfl
                            refine pure_ (i:=19) (N:=some 62) (v:=?_) (a':=?_) #[true,true,true,false,false,true,true,true,false,true,true,true,false,true,true,true,false,true,true,true,false,false,false,false,false] rfl rfl (any_of HT_.out (by kernel_rfl)) (fun _ _ _ h => h) (Or.inl ⟨by rfl,?_⟩) ?_ ?_
                            rotate_left
                            · intro w'
                              go_simp
                              with_reducible rfl
                            rotate_left
                            · simp only [Act.put,List.setIfInBounds_toArray,List.set_cons_zero,List.set_cons_succ,i64_w,i32_w]
                              rfl
                            refine take_ (i:=3) (N:=some 46) (v:=?_) (a':=?_) #[true,true,true,true,false,true,true,true,false,true,true,true,false,true,true,true,false,true,true,true,false,false,false,false,false] rfl rfl (take_ofW HT_.out HW_.out (by kernel_rfl)) (fun _ _ _ h => h) (Or.inl ⟨by rfl,?_⟩) hHeld ?_ ?_
                            rotate_left
                            · rintro w' ⟨s0,s1,s2,s3,s4,s5,s6,s7,s8,s9,s10,s11,s12,s13,s14,s15,s16,s17,s18,s19⟩
                              go_simp
                              with_reducible rfl
                            rotate_left
                            · simp only [Act.put,List.setIfInBounds_toArray,List.set_cons_zero,List.set_cons_succ,i64_w,i32_w]
                              rfl
                            refine pure_ (i:=4) (N:=some 47) (v:=?_) (a':=?_) #[true,true,true,true,true,true,true,true,false,true,true,true,false,true,true,true,false,true,true,true,false,false,false,false,false] rfl rfl (any_of HT_.out (by kernel_rfl)) (fun _ _ _ h => h) (Or.inl ⟨by rfl,?_⟩) ?_ ?_
                            rotate_left
                            · intro w'
                              go_simp
                              with_reducible rfl
                            rotate_left
                            · simp only [Act.put,List.setIfInBounds_toArray,List.set_cons_zero,List.set_cons_succ,i64_w,i32_w]
                              rfl
                            refine take_ (i:=8) (N:=some 51) (v:=?_) (a':=?_) #[true,true,true,true,true,true,true,true,true,true,true,true,false,true,true,true,false,true,true,true,false,false,false,false,false] rfl rfl (take_ofW HT_.out HW_.out (by kernel_rfl)) (fun _ _ _ h => h) (Or.inl ⟨by rfl,?_⟩) hHeld ?_ ?_
                            rotate_left
                            · rintro w' ⟨s0,s1,s2,s3,s4,s5,s6,s7,s8,s9,s10,s11,s12,s13,s14,s15,s16,s17,s18,s19⟩
                              go_simp
                              with_reducible rfl
                            rotate_left
                            · simp only [Act.put,List.setIfInBounds_toArray,List.set_cons_zero,List.set_cons_succ,i64_w,i32_w]
                              rfl
                            refine take_ (i:=12) (N:=some 55) (v:=?_) (a':=?_) #[true,true,true,true,true,true,true,true,true,true,true,true,true,true,true,true,false,true,true,true,false,false,false,false,false] rfl rfl (take_ofW HT_.out HW_.out (by kernel_rfl)) (fun _ _ _ h => h) (Or.inl ⟨by rfl,?_⟩) hHeld ?_ ?_
                            rotate_left
                            · rintro w' ⟨s0,s1,s2,s3,s4,s5,s6,s7,s8,s9,s10,s11,s12,s13,s14,s15,s16,s17,s18,s19⟩
                              go_simp
                              with_reducible rfl
                            rotate_left
                            · simp only [Act.put,List.setIfInBounds_toArray,List.set_cons_zero,List.set_cons_succ,i64_w,i32_w]
                              rfl
                            refine take_ (i:=16) (N:=some 59) (v:=?_) (a':=?_) #[true,true,true,true,true,true,true,true,true,true,true,true,true,true,true,true,true,true,true,true,false,false,false,false,false] rfl rfl (take_ofW HT_.out HW_.out (by kernel_rfl)) (fun _ _ _ h => h) (Or.inl ⟨by rfl,?_⟩) hHeld ?_ ?_
                            rotate_left
                            · rintro w' ⟨s0,s1,s2,s3,s4,s5,s6,s7,s8,s9,s10,s11,s12,s13,s14,s15,s16,s17,s18,s19⟩
                              go_simp
                              with_reducible rfl
                            rotate_left
                            · simp only [Act.put,List.setIfInBounds_toArray,List.set_cons_zero,List.set_cons_succ,i64_w,i32_w]
                              rfl
                            refine take_ (i:=20) (N:=some 63) (v:=?_) (a':=?_) #[true,true,true,true,true,true,true,true,true,true,true,true,true,true,true,true,true,true,true,true,true,false,false,false,false] rfl rfl (take_ofW HT_.out HW_.out (by kernel_rfl)) (fun _ _ _ h => h) (Or.inl ⟨by rfl,?_⟩) hHeld ?_ ?_
                            rotate_left
                            · rintro w' ⟨s0,s1,s2,s3,s4,s5,s6,s7,s8,s9,s10,s11,s12,s13,s14,s15,s16,s17,s18,s19⟩
                              go_simp
                              with_reducible rfl
                            rotate_left
                            · simp only [Act.put,List.setIfInBounds_toArray,List.set_cons_zero,List.set_cons_succ,i64_w,i32_w]
                              rfl
                            refine pure_ (i:=21) (N:=some 64) (v:=?_) (a':=?_) #[true,true,true,true,true,true,true,true,true,true,true,true,true,true,true,true,true,true,true,true,true,true,false,false,false] rfl rfl (any_of HT_.out (by kernel_rfl)) (fun _ _ _ h => h) (Or.inl ⟨by rfl,?_⟩) ?_ ?_
                            rotate_left
                            · intro w'
                              go_simp
                              with_reducible rfl
                            rotate_left
                            · simp only [Act.put,List.setIfInBounds_toArray,List.set_cons_zero,List.set_cons_succ,i64_w,i32_w]
                              rfl
                            refine pure_ (i:=22) (N:=some 65) (v:=?_) (a':=?_) #[true,true,true,true,true,true,true,true,true,true,true,true,true,true,true,true,true,true,true,true,true,true,true,false,false] rfl rfl (any_of HT_.out (by kernel_rfl)) (fun _ _ _ h => h) (Or.inl ⟨by rfl,?_⟩) ?_ ?_
                            rotate_left
                            · intro w'
                              go_simp
                              with_reducible rfl
                            rotate_left
                            · simp only [Act.put,List.setIfInBounds_toArray,List.set_cons_zero,List.set_cons_succ,i64_w,i32_w]
                              rfl
                            refine one_ (i:=23) (N:=some 9) #[true,true,true,true,true,true,true,true,true,true,true,true,true,true,true,true,true,true,true,true,true,true,true,true,false] rfl rfl (one_of HT_.out (by kernel_rfl)) (by decide) (fun K hK => ?_)
                            refine box_step ?hg (N:=9) ?hd (cs:=#[.float .f64 0,.bool false,.slice none 0 0,.int .i64 0,.int .i64 0,.int .i64 0]) (t:=30) ?hr ?_;(case hd => rfl);(case hg => rfl);(case hr => first | (go_simp;done) | (go_simp;rfl))
                            intro gb480 hg w25 hbox hb
                            have HS0_:=(hb.cell (World.block_lt_of_cell? _ _ (hHeld.1))).trans (hHeld.1)
                            have HS1_:=(hb.cell (World.block_lt_of_cell? _ _ (hHeld.2.1))).trans (hHeld.2.1)
                            have HS2_:=(hb.cell (World.block_lt_of_cell? _ _ (hHeld.2.2.1))).trans (hHeld.2.2.1)
                            have HS3_:=(hb.cell (World.block_lt_of_cell? _ _ (hHeld.2.2.2.1))).trans (hHeld.2.2.2.1)
                            have HS4_:=(hb.cell (World.block_lt_of_cell? _ _ (hHeld.2.2.2.2.1))).trans (hHeld.2.2.2.2.1)
                            have HS5_:=(hb.cell (World.block_lt_of_cell? _ _ (hHeld.2.2.2.2.2.1))).trans (hHeld.2.2.2.2.2.1)
                            have HS6_:=(hb.cell (World.block_lt_of_cell? _ _ (hHeld.2.2.2.2.2.2.1))).trans (hHeld.2.2.2.2.2.2.1)
                            have HS7_:=(hb.cell (World.block_lt_of_cell? _ _ (hHeld.2.2.2.2.2.2.2.1))).trans (hHeld.2.2.2.2.2.2.2.1)
                            have HS8_:=(hb.cell (World.block_lt_of_cell? _ _ (hHeld.2.2.2.2.2.2.2.2.1))).trans (hHeld.2.2.2.2.2.2.2.2.1)
                            have HS9_:=(hb.cell (World.block_lt_of_cell? _ _ (hHeld.2.2.2.2.2.2.2.2.2.1))).trans (hHeld.2.2.2.2.2.2.2.2.2.1)
                            have HS10_:=(hb.cell (World.block_lt_of_cell? _ _ (hHeld.2.2.2.2.2.2.2.2.2.2.1))).trans (hHeld.2.2.2.2.2.2.2.2.2.2.1)
                            have HS11_:=(hb.cell (World.block_lt_of_cell? _ _ (hHeld.2.2.2.2.2.2.2.2.2.2.2.1))).trans (hHeld.2.2.2.2.2.2.2.2.2.2.2.1)
                            have HS12_:=(hb.cell (World.block_lt_of_cell? _ _ (hHeld.2.2.2.2.2.2.2.2.2.2.2.2.1))).trans (hHeld.2.2.2.2.2.2.2.2.2.2.2.2.1)
                            have HS13_:=(hb.cell (World.block_lt_of_cell? _ _ (hHeld.2.2.2.2.2.2.2.2.2.2.2.2.2.1))).trans (hHeld.2.2.2.2.2.2.2.2.2.2.2.2.2.1)
                            have HS14_:=(hb.cell (World.block_lt_of_cell? _ _ (hHeld.2.2.2.2.2.2.2.2.2.2.2.2.2.2.1))).trans (hHeld.2.2.2.2.2.2.2.2.2.2.2.2.2.2.1)
                            have HS15_:=(hb.cell (World.block_lt_of_cell? _ _ (hHeld.2.2.2.2.2.2.2.2.2.2.2.2.2.2.2.1))).trans (hHeld.2.2.2.2.2.2.2.2.2.2.2.2.2.2.2.1)
                            have HS16_:=(hb.cell (World.block_lt_of_cell? _ _ (hHeld.2.2.2.2.2.2.2.2.2.2.2.2.2.2.2.2.1))).trans (hHeld.2.2.2.2.2.2.2.2.2.2.2.2.2.2.2.2.1)
                            have HS17_:=(hb.cell (World.block_lt_of_cell? _ _ (hHeld.2.2.2.2.2.2.2.2.2.2.2.2.2.2.2.2.2.1))).trans (hHeld.2.2.2.2.2.2.2.2.2.2.2.2.2.2.2.2.2.1)
                            have HS18_:=(hb.cell (World.block_lt_of_cell? _ _ (hHeld.2.2.2.2.2.2.2.2.2.2.2.2.2.2.2.2.2.2.1))).trans (hHeld.2.2.2.2.2.2.2.2.2.2.2.2.2.2.2.2.2.2.1)
                            have HS19_:=(hb.cell (World.block_lt_of_cell? _ _ (hHeld.2.2.2.2.2.2.2.2.2.2.2.2.2.2.2.2.2.2.2))).trans (hHeld.2.2.2.2.2.2.2.2.2.2.2.2.2.2.2.2.2.2.2)
                            have n0_:=Aside0.mk (Kd.R_below (by (with_reducible repeat (first | apply Kd.R_alloc | apply Kd.R_drewN | apply Kd.R_drew));exact HO_4.out) hb)
                            have n1_:=Aside0.mk (Kd.R_below (by (with_reducible repeat (first | apply Kd.R_alloc | apply Kd.R_drewN | apply Kd.R_drew));exact HO474.out) hb)
                            have n2_:=Aside0.mk (blk_below (g:=gb461) (o:=.cells #[.float .f64 0,.bool false,.slice none 0 0,.int .i64 0,.int .i64 0,.int .i64 0] 30 (0,0)) (by (with_reducible repeat (first | refine blk_drewN ?_ _ | refine blk_drew ?_ | refine blk_alloc ?_ _));exact BK461.out) hb)
                            have n3_:=Aside0.mk (below_step (by repeat (first | (with_reducible first | exact HB.out | apply below_alloc | apply pw_below_drewN | apply below_drew1 | refine below_set ?_ GE461.out) | exact HB.out)) hb)
                            have n4_:=Aside0.mk (hbox)
                            have n5_:=Aside0.mk ((by rw [hg];exact (below_size (by repeat (first | (with_reducible first | exact HB.out | apply below_alloc | apply pw_below_drewN | apply below_drew1 | refine below_set ?_ GE461.out) | exact HB.out))) : w.heap.size ≤ gb480))
                            have n6_:=Aside0.mk ((by rw [hg];exact (below_size (by repeat (first | (with_reducible first | exact HB.out | apply below_alloc | apply pw_below_drewN | apply below_drew1 | refine below_set ?_ GE461.out) | exact HB.out))) : w.heap.size ≤ gb480))
                            have n7_:=Aside0.mk ((by rw [hg];exact Nat.ne_of_lt (blk_lt (g:=gb461) (o:=.cells #[.float .f64 0,.bool false,.slice none 0 0,.int .i64 0,.int .i64 0,.int .i64 0] 30 (0,0)) (by (with_reducible repeat (first | refine blk_drewN ?_ _ | refine blk_drew ?_ | refine blk_alloc ?_ _));exact BK461.out)) : gb461 ≠ gb480))
                            have n8_:=Aside0.mk ((by rw [hg];exact Nat.ne_of_gt (blk_lt (g:=gb461) (o:=.cells #[.float .f64 0,.bool false,.slice none 0 0,.int .i64 0,.int .i64 0,.int .i64 0] 30 (0,0)) (by (with_reducible repeat (first | refine blk_drewN ?_ _ | refine blk_drew ?_ | refine blk_alloc ?_ _));exact BK461.out)) : gb480 ≠ gb461))
                            clear HO_4
                            clear HO474
                            clear BK461
                            clear HB
                            have HO_4:=n0_
                            have HO474:=n1_
                            have BK461:=n2_
                            have HB:=n3_
                            have BK480:=n4_
                            have GW480:=n5_
                            have GE480:=n6_
                            have NB461_480:=n7_
                            have NB480_461:=n8_
                            clear n0_ n1_ n2_ n3_ n4_ n5_ n6_ n7_ n8_
                            clear hb hbox hg
                            refine hK.out _ _ ⟨HS0_,HS1_,HS2_,HS3_,HS4_,HS5_,HS6_,HS7_,HS8_,HS9_,HS10_,HS11_,HS12_,HS13_,HS14_,HS15_,HS16_,HS17_,HS18_,HS19_⟩ (fun hHeld => ?_)
                            clear hK K
                            refine norm_ (a':=?_) ?_ ?_
                            rotate_left
                            · show Act.put _ (some 9) _ = _
                              simp only [Act.put,List.setIfInBounds_toArray,List.set_cons_zero,List.set_cons_succ,i64_w,i32_w]
                              rfl
                            refine last_ (i:=24) (N:=none) #[true,true,true,true,true,true,true,true,true,true,true,true,true,true,true,true,true,true,true,true,true,true,true,true,true] rfl rfl (one_of HT_.out (by kernel_rfl)) (by decide) (fun K hK => ?_)
                            have hs26 : w25.cell? ⟨gb480,0,none⟩ = some (.float .f64 0):=(blk_cell BK480.out 0).trans rfl
                            have hfs26:=blk_frozen BK480.out 0
                            have hns26_0:=NB461_480.out
                            have hms26_0:=NB480_461.out
                            have hs27 : w25.cell? ⟨gb480,1,none⟩ = some (.bool false):=(blk_cell BK480.out 1).trans rfl
                            have hfs27:=blk_frozen BK480.out 1
                            have hns27_0:=NB461_480.out
                            have hms27_0:=NB480_461.out
                            have hs28 : w25.cell? ⟨gb480,2,none⟩ = some (.slice none 0 0):=(blk_cell BK480.out 2).trans rfl
                            have hfs28:=blk_frozen BK480.out 2
                            have hns28_0:=NB461_480.out
                            have hms28_0:=NB480_461.out
                            have hs29 : w25.cell? ⟨gb480,3,none⟩ = some (.int .i64 0):=(blk_cell BK480.out 3).trans rfl
                            have hfs29:=blk_frozen BK480.out 3
                            have hns29_0:=NB461_480.out
                            have hms29_0:=NB480_461.out
                            have hs30 : w25.cell? ⟨gb480,4,none⟩ = some (.int .i64 0):=(blk_cell BK480.out 4).trans rfl
                            have hfs30:=blk_frozen BK480.out 4
                            have hns30_0:=NB461_480.out
                            have hms30_0:=NB480_461.out
                            have hs31 : w25.cell? ⟨gb480,5,none⟩ = some (.int .i64 0):=(blk_cell BK480.out 5).trans rfl
                            have hfs31:=blk_frozen BK480.out 5
                            have hns31_0:=NB461_480.out
                            have hms31_0:=NB480_461.out
                            refine skip_ (w1:=?_) (by rfl) rfl ?_ ?_
                            rotate_left
                            · go_simp
                              rfl
                            refine hK.out _ _ ?_
                            clear hK K
                            refine done_ (done_of HT_.out (by kernel_rfl)) ?_
                            try go_wp2
                            go_loopg [10] k2 (fun kq v10 w' => ∃ (x10_3 : Int) (x481002_3 : List Nat) (u481002 : Value),v10 = .int .i64 x10_3 ∧ Aside0 (humusref04_Decode.l1 kq l0 t470 x10_3 ((rd_T86 t470 1).f2) (((rd_T86 t470 0).f1) == 1) x481002_3 ((rd_T86 t470 2).f1) ((rd_T86 t470 3).f1) ((rd_T86 t470 4).f1) = some (r1,r2,r3,r4,r5,r6,r7)) ∧ Aside0 (kq ≤ k2) ∧ Aside0 (Kd.R k86 86 w' w.heap.size (fun _ => True) (.slice (some ad475) t470.length co24) t470) ∧ Aside0 (Kd.R Kd.f64 25 w' w.heap.size (fun _ => True) u481002 x481002_3) ∧ Aside0 (w'.heap[gb461]? = some (.cells #[.float .f64 0,.bool false,(.slice none 0 0),.int .i64 0,.int .i64 0,.int .i64 0] 30 (0,0))) ∧ Aside0 (w'.heap[gb480]? = some (.cells #[.float .f64 ((rd_T86 t470 1).f2),.bool (((rd_T86 t470 0).f1) == 1),u481002,.int .i64 ((rd_T86 t470 2).f1),.int .i64 ((rd_T86 t470 3).f1),.int .i64 ((rd_T86 t470 4).f1)] 30 (0,0))) ∧ Aside0 (Below w.heap.size w w'))
                            case atStart => exact ⟨(6),(([] : List Nat)),(.slice none 0 0),(by first | rfl | (simp;done) | (simp [*];done)),H',⟨Nat.le_refl _⟩,⟨by (with_reducible repeat (first | apply Kd.R_alloc | apply Kd.R_drewN | apply Kd.R_drew));exact Kd.R_mono (Kd.R_far (p:=⟨gb480,5,none⟩) (Kd.R_far (p:=⟨gb480,4,none⟩) (Kd.R_far (p:=⟨gb480,3,none⟩) (Kd.R_far (p:=⟨gb480,2,none⟩) (Kd.R_far (p:=⟨gb480,1,none⟩) (Kd.R_far (p:=⟨gb480,0,none⟩) (Kd.R_types HO474.out BK480.out (by decide)) (fun _ hk => hk.2) (.float .f64 ((rd_T86 t470 1).f2))) (fun _ hk => hk.2) (.bool (((rd_T86 t470 0).f1) == 1))) (fun _ hk => hk.2) (.slice none 0 0)) (fun _ hk => hk.2) (.int .i64 ((rd_T86 t470 2).f1))) (fun _ hk => hk.2) (.int .i64 ((rd_T86 t470 3).f1))) (fun _ hk => hk.2) (.int .i64 ((rd_T86 t470 4).f1))) (fun _ hk => trivial)⟩,⟨by first | exact Kd.R_nil _ _ _ _ _ | exact Kd.N_nil _ _ _ _ _ | exact Kd.V_nil _ _ _ _ _ | exact Kd.Q_nil _ _ _ _ _ | exact Kd.S_nil _ _ _ _ _⟩,⟨by (with_reducible repeat (first | refine blk_drewN ?_ _ | refine blk_drew ?_ | refine blk_alloc ?_ _));refine blk_far ?_ NB461_480.out _;(with_reducible repeat (first | refine blk_drewN ?_ _ | refine blk_drew ?_ | refine blk_alloc ?_ _));refine blk_far ?_ NB461_480.out _;(with_reducible repeat (first | refine blk_drewN ?_ _ | refine blk_drew ?_ | refine blk_alloc ?_ _));refine blk_far ?_ NB461_480.out _;(with_reducible repeat (first | refine blk_drewN ?_ _ | refine blk_drew ?_ | refine blk_alloc ?_ _));refine blk_far ?_ NB461_480.out _;(with_reducible repeat (first | refine blk_drewN ?_ _ | refine blk_drew ?_ | refine blk_alloc ?_ _));refine blk_far ?_ NB461_480.out _;(with_reducible repeat (first | refine blk_drewN ?_ _ | refine blk_drew ?_ | refine blk_alloc ?_ _));refine blk_far ?_ NB461_480.out _;(with_reducible repeat (first | refine blk_drewN ?_ _ | refine blk_drew ?_ | refine blk_alloc ?_ _));exact BK461.out⟩,⟨by (with_reducible repeat (first | refine blk_drewN ?_ _ | refine blk_drew ?_ | refine blk_alloc ?_ _));refine blk_put (cs:=#[.float .f64 ((rd_T86 t470 1).f2),.bool (((rd_T86 t470 0).f1) == 1),.slice none 0 0,.int .i64 ((rd_T86 t470 2).f1),.int .i64 ((rd_T86 t470 3).f1),.int .i64 0]) ?_ 5 _ rfl;(with_reducible repeat (first | refine blk_drewN ?_ _ | refine blk_drew ?_ | refine blk_alloc ?_ _));refine blk_put (cs:=#[.float .f64 ((rd_T86 t470 1).f2),.bool (((rd_T86 t470 0).f1) == 1),.slice none 0 0,.int .i64 ((rd_T86 t470 2).f1),.int .i64 0,.int .i64 0]) ?_ 4 _ rfl;(with_reducible repeat (first | refine blk_drewN ?_ _ | refine blk_drew ?_ | refine blk_alloc ?_ _));refine blk_put (cs:=#[.float .f64 ((rd_T86 t470 1).f2),.bool (((rd_T86 t470 0).f1) == 1),.slice none 0 0,.int .i64 0,.int .i64 0,.int .i64 0]) ?_ 3 _ rfl;(with_reducible repeat (first | refine blk_drewN ?_ _ | refine blk_drew ?_ | refine blk_alloc ?_ _));refine blk_put (cs:=#[.float .f64 ((rd_T86 t470 1).f2),.bool (((rd_T86 t470 0).f1) == 1),.slice none 0 0,.int .i64 0,.int .i64 0,.int .i64 0]) ?_ 2 _ rfl;(with_reducible repeat (first | refine blk_drewN ?_ _ | refine blk_drew ?_ | refine blk_alloc ?_ _));refine blk_put (cs:=#[.float .f64 ((rd_T86 t470 1).f2),.bool false,.slice none 0 0,.int .i64 0,.int .i64 0,.int .i64 0]) ?_ 1 _ rfl;(with_reducible repeat (first | refine blk_drewN ?_ _ | refine blk_drew ?_ | refine blk_alloc ?_ _));refine blk_put (cs:=#[.float .f64 0,.bool false,.slice none 0 0,.int .i64 0,.int .i64 0,.int .i64 0]) ?_ 0 _ rfl;(with_reducible repeat (first | refine blk_drewN ?_ _ | refine blk_drew ?_ | refine blk_alloc ?_ _));exact BK480.out⟩,⟨by repeat (first | (with_reducible first | exact HB.out | apply below_alloc | apply pw_below_drewN | apply below_drew1 | refine below_set ?_ GE461.out | refine below_set ?_ GE480.out) | exact HB.out)⟩⟩
                            case round =>
                              clear H'
                              try clear c1
                              try clear c2
                              try clear p2
                              try clear c3
                              try clear c4
                              try clear c4b0
                              try clear c4b1
                              try clear p4
                              try clear q4
                              try clear hx4
                              try clear qi4
                              try clear c5
                              try clear c5b0
                              try clear c5b1
                              try clear c6
                              try clear p6
                              try clear c7
                              try clear c10
                              try clear c10b0
                              try clear c10b1
                              try clear c11
                              try clear c11b0
                              try clear c12
                              try clear c15
                              try clear c15b0
                              try clear c15b1
                              try clear c16
                              try clear c16b0
                              try clear c16b1
                              try clear c17
                              try clear c17b0
                              try clear c17b1
                              try clear c18
                              try clear c18b0
                              try clear c18b1
                              try clear c19
                              try clear c19b0
                              try clear c19b1
                              try clear c20
                              try clear c20b0
                              try clear c20b1
                              try clear hcz7_0
                              try clear hcz7_1
                              try clear hcz7_2
                              try clear hcz7_3
                              try clear hcz7_4
                              try clear hcz7_5
                              try clear hfz7_0
                              try clear hfz7_1
                              try clear hfz7_2
                              try clear hfz7_3
                              try clear hfz7_4
                              try clear hfz7_5
                              try clear hx462_0
                              try clear hx466_0
                              try clear hx475_0
                              try clear hx475_1
                              try clear hx475_2
                              try clear hx475_3
                              try clear hx476_0
                              try clear hx476_1
                              try clear hx476_2
                              try clear hx476_3
                              try clear hx477_0
                              try clear hx477_1
                              try clear hx477_2
                              try clear hx477_3
                              try clear hx478_0
                              try clear hx478_1
                              try clear hx478_2
                              try clear hx478_3
                              try clear hx479_0
                              try clear hx479_1
                              try clear hx479_2
                              try clear hx479_3
                              try clear p2
                              try clear p4
                              try clear p462
                              try clear p466
                              try clear p475
                              try clear p476
                              try clear p477
                              try clear p478
                              try clear p479
                              try clear q4
                              try clear q462
                              try clear q466
                              try clear q475
                              try clear q476
                              try clear q477
                              try clear q478
                              try clear q479
                              obtain ⟨x10_3,x481002_3,u481002,rfl,HA,HK3,HO_6,HO_481002,BK461,BK480,HB⟩:=hrel
                              cases gk with
                              | zero => exact absurd HA.out (by simp [humusref04_Decode.l1])
                              | succ k3 =>
                                have H:=HA.out
                                clear HA
                                simp only [humusref04_Decode.l1] at H
                                by_cases c32 : x10_3 < (t470.length : Int)
                                · rw [if_pos c32] at H
                                  have c32b0 : decide (x10_3 < (t470.length : Int)) = true:=decide_eq_true c32
                                  clear c32
                                  by_cases c33 : 0 ≤ x10_3
                                  · rw [if_pos c33] at H
                                    have c33b0 : decide (0 ≤ x10_3) = true:=decide_eq_true c33
                                    clear c33
                                    by_cases c34 : x481002_3.length < 17592186044416
                                    · rw [if_pos c34] at H
                                      have LMc34:=Aside0.mk c34
                                      clear c34
                                      obtain ⟨y482,hy482⟩ : ∃ y_ : List Nat,y_ = (x481002_3 ++ [(rd_T86 t470 x10_3).f2]):=⟨_,rfl⟩
                                      replace H : (humusref04_Decode.l1 k3 l0 t470 (wrap64 (x10_3 + 1)) ((rd_T86 t470 1).f2) (((rd_T86 t470 0).f1) == 1) y482 ((rd_T86 t470 2).f1) ((rd_T86 t470 3).f1) ((rd_T86 t470 4).f1)) = some (r1,r2,r3,r4,r5,r6,r7):=by first | (rw [hy482];with_reducible exact H) | (have H2_:=(Option.bind_some _ _).symm.trans H;rw [hy482];with_reducible exact H2_) | (have H2_:=(Option.bind_some _ _).symm.trans H;with_reducible exact H2_) | with_reducible exact H | (rw [hy482];exact H) | exact H
                                      have Ny482:=Aside0.mk hy482
                                      clear hy482
                                      have H':=Aside0.mk H
                                      clear H
                                      try go_wp2
                                      have n0_:=Aside0.mk (Kd.R_drew HO_6.out)
                                      have n1_:=Aside0.mk (Kd.R_drew HO_481002.out)
                                      have n2_:=Aside0.mk (blk_drew BK461.out)
                                      have n3_:=Aside0.mk (blk_drew BK480.out)
                                      have n4_:=Aside0.mk (below_drew1 HB.out)
                                      clear HO_6
                                      clear HO_481002
                                      clear BK461
                                      clear BK480
                                      clear HB
                                      have HO_6:=n0_
                                      have HO_481002:=n1_
                                      have BK461:=n2_
                                      have BK480:=n3_
                                      have HB:=n4_
                                      clear n0_ n1_ n2_ n3_ n4_
                                      have p481 : 0 ≤ (x10_3 : Int):=of_decide_eq_true (by first | (with_reducible assumption) | assumption)
                                      have q481 : x10_3 < (t470.length : Int):=of_decide_eq_true (by first | (with_reducible assumption) | assumption)
                                      obtain ⟨ad481,e481,hx481_0,hx481_1,hx481_2,hx481_3⟩:=at_T86 (Kd.R_reads' HO_6.out).2.2 x10_3 p481 q481
                                      obtain rfl : ad475 = ad481:=(by injection e481)
                                      replace p481:=eq_true p481
                                      replace q481:=eq_true q481
                                      refine start_ (n:=11) (S:=fun w' => w'.cell? ⟨gb480,0,none⟩ = some (.float .f64 ((rd_T86 t470 1).f2)) ∧ w'.cell? ⟨gb480,1,none⟩ = some (.bool (((rd_T86 t470 0).f1) == 1)) ∧ w'.cell? ⟨gb480,2,none⟩ = some (u481002) ∧ w'.cell? ⟨gb480,3,none⟩ = some (.int .i64 ((rd_T86 t470 2).f1)) ∧ w'.cell? ⟨gb480,4,none⟩ = some (.int .i64 ((rd_T86 t470 3).f1)) ∧ w'.cell? ⟨gb480,5,none⟩ = some (.int .i64 ((rd_T86 t470 4).f1)) ∧ w'.cell? (ad475.add ((x10_3).toNat * 4)) = some (.int .i64 ((rd_T86 t470 x10_3).f0)) ∧ w'.cell? ⟨(ad475.add ((x10_3).toNat * 4)).block,(ad475.add ((x10_3).toNat * 4)).off + 1,none⟩ = some (.int .i64 ((rd_T86 t470 x10_3).f1)) ∧ w'.cell? ⟨(ad475.add ((x10_3).toNat * 4)).block,(ad475.add ((x10_3).toNat * 4)).off + 2,none⟩ = some (.float .f64 ((rd_T86 t470 x10_3).f2)) ∧ w'.cell? ⟨(ad475.add ((x10_3).toNat * 4)).block,(ad475.add ((x10_3).toNat * 4)).off + 3,none⟩ = some (.string ((rd_T86 t470 x10_3).f3))) (ds:=[8,10]) #[false,false,false,false,false,false,false,false,false,false,false] (by kernel_rfl) rfl rfl ⟨(blk_cell BK480.out 0).trans rfl,(blk_cell BK480.out 1).trans rfl,(blk_cell BK480.out 2).trans rfl,(blk_cell BK480.out 3).trans rfl,(blk_cell BK480.out 4).trans rfl,(blk_cell BK480.out 5).trans rfl,hx481_0,hx481_1,hx481_2,hx481_3⟩ (fun hHeld => ?_);refine with_tabW humusref04_Decode.tab15 humusref04_Decode.bits15 (fun HT_ HW_ => ?_)
                                      generalize wr.drew = w35 at HO_6 HO_481002 BK461 BK480 HB hx481_0 hx481_1 hx481_2 hx481_3 hHeld ⊢
                                      refine pure_ (i:=0) (N:=some 72) (v:=?_) (a':=?_) #[true,false,false,false,false,false,false,false,false,false,false] rfl rfl (any_of HT_.out (by kernel_rfl)) (fun _ _ _ h => h) (Or.inl ⟨by rfl,?_⟩) ?_ ?_
                                      rotate_left
                                      · intro w'
                                        go_simp
                                        with_reducible rfl
                                      rotate_left
                                      · simp only [Act.put,List.setIfInBounds_toArray,List.set_cons_zero,List.set_cons_succ,i64_w,i32_w]
                                        rfl
                                      refine pure_ (i:=2) (N:=some 74) (v:=?_) (a':=?_) #[true,false,true,false,false,false,false,false,false,false,false] rfl rfl (any_of HT_.out (by kernel_rfl)) (fun _ _ _ h => h) (Or.inl ⟨by rfl,?_⟩) ?_ ?_
                                      rotate_left
                                      · intro w'
                                        go_simp
                                        with_reducible rfl
                                      rotate_left
                                      · simp only [Act.put,List.setIfInBounds_toArray,List.set_cons_zero,List.set_cons_succ,i64_w,i32_w]
                                        rfl
                                      refine pure_ (i:=3) (N:=some 75) (v:=?_) (a':=?_) #[true,false,true,true,false,false,false,false,false,false,false] rfl rfl (any_of HT_.out (by kernel_rfl)) (fun _ _ _ h => h) (Or.inl ⟨by rfl,?_⟩) ?_ ?_
                                      rotate_left
                                      · intro w'
                                        go_simp
                                        with_reducible rfl
                                      rotate_left
                                      · simp only [Act.put,List.setIfInBounds_toArray,List.set_cons_zero,List.set_cons_succ,i64_w,i32_w]
                                        rfl
                                      refine pure_ (i:=4) (N:=some 76) (v:=?_) (a':=?_) #[true,false,true,true,true,false,false,false,false,false,false] rfl rfl (any_of HT_.out (by kernel_rfl)) (fun _ _ _ h => h) (Or.inl ⟨by rfl,?_⟩) ?_ ?_
                                      rotate_left
                                      · intro w'
                                        go_simp
                                        with_reducible rfl
                                      rotate_left
                                      · simp only [Act.put,List.setIfInBounds_toArray,List.set_cons_zero,List.set_cons_succ,i64_w,i32_w]
                                        rfl
                                      refine pure_ (i:=5) (N:=some 77) (v:=?_) (a':=?_) #[true,false,true,true,true,true,false,false,false,false,false] rfl rfl (any_of HT_.out (by kernel_rfl)) (fun _ _ _ h => h) (Or.inl ⟨by rfl,?_⟩) ?_ ?_
                                      rotate_left
                                      · intro w'
                                        go_simp
                                        with_reducible rfl
                                      rotate_left
                                      · simp only [Act.put,List.setIfInBounds_toArray,List.set_cons_zero,List.set_cons_succ,i64_w,i32_w]
                                        rfl
                                      refine take_ (i:=1) (N:=some 73) (v:=?_) (a':=?_) #[true,true,true,true,true,true,false,false,false,false,false] rfl rfl (take_ofW HT_.out HW_.out (by kernel_rfl)) (fun _ _ _ h => h) (Or.inl ⟨by rfl,?_⟩) hHeld ?_ ?_
                                      rotate_left
                                      · rintro w' ⟨s0,s1,s2,s3,s4,s5,s6,s7,s8,s9⟩
                                        go_simp
                                        with_reducible rfl
                                      rotate_left
                                      · simp only [Act.put,List.setIfInBounds_toArray,List.set_cons_zero,List.set_cons_succ,i64_w,i32_w]
                                        rfl
                                      refine take_ (i:=6) (N:=some 78) (v:=?_) (a':=?_) #[true,true,true,true,true,true,true,false,false,false,false] rfl rfl (take_ofW HT_.out HW_.out (by kernel_rfl)) (fun _ _ _ h => h) (Or.inl ⟨by rfl,?_⟩) hHeld ?_ ?_
                                      rotate_left
                                      · rintro w' ⟨s0,s1,s2,s3,s4,s5,s6,s7,s8,s9⟩
                                        go_simp
                                        with_reducible rfl
                                      rotate_left
                                      · simp only [Act.put,List.setIfInBounds_toArray,List.set_cons_zero,List.set_cons_succ,i64_w,i32_w]
                                        rfl
                                      refine one_ (i:=7) (N:=some 79) #[true,true,true,true,true,true,true,true,false,false,false] rfl rfl (one_of HT_.out (by kernel_rfl)) (by decide) (fun K hK => ?_)
                                      refine value_ (w1:=?_) (v:=?_) (by rfl) rfl ?_ ?_
                                      rotate_left 2
                                      · go_simp
                                        constructor
                                        · rfl
                                        · rfl
                                      refine hK.out _ _ ⟨(blk_cell (blk_alloc BK480.out _) 0).trans rfl,(blk_cell (blk_alloc BK480.out _) 1).trans rfl,(blk_cell (blk_alloc BK480.out _) 2).trans rfl,(blk_cell (blk_alloc BK480.out _) 3).trans rfl,(blk_cell (blk_alloc BK480.out _) 4).trans rfl,(blk_cell (blk_alloc BK480.out _) 5).trans rfl,(World.cell?_alloc_lt _ _ _ (World.block_lt_of_cell? _ _ (hHeld.2.2.2.2.2.2.1))).trans (hHeld.2.2.2.2.2.2.1),(World.cell?_alloc_lt _ _ _ (World.block_lt_of_cell? _ _ (hHeld.2.2.2.2.2.2.2.1))).trans (hHeld.2.2.2.2.2.2.2.1),(World.cell?_alloc_lt _ _ _ (World.block_lt_of_cell? _ _ (hHeld.2.2.2.2.2.2.2.2.1))).trans (hHeld.2.2.2.2.2.2.2.2.1),(World.cell?_alloc_lt _ _ _ (World.block_lt_of_cell? _ _ (hHeld.2.2.2.2.2.2.2.2.2))).trans (hHeld.2.2.2.2.2.2.2.2.2)⟩ (fun hHeld => ?_)
                                      clear hK K
                                      refine norm_ (a':=?_) ?_ ?_
                                      rotate_left
                                      · show Act.put _ (some 79) _ = _
                                        simp only [Act.put,List.setIfInBounds_toArray,List.set_cons_zero,List.set_cons_succ,i64_w,i32_w]
                                        rfl
                                      refine last_ (i:=8) (N:=some 80) #[true,true,true,true,true,true,true,true,true,false,false] rfl rfl (one_of HT_.out (by kernel_rfl)) (by decide) (fun K hK => ?_)
                                      refine Kd.R_append_step Kd.f64 (w0:=w) w.heap.size (by rfl) (.tmp 73) (.tmp 79) 26 25 (.float .f64 0) 8 rfl Try.underlying26 info25 rfl (by decide) (by omega) u481002 x481002_3 ((rd_T86 t470 x10_3).f2) [.float .f64 ((rd_T86 t470 x10_3).f2)] (fun _ => True) (fun _ => False) rfl rfl ?aP (fun _ hk => hk.elim) ?aF ?aO ?aB ?aS ?aL ?_
                                      (case aP => exact rfl)
                                      (case aB => exact (by repeat (first | (with_reducible first | exact HB.out | apply below_alloc | apply pw_below_drewN | apply below_drew1 | refine below_set ?_ GE461.out | refine below_set ?_ GE480.out) | exact HB.out)))
                                      (case aF => exact (fun _ _ => trivial))
                                      (case aO => exact (by (with_reducible repeat (first | apply Kd.R_alloc | apply Kd.R_drewN | apply Kd.R_drew));exact HO_481002.out))
                                      (case aS => exact (below_size (by repeat (first | (with_reducible first | exact HB.out | apply below_alloc | apply pw_below_drewN | apply below_drew1 | refine below_set ?_ GE461.out | refine below_set ?_ GE480.out) | exact HB.out))))
                                      (case aL => have:=LMc34.out;omega)
                                      intro v483 w36 ho hb hg hat
                                      rw [← Ny482.out] at ho
                                      have n0_:=Aside0.mk (Kd.R_over' (by (with_reducible repeat (first | apply Kd.R_alloc | apply Kd.R_drewN | apply Kd.R_drew));exact HO_6.out) (Kd.R_typed (by (with_reducible repeat (first | apply Kd.R_alloc | apply Kd.R_drewN | apply Kd.R_drew));exact HO_481002.out)) (by decide) hg)
                                      have n1_:=Aside0.mk (blk_grown (g:=gb461) (o:=.cells #[.float .f64 0,.bool false,.slice none 0 0,.int .i64 0,.int .i64 0,.int .i64 0] 30 (0,0)) (by (with_reducible repeat (first | refine blk_drewN ?_ _ | refine blk_drew ?_ | refine blk_alloc ?_ _));exact BK461.out) hg (Kd.R_ne HO_481002.out BK461.out (by decide)))
                                      have n2_:=Aside0.mk (blk_grown (g:=gb480) (o:=.cells #[.float .f64 ((rd_T86 t470 1).f2),.bool (((rd_T86 t470 0).f1) == 1),u481002,.int .i64 ((rd_T86 t470 2).f1),.int .i64 ((rd_T86 t470 3).f1),.int .i64 ((rd_T86 t470 4).f1)] 30 (0,0)) (by (with_reducible repeat (first | refine blk_drewN ?_ _ | refine blk_drew ?_ | refine blk_alloc ?_ _));exact BK480.out) hg (Kd.R_ne HO_481002.out BK480.out (by decide)))
                                      have n3_:=Aside0.mk (hb)
                                      have n4_:=Aside0.mk (ho)
                                      clear HO_6
                                      clear BK461
                                      clear BK480
                                      clear HB
                                      clear HO_481002
                                      have HO_6:=n0_
                                      have BK461:=n1_
                                      have BK480:=n2_
                                      have HB:=n3_
                                      have HO484:=n4_
                                      clear n0_ n1_ n2_ n3_ n4_
                                      clear ho hb hg hat
                                      obtain ⟨Ao37,co37,eo37⟩:=Kd.R_slice HO484.out
                                      (first | subst eo37 | (injection eo37 with f1_ f2_ f3_;have f4_:=f1_.symm;have f5_:=f3_.symm;clear f1_ f2_ f3_;subst f4_;subst f5_))
                                      refine hK.out _ _ ?_
                                      clear hK K
                                      refine norm_ (a':=?_) ?_ ?_
                                      rotate_left
                                      · show Act.put _ (some 80) _ = _
                                        simp only [Act.put,List.setIfInBounds_toArray,List.set_cons_zero,List.set_cons_succ,i64_w,i32_w]
                                        rfl
                                      refine pure_ (i:=9) (N:=some 81) (v:=?_) (a':=?_) #[true,true,true,true,true,true,true,true,true,true,false] rfl rfl (any_of HT_.out (by kernel_rfl)) (fun _ _ _ h => h) (Or.inl ⟨by rfl,?_⟩) ?_ ?_
                                      rotate_left
                                      · intro w'
                                        go_simp
                                        with_reducible rfl
                                      rotate_left
                                      · simp only [Act.put,List.setIfInBounds_toArray,List.set_cons_zero,List.set_cons_succ,i64_w,i32_w]
                                        rfl
                                      refine last_ (i:=10) (N:=none) #[true,true,true,true,true,true,true,true,true,true,true] rfl rfl (one_of HT_.out (by kernel_rfl)) (by decide) (fun K hK => ?_)
                                      have hs38 : w36.cell? ⟨gb480,2,none⟩ = some (u481002):=(blk_cell BK480.out 2).trans rfl
                                      have hfs38:=blk_frozen BK480.out 2
                                      have hns38_0:=NB461_480.out
                                      have hms38_0:=NB480_461.out
                                      refine skip_ (w1:=?_) (by rfl) rfl ?_ ?_
                                      rotate_left
                                      · go_simp
                                        rfl
                                      refine hK.out _ _ ?_
                                      clear hK K
                                      refine done_ (done_of HT_.out (by kernel_rfl)) ?_
                                      try go_wp2
                                      go_roundg k3
                                      case measure => have:=HJ1.out;have:=HK2.out;have:=HK3.out;omega
                                      case rel => exact ⟨(wrap64 (x10_3 + 1)),(y482),(.slice Ao37 y482.length co37),(by first | rfl | (simp;done) | (simp [*];done)),H',⟨by have:=HJ1.out;have:=HK2.out;have:=HK3.out;omega⟩,⟨by (with_reducible repeat (first | apply Kd.R_alloc | apply Kd.R_drewN | apply Kd.R_drew));exact Kd.R_mono (Kd.R_far (p:=⟨gb480,2,none⟩) (Kd.R_types HO_6.out BK480.out (by decide)) (fun _ hk => hk.2) (.slice Ao37 y482.length co37)) (fun _ hk => trivial)⟩,⟨by (with_reducible repeat (first | apply Kd.R_alloc | apply Kd.R_drewN | apply Kd.R_drew));exact Kd.R_mono (Kd.R_far (p:=⟨gb480,2,none⟩) (Kd.R_types HO484.out BK480.out (by decide)) (fun _ hk => hk.2) (.slice Ao37 y482.length co37)) (fun _ hk => trivial)⟩,⟨by (with_reducible repeat (first | refine blk_drewN ?_ _ | refine blk_drew ?_ | refine blk_alloc ?_ _));refine blk_far ?_ NB461_480.out _;(with_reducible repeat (first | refine blk_drewN ?_ _ | refine blk_drew ?_ | refine blk_alloc ?_ _));exact BK461.out⟩,⟨by (with_reducible repeat (first | refine blk_drewN ?_ _ | refine blk_drew ?_ | refine blk_alloc ?_ _));refine blk_put (cs:=#[.float .f64 ((rd_T86 t470 1).f2),.bool (((rd_T86 t470 0).f1) == 1),u481002,.int .i64 ((rd_T86 t470 2).f1),.int .i64 ((rd_T86 t470 3).f1),.int .i64 ((rd_T86 t470 4).f1)]) ?_ 2 _ rfl;(with_reducible repeat (first | refine blk_drewN ?_ _ | refine blk_drew ?_ | refine blk_alloc ?_ _));exact BK480.out⟩,⟨by repeat (first | (with_reducible first | exact HB.out | apply below_alloc | apply pw_below_drewN | apply below_drew1 | refine below_set ?_ GE461.out | refine below_set ?_ GE480.out) | exact HB.out)⟩⟩
                                    · rw [if_neg c34] at H
                                      exact absurd H (by simp)
                                  · rw [if_neg c33] at H
                                    exact absurd H (by simp)
                                · rw [if_neg c32] at H
                                  have c32b0 : decide (x10_3 < (t470.length : Int)) = false:=decide_eq_false c32
                                  clear c32
                                  replace H:=Option.bind_eq_some_iff.mp H
                                  obtain ⟨t485,A390,H⟩:=H
                                  replace H : (if t485 = true then ((humusref04_Bytes.f k3 ((rd_T86 t470 1).f2) (((rd_T86 t470 0).f1) == 1) x481002_3 ((rd_T86 t470 2).f1) ((rd_T86 t470 3).f1) ((rd_T86 t470 4).f1)).bind fun t486 => (if (strOfNums t486).toList = (strOfNums l0).toList then (some (((rd_T86 t470 1).f2),(((rd_T86 t470 0).f1) == 1),x481002_3,((rd_T86 t470 2).f1),((rd_T86 t470 3).f1),((rd_T86 t470 4).f1),true)) else (some (0,false,([] : List Nat),0,0,0,false)))) else (some (0,false,([] : List Nat),0,0,0,false))) = some (r1,r2,r3,r4,r5,r6,r7):=H
                                  have A39:=Aside0.mk A390
                                  clear A390
                                  by_cases c40 : t485 = true
                                  · subst c40
                                    have H1 : ((humusref04_Bytes.f k3 ((rd_T86 t470 1).f2) (((rd_T86 t470 0).f1) == 1) x481002_3 ((rd_T86 t470 2).f1) ((rd_T86 t470 3).f1) ((rd_T86 t470 4).f1)).bind fun t486 => (if (strOfNums t486).toList = (strOfNums l0).toList then (some (((rd_T86 t470 1).f2),(((rd_T86 t470 0).f1) == 1),x481002_3,((rd_T86 t470 2).f1),((rd_T86 t470 3).f1),((rd_T86 t470 4).f1),true)) else (some (0,false,([] : List Nat),0,0,0,false)))) = some (r1,r2,r3,r4,r5,r6,r7):=by rw [if_pos rfl] at H;exact H
                                    clear H
                                    have H:=H1
                                    clear H1
                                    replace H:=Option.bind_eq_some_iff.mp H
                                    obtain ⟨t486,A410,H⟩:=H
                                    replace H : (if (strOfNums t486).toList = (strOfNums l0).toList then (some (((rd_T86 t470 1).f2),(((rd_T86 t470 0).f1) == 1),x481002_3,((rd_T86 t470 2).f1),((rd_T86 t470 3).f1),((rd_T86 t470 4).f1),true)) else (some (0,false,([] : List Nat),0,0,0,false))) = some (r1,r2,r3,r4,r5,r6,r7):=H
                                    have A41:=Aside0.mk A410
                                    clear A410
                                    by_cases c42 : (strOfNums t486).toList = (strOfNums l0).toList
                                    · rw [if_pos c42] at H
                                      have c42b0 : ((strOfNums t486).toList == (strOfNums l0).toList) = true:=beq_iff_eq.mpr c42
                                      have c42b1 : ((strOfNums t486).toList != (strOfNums l0).toList) = false:=bne_eq_false_iff_eq.mpr c42
                                      clear c42
                                      simp only [Option.some.injEq,Prod.mk.injEq] at H
                                      obtain ⟨rfl,rfl,rfl,rfl,rfl,rfl,rfl⟩:=H
                                      try go_wp2
                                      have n0_:=Aside0.mk (Kd.R_drew HO_6.out)
                                      have n1_:=Aside0.mk (Kd.R_drew HO_481002.out)
                                      have n2_:=Aside0.mk (blk_drew BK461.out)
                                      have n3_:=Aside0.mk (blk_drew BK480.out)
                                      have n4_:=Aside0.mk (below_drew1 HB.out)
                                      clear HO_6
                                      clear HO_481002
                                      clear BK461
                                      clear BK480
                                      clear HB
                                      have HO_6:=n0_
                                      have HO_481002:=n1_
                                      have BK461:=n2_
                                      have BK480:=n3_
                                      have HB:=n4_
                                      clear n0_ n1_ n2_ n3_ n4_
                                      obtain ⟨Ao44,co44,eo44⟩:=Kd.R_slice HO_481002.out
                                      (first | subst eo44 | (injection eo44 with f1_ f2_ f3_;have f4_:=f1_.symm;have f5_:=f3_.symm;clear f1_ f2_ f3_;subst f4_;subst f5_))
                                      refine start_ (n:=11) (S:=fun w' => w'.cell? ⟨gb480,0,none⟩ = some (.float .f64 ((rd_T86 t470 1).f2)) ∧ w'.cell? ⟨gb480,1,none⟩ = some (.bool (((rd_T86 t470 0).f1) == 1)) ∧ w'.cell? ⟨gb480,2,none⟩ = some (.slice Ao44 x481002_3.length co44) ∧ w'.cell? ⟨gb480,3,none⟩ = some (.int .i64 ((rd_T86 t470 2).f1)) ∧ w'.cell? ⟨gb480,4,none⟩ = some (.int .i64 ((rd_T86 t470 3).f1)) ∧ w'.cell? ⟨gb480,5,none⟩ = some (.int .i64 ((rd_T86 t470 4).f1)) ∧ (convert 23 9 (.slice (some ad466) l0.length c0)).run Try.prog w' = .ok (.string (strOfNums l0)) w') (ds:=[]) #[false,false,false,false,false,false,false,false,false,false,false] (by kernel_rfl) rfl rfl ⟨(blk_cell BK480.out 0).trans rfl,(blk_cell BK480.out 1).trans rfl,(blk_cell BK480.out 2).trans rfl,(blk_cell BK480.out 3).trans rfl,(blk_cell BK480.out 4).trans rfl,(blk_cell BK480.out 5).trans rfl,Kd.C_string (P:=Try.prog) (A:=(some ad466)) (c:=c0) Try.underlying23 Try.underlying5 Try.underlying9 (Kd.C_below HR0.out HB.out)⟩ (fun hHeld => ?_);refine with_tabW humusref04_Decode.tab16 humusref04_Decode.bits16 (fun HT_ HW_ => ?_)
                                      generalize wr.drew = w43 at HO_6 HO_481002 BK461 BK480 HB hHeld ⊢
                                      refine take_ (i:=0) (N:=some 82) (v:=?_) (a':=?_) #[true,false,false,false,false,false,false,false,false,false,false] rfl rfl (take_ofW HT_.out HW_.out (by kernel_rfl)) (fun _ _ _ h => h) (Or.inl ⟨by rfl,?_⟩) hHeld ?_ ?_
                                      rotate_left
                                      · rintro w' ⟨s0,s1,s2,s3,s4,s5,s6⟩
                                        go_simp
                                        with_reducible rfl
                                      rotate_left
                                      · simp only [Act.put,List.setIfInBounds_toArray,List.set_cons_zero,List.set_cons_succ,i64_w,i32_w]
                                        rfl
                                      refine one_ (i:=1) (N:=some 83) #[true,true,false,false,false,false,false,false,false,false,false] rfl rfl (one_of HT_.out (by kernel_rfl)) (by decide) (fun K hK => ?_)
                                      refine goes_ Try.func34 (by kernel_rfl) rfl #[.agg #[.float .f64 ((rd_T86 t470 1).f2),.bool (((rd_T86 t470 0).f1) == 1),.slice Ao44 x481002_3.length co44,.int .i64 ((rd_T86 t470 2).f1),.int .i64 ((rd_T86 t470 3).f1),.int .i64 ((rd_T86 t470 4).f1)]] (by rfl) rfl rfl (by (try simp only [List.map_toArray,List.map_cons,List.map_nil]);first | done | rfl | (simp only [List.length_drop,List.length_take];rfl)) ?_
                                      with_reducible refine (humusref04_May.calls k3 ((rd_T86 t470 1).f2) (((rd_T86 t470 0).f1) == 1) _ _ x481002_3 ((rd_T86 t470 2).f1) ((rd_T86 t470 3).f1) ((rd_T86 t470 4).f1) true _ ?side1 ?side2 A39.out).mono ?_
                                      (case side1 => repeat (first | exact (Kd.R_reads' HO_481002.out).2.2 | (with_reducible refine Kd.C_alloc ?_ _) | (with_reducible refine Kd.C_drewN ?_ _) | (with_reducible refine Kd.C_drew ?_)))
                                      (case side2 => exact (Kd.R_reads' HO_481002.out).2.1)
                                      rintro e w45 ⟨rfl,hb⟩
                                      refine ⟨_,rfl,?_⟩
                                      have n0_:=Aside0.mk (Kd.R_below (by (with_reducible repeat (first | apply Kd.R_alloc | apply Kd.R_drewN | apply Kd.R_drew));exact HO_6.out) hb)
                                      have n1_:=Aside0.mk (Kd.R_below (by (with_reducible repeat (first | apply Kd.R_alloc | apply Kd.R_drewN | apply Kd.R_drew));exact HO_481002.out) hb)
                                      have n2_:=Aside0.mk (blk_below (g:=gb461) (o:=.cells #[.float .f64 0,.bool false,.slice none 0 0,.int .i64 0,.int .i64 0,.int .i64 0] 30 (0,0)) (by (with_reducible repeat (first | refine blk_drewN ?_ _ | refine blk_drew ?_ | refine blk_alloc ?_ _));exact BK461.out) hb)
                                      have n3_:=Aside0.mk (blk_below (g:=gb480) (o:=.cells #[.float .f64 ((rd_T86 t470 1).f2),.bool (((rd_T86 t470 0).f1) == 1),.slice Ao44 x481002_3.length co44,.int .i64 ((rd_T86 t470 2).f1),.int .i64 ((rd_T86 t470 3).f1),.int .i64 ((rd_T86 t470 4).f1)] 30 (0,0)) (by (with_reducible repeat (first | refine blk_drewN ?_ _ | refine blk_drew ?_ | refine blk_alloc ?_ _));exact BK480.out) hb)
                                      have n4_:=Aside0.mk (below_step (by repeat (first | (with_reducible first | exact HB.out | apply below_alloc | apply pw_below_drewN | apply below_drew1 | refine below_set ?_ GE461.out | refine below_set ?_ GE480.out) | exact HB.out)) hb)
                                      clear HO_6
                                      clear HO_481002
                                      clear BK461
                                      clear BK480
                                      clear HB
                                      have HO_6:=n0_
                                      have HO_481002:=n1_
                                      have BK461:=n2_
                                      have BK480:=n3_
                                      have HB:=n4_
                                      clear n0_ n1_ n2_ n3_ n4_
                                      (try clear hb)
                                      (try clear hb2)
                                      (try clear hk)
                                      (try clear hi)
                                      refine hK.out _ _ ⟨(blk_cell BK480.out 0).trans rfl,(blk_cell BK480.out 1).trans rfl,(blk_cell BK480.out 2).trans rfl,(blk_cell BK480.out 3).trans rfl,(blk_cell BK480.out 4).trans rfl,(blk_cell BK480.out 5).trans rfl,Kd.C_string (P:=Try.prog) (A:=(some ad466)) (c:=c0) Try.underlying23 Try.underlying5 Try.underlying9 (Kd.C_below HR0.out HB.out)⟩ (fun hHeld => ?_)
                                      clear hK K
                                      refine norm_ (a':=?_) ?_ ?_
                                      rotate_left
                                      · show Act.put _ (some 83) _ = _
                                        simp only [Act.put,List.setIfInBounds_toArray,List.set_cons_zero,List.set_cons_succ,i64_w,i32_w]
                                        rfl
                                      refine pure_ (i:=2) (N:=some 84) (v:=?_) (a':=?_) #[true,true,true,false,false,false,false,false,false,false,false] rfl rfl (any_of HT_.out (by kernel_rfl)) (fun _ _ _ h => h) (Or.inl ⟨by rfl,?_⟩) ?_ ?_
                                      rotate_left
                                      · intro w'
                                        go_simp
                                        with_reducible rfl
                                      rotate_left
                                      · simp only [Act.put,List.setIfInBounds_toArray,List.set_cons_zero,List.set_cons_succ,i64_w,i32_w]
                                        rfl
                                      refine pure_ (i:=3) (N:=some 85) (v:=?_) (a':=?_) #[true,true,true,true,false,false,false,false,false,false,false] rfl rfl (any_of HT_.out (by kernel_rfl)) (fun _ _ _ h => h) (Or.inl ⟨by rfl,?_⟩) ?_ ?_
                                      rotate_left
                                      · intro w'
                                        go_simp
                                        with_reducible rfl
                                      rotate_left
                                      · simp only [Act.put,List.setIfInBounds_toArray,List.set_cons_zero,List.set_cons_succ,i64_w,i32_w]
                                        rfl
                                      refine pure_ (i:=7) (N:=some 89) (v:=?_) (a':=?_) #[true,true,true,true,false,false,false,true,false,false,false] rfl rfl (any_of HT_.out (by kernel_rfl)) (fun _ _ _ h => h) (Or.inl ⟨by rfl,?_⟩) ?_ ?_
                                      rotate_left
                                      · intro w'
                                        go_simp
                                        with_reducible rfl
                                      rotate_left
                                      · simp only [Act.put,List.setIfInBounds_toArray,List.set_cons_zero,List.set_cons_succ,i64_w,i32_w]
                                        rfl
                                      refine take_ (i:=4) (N:=some 86) (v:=?_) (a':=?_) #[true,true,true,true,true,false,false,true,false,false,false] rfl rfl (take_ofW HT_.out HW_.out (by kernel_rfl)) (fun _ _ _ h => h) (Or.inl ⟨by rfl,?_⟩) hHeld ?_ ?_
                                      rotate_left
                                      · rintro w' ⟨s0,s1,s2,s3,s4,s5,s6⟩
                                        go_simp
                                        with_reducible rfl
                                      rotate_left
                                      · simp only [Act.put,List.setIfInBounds_toArray,List.set_cons_zero,List.set_cons_succ,i64_w,i32_w]
                                        rfl
                                      refine take_ (i:=8) (N:=some 90) (v:=?_) (a':=?_) #[true,true,true,true,true,false,false,true,true,false,false] rfl rfl (take_ofW HT_.out HW_.out (by kernel_rfl)) (fun _ _ _ h => h) (Or.inl ⟨by rfl,?_⟩) hHeld ?_ ?_
                                      rotate_left
                                      · rintro w' ⟨s0,s1,s2,s3,s4,s5,s6⟩
                                        go_simp
                                        with_reducible rfl
                                      rotate_left
                                      · simp only [Act.put,List.setIfInBounds_toArray,List.set_cons_zero,List.set_cons_succ,i64_w,i32_w]
                                        rfl
                                      refine one_ (i:=5) (N:=some 87) #[true,true,true,true,true,true,false,true,true,false,false] rfl rfl (one_of HT_.out (by kernel_rfl)) (by decide) (fun K hK => ?_)
                                      refine goes_ Try.func36 (by kernel_rfl) rfl #[.agg #[.float .f64 ((rd_T86 t470 1).f2),.bool (((rd_T86 t470 0).f1) == 1),.slice Ao44 x481002_3.length co44,.int .i64 ((rd_T86 t470 2).f1),.int .i64 ((rd_T86 t470 3).f1),.int .i64 ((rd_T86 t470 4).f1)]] (by rfl) rfl rfl (by (try simp only [List.map_toArray,List.map_cons,List.map_nil]);first | done | rfl | (simp only [List.length_drop,List.length_take];rfl)) ?_
                                      with_reducible refine (humusref04_Bytes.calls k3 ((rd_T86 t470 1).f2) (((rd_T86 t470 0).f1) == 1) _ _ x481002_3 ((rd_T86 t470 2).f1) ((rd_T86 t470 3).f1) ((rd_T86 t470 4).f1) t486 _ ?side1 ?side2 A41.out).mono ?_
                                      (case side1 => repeat (first | exact (Kd.R_reads' HO_481002.out).2.2 | (with_reducible refine Kd.C_alloc ?_ _) | (with_reducible refine Kd.C_drewN ?_ _) | (with_reducible refine Kd.C_drew ?_)))
                                      (case side2 => exact (Kd.R_reads' HO_481002.out).2.1)
                                      rintro e w46 ⟨v487,rfl,ho0,hb⟩
                                      refine ⟨_,rfl,?_⟩
                                      have n0_:=Aside0.mk (Kd.R_below (by (with_reducible repeat (first | apply Kd.R_alloc | apply Kd.R_drewN | apply Kd.R_drew));exact HO_6.out) hb)
                                      have n1_:=Aside0.mk (Kd.R_below (by (with_reducible repeat (first | apply Kd.R_alloc | apply Kd.R_drewN | apply Kd.R_drew));exact HO_481002.out) hb)
                                      have n2_:=Aside0.mk (Kd.R_lower ho0 (below_size (by repeat (first | (with_reducible first | exact HB.out | apply below_alloc | apply pw_below_drewN | apply below_drew1 | refine below_set ?_ GE461.out | refine below_set ?_ GE480.out) | exact HB.out))))
                                      have n3_:=Aside0.mk (blk_below (g:=gb461) (o:=.cells #[.float .f64 0,.bool false,.slice none 0 0,.int .i64 0,.int .i64 0,.int .i64 0] 30 (0,0)) (by (with_reducible repeat (first | refine blk_drewN ?_ _ | refine blk_drew ?_ | refine blk_alloc ?_ _));exact BK461.out) hb)
                                      have n4_:=Aside0.mk (blk_below (g:=gb480) (o:=.cells #[.float .f64 ((rd_T86 t470 1).f2),.bool (((rd_T86 t470 0).f1) == 1),.slice Ao44 x481002_3.length co44,.int .i64 ((rd_T86 t470 2).f1),.int .i64 ((rd_T86 t470 3).f1),.int .i64 ((rd_T86 t470 4).f1)] 30 (0,0)) (by (with_reducible repeat (first | refine blk_drewN ?_ _ | refine blk_drew ?_ | refine blk_alloc ?_ _));exact BK480.out) hb)
                                      have n5_:=Aside0.mk (below_step (by repeat (first | (with_reducible first | exact HB.out | apply below_alloc | apply pw_below_drewN | apply below_drew1 | refine below_set ?_ GE461.out | refine below_set ?_ GE480.out) | exact HB.out)) hb)
                                      clear HO_6
                                      clear HO_481002
                                      clear BK461
                                      clear BK480
                                      clear HB
                                      have HO_6:=n0_
                                      have HO_481002:=n1_
                                      have HO488:=n2_
                                      have BK461:=n3_
                                      have BK480:=n4_
                                      have HB:=n5_
                                      clear n0_ n1_ n2_ n3_ n4_ n5_
                                      (try clear hb)
                                      (try clear hb2)
                                      (try clear hk)
                                      (try clear hi)
                                      (try clear ho0)
                                      refine hK.out _ _ ⟨(blk_cell BK480.out 0).trans rfl,(blk_cell BK480.out 1).trans rfl,(blk_cell BK480.out 2).trans rfl,(blk_cell BK480.out 3).trans rfl,(blk_cell BK480.out 4).trans rfl,(blk_cell BK480.out 5).trans rfl,Kd.C_string (P:=Try.prog) (A:=(some ad466)) (c:=c0) Try.underlying23 Try.underlying5 Try.underlying9 (Kd.C_below HR0.out HB.out)⟩ (fun hHeld => ?_)
                                      clear hK K
                                      refine norm_ (a':=?_) ?_ ?_
                                      rotate_left
                                      · show Act.put _ (some 87) _ = _
                                        simp only [Act.put,List.setIfInBounds_toArray,List.set_cons_zero,List.set_cons_succ,i64_w,i32_w]
                                        rfl
                                      refine one_ (i:=6) (N:=some 88) #[true,true,true,true,true,true,true,true,true,false,false] rfl rfl (one_of HT_.out (by kernel_rfl)) (by decide) (fun K hK => ?_)
                                      have hcv47:=own_string (P:=Try.prog) Try.underlying23 Try.underlying5 Try.underlying9 (Kd.own_of_R HO488.out)
                                      refine value_ (w1:=?_) (v:=?_) (by rfl) rfl ?_ ?_
                                      rotate_left 2
                                      · go_simp
                                        constructor
                                        · rfl
                                        · rfl
                                      clear hcv47
                                      refine hK.out _ _ ⟨(blk_cell BK480.out 0).trans rfl,(blk_cell BK480.out 1).trans rfl,(blk_cell BK480.out 2).trans rfl,(blk_cell BK480.out 3).trans rfl,(blk_cell BK480.out 4).trans rfl,(blk_cell BK480.out 5).trans rfl,Kd.C_string (P:=Try.prog) (A:=(some ad466)) (c:=c0) Try.underlying23 Try.underlying5 Try.underlying9 (Kd.C_below HR0.out HB.out)⟩ (fun hHeld => ?_)
                                      clear hK K
                                      refine norm_ (a':=?_) ?_ ?_
                                      rotate_left
                                      · show Act.put _ (some 88) _ = _
                                        simp only [Act.put,List.setIfInBounds_toArray,List.set_cons_zero,List.set_cons_succ,i64_w,i32_w]
                                        rfl
                                      refine pure_ (i:=9) (N:=some 91) (v:=?_) (a':=?_) #[true,true,true,true,true,true,true,true,true,true,false] rfl rfl (any_of HT_.out (by kernel_rfl)) (fun _ _ _ h => h) (Or.inl ⟨by rfl,?_⟩) ?_ ?_
                                      rotate_left
                                      · intro w'
                                        go_simp
                                        with_reducible rfl
                                      rotate_left
                                      · simp only [Act.put,List.setIfInBounds_toArray,List.set_cons_zero,List.set_cons_succ,i64_w,i32_w]
                                        rfl
                                      refine pure_ (i:=10) (N:=some 92) (v:=?_) (a':=?_) #[true,true,true,true,true,true,true,true,true,true,true] rfl rfl (any_of HT_.out (by kernel_rfl)) (fun _ _ _ h => h) (Or.inl ⟨by rfl,?_⟩) ?_ ?_
                                      rotate_left
                                      · intro w'
                                        go_simp
                                        with_reducible rfl
                                      rotate_left
                                      · simp only [Act.put,List.setIfInBounds_toArray,List.set_cons_zero,List.set_cons_succ,i64_w,i32_w]
                                        rfl
                                      refine done_ (done_of HT_.out (by kernel_rfl)) ?_
                                      have hnb48:=NB480_461.out
                                      have hnc48:=NB461_480.out
                                      have hcz49_0 : w46.cell? ⟨gb480,0,none⟩ = some (.float .f64 ((rd_T86 t470 1).f2)):=(blk_cell BK480.out 0).trans rfl
                                      have hcz49_1 : w46.cell? ⟨gb480,1,none⟩ = some (.bool (((rd_T86 t470 0).f1) == 1)):=(blk_cell BK480.out 1).trans rfl
                                      have hcz49_2 : w46.cell? ⟨gb480,2,none⟩ = some (.slice Ao44 x481002_3.length co44):=(blk_cell BK480.out 2).trans rfl
                                      have hcz49_3 : w46.cell? ⟨gb480,3,none⟩ = some (.int .i64 ((rd_T86 t470 2).f1)):=(blk_cell BK480.out 3).trans rfl
                                      have hcz49_4 : w46.cell? ⟨gb480,4,none⟩ = some (.int .i64 ((rd_T86 t470 3).f1)):=(blk_cell BK480.out 4).trans rfl
                                      have hcz49_5 : w46.cell? ⟨gb480,5,none⟩ = some (.int .i64 ((rd_T86 t470 4).f1)):=(blk_cell BK480.out 5).trans rfl
                                      have hfz49_0:=blk_frozen BK480.out 0
                                      have hfz49_1:=blk_frozen BK480.out 1
                                      have hfz49_2:=blk_frozen BK480.out 2
                                      have hfz49_3:=blk_frozen BK480.out 3
                                      have hfz49_4:=blk_frozen BK480.out 4
                                      have hfz49_5:=blk_frozen BK480.out 5
                                      have hcz50_0 : w46.cell? ⟨gb461,0,none⟩ = some (.float .f64 0):=(blk_cell BK461.out 0).trans rfl
                                      have hcz50_1 : w46.cell? ⟨gb461,1,none⟩ = some (.bool false):=(blk_cell BK461.out 1).trans rfl
                                      have hcz50_2 : w46.cell? ⟨gb461,2,none⟩ = some (.slice none 0 0):=(blk_cell BK461.out 2).trans rfl
                                      have hcz50_3 : w46.cell? ⟨gb461,3,none⟩ = some (.int .i64 0):=(blk_cell BK461.out 3).trans rfl
                                      have hcz50_4 : w46.cell? ⟨gb461,4,none⟩ = some (.int .i64 0):=(blk_cell BK461.out 4).trans rfl
                                      have hcz50_5 : w46.cell? ⟨gb461,5,none⟩ = some (.int .i64 0):=(blk_cell BK461.out 5).trans rfl
                                      have hfz50_0:=blk_frozen BK461.out 0
                                      have hfz50_1:=blk_frozen BK461.out 1
                                      have hfz50_2:=blk_frozen BK461.out 2
                                      have hfz50_3:=blk_frozen BK461.out 3
                                      have hfz50_4:=blk_frozen BK461.out 4
                                      have hfz50_5:=blk_frozen BK461.out 5
                                      try go_wp2
                                      refine bodyPost_ret (results_ct rfl _ _ gb461 30 #[.float .f64 ((rd_T86 t470 1).f2),.bool (((rd_T86 t470 0).f1) == 1),.slice Ao44 x481002_3.length co44,.int .i64 ((rd_T86 t470 2).f1),.int .i64 ((rd_T86 t470 3).f1),.int .i64 ((rd_T86 t470 4).f1)] (0,0) _ rfl (by (with_reducible repeat (first | refine blk_drewN ?_ _ | refine blk_drew ?_ | refine blk_alloc ?_ _));refine blk_put (cs:=#[.float .f64 ((rd_T86 t470 1).f2),.bool (((rd_T86 t470 0).f1) == 1),.slice Ao44 x481002_3.length co44,.int .i64 ((rd_T86 t470 2).f1),.int .i64 ((rd_T86 t470 3).f1),.int .i64 0]) ?_ 5 _ rfl;(with_reducible repeat (first | refine blk_drewN ?_ _ | refine blk_drew ?_ | refine blk_alloc ?_ _));refine blk_put (cs:=#[.float .f64 ((rd_T86 t470 1).f2),.bool (((rd_T86 t470 0).f1) == 1),.slice Ao44 x481002_3.length co44,.int .i64 ((rd_T86 t470 2).f1),.int .i64 0,.int .i64 0]) ?_ 4 _ rfl;(with_reducible repeat (first | refine blk_drewN ?_ _ | refine blk_drew ?_ | refine blk_alloc ?_ _));refine blk_put (cs:=#[.float .f64 ((rd_T86 t470 1).f2),.bool (((rd_T86 t470 0).f1) == 1),.slice Ao44 x481002_3.length co44,.int .i64 0,.int .i64 0,.int .i64 0]) ?_ 3 _ rfl;(with_reducible repeat (first | refine blk_drewN ?_ _ | refine blk_drew ?_ | refine blk_alloc ?_ _));refine blk_put (cs:=#[.float .f64 ((rd_T86 t470 1).f2),.bool (((rd_T86 t470 0).f1) == 1),.slice none 0 0,.int .i64 0,.int .i64 0,.int .i64 0]) ?_ 2 _ rfl;(with_reducible repeat (first | refine blk_drewN ?_ _ | refine blk_drew ?_ | refine blk_alloc ?_ _));refine blk_put (cs:=#[.float .f64 ((rd_T86 t470 1).f2),.bool false,.slice none 0 0,.int .i64 0,.int .i64 0,.int .i64 0]) ?_ 1 _ rfl;(with_reducible repeat (first | refine blk_drewN ?_ _ | refine blk_drew ?_ | refine blk_alloc ?_ _));refine blk_put (cs:=#[.float .f64 0,.bool false,.slice none 0 0,.int .i64 0,.int .i64 0,.int .i64 0]) ?_ 0 _ rfl;(with_reducible repeat (first | refine blk_drewN ?_ _ | refine blk_drew ?_ | refine blk_alloc ?_ _));exact BK461.out) Try.underlying30 rfl (by kernel_rfl)) rfl ?_
                                      exact ⟨_,by first | rfl | (simp [errW_none,errW_some] <;> rfl) | (simp [*,errW_none,errW_some] <;> rfl),by (with_reducible repeat (first | apply Kd.R_alloc | apply Kd.R_drewN | apply Kd.R_drew));exact Kd.R_mono (Kd.R_far (p:=⟨gb461,5,none⟩) (Kd.R_far (p:=⟨gb461,4,none⟩) (Kd.R_far (p:=⟨gb461,3,none⟩) (Kd.R_far (p:=⟨gb461,2,none⟩) (Kd.R_far (p:=⟨gb461,1,none⟩) (Kd.R_far (p:=⟨gb461,0,none⟩) (Kd.R_types HO_481002.out BK461.out (by decide)) (fun _ hk => hk.2) (.float .f64 ((rd_T86 t470 1).f2))) (fun _ hk => hk.2) (.bool (((rd_T86 t470 0).f1) == 1))) (fun _ hk => hk.2) (.slice Ao44 x481002_3.length co44)) (fun _ hk => hk.2) (.int .i64 ((rd_T86 t470 2).f1))) (fun _ hk => hk.2) (.int .i64 ((rd_T86 t470 3).f1))) (fun _ hk => hk.2) (.int .i64 ((rd_T86 t470 4).f1))) (fun _ hk => trivial),by repeat (first | (with_reducible first | exact HB.out | apply below_alloc | apply pw_below_drewN | apply below_drew1 | refine below_set ?_ GE461.out | refine below_set ?_ GE480.out) | exact HB.out)⟩
                                    · rw [if_neg c42] at H
                                      have c42b0 : ((strOfNums t486).toList == (strOfNums l0).toList) = false:=beq_eq_false_iff_ne.mpr c42
                                      have c42b1 : ((strOfNums t486).toList != (strOfNums l0).toList) = true:=bne_iff_ne.mpr c42
                                      simp only [Option.some.injEq,Prod.mk.injEq] at H
                                      obtain ⟨rfl,rfl,rfl,rfl,rfl,rfl,rfl⟩:=H
                                      try go_wp2
                                      have n0_:=Aside0.mk (Kd.R_drew HO_6.out)
                                      have n1_:=Aside0.mk (Kd.R_drew HO_481002.out)
                                      have n2_:=Aside0.mk (blk_drew BK461.out)
                                      have n3_:=Aside0.mk (blk_drew BK480.out)
                                      have n4_:=Aside0.mk (below_drew1 HB.out)
                                      clear HO_6
                                      clear HO_481002
                                      clear BK461
                                      clear BK480
                                      clear HB
                                      have HO_6:=n0_
                                      have HO_481002:=n1_
                                      have BK461:=n2_
                                      have BK480:=n3_
                                      have HB:=n4_
                                      clear n0_ n1_ n2_ n3_ n4_
                                      obtain ⟨Ao52,co52,eo52⟩:=Kd.R_slice HO_481002.out
                                      (first | subst eo52 | (injection eo52 with f1_ f2_ f3_;have f4_:=f1_.symm;have f5_:=f3_.symm;clear f1_ f2_ f3_;subst f4_;subst f5_))
                                      refine start_ (n:=11) (S:=fun w' => w'.cell? ⟨gb480,0,none⟩ = some (.float .f64 ((rd_T86 t470 1).f2)) ∧ w'.cell? ⟨gb480,1,none⟩ = some (.bool (((rd_T86 t470 0).f1) == 1)) ∧ w'.cell? ⟨gb480,2,none⟩ = some (.slice Ao52 x481002_3.length co52) ∧ w'.cell? ⟨gb480,3,none⟩ = some (.int .i64 ((rd_T86 t470 2).f1)) ∧ w'.cell? ⟨gb480,4,none⟩ = some (.int .i64 ((rd_T86 t470 3).f1)) ∧ w'.cell? ⟨gb480,5,none⟩ = some (.int .i64 ((rd_T86 t470 4).f1)) ∧ (convert 23 9 (.slice (some ad466) l0.length c0)).run Try.prog w' = .ok (.string (strOfNums l0)) w') (ds:=[]) #[false,false,false,false,false,false,false,false,false,false,false] (by kernel_rfl) rfl rfl ⟨(blk_cell BK480.out 0).trans rfl,(blk_cell BK480.out 1).trans rfl,(blk_cell BK480.out 2).trans rfl,(blk_cell BK480.out 3).trans rfl,(blk_cell BK480.out 4).trans rfl,(blk_cell BK480.out 5).trans rfl,Kd.C_string (P:=Try.prog) (A:=(some ad466)) (c:=c0) Try.underlying23 Try.underlying5 Try.underlying9 (Kd.C_below HR0.out HB.out)⟩ (fun hHeld => ?_);refine with_tabW humusref04_Decode.tab16 humusref04_Decode.bits16 (fun HT_ HW_ => ?_)
                                      generalize wr.drew = w51 at HO_6 HO_481002 BK461 BK480 HB hHeld ⊢
                                      refine take_ (i:=0) (N:=some 82) (v:=?_) (a':=?_) #[true,false,false,false,false,false,false,false,false,false,false] rfl rfl (take_ofW HT_.out HW_.out (by kernel_rfl)) (fun _ _ _ h => h) (Or.inl ⟨by rfl,?_⟩) hHeld ?_ ?_
                                      rotate_left
                                      · rintro w' ⟨s0,s1,s2,s3,s4,s5,s6⟩
                                        go_simp
                                        with_reducible rfl
                                      rotate_left
                                      · simp only [Act.put,List.setIfInBounds_toArray,List.set_cons_zero,List.set_cons_succ,i64_w,i32_w]
                                        rfl
                                      refine one_ (i:=1) (N:=some 83) #[true,true,false,false,false,false,false,false,false,false,false] rfl rfl (one_of HT_.out (by kernel_rfl)) (by decide) (fun K hK => ?_)
                                      refine goes_ Try.func34 (by kernel_rfl) rfl #[.agg #[.float .f64 ((rd_T86 t470 1).f2),.bool (((rd_T86 t470 0).f1) == 1),.slice Ao52 x481002_3.length co52,.int .i64 ((rd_T86 t470 2).f1),.int .i64 ((rd_T86 t470 3).f1),.int .i64 ((rd_T86 t470 4).f1)]] (by rfl) rfl rfl (by (try simp only [List.map_toArray,List.map_cons,List.map_nil]);first | done | rfl | (simp only [List.length_drop,List.length_take];rfl)) ?_
                                      with_reducible refine (humusref04_May.calls k3 ((rd_T86 t470 1).f2) (((rd_T86 t470 0).f1) == 1) _ _ x481002_3 ((rd_T86 t470 2).f1) ((rd_T86 t470 3).f1) ((rd_T86 t470 4).f1) true _ ?side1 ?side2 A39.out).mono ?_
                                      (case side1 => repeat (first | exact (Kd.R_reads' HO_481002.out).2.2 | (with_reducible refine Kd.C_alloc ?_ _) | (with_reducible refine Kd.C_drewN ?_ _) | (with_reducible refine Kd.C_drew ?_)))
                                      (case side2 => exact (Kd.R_reads' HO_481002.out).2.1)
                                      rintro e w53 ⟨rfl,hb⟩
                                      refine ⟨_,rfl,?_⟩
                                      have n0_:=Aside0.mk (Kd.R_below (by (with_reducible repeat (first | apply Kd.R_alloc | apply Kd.R_drewN | apply Kd.R_drew));exact HO_6.out) hb)
                                      have n1_:=Aside0.mk (Kd.R_below (by (with_reducible repeat (first | apply Kd.R_alloc | apply Kd.R_drewN | apply Kd.R_drew));exact HO_481002.out) hb)
                                      have n2_:=Aside0.mk (blk_below (g:=gb461) (o:=.cells #[.float .f64 0,.bool false,.slice none 0 0,.int .i64 0,.int .i64 0,.int .i64 0] 30 (0,0)) (by (with_reducible repeat (first | refine blk_drewN ?_ _ | refine blk_drew ?_ | refine blk_alloc ?_ _));exact BK461.out) hb)
                                      have n3_:=Aside0.mk (blk_below (g:=gb480) (o:=.cells #[.float .f64 ((rd_T86 t470 1).f2),.bool (((rd_T86 t470 0).f1) == 1),.slice Ao52 x481002_3.length co52,.int .i64 ((rd_T86 t470 2).f1),.int .i64 ((rd_T86 t470 3).f1),.int .i64 ((rd_T86 t470 4).f1)] 30 (0,0)) (by (with_reducible repeat (first | refine blk_drewN ?_ _ | refine blk_drew ?_ | refine blk_alloc ?_ _));exact BK480.out) hb)
                                      have n4_:=Aside0.mk (below_step (by repeat (first | (with_reducible first | exact HB.out | apply below_alloc | apply pw_below_drewN | apply below_drew1 | refine below_set ?_ GE461.out | refine below_set ?_ GE480.out) | exact HB.out)) hb)
                                      clear HO_6
                                      clear HO_481002
                                      clear BK461
                                      clear BK480
                                      clear HB
                                      have HO_6:=n0_
                                      have HO_481002:=n1_
                                      have BK461:=n2_
                                      have BK480:=n3_
                                      have HB:=n4_
                                      clear n0_ n1_ n2_ n3_ n4_
                                      (try clear hb)
                                      (try clear hb2)
                                      (try clear hk)
                                      (try clear hi)
                                      refine hK.out _ _ ⟨(blk_cell BK480.out 0).trans rfl,(blk_cell BK480.out 1).trans rfl,(blk_cell BK480.out 2).trans rfl,(blk_cell BK480.out 3).trans rfl,(blk_cell BK480.out 4).trans rfl,(blk_cell BK480.out 5).trans rfl,Kd.C_string (P:=Try.prog) (A:=(some ad466)) (c:=c0) Try.underlying23 Try.underlying5 Try.underlying9 (Kd.C_below HR0.out HB.out)⟩ (fun hHeld => ?_)
                                      clear hK K
                                      refine norm_ (a':=?_) ?_ ?_
                                      rotate_left
                                      · show Act.put _ (some 83) _ = _
                                        simp only [Act.put,List.setIfInBounds_toArray,List.set_cons_zero,List.set_cons_succ,i64_w,i32_w]
                                        rfl
                                      refine pure_ (i:=2) (N:=some 84) (v:=?_) (a':=?_) #[true,true,true,false,false,false,false,false,false,false,false] rfl rfl (any_of HT_.out (by kernel_rfl)) (fun _ _ _ h => h) (Or.inl ⟨by rfl,?_⟩) ?_ ?_
                                      rotate_left
                                      · intro w'
                                        go_simp
                                        with_reducible rfl
                                      rotate_left
                                      · simp only [Act.put,List.setIfInBounds_toArray,List.set_cons_zero,List.set_cons_succ,i64_w,i32_w]
                                        rfl
                                      refine pure_ (i:=3) (N:=some 85) (v:=?_) (a':=?_) #[true,true,true,true,false,false,false,false,false,false,false] rfl rfl (any_of HT_.out (by kernel_rfl)) (fun _ _ _ h => h) (Or.inl ⟨by rfl,?_⟩) ?_ ?_
                                      rotate_left
                                      · intro w'
                                        go_simp
                                        with_reducible rfl
                                      rotate_left
                                      · simp only [Act.put,List.setIfInBounds_toArray,List.set_cons_zero,List.set_cons_succ,i64_w,i32_w]
                                        rfl
                                      refine pure_ (i:=7) (N:=some 89) (v:=?_) (a':=?_) #[true,true,true,true,false,false,false,true,false,false,false] rfl rfl (any_of HT_.out (by kernel_rfl)) (fun _ _ _ h => h) (Or.inl ⟨by rfl,?_⟩) ?_ ?_
                                      rotate_left
                                      · intro w'
                                        go_simp
                                        with_reducible rfl
                                      rotate_left
                                      · simp only [Act.put,List.setIfInBounds_toArray,List.set_cons_zero,List.set_cons_succ,i64_w,i32_w]
                                        rfl
                                      refine take_ (i:=4) (N:=some 86) (v:=?_) (a':=?_) #[true,true,true,true,true,false,false,true,false,false,false] rfl rfl (take_ofW HT_.out HW_.out (by kernel_rfl)) (fun _ _ _ h => h) (Or.inl ⟨by rfl,?_⟩) hHeld ?_ ?_
                                      rotate_left
                                      · rintro w' ⟨s0,s1,s2,s3,s4,s5,s6⟩
                                        go_simp
                                        with_reducible rfl
                                      rotate_left
                                      · simp only [Act.put,List.setIfInBounds_toArray,List.set_cons_zero,List.set_cons_succ,i64_w,i32_w]
                                        rfl
                                      refine take_ (i:=8) (N:=some 90) (v:=?_) (a':=?_) #[true,true,true,true,true,false,false,true,true,false,false] rfl rfl (take_ofW HT_.out HW_.out (by kernel_rfl)) (fun _ _ _ h => h) (Or.inl ⟨by rfl,?_⟩) hHeld ?_ ?_
                                      rotate_left
                                      · rintro w' ⟨s0,s1,s2,s3,s4,s5,s6⟩
                                        go_simp
                                        with_reducible rfl
                                      rotate_left
                                      · simp only [Act.put,List.setIfInBounds_toArray,List.set_cons_zero,List.set_cons_succ,i64_w,i32_w]
                                        rfl
                                      refine one_ (i:=5) (N:=some 87) #[true,true,true,true,true,true,false,true,true,false,false] rfl rfl (one_of HT_.out (by kernel_rfl)) (by decide) (fun K hK => ?_)
                                      refine goes_ Try.func36 (by kernel_rfl) rfl #[.agg #[.float .f64 ((rd_T86 t470 1).f2),.bool (((rd_T86 t470 0).f1) == 1),.slice Ao52 x481002_3.length co52,.int .i64 ((rd_T86 t470 2).f1),.int .i64 ((rd_T86 t470 3).f1),.int .i64 ((rd_T86 t470 4).f1)]] (by rfl) rfl rfl (by (try simp only [List.map_toArray,List.map_cons,List.map_nil]);first | done | rfl | (simp only [List.length_drop,List.length_take];rfl)) ?_
                                      with_reducible refine (humusref04_Bytes.calls k3 ((rd_T86 t470 1).f2) (((rd_T86 t470 0).f1) == 1) _ _ x481002_3 ((rd_T86 t470 2).f1) ((rd_T86 t470 3).f1) ((rd_T86 t470 4).f1) t486 _ ?side1 ?side2 A41.out).mono ?_
                                      (case side1 => repeat (first | exact (Kd.R_reads' HO_481002.out).2.2 | (with_reducible refine Kd.C_alloc ?_ _) | (with_reducible refine Kd.C_drewN ?_ _) | (with_reducible refine Kd.C_drew ?_)))
                                      (case side2 => exact (Kd.R_reads' HO_481002.out).2.1)
                                      rintro e w54 ⟨v487,rfl,ho0,hb⟩
                                      refine ⟨_,rfl,?_⟩
                                      have n0_:=Aside0.mk (Kd.R_below (by (with_reducible repeat (first | apply Kd.R_alloc | apply Kd.R_drewN | apply Kd.R_drew));exact HO_6.out) hb)
                                      have n1_:=Aside0.mk (Kd.R_below (by (with_reducible repeat (first | apply Kd.R_alloc | apply Kd.R_drewN | apply Kd.R_drew));exact HO_481002.out) hb)
                                      have n2_:=Aside0.mk (Kd.R_lower ho0 (below_size (by repeat (first | (with_reducible first | exact HB.out | apply below_alloc | apply pw_below_drewN | apply below_drew1 | refine below_set ?_ GE461.out | refine below_set ?_ GE480.out) | exact HB.out))))
                                      have n3_:=Aside0.mk (blk_below (g:=gb461) (o:=.cells #[.float .f64 0,.bool false,.slice none 0 0,.int .i64 0,.int .i64 0,.int .i64 0] 30 (0,0)) (by (with_reducible repeat (first | refine blk_drewN ?_ _ | refine blk_drew ?_ | refine blk_alloc ?_ _));exact BK461.out) hb)
                                      have n4_:=Aside0.mk (blk_below (g:=gb480) (o:=.cells #[.float .f64 ((rd_T86 t470 1).f2),.bool (((rd_T86 t470 0).f1) == 1),.slice Ao52 x481002_3.length co52,.int .i64 ((rd_T86 t470 2).f1),.int .i64 ((rd_T86 t470 3).f1),.int .i64 ((rd_T86 t470 4).f1)] 30 (0,0)) (by (with_reducible repeat (first | refine blk_drewN ?_ _ | refine blk_drew ?_ | refine blk_alloc ?_ _));exact BK480.out) hb)
                                      have n5_:=Aside0.mk (below_step (by repeat (first | (with_reducible first | exact HB.out | apply below_alloc | apply pw_below_drewN | apply below_drew1 | refine below_set ?_ GE461.out | refine below_set ?_ GE480.out) | exact HB.out)) hb)
                                      clear HO_6
                                      clear HO_481002
                                      clear BK461
                                      clear BK480
                                      clear HB
                                      have HO_6:=n0_
                                      have HO_481002:=n1_
                                      have HO488:=n2_
                                      have BK461:=n3_
                                      have BK480:=n4_
                                      have HB:=n5_
                                      clear n0_ n1_ n2_ n3_ n4_ n5_
                                      (try clear hb)
                                      (try clear hb2)
                                      (try clear hk)
                                      (try clear hi)
                                      (try clear ho0)
                                      refine hK.out _ _ ⟨(blk_cell BK480.out 0).trans rfl,(blk_cell BK480.out 1).trans rfl,(blk_cell BK480.out 2).trans rfl,(blk_cell BK480.out 3).trans rfl,(blk_cell BK480.out 4).trans rfl,(blk_cell BK480.out 5).trans rfl,Kd.C_string (P:=Try.prog) (A:=(some ad466)) (c:=c0) Try.underlying23 Try.underlying5 Try.underlying9 (Kd.C_below HR0.out HB.out)⟩ (fun hHeld => ?_)
                                      clear hK K
                                      refine norm_ (a':=?_) ?_ ?_
                                      rotate_left
                                      · show Act.put _ (some 87) _ = _
                                        simp only [Act.put,List.setIfInBounds_toArray,List.set_cons_zero,List.set_cons_succ,i64_w,i32_w]
                                        rfl
                                      refine one_ (i:=6) (N:=some 88) #[true,true,true,true,true,true,true,true,true,false,false] rfl rfl (one_of HT_.out (by kernel_rfl)) (by decide) (fun K hK => ?_)
                                      have hcv55:=own_string (P:=Try.prog) Try.underlying23 Try.underlying5 Try.underlying9 (Kd.own_of_R HO488.out)
                                      refine value_ (w1:=?_) (v:=?_) (by rfl) rfl ?_ ?_
                                      rotate_left 2
                                      · go_simp
                                        constructor
                                        · rfl
                                        · rfl
                                      clear hcv55
                                      refine hK.out _ _ ⟨(blk_cell BK480.out 0).trans rfl,(blk_cell BK480.out 1).trans rfl,(blk_cell BK480.out 2).trans rfl,(blk_cell BK480.out 3).trans rfl,(blk_cell BK480.out 4).trans rfl,(blk_cell BK480.out 5).trans rfl,Kd.C_string (P:=Try.prog) (A:=(some ad466)) (c:=c0) Try.underlying23 Try.underlying5 Try.underlying9 (Kd.C_below HR0.out HB.out)⟩ (fun hHeld => ?_)
                                      clear hK K
                                      refine norm_ (a':=?_) ?_ ?_
                                      rotate_left
                                      · show Act.put _ (some 88) _ = _
                                        simp only [Act.put,List.setIfInBounds_toArray,List.set_cons_zero,List.set_cons_succ,i64_w,i32_w]
                                        rfl
                                      refine pure_ (i:=9) (N:=some 91) (v:=?_) (a':=?_) #[true,true,true,true,true,true,true,true,true,true,false] rfl rfl (any_of HT_.out (by kernel_rfl)) (fun _ _ _ h => h) (Or.inl ⟨by rfl,?_⟩) ?_ ?_
                                      rotate_left
                                      · intro w'
                                        go_simp
                                        with_reducible rfl
                                      rotate_left
                                      · simp only [Act.put,List.setIfInBounds_toArray,List.set_cons_zero,List.set_cons_succ,i64_w,i32_w]
                                        rfl
                                      refine pure_ (i:=10) (N:=some 92) (v:=?_) (a':=?_) #[true,true,true,true,true,true,true,true,true,true,true] rfl rfl (any_of HT_.out (by kernel_rfl)) (fun _ _ _ h => h) (Or.inl ⟨by rfl,?_⟩) ?_ ?_
                                      rotate_left
                                      · intro w'
                                        go_simp
                                        with_reducible rfl
                                      rotate_left
                                      · simp only [Act.put,List.setIfInBounds_toArray,List.set_cons_zero,List.set_cons_succ,i64_w,i32_w]
                                        rfl
                                      refine done_ (done_of HT_.out (by kernel_rfl)) ?_
                                      have hnb56:=NB461_480.out
                                      have hnc56:=NB480_461.out
                                      have hcz57_0 : w54.cell? ⟨gb461,0,none⟩ = some (.float .f64 0):=(blk_cell BK461.out 0).trans rfl
                                      have hcz57_1 : w54.cell? ⟨gb461,1,none⟩ = some (.bool false):=(blk_cell BK461.out 1).trans rfl
                                      have hcz57_2 : w54.cell? ⟨gb461,2,none⟩ = some (.slice none 0 0):=(blk_cell BK461.out 2).trans rfl
                                      have hcz57_3 : w54.cell? ⟨gb461,3,none⟩ = some (.int .i64 0):=(blk_cell BK461.out 3).trans rfl
                                      have hcz57_4 : w54.cell? ⟨gb461,4,none⟩ = some (.int .i64 0):=(blk_cell BK461.out 4).trans rfl
                                      have hcz57_5 : w54.cell? ⟨gb461,5,none⟩ = some (.int .i64 0):=(blk_cell BK461.out 5).trans rfl
                                      have hfz57_0:=blk_frozen BK461.out 0
                                      have hfz57_1:=blk_frozen BK461.out 1
                                      have hfz57_2:=blk_frozen BK461.out 2
                                      have hfz57_3:=blk_frozen BK461.out 3
                                      have hfz57_4:=blk_frozen BK461.out 4
                                      have hfz57_5:=blk_frozen BK461.out 5
                                      try go_wp2
                                      refine bodyPost_ret (results_ct rfl _ _ gb461 30 #[.float .f64 0,.bool false,.slice none 0 0,.int .i64 0,.int .i64 0,.int .i64 0] (0,0) _ rfl (by (with_reducible repeat (first | refine blk_drewN ?_ _ | refine blk_drew ?_ | refine blk_alloc ?_ _));refine blk_put (cs:=#[.float .f64 0,.bool false,.slice none 0 0,.int .i64 0,.int .i64 0,.int .i64 0]) ?_ 5 _ rfl;(with_reducible repeat (first | refine blk_drewN ?_ _ | refine blk_drew ?_ | refine blk_alloc ?_ _));refine blk_put (cs:=#[.float .f64 0,.bool false,.slice none 0 0,.int .i64 0,.int .i64 0,.int .i64 0]) ?_ 4 _ rfl;(with_reducible repeat (first | refine blk_drewN ?_ _ | refine blk_drew ?_ | refine blk_alloc ?_ _));refine blk_put (cs:=#[.float .f64 0,.bool false,.slice none 0 0,.int .i64 0,.int .i64 0,.int .i64 0]) ?_ 3 _ rfl;(with_reducible repeat (first | refine blk_drewN ?_ _ | refine blk_drew ?_ | refine blk_alloc ?_ _));refine blk_put (cs:=#[.float .f64 0,.bool false,.slice none 0 0,.int .i64 0,.int .i64 0,.int .i64 0]) ?_ 2 _ rfl;(with_reducible repeat (first | refine blk_drewN ?_ _ | refine blk_drew ?_ | refine blk_alloc ?_ _));refine blk_put (cs:=#[.float .f64 0,.bool false,.slice none 0 0,.int .i64 0,.int .i64 0,.int .i64 0]) ?_ 1 _ rfl;(with_reducible repeat (first | refine blk_drewN ?_ _ | refine blk_drew ?_ | refine blk_alloc ?_ _));refine blk_put (cs:=#[.float .f64 0,.bool false,.slice none 0 0,.int .i64 0,.int .i64 0,.int .i64 0]) ?_ 0 _ rfl;(with_reducible repeat (first | refine blk_drewN ?_ _ | refine blk_drew ?_ | refine blk_alloc ?_ _));exact BK461.out) Try.underlying30 rfl (by kernel_rfl)) rfl ?_
                                      exact ⟨_,by first | rfl | (simp [errW_none,errW_some] <;> rfl) | (simp [*,errW_none,errW_some] <;> rfl),by first | exact Kd.R_nil _ _ _ _ _ | exact Kd.N_nil _ _ _ _ _ | exact Kd.V_nil _ _ _ _ _ | exact Kd.Q_nil _ _ _ _ _ | exact Kd.S_nil _ _ _ _ _,by repeat (first | (with_reducible first | exact HB.out | apply below_alloc | apply pw_below_drewN | apply below_drew1 | refine below_set ?_ GE461.out | refine below_set ?_ GE480.out) | exact HB.out)⟩
                                  · replace c40:=Bool.eq_false_iff.mpr c40
                                    subst c40
                                    have H1 : (some (0,false,([] : List Nat),0,0,0,false)) = some (r1,r2,r3,r4,r5,r6,r7):=by rw [if_neg (show ¬ (false = true) by decide)] at H;exact H
                                    clear H
                                    have H:=H1
                                    clear H1
                                    simp only [Option.some.injEq,Prod.mk.injEq] at H
                                    obtain ⟨rfl,rfl,rfl,rfl,rfl,rfl,rfl⟩:=H
                                    try go_wp2
                                    have n0_:=Aside0.mk (Kd.R_drew HO_6.out)
                                    have n1_:=Aside0.mk (Kd.R_drew HO_481002.out)
                                    have n2_:=Aside0.mk (blk_drew BK461.out)
                                    have n3_:=Aside0.mk (blk_drew BK480.out)
                                    have n4_:=Aside0.mk (below_drew1 HB.out)
                                    clear HO_6
                                    clear HO_481002
                                    clear BK461
                                    clear BK480
                                    clear HB
                                    have HO_6:=n0_
                                    have HO_481002:=n1_
                                    have BK461:=n2_
                                    have BK480:=n3_
                                    have HB:=n4_
                                    clear n0_ n1_ n2_ n3_ n4_
                                    obtain ⟨Ao59,co59,eo59⟩:=Kd.R_slice HO_481002.out
                                    (first | subst eo59 | (injection eo59 with f1_ f2_ f3_;have f4_:=f1_.symm;have f5_:=f3_.symm;clear f1_ f2_ f3_;subst f4_;subst f5_))
                                    refine start_ (n:=11) (S:=fun w' => w'.cell? ⟨gb480,0,none⟩ = some (.float .f64 ((rd_T86 t470 1).f2)) ∧ w'.cell? ⟨gb480,1,none⟩ = some (.bool (((rd_T86 t470 0).f1) == 1)) ∧ w'.cell? ⟨gb480,2,none⟩ = some (.slice Ao59 x481002_3.length co59) ∧ w'.cell? ⟨gb480,3,none⟩ = some (.int .i64 ((rd_T86 t470 2).f1)) ∧ w'.cell? ⟨gb480,4,none⟩ = some (.int .i64 ((rd_T86 t470 3).f1)) ∧ w'.cell? ⟨gb480,5,none⟩ = some (.int .i64 ((rd_T86 t470 4).f1))) (ds:=[1]) #[false,false,false,false,false,false,false,false,false,false,false] (by kernel_rfl) rfl rfl ⟨(blk_cell BK480.out 0).trans rfl,(blk_cell BK480.out 1).trans rfl,(blk_cell BK480.out 2).trans rfl,(blk_cell BK480.out 3).trans rfl,(blk_cell BK480.out 4).trans rfl,(blk_cell BK480.out 5).trans rfl⟩ (fun hHeld => ?_);refine with_tabW humusref04_Decode.tab16 humusref04_Decode.bits16 (fun HT_ HW_ => ?_)
                                    generalize wr.drew = w58 at HO_6 HO_481002 BK461 BK480 HB hHeld ⊢
                                    refine take_ (i:=0) (N:=some 82) (v:=?_) (a':=?_) #[true,false,false,false,false,false,false,false,false,false,false] rfl rfl (take_ofW HT_.out HW_.out (by kernel_rfl)) (fun _ _ _ h => h) (Or.inl ⟨by rfl,?_⟩) hHeld ?_ ?_
                                    rotate_left
                                    · rintro w' ⟨s0,s1,s2,s3,s4,s5⟩
                                      go_simp
                                      with_reducible rfl
                                    rotate_left
                                    · simp only [Act.put,List.setIfInBounds_toArray,List.set_cons_zero,List.set_cons_succ,i64_w,i32_w]
                                      rfl
                                    refine last_ (i:=1) (N:=some 83) #[true,true,false,false,false,false,false,false,false,false,false] rfl rfl (one_of HT_.out (by kernel_rfl)) (by decide) (fun K hK => ?_)
                                    refine goes_ Try.func34 (by kernel_rfl) rfl #[.agg #[.float .f64 ((rd_T86 t470 1).f2),.bool (((rd_T86 t470 0).f1) == 1),.slice Ao59 x481002_3.length co59,.int .i64 ((rd_T86 t470 2).f1),.int .i64 ((rd_T86 t470 3).f1),.int .i64 ((rd_T86 t470 4).f1)]] (by rfl) rfl rfl (by (try simp only [List.map_toArray,List.map_cons,List.map_nil]);first | done | rfl | (simp only [List.length_drop,List.length_take];rfl)) ?_
                                    with_reducible refine (humusref04_May.calls k3 ((rd_T86 t470 1).f2) (((rd_T86 t470 0).f1) == 1) _ _ x481002_3 ((rd_T86 t470 2).f1) ((rd_T86 t470 3).f1) ((rd_T86 t470 4).f1) false _ ?side1 ?side2 A39.out).mono ?_
                                    (case side1 => repeat (first | exact (Kd.R_reads' HO_481002.out).2.2 | (with_reducible refine Kd.C_alloc ?_ _) | (with_reducible refine Kd.C_drewN ?_ _) | (with_reducible refine Kd.C_drew ?_)))
                                    (case side2 => exact (Kd.R_reads' HO_481002.out).2.1)
                                    rintro e w60 ⟨rfl,hb⟩
                                    refine ⟨_,rfl,?_⟩
                                    have n0_:=Aside0.mk (Kd.R_below (by (with_reducible repeat (first | apply Kd.R_alloc | apply Kd.R_drewN | apply Kd.R_drew));exact HO_6.out) hb)
                                    have n1_:=Aside0.mk (Kd.R_below (by (with_reducible repeat (first | apply Kd.R_alloc | apply Kd.R_drewN | apply Kd.R_drew));exact HO_481002.out) hb)
                                    have n2_:=Aside0.mk (blk_below (g:=gb461) (o:=.cells #[.float .f64 0,.bool false,.slice none 0 0,.int .i64 0,.int .i64 0,.int .i64 0] 30 (0,0)) (by (with_reducible repeat (first | refine blk_drewN ?_ _ | refine blk_drew ?_ | refine blk_alloc ?_ _));exact BK461.out) hb)
                                    have n3_:=Aside0.mk (blk_below (g:=gb480) (o:=.cells #[.float .f64 ((rd_T86 t470 1).f2),.bool (((rd_T86 t470 0).f1) == 1),.slice Ao59 x481002_3.length co59,.int .i64 ((rd_T86 t470 2).f1),.int .i64 ((rd_T86 t470 3).f1),.int .i64 ((rd_T86 t470 4).f1)] 30 (0,0)) (by (with_reducible repeat (first | refine blk_drewN ?_ _ | refine blk_drew ?_ | refine blk_alloc ?_ _));exact BK480.out) hb)
                                    have n4_:=Aside0.mk (below_step (by repeat (first | (with_reducible first | exact HB.out | apply below_alloc | apply pw_below_drewN | apply below_drew1 | refine below_set ?_ GE461.out | refine below_set ?_ GE480.out) | exact HB.out)) hb)
                                    clear HO_6
                                    clear HO_481002
                                    clear BK461
                                    clear BK480
                                    clear HB
                                    have HO_6:=n0_
                                    have HO_481002:=n1_
                                    have BK461:=n2_
                                    have BK480:=n3_
                                    have HB:=n4_
                                    clear n0_ n1_ n2_ n3_ n4_
                                    (try clear hb)
                                    (try clear hb2)
                                    (try clear hk)
                                    (try clear hi)
                                    refine hK.out _ _ ?_
                                    clear hK K
                                    refine norm_ (a':=?_) ?_ ?_
                                    rotate_left
                                    · show Act.put _ (some 83) _ = _
                                      simp only [Act.put,List.setIfInBounds_toArray,List.set_cons_zero,List.set_cons_succ,i64_w,i32_w]
                                      rfl
                                    refine pure_ (i:=2) (N:=some 84) (v:=?_) (a':=?_) #[true,true,true,false,false,false,false,false,false,false,false] rfl rfl (any_of HT_.out (by kernel_rfl)) (fun _ _ _ h => h) (Or.inl ⟨by rfl,?_⟩) ?_ ?_
                                    rotate_left
                                    · intro w'
                                      go_simp
                                      with_reducible rfl
                                    rotate_left
                                    · simp only [Act.put,List.setIfInBounds_toArray,List.set_cons_zero,List.set_cons_succ,i64_w,i32_w]
                                      rfl
                                    refine pure_ (i:=3) (N:=some 85) (v:=?_) (a':=?_) #[true,true,true,true,false,false,false,false,false,false,false] rfl rfl (any_of HT_.out (by kernel_rfl)) (fun _ _ _ h => h) (Or.inl ⟨by rfl,?_⟩) ?_ ?_
                                    rotate_left
                                    · intro w'
                                      go_simp
                                      with_reducible rfl
                                    rotate_left
                                    · simp only [Act.put,List.setIfInBounds_toArray,List.set_cons_zero,List.set_cons_succ,i64_w,i32_w]
                                      rfl
                                    refine pure_ (i:=4) (N:=some 86) (v:=undef) (a':=?_) #[true,true,true,true,true,false,false,false,false,false,false] rfl rfl (any_of HT_.out (by kernel_rfl)) (fun _ _ _ h => h) (Or.inr ⟨by rfl,rfl⟩) ?_ ?_
                                    rotate_left
                                    · simp only [Act.put,List.setIfInBounds_toArray,List.set_cons_zero,List.set_cons_succ,i64_w,i32_w]
                                      rfl
                                    refine pure_ (i:=5) (N:=some 87) (v:=undef) (a':=?_) #[true,true,true,true,true,true,false,false,false,false,false] rfl rfl (any_of HT_.out (by kernel_rfl)) (fun _ _ _ h => h) (Or.inr ⟨by rfl,rfl⟩) ?_ ?_
                                    rotate_left
                                    · simp only [Act.put,List.setIfInBounds_toArray,List.set_cons_zero,List.set_cons_succ,i64_w,i32_w]
                                      rfl
                                    refine pure_ (i:=6) (N:=some 88) (v:=undef) (a':=?_) #[true,true,true,true,true,true,true,false,false,false,false] rfl rfl (any_of HT_.out (by kernel_rfl)) (fun _ _ _ h => h) (Or.inr ⟨by rfl,rfl⟩) ?_ ?_
                                    rotate_left
                                    · simp only [Act.put,List.setIfInBounds_toArray,List.set_cons_zero,List.set_cons_succ,i64_w,i32_w]
                                      rfl
                                    refine pure_ (i:=7) (N:=some 89) (v:=undef) (a':=?_) #[true,true,true,true,true,true,true,true,false,false,false] rfl rfl (any_of HT_.out (by kernel_rfl)) (fun _ _ _ h => h) (Or.inr ⟨by rfl,rfl⟩) ?_ ?_
                                    rotate_left
                                    · simp only [Act.put,List.setIfInBounds_toArray,List.set_cons_zero,List.set_cons_succ,i64_w,i32_w]
                                      rfl
                                    refine pure_ (i:=8) (N:=some 90) (v:=undef) (a':=?_) #[true,true,true,true,true,true,true,true,true,false,false] rfl rfl (any_of HT_.out (by kernel_rfl)) (fun _ _ _ h => h) (Or.inr ⟨by rfl,rfl⟩) ?_ ?_
                                    rotate_left
                                    · simp only [Act.put,List.setIfInBounds_toArray,List.set_cons_zero,List.set_cons_succ,i64_w,i32_w]
                                      rfl
                                    refine pure_ (i:=9) (N:=some 91) (v:=undef) (a':=?_) #[true,true,true,true,true,true,true,true,true,true,false] rfl rfl (any_of HT_.out (by kernel_rfl)) (fun _ _ _ h => h) (Or.inr ⟨by rfl,rfl⟩) ?_ ?_
                                    rotate_left
                                    · simp only [Act.put,List.setIfInBounds_toArray,List.set_cons_zero,List.set_cons_succ,i64_w,i32_w]
                                      rfl
                                    refine pure_ (i:=10) (N:=some 92) (v:=?_) (a':=?_) #[true,true,true,true,true,true,true,true,true,true,true] rfl rfl (any_of HT_.out (by kernel_rfl)) (fun _ _ _ h => h) (Or.inl ⟨by rfl,?_⟩) ?_ ?_
                                    rotate_left
                                    · intro w'
                                      go_simp
                                      with_reducible rfl
                                    rotate_left
                                    · simp only [Act.put,List.setIfInBounds_toArray,List.set_cons_zero,List.set_cons_succ,i64_w,i32_w]
                                      rfl
                                    refine done_ (done_of HT_.out (by kernel_rfl)) ?_
                                    have hnb61:=NB461_480.out
                                    have hnc61:=NB480_461.out
                                    have hcz62_0 : w60.cell? ⟨gb461,0,none⟩ = some (.float .f64 0):=(blk_cell BK461.out 0).trans rfl
                                    have hcz62_1 : w60.cell? ⟨gb461,1,none⟩ = some (.bool false):=(blk_cell BK461.out 1).trans rfl
                                    have hcz62_2 : w60.cell? ⟨gb461,2,none⟩ = some (.slice none 0 0):=(blk_cell BK461.out 2).trans rfl
                                    have hcz62_3 : w60.cell? ⟨gb461,3,none⟩ = some (.int .i64 0):=(blk_cell BK461.out 3).trans rfl
                                    have hcz62_4 : w60.cell? ⟨gb461,4,none⟩ = some (.int .i64 0):=(blk_cell BK461.out 4).trans rfl
                                    have hcz62_5 : w60.cell? ⟨gb461,5,none⟩ = some (.int .i64 0):=(blk_cell BK461.out 5).trans rfl
                                    have hfz62_0:=blk_frozen BK461.out 0
                                    have hfz62_1:=blk_frozen BK461.out 1
                                    have hfz62_2:=blk_frozen BK461.out 2
                                    have hfz62_3:=blk_frozen BK461.out 3
                                    have hfz62_4:=blk_frozen BK461.out 4
                                    have hfz62_5:=blk_frozen BK461.out 5
                                    try go_wp2
                                    refine bodyPost_ret (results_ct rfl _ _ gb461 30 #[.float .f64 0,.bool false,.slice none 0 0,.int .i64 0,.int .i64 0,.int .i64 0] (0,0) _ rfl (by (with_reducible repeat (first | refine blk_drewN ?_ _ | refine blk_drew ?_ | refine blk_alloc ?_ _));refine blk_put (cs:=#[.float .f64 0,.bool false,.slice none 0 0,.int .i64 0,.int .i64 0,.int .i64 0]) ?_ 5 _ rfl;(with_reducible repeat (first | refine blk_drewN ?_ _ | refine blk_drew ?_ | refine blk_alloc ?_ _));refine blk_put (cs:=#[.float .f64 0,.bool false,.slice none 0 0,.int .i64 0,.int .i64 0,.int .i64 0]) ?_ 4 _ rfl;(with_reducible repeat (first | refine blk_drewN ?_ _ | refine blk_drew ?_ | refine blk_alloc ?_ _));refine blk_put (cs:=#[.float .f64 0,.bool false,.slice none 0 0,.int .i64 0,.int .i64 0,.int .i64 0]) ?_ 3 _ rfl;(with_reducible repeat (first | refine blk_drewN ?_ _ | refine blk_drew ?_ | refine blk_alloc ?_ _));refine blk_put (cs:=#[.float .f64 0,.bool false,.slice none 0 0,.int .i64 0,.int .i64 0,.int .i64 0]) ?_ 2 _ rfl;(with_reducible repeat (first | refine blk_drewN ?_ _ | refine blk_drew ?_ | refine blk_alloc ?_ _));refine blk_put (cs:=#[.float .f64 0,.bool false,.slice none 0 0,.int .i64 0,.int .i64 0,.int .i64 0]) ?_ 1 _ rfl;(with_reducible repeat (first | refine blk_drewN ?_ _ | refine blk_drew ?_ | refine blk_alloc ?_ _));refine blk_put (cs:=#[.float .f64 0,.bool false,.slice none 0 0,.int .i64 0,.int .i64 0,.int .i64 0]) ?_ 0 _ rfl;(with_reducible repeat (first | refine blk_drewN ?_ _ | refine blk_drew ?_ | refine blk_alloc ?_ _));exact BK461.out) Try.underlying30 rfl (by kernel_rfl)) rfl ?_
                                    exact ⟨_,by first | rfl | (simp [errW_none,errW_some] <;> rfl) | (simp [*,errW_none,errW_some] <;> rfl),by first | exact Kd.R_nil _ _ _ _ _ | exact Kd.N_nil _ _ _ _ _ | exact Kd.V_nil _ _ _ _ _ | exact Kd.Q_nil _ _ _ _ _ | exact Kd.S_nil _ _ _ _ _,by repeat (first | (with_reducible first | exact HB.out | apply below_alloc | apply pw_below_drewN | apply below_drew1 | refine below_set ?_ GE461.out | refine below_set ?_ GE480.out) | exact HB.out)⟩
                          · rw [if_neg c20] at H
                            exact absurd H (by simp)
                        · rw [if_neg c19] at H
                          exact absurd H (by simp)
                      · rw [if_neg c18] at H
                        exact absurd H (by simp)
                    · rw [if_neg c17] at H
                      exact absurd H (by simp)
                  · rw [if_neg c16] at H
                    exact absurd H (by simp)
                · rw [if_neg c15] at H
                  have c15b0 : (t472 == 0) = false:=beq_eq_false_iff_ne.mpr c15
                  have c15b1 : (t472 != 0) = true:=bne_iff_ne.mpr c15
                  simp only [Option.some.injEq,Prod.mk.injEq] at H
                  obtain ⟨rfl,rfl,rfl,rfl,rfl,rfl,rfl⟩:=H
                  have p466 : 0 ≤ (19 : Int):=(by omega)
                  have q466 : 19 < (l0.length : Int):=of_decide_eq_true (by first | (with_reducible assumption) | assumption)
                  obtain ⟨ad466,e466,hx466_0⟩:=Kd.at_int HR0.out 19 p466 q466
                  cases e466
                  (try simp only [show (19 : Int).toNat = 19 from rfl,Nat.reduceMul,Nat.reduceEqDiff,Go.Addr.add,↓reduceIte] at hx466_0)
                  have qi466 : (19 < l0.length) = True:=eq_true (by omega)
                  (try rw [show ((19 : Int)).toNat = 19 from rfl] at hx466_0)
                  replace hx466_0:=(HB.out.cell (World.block_lt_of_cell? w _ hx466_0)).trans hx466_0
                  replace p466:=eq_true p466
                  replace q466:=eq_true q466
                  obtain ⟨Ao63,co63,eo63⟩:=Kd.R_slice HO_4.out
                  subst eo63
                  go_wp2_with (first | ((with_reducible refine gate_callee (f:=77) rfl ?_);refine goesL_ (some 36) rfl rfl Try.func77 (by kernel_rfl) rfl #[.slice (some ad466) l0.length c0,.slice Ao63 x4_2.length co63] rfl (by (try simp only [List.map_toArray,List.map_cons,List.map_nil]);first | done | rfl | (simp only [List.length_drop,List.length_take];rfl)) ?_;(with_reducible refine (humusref03_Take.calls _ _ l0 _ _ x4_2 t470 t471 t472 _ ?side1 ?side2 ?side3 ?side4 A14.out).mono ?_);(case side1 => repeat (first | exact (Kd.C_below HR0.out HB.out) | (with_reducible refine Kd.C_alloc ?_ _) | (with_reducible refine Kd.C_drewN ?_ _) | (with_reducible refine Kd.C_drew ?_)));(case side2 => exact HC0.out);(case side3 => repeat (first | exact (Kd.R_reads' HO_4.out).2.2 | (with_reducible refine Kd.C_alloc ?_ _) | (with_reducible refine Kd.C_drewN ?_ _) | (with_reducible refine Kd.C_drew ?_)));(case side4 => exact (Kd.R_reads' HO_4.out).2.1);rintro e w64 ⟨v473,rfl,ho0,hb⟩;refine ⟨_,rfl,?_⟩;have n0_:=Aside0.mk (Kd.R_below (by (with_reducible repeat (first | apply Kd.R_alloc | apply Kd.R_drewN | apply Kd.R_drew));exact HO_4.out) hb);have n1_:=Aside0.mk (Kd.R_lower ho0 (below_size (by repeat (first | (with_reducible first | exact HB.out | apply below_alloc | apply pw_below_drewN | apply below_drew1 | refine below_set ?_ GE461.out) | exact HB.out))));have n2_:=Aside0.mk (blk_below (g:=gb461) (o:=.cells #[.float .f64 0,.bool false,.slice none 0 0,.int .i64 0,.int .i64 0,.int .i64 0] 30 (0,0)) (by (with_reducible repeat (first | refine blk_drewN ?_ _ | refine blk_drew ?_ | refine blk_alloc ?_ _));exact BK461.out) hb);have n3_:=Aside0.mk (below_step (by repeat (first | (with_reducible first | exact HB.out | apply below_alloc | apply pw_below_drewN | apply below_drew1 | refine below_set ?_ GE461.out) | exact HB.out)) hb);clear HO_4;clear BK461;clear HB;have HO_4:=n0_;have HO474:=n1_;have BK461:=n2_;have HB:=n3_;clear n0_ n1_ n2_ n3_;(try clear hb);(try clear hb2);(try clear hk);(try clear hi);(try clear ho0);have hcz65_0 : w64.cell? ⟨gb461,0,none⟩ = some (.float .f64 0):=(blk_cell BK461.out 0).trans rfl;have hcz65_1 : w64.cell? ⟨gb461,1,none⟩ = some (.bool false):=(blk_cell BK461.out 1).trans rfl;have hcz65_2 : w64.cell? ⟨gb461,2,none⟩ = some (.slice none 0 0):=(blk_cell BK461.out 2).trans rfl;have hcz65_3 : w64.cell? ⟨gb461,3,none⟩ = some (.int .i64 0):=(blk_cell BK461.out 3).trans rfl;have hcz65_4 : w64.cell? ⟨gb461,4,none⟩ = some (.int .i64 0):=(blk_cell BK461.out 4).trans rfl;have hcz65_5 : w64.cell? ⟨gb461,5,none⟩ = some (.int .i64 0):=(blk_cell BK461.out 5).trans rfl;have hfz65_0:=blk_frozen BK461.out 0;have hfz65_1:=blk_frozen BK461.out 1;have hfz65_2:=blk_frozen BK461.out 2;have hfz65_3:=blk_frozen BK461.out 3;have hfz65_4:=blk_frozen BK461.out 4;have hfz65_5:=blk_frozen BK461.out 5))
                  refine bodyPost_ret (results_ct rfl _ _ gb461 30 #[.float .f64 0,.bool false,.slice none 0 0,.int .i64 0,.int .i64 0,.int .i64 0] (0,0) _ rfl (by (with_reducible repeat (first | refine blk_drewN ?_ _ | refine blk_drew ?_ | refine blk_alloc ?_ _));refine blk_put (cs:=#[.float .f64 0,.bool false,.slice none 0 0,.int .i64 0,.int .i64 0,.int .i64 0]) ?_ 5 _ rfl;(with_reducible repeat (first | refine blk_drewN ?_ _ | refine blk_drew ?_ | refine blk_alloc ?_ _));refine blk_put (cs:=#[.float .f64 0,.bool false,.slice none 0 0,.int .i64 0,.int .i64 0,.int .i64 0]) ?_ 4 _ rfl;(with_reducible repeat (first | refine blk_drewN ?_ _ | refine blk_drew ?_ | refine blk_alloc ?_ _));refine blk_put (cs:=#[.float .f64 0,.bool false,.slice none 0 0,.int .i64 0,.int .i64 0,.int .i64 0]) ?_ 3 _ rfl;(with_reducible repeat (first | refine blk_drewN ?_ _ | refine blk_drew ?_ | refine blk_alloc ?_ _));refine blk_put (cs:=#[.float .f64 0,.bool false,.slice none 0 0,.int .i64 0,.int .i64 0,.int .i64 0]) ?_ 2 _ rfl;(with_reducible repeat (first | refine blk_drewN ?_ _ | refine blk_drew ?_ | refine blk_alloc ?_ _));refine blk_put (cs:=#[.float .f64 0,.bool false,.slice none 0 0,.int .i64 0,.int .i64 0,.int .i64 0]) ?_ 1 _ rfl;(with_reducible repeat (first | refine blk_drewN ?_ _ | refine blk_drew ?_ | refine blk_alloc ?_ _));refine blk_put (cs:=#[.float .f64 0,.bool false,.slice none 0 0,.int .i64 0,.int .i64 0,.int .i64 0]) ?_ 0 _ rfl;(with_reducible repeat (first | refine blk_drewN ?_ _ | refine blk_drew ?_ | refine blk_alloc ?_ _));exact BK461.out) Try.underlying30 rfl (by kernel_rfl)) rfl ?_
                  exact ⟨_,by first | rfl | (simp [errW_none,errW_some] <;> rfl) | (simp [*,errW_none,errW_some] <;> rfl),by first | exact Kd.R_nil _ _ _ _ _ | exact Kd.N_nil _ _ _ _ _ | exact Kd.V_nil _ _ _ _ _ | exact Kd.Q_nil _ _ _ _ _ | exact Kd.S_nil _ _ _ _ _,by repeat (first | (with_reducible first | exact HB.out | apply below_alloc | apply pw_below_drewN | apply below_drew1 | refine below_set ?_ GE461.out) | exact HB.out)⟩
            · rw [if_neg c10] at H
              exact absurd H (by simp)
end Go.Proofs.Ytdcllbhkjcdnoaa.P
