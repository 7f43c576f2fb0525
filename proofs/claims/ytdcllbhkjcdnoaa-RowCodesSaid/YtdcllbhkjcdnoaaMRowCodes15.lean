/- Put together by wip/prune.py out of this claim's texts. -/
import Derived.Test.YtdcllbhkjcdnoaaMRowCodes5
import Derived.Test.YtdcllbhkjcdnoaaMRowCodes7
import Derived.Test.YtdcllbhkjcdnoaaMRowCodes10
import Derived.Test.YtdcllbhkjcdnoaaMRowCodes13
import Derived.Test.YtdcllbhkjcdnoaaMRowCodes14
namespace Go.Proofs.Ytdcllbhkjcdnoaa.P
open Go.RowKit Go.Proofs.YtdcllbhkjcdnoaaW.PrintWords Go.Proofs.YtdcllbhkjcdnoaaW.PrintLast Go.Proofs.YtdcllbhkjcdnoaaW.PrintMore
attribute [local go_sem] max2_int min2_int max_two min_two max_three min_three max_four min_four   -- for this text's walks alone
attribute [local go_sem] run_store_float
set_option linter.unusedVariables false
set_option linter.unusedSimpArgs false
mutual
def humusref04_Bytes.j0 : Nat → Int → Nat → Bool → List Nat → Int → Int → Int → Option (List Int)
  | 0,_,_,_,_,_,_,_ => none
  | k + 1,x3,x425000,x425001,x425002,x425003,x425004,x425005 => humusref04_Bytes.l0 k (([(⟨1,x3,0,(⟨#[]⟩ : ByteArray)⟩ : S86),(⟨4,0,x425000,(⟨#[]⟩ : ByteArray)⟩ : S86),(⟨3,x425003,0,(⟨#[]⟩ : ByteArray)⟩ : S86),(⟨2,x425004,0,(⟨#[]⟩ : ByteArray)⟩ : S86),(⟨3,x425005,0,(⟨#[]⟩ : ByteArray)⟩ : S86),(⟨1,(x425002.length : Int),0,(⟨#[]⟩ : ByteArray)⟩ : S86)] : List (S86))) 0 x425000 x425001 x425002 x425003 x425004 x425005
def humusref04_Bytes.l0 : Nat → List (S86) → Int → Nat → Bool → List Nat → Int → Int → Int → Option (List Int)
  | 0,_,_,_,_,_,_,_,_ => none
  | k + 1,x4,x5,x425000,x425001,x425002,x425003,x425004,x425005 => if x5 < (x425002.length : Int) then (if 0 ≤ x5 then (if x4.length < 3518437208883 then (humusref04_Bytes.l0 k (x4 ++ [(⟨4,0,rdF x425002 x5,(⟨#[]⟩ : ByteArray)⟩ : S86)]) (wrap64 (x5 + 1)) x425000 x425001 x425002 x425003 x425004 x425005) else (none)) else (none)) else ((humusref03_Put.f x4).bind fun bt432 => (some bt432.1))
end
def humusref04_Bytes.f (k : Nat) (a0_0 : Nat) (a0_1 : Bool) (l0_2 : List Nat) (a0_3 : Int) (a0_4 : Int) (a0_5 : Int) : Option (List Int):=if a0_1 = true then (humusref04_Bytes.j0 k 1 a0_0 a0_1 l0_2 a0_3 a0_4 a0_5) else (humusref04_Bytes.j0 k 0 a0_0 a0_1 l0_2 a0_3 a0_4 a0_5)
set_option maxHeartbeats 8000000 in
set_option maxRecDepth 100000 in
theorem humusref04_Bytes.calls (k : Nat) (a0_0 : Nat) (a0_1 : Bool) (A0_2 : Option Addr) (c0_2 : Nat) (l0_2 : List Nat) (a0_3 : Int) (a0_4 : Int) (a0_5 : Int) (r : List Int) (w : World) (hr0_2 : Kd.C Kd.f64 w A0_2 l0_2.length l0_2) (hc0_2 : l0_2.length ≤ c0_2) (h : humusref04_Bytes.f k a0_0 a0_1 l0_2 a0_3 a0_4 a0_5 = some r) :
    Calls Try.prog 36 #[.agg #[.float .f64 a0_0,.bool a0_1,.slice A0_2 l0_2.length c0_2,.int .i64 a0_3,.int .i64 a0_4,.int .i64 a0_5]] w fun e w' => ∃ v0_ : Value,e = .returned (v0_) ∧ Kd.R (Kd.int .u8) 5 w' w.heap.size (fun _ => True) v0_ r ∧ Below w.heap.size w w':=by
  have hu30:=Try.underlying30
  have hu86:=Try.underlying86
  have HR0_2:=Aside0.mk hr0_2
  have HC0_2:=Aside0.mk hc0_2
  clear hr0_2 hc0_2
  have HB:=Aside0.mk (Below.refl w.heap.size w)
  have H : (if a0_1 = true then (humusref04_Bytes.j0 k 1 a0_0 a0_1 l0_2 a0_3 a0_4 a0_5) else (humusref04_Bytes.j0 k 0 a0_0 a0_1 l0_2 a0_3 a0_4 a0_5)) = some r:=h
  clear h
  have HC2:=Aside0.mk H
  clear H
  go_enter Try.func36,Try.ntmps36
  go_upto_if 9 with (first | ((with_reducible refine gate_dst (N:=1) rfl ?_);refine box_event ?hg (N:=1) ?hd (cs:=#[.float .f64 a0_0,.bool a0_1,.slice A0_2 l0_2.length c0_2,.int .i64 a0_3,.int .i64 a0_4,.int .i64 a0_5]) (t:=30) ?hr ?_;(case hd => rfl);(case hg => rfl);(case hr => first | (go_simp;done) | (go_simp;rfl));intro gb424 hg w3 hbox hb;have n0_:=Aside0.mk (below_step (by repeat (first | (with_reducible first | exact HB.out | apply below_alloc | apply pw_below_drewN | apply below_drew1) | exact HB.out)) hb);have n1_:=Aside0.mk (hbox);have n2_:=Aside0.mk ((by rw [hg];exact (below_size (by repeat (first | (with_reducible first | exact HB.out | apply below_alloc | apply pw_below_drewN | apply below_drew1) | exact HB.out))) : w.heap.size ≤ gb424));have n3_:=Aside0.mk ((by rw [hg];exact (below_size (by repeat (first | (with_reducible first | exact HB.out | apply below_alloc | apply pw_below_drewN | apply below_drew1) | exact HB.out))) : w.heap.size ≤ gb424));clear HB;have HB:=n0_;have BK424:=n1_;have GW424:=n2_;have GE424:=n3_;clear n0_ n1_ n2_ n3_;clear hb hbox hg;have hcz4_0 : w3.cell? ⟨gb424,0,none⟩ = some (.float .f64 a0_0):=(blk_cell BK424.out 0).trans rfl;have hcz4_1 : w3.cell? ⟨gb424,1,none⟩ = some (.bool a0_1):=(blk_cell BK424.out 1).trans rfl;have hcz4_2 : w3.cell? ⟨gb424,2,none⟩ = some (.slice A0_2 l0_2.length c0_2):=(blk_cell BK424.out 2).trans rfl;have hcz4_3 : w3.cell? ⟨gb424,3,none⟩ = some (.int .i64 a0_3):=(blk_cell BK424.out 3).trans rfl;have hcz4_4 : w3.cell? ⟨gb424,4,none⟩ = some (.int .i64 a0_4):=(blk_cell BK424.out 4).trans rfl;have hcz4_5 : w3.cell? ⟨gb424,5,none⟩ = some (.int .i64 a0_5):=(blk_cell BK424.out 5).trans rfl;have hfz4_0:=blk_frozen BK424.out 0;have hfz4_1:=blk_frozen BK424.out 1;have hfz4_2:=blk_frozen BK424.out 2;have hfz4_3:=blk_frozen BK424.out 3;have hfz4_4:=blk_frozen BK424.out 4;have hfz4_5:=blk_frozen BK424.out 5))
  (try simp only [Act.put,List.setIfInBounds_toArray,List.set_cons_zero,List.set_cons_succ])
  go_cut [3] (fun v3 wc => ∃ (kq : Nat) (x3_1 : Int),v3 = .int .i64 x3_1 ∧ Aside0 (humusref04_Bytes.j0 kq x3_1 a0_0 a0_1 l0_2 a0_3 a0_4 a0_5 = some r) ∧ Aside0 (kq ≤ k) ∧ Aside0 (wc.heap[gb424]? = some (.cells #[.float .f64 a0_0,.bool a0_1,(.slice A0_2 l0_2.length c0_2),.int .i64 a0_3,.int .i64 a0_4,.int .i64 a0_5] 30 (0,0))) ∧ Aside0 (Below w.heap.size w wc))
  case first =>
    have H:=HC2.out
    clear HC2
    by_cases c5 : a0_1 = true
    · subst c5
      have H1 : (humusref04_Bytes.j0 k 1 a0_0 true l0_2 a0_3 a0_4 a0_5) = some r:=by rw [if_pos rfl] at H;exact H
      clear H
      have H:=H1
      clear H1
      have H':=Aside0.mk H
      clear H
      go_wp2
      go_meet
      case rel => exact ⟨_,(1),(by first | rfl | (simp;done) | (simp [*];done)),H',⟨by first | omega | exact Nat.le_refl _⟩,⟨by (with_reducible repeat (first | refine blk_drewN ?_ _ | refine blk_drew ?_ | refine blk_alloc ?_ _));exact BK424.out⟩,⟨by repeat (first | (with_reducible first | exact HB.out | apply below_alloc | apply pw_below_drewN | apply below_drew1 | refine below_set ?_ GE424.out) | exact HB.out)⟩⟩
    · replace c5:=Bool.eq_false_iff.mpr c5
      subst c5
      have H1 : (humusref04_Bytes.j0 k 0 a0_0 false l0_2 a0_3 a0_4 a0_5) = some r:=by rw [if_neg (show ¬ (false = true) by decide)] at H;exact H
      clear H
      have H:=H1
      clear H1
      have H':=Aside0.mk H
      clear H
      go_wp2
      go_meet
      case rel => exact ⟨_,(0),(by first | rfl | (simp;done) | (simp [*];done)),H',⟨by first | omega | exact Nat.le_refl _⟩,⟨by (with_reducible repeat (first | refine blk_drewN ?_ _ | refine blk_drew ?_ | refine blk_alloc ?_ _));exact BK424.out⟩,⟨by repeat (first | (with_reducible first | exact HB.out | apply below_alloc | apply pw_below_drewN | apply below_drew1 | refine below_set ?_ GE424.out) | exact HB.out)⟩⟩
  case rest =>
    clear HC2
    try clear p2
    try clear c3
    try clear c5
    try clear hcz4_0
    try clear hcz4_1
    try clear hcz4_2
    try clear hcz4_3
    try clear hcz4_4
    try clear hcz4_5
    try clear hfz4_0
    try clear hfz4_1
    try clear hfz4_2
    try clear hfz4_3
    try clear hfz4_4
    try clear hfz4_5
    obtain ⟨kq,x3_1,rfl,HA,HJ1,BK424,HB⟩:=hcut
    cases kq with
    | zero => exact absurd HA.out (by simp [humusref04_Bytes.j0])
    | succ kj1 =>
      have H:=HA.out
      clear HA
      simp only [humusref04_Bytes.j0] at H
      obtain ⟨y425,hy425⟩ : ∃ y_ : List (S86),y_ = (([(⟨1,x3_1,0,(⟨#[]⟩ : ByteArray)⟩ : S86),(⟨4,0,a0_0,(⟨#[]⟩ : ByteArray)⟩ : S86),(⟨3,a0_3,0,(⟨#[]⟩ : ByteArray)⟩ : S86),(⟨2,a0_4,0,(⟨#[]⟩ : ByteArray)⟩ : S86),(⟨3,a0_5,0,(⟨#[]⟩ : ByteArray)⟩ : S86),(⟨1,(l0_2.length : Int),0,(⟨#[]⟩ : ByteArray)⟩ : S86)] : List (S86))):=⟨_,rfl⟩
      replace H : (humusref04_Bytes.l0 kj1 y425 0 a0_0 a0_1 l0_2 a0_3 a0_4 a0_5) = some r:=by first | (rw [hy425];with_reducible exact H) | (have H2_:=(Option.bind_some _ _).symm.trans H;rw [hy425];with_reducible exact H2_) | (have H2_:=(Option.bind_some _ _).symm.trans H;with_reducible exact H2_) | with_reducible exact H | (rw [hy425];exact H) | exact H
      have Ny425:=Aside0.mk hy425
      clear hy425
      have H':=Aside0.mk H
      clear H
      have hcz6_0 : wc.cell? ⟨gb424,0,none⟩ = some (.float .f64 a0_0):=(blk_cell BK424.out 0).trans rfl
      have hcz6_1 : wc.cell? ⟨gb424,1,none⟩ = some (.bool a0_1):=(blk_cell BK424.out 1).trans rfl
      have hcz6_2 : wc.cell? ⟨gb424,2,none⟩ = some (.slice A0_2 l0_2.length c0_2):=(blk_cell BK424.out 2).trans rfl
      have hcz6_3 : wc.cell? ⟨gb424,3,none⟩ = some (.int .i64 a0_3):=(blk_cell BK424.out 3).trans rfl
      have hcz6_4 : wc.cell? ⟨gb424,4,none⟩ = some (.int .i64 a0_4):=(blk_cell BK424.out 4).trans rfl
      have hcz6_5 : wc.cell? ⟨gb424,5,none⟩ = some (.int .i64 a0_5):=(blk_cell BK424.out 5).trans rfl
      have hfz6_0:=blk_frozen BK424.out 0
      have hfz6_1:=blk_frozen BK424.out 1
      have hfz6_2:=blk_frozen BK424.out 2
      have hfz6_3:=blk_frozen BK424.out 3
      have hfz6_4:=blk_frozen BK424.out 4
      have hfz6_5:=blk_frozen BK424.out 5
      go_wp2_with (first | ((with_reducible refine gate_dst (N:=30) rfl ?_);refine Kd.R_lit k86 _ 86 ?hg (N:=30) ?hd (xs:=([(⟨1,x3_1,0,(⟨#[]⟩ : ByteArray)⟩ : S86),(⟨4,0,a0_0,(⟨#[]⟩ : ByteArray)⟩ : S86),(⟨3,a0_3,0,(⟨#[]⟩ : ByteArray)⟩ : S86),(⟨2,a0_4,0,(⟨#[]⟩ : ByteArray)⟩ : S86),(⟨3,a0_5,0,(⟨#[]⟩ : ByteArray)⟩ : S86),(⟨1,(l0_2.length : Int),0,(⟨#[]⟩ : ByteArray)⟩ : S86)] : List (S86))) (inner:=[.int .i64 1,.int .i64 x3_1,.float .f64 0,.string (⟨#[]⟩ : ByteArray),.int .i64 4,.int .i64 0,.float .f64 a0_0,.string (⟨#[]⟩ : ByteArray),.int .i64 3,.int .i64 a0_3,.float .f64 0,.string (⟨#[]⟩ : ByteArray),.int .i64 2,.int .i64 a0_4,.float .f64 0,.string (⟨#[]⟩ : ByteArray),.int .i64 3,.int .i64 a0_5,.float .f64 0,.string (⟨#[]⟩ : ByteArray),.int .i64 1,.int .i64 (l0_2.length : Int),.float .f64 0,.string (⟨#[]⟩ : ByteArray)]) (ok:=fun _ => True) (okp:=fun _ => True) ?hr ?hp (fun _ hk => hk) trivial (Below.refl _ _) (Nat.le_refl _) (by simp) ?_;(case hd => rfl);(case hg => rfl);(case hr => first | (go_simp;done) | (go_simp;rfl));(case hp => exact (Reps.c4 (show Kd.M k86 _ _ _ (⟨1,x3_1,0,(⟨#[]⟩ : ByteArray)⟩ : S86) [.int .i64 1,.int .i64 x3_1,.float .f64 0,.string (⟨#[]⟩ : ByteArray)] from (k86_mkM _ _ _ (⟨1,x3_1,0,(⟨#[]⟩ : ByteArray)⟩ : S86) )) (Reps.c4 (show Kd.M k86 _ _ _ (⟨4,0,a0_0,(⟨#[]⟩ : ByteArray)⟩ : S86) [.int .i64 4,.int .i64 0,.float .f64 a0_0,.string (⟨#[]⟩ : ByteArray)] from (k86_mkM _ _ _ (⟨4,0,a0_0,(⟨#[]⟩ : ByteArray)⟩ : S86) )) (Reps.c4 (show Kd.M k86 _ _ _ (⟨3,a0_3,0,(⟨#[]⟩ : ByteArray)⟩ : S86) [.int .i64 3,.int .i64 a0_3,.float .f64 0,.string (⟨#[]⟩ : ByteArray)] from (k86_mkM _ _ _ (⟨3,a0_3,0,(⟨#[]⟩ : ByteArray)⟩ : S86) )) (Reps.c4 (show Kd.M k86 _ _ _ (⟨2,a0_4,0,(⟨#[]⟩ : ByteArray)⟩ : S86) [.int .i64 2,.int .i64 a0_4,.float .f64 0,.string (⟨#[]⟩ : ByteArray)] from (k86_mkM _ _ _ (⟨2,a0_4,0,(⟨#[]⟩ : ByteArray)⟩ : S86) )) (Reps.c4 (show Kd.M k86 _ _ _ (⟨3,a0_5,0,(⟨#[]⟩ : ByteArray)⟩ : S86) [.int .i64 3,.int .i64 a0_5,.float .f64 0,.string (⟨#[]⟩ : ByteArray)] from (k86_mkM _ _ _ (⟨3,a0_5,0,(⟨#[]⟩ : ByteArray)⟩ : S86) )) (Reps.c4 (show Kd.M k86 _ _ _ (⟨1,(l0_2.length : Int),0,(⟨#[]⟩ : ByteArray)⟩ : S86) [.int .i64 1,.int .i64 (l0_2.length : Int),.float .f64 0,.string (⟨#[]⟩ : ByteArray)] from (k86_mkM _ _ _ (⟨1,(l0_2.length : Int),0,(⟨#[]⟩ : ByteArray)⟩ : S86) )) (Reps.none _ _))))))));intro v426 w7 ho8 hb hg_ hnew_;clear hg_ hnew_;(first | rw [← Ny425.out] at ho8 | (simp only [Int.reduceToNat] at ho8;rw [← Ny425.out] at ho8));have n0_:=Aside0.mk (Kd.R_lower ho8 (below_size (by repeat (first | (with_reducible first | exact HB.out | apply below_alloc | apply pw_below_drewN | apply below_drew1 | refine below_set ?_ GE424.out) | exact HB.out))));have n1_:=Aside0.mk (blk_below (g:=gb424) (o:=.cells #[.float .f64 a0_0,.bool a0_1,.slice A0_2 l0_2.length c0_2,.int .i64 a0_3,.int .i64 a0_4,.int .i64 a0_5] 30 (0,0)) (by (with_reducible repeat (first | refine blk_drewN ?_ _ | refine blk_drew ?_ | refine blk_alloc ?_ _));exact BK424.out) hb);have n2_:=Aside0.mk (below_step (by repeat (first | (with_reducible first | exact HB.out | apply below_alloc | apply pw_below_drewN | apply below_drew1 | refine below_set ?_ GE424.out) | exact HB.out)) hb);clear BK424;clear HB;have HO427:=n0_;have BK424:=n1_;have HB:=n2_;clear n0_ n1_ n2_;clear hb ho8))
      go_loopg [4,5] kj1 (fun kq v4 v5 w' => ∃ (x4_2 : List (S86)) (x5_2 : Int),v5 = .int .i64 x5_2 ∧ Aside0 (humusref04_Bytes.l0 kq x4_2 x5_2 a0_0 a0_1 l0_2 a0_3 a0_4 a0_5 = some r) ∧ Aside0 (kq ≤ kj1) ∧ Aside0 (Kd.R k86 86 w' w.heap.size (fun _ => True) v4 x4_2) ∧ Aside0 (w'.heap[gb424]? = some (.cells #[.float .f64 a0_0,.bool a0_1,(.slice A0_2 l0_2.length c0_2),.int .i64 a0_3,.int .i64 a0_4,.int .i64 a0_5] 30 (0,0))) ∧ Aside0 (Below w.heap.size w w'))
      case atStart => exact ⟨(y425),(0),(by first | rfl | (simp;done) | (simp [*];done)),H',⟨Nat.le_refl _⟩,⟨by (with_reducible repeat (first | apply Kd.R_alloc | apply Kd.R_drewN | apply Kd.R_drew));exact HO427.out⟩,⟨by (with_reducible repeat (first | refine blk_drewN ?_ _ | refine blk_drew ?_ | refine blk_alloc ?_ _));exact BK424.out⟩,⟨by repeat (first | (with_reducible first | exact HB.out | apply below_alloc | apply pw_below_drewN | apply below_drew1 | refine below_set ?_ GE424.out) | exact HB.out)⟩⟩
      case round =>
        clear H'
        try clear p2
        try clear c3
        try clear c4
        try clear c5
        try clear hcz4_0
        try clear hcz4_1
        try clear hcz4_2
        try clear hcz4_3
        try clear hcz4_4
        try clear hcz4_5
        try clear hcz6_0
        try clear hcz6_1
        try clear hcz6_2
        try clear hcz6_3
        try clear hcz6_4
        try clear hcz6_5
        try clear hfz4_0
        try clear hfz4_1
        try clear hfz4_2
        try clear hfz4_3
        try clear hfz4_4
        try clear hfz4_5
        try clear hfz6_0
        try clear hfz6_1
        try clear hfz6_2
        try clear hfz6_3
        try clear hfz6_4
        try clear hfz6_5
        try clear p2
        obtain ⟨x4_2,x5_2,rfl,HA,HK2,HO_4,BK424,HB⟩:=hrel
        cases gk with
        | zero => exact absurd HA.out (by simp [humusref04_Bytes.l0])
        | succ k2 =>
          have H:=HA.out
          clear HA
          simp only [humusref04_Bytes.l0] at H
          by_cases c9 : x5_2 < (l0_2.length : Int)
          · rw [if_pos c9] at H
            have c9b0 : decide (x5_2 < (l0_2.length : Int)) = true:=decide_eq_true c9
            clear c9
            by_cases c10 : 0 ≤ x5_2
            · rw [if_pos c10] at H
              have c10b0 : decide (0 ≤ x5_2) = true:=decide_eq_true c10
              clear c10
              by_cases c11 : x4_2.length < 3518437208883
              · rw [if_pos c11] at H
                have LMc11:=Aside0.mk c11
                clear c11
                obtain ⟨y429,hy429⟩ : ∃ y_ : List (S86),y_ = (x4_2 ++ [(⟨4,0,rdF l0_2 x5_2,(⟨#[]⟩ : ByteArray)⟩ : S86)]):=⟨_,rfl⟩
                replace H : (humusref04_Bytes.l0 k2 y429 (wrap64 (x5_2 + 1)) a0_0 a0_1 l0_2 a0_3 a0_4 a0_5) = some r:=by first | (rw [hy429];with_reducible exact H) | (have H2_:=(Option.bind_some _ _).symm.trans H;rw [hy429];with_reducible exact H2_) | (have H2_:=(Option.bind_some _ _).symm.trans H;with_reducible exact H2_) | with_reducible exact H | (rw [hy429];exact H) | exact H
                have Ny429:=Aside0.mk hy429
                clear hy429
                have H':=Aside0.mk H
                clear H
                have hcz12_0 : wr.cell? ⟨gb424,0,none⟩ = some (.float .f64 a0_0):=(blk_cell BK424.out 0).trans rfl
                have hcz12_1 : wr.cell? ⟨gb424,1,none⟩ = some (.bool a0_1):=(blk_cell BK424.out 1).trans rfl
                have hcz12_2 : wr.cell? ⟨gb424,2,none⟩ = some (.slice A0_2 l0_2.length c0_2):=(blk_cell BK424.out 2).trans rfl
                have hcz12_3 : wr.cell? ⟨gb424,3,none⟩ = some (.int .i64 a0_3):=(blk_cell BK424.out 3).trans rfl
                have hcz12_4 : wr.cell? ⟨gb424,4,none⟩ = some (.int .i64 a0_4):=(blk_cell BK424.out 4).trans rfl
                have hcz12_5 : wr.cell? ⟨gb424,5,none⟩ = some (.int .i64 a0_5):=(blk_cell BK424.out 5).trans rfl
                have hfz12_0:=blk_frozen BK424.out 0
                have hfz12_1:=blk_frozen BK424.out 1
                have hfz12_2:=blk_frozen BK424.out 2
                have hfz12_3:=blk_frozen BK424.out 3
                have hfz12_4:=blk_frozen BK424.out 4
                have hfz12_5:=blk_frozen BK424.out 5
                have p428 : 0 ≤ (x5_2 : Int):=of_decide_eq_true (by first | (with_reducible assumption) | assumption)
                have q428 : x5_2 < (l0_2.length : Int):=of_decide_eq_true (by first | (with_reducible assumption) | assumption)
                obtain ⟨ad428,e428,hx428_0⟩:=Kd.at_f64 HR0_2.out x5_2 p428 q428
                cases e428
                replace hx428_0:=(HB.out.cell (World.block_lt_of_cell? w _ hx428_0)).trans hx428_0
                replace p428:=eq_true p428
                replace q428:=eq_true q428
                go_wp2_with (first | ((with_reducible refine gate_builtin (b:=.append) (xs:=#[.tmp 38,.tmp 45]) rfl ?_);at_builtin;refine Kd.R_append k86 (w0:=w) w.heap.size rfl (.tmp 38) (.tmp 45) 87 86 (.agg #[(.int .i64 0),(.int .i64 0),(.float .f64 0),(.string ⟨#[]⟩)]) 40 rfl Try.underlying87 info86 rfl (by decide) (by omega) u4 x4_2 (⟨4,0,rdF l0_2 x5_2,(⟨#[]⟩ : ByteArray)⟩ : S86) [.int .i64 4,.int .i64 0,.float .f64 (rdF l0_2 x5_2),.string (⟨#[]⟩ : ByteArray)] (fun _ => True) (fun _ => False) rfl rfl ?aP (fun _ hk => hk.elim) ?aF ?aO ?aB ?aS ?aL ?_;(case aP => exact k86_mkM _ _ _ (⟨4,0,rdF l0_2 x5_2,(⟨#[]⟩ : ByteArray)⟩ : S86));(case aB => exact (by repeat (first | (with_reducible first | exact HB.out | apply below_alloc | apply pw_below_drewN | apply below_drew1 | refine below_set ?_ GE424.out) | exact HB.out)));(case aF => exact (fun _ _ => trivial));(case aO => exact (by (with_reducible repeat (first | apply Kd.R_alloc | apply Kd.R_drewN | apply Kd.R_drew));exact HO_4.out));(case aS => exact (below_size (by repeat (first | (with_reducible first | exact HB.out | apply below_alloc | apply pw_below_drewN | apply below_drew1 | refine below_set ?_ GE424.out) | exact HB.out))));(case aL => have:=LMc11.out;omega);intro v430 w13 ho hb hg hat;rw [← Ny429.out] at ho;have n0_:=Aside0.mk (blk_grown (g:=gb424) (o:=.cells #[.float .f64 a0_0,.bool a0_1,.slice (some ad428) l0_2.length c0_2,.int .i64 a0_3,.int .i64 a0_4,.int .i64 a0_5] 30 (0,0)) (by (with_reducible repeat (first | refine blk_drewN ?_ _ | refine blk_drew ?_ | refine blk_alloc ?_ _));exact BK424.out) hg (Kd.R_ne HO_4.out BK424.out (by decide)));have n1_:=Aside0.mk (hb);have n2_:=Aside0.mk (ho);clear BK424;clear HB;clear HO_4;have BK424:=n0_;have HB:=n1_;have HO431:=n2_;clear n0_ n1_ n2_;clear ho hb hg hat))
                go_roundg k2
                case measure => have:=HJ1.out;have:=HK2.out;omega
                case rel => exact ⟨(y429),(wrap64 (x5_2 + 1)),(by first | rfl | (simp;done) | (simp [*];done)),H',⟨by have:=HJ1.out;have:=HK2.out;omega⟩,⟨by (with_reducible repeat (first | apply Kd.R_alloc | apply Kd.R_drewN | apply Kd.R_drew));exact HO431.out⟩,⟨by (with_reducible repeat (first | refine blk_drewN ?_ _ | refine blk_drew ?_ | refine blk_alloc ?_ _));exact BK424.out⟩,⟨by repeat (first | (with_reducible first | exact HB.out | apply below_alloc | apply pw_below_drewN | apply below_drew1 | refine below_set ?_ GE424.out) | exact HB.out)⟩⟩
              · rw [if_neg c11] at H
                exact absurd H (by simp)
            · rw [if_neg c10] at H
              exact absurd H (by simp)
          · rw [if_neg c9] at H
            have c9b0 : decide (x5_2 < (l0_2.length : Int)) = false:=decide_eq_false c9
            clear c9
            replace H:=Option.bind_eq_some_iff.mp H
            obtain ⟨⟨t432,t433⟩,A140,H⟩:=H
            replace H : (some t432) = some r:=H
            have A14:=Aside0.mk A140
            clear A140
            obtain rfl:=Option.some.inj H
            have hcz15_0 : wr.cell? ⟨gb424,0,none⟩ = some (.float .f64 a0_0):=(blk_cell BK424.out 0).trans rfl
            have hcz15_1 : wr.cell? ⟨gb424,1,none⟩ = some (.bool a0_1):=(blk_cell BK424.out 1).trans rfl
            have hcz15_2 : wr.cell? ⟨gb424,2,none⟩ = some (.slice A0_2 l0_2.length c0_2):=(blk_cell BK424.out 2).trans rfl
            have hcz15_3 : wr.cell? ⟨gb424,3,none⟩ = some (.int .i64 a0_3):=(blk_cell BK424.out 3).trans rfl
            have hcz15_4 : wr.cell? ⟨gb424,4,none⟩ = some (.int .i64 a0_4):=(blk_cell BK424.out 4).trans rfl
            have hcz15_5 : wr.cell? ⟨gb424,5,none⟩ = some (.int .i64 a0_5):=(blk_cell BK424.out 5).trans rfl
            have hfz15_0:=blk_frozen BK424.out 0
            have hfz15_1:=blk_frozen BK424.out 1
            have hfz15_2:=blk_frozen BK424.out 2
            have hfz15_3:=blk_frozen BK424.out 3
            have hfz15_4:=blk_frozen BK424.out 4
            have hfz15_5:=blk_frozen BK424.out 5
            obtain ⟨Ao16,co16,eo16⟩:=Kd.R_slice HO_4.out
            subst eo16
            go_wp2_with (first | ((with_reducible refine gate_callee (f:=75) rfl ?_);refine goesL_ (some 49) rfl rfl Try.func75 (by kernel_rfl) rfl #[.slice Ao16 x4_2.length co16] rfl (by (try simp only [List.map_toArray,List.map_cons,List.map_nil]);first | done | rfl | (simp only [List.length_drop,List.length_take];rfl)) ?_;(with_reducible refine (humusref03_Put.calls _ _ x4_2 t432 t433 _ ?side1 ?side2 A14.out).mono ?_);(case side1 => repeat (first | exact (Kd.R_reads' HO_4.out).2.2 | (with_reducible refine Kd.C_alloc ?_ _) | (with_reducible refine Kd.C_drewN ?_ _) | (with_reducible refine Kd.C_drew ?_)));(case side2 => exact (Kd.R_reads' HO_4.out).2.1);rintro e w17 ⟨v434,rfl,ho0,hb⟩;refine ⟨_,rfl,?_⟩;have n0_:=Aside0.mk (Kd.R_below (by (with_reducible repeat (first | apply Kd.R_alloc | apply Kd.R_drewN | apply Kd.R_drew));exact HO_4.out) hb);have n1_:=Aside0.mk (Kd.R_lower ho0 (below_size (by repeat (first | (with_reducible first | exact HB.out | apply below_alloc | apply pw_below_drewN | apply below_drew1 | refine below_set ?_ GE424.out) | exact HB.out))));have n2_:=Aside0.mk (blk_below (g:=gb424) (o:=.cells #[.float .f64 a0_0,.bool a0_1,.slice A0_2 l0_2.length c0_2,.int .i64 a0_3,.int .i64 a0_4,.int .i64 a0_5] 30 (0,0)) (by (with_reducible repeat (first | refine blk_drewN ?_ _ | refine blk_drew ?_ | refine blk_alloc ?_ _));exact BK424.out) hb);have n3_:=Aside0.mk (below_step (by repeat (first | (with_reducible first | exact HB.out | apply below_alloc | apply pw_below_drewN | apply below_drew1 | refine below_set ?_ GE424.out) | exact HB.out)) hb);clear HO_4;clear BK424;clear HB;have HO_4:=n0_;have HO435:=n1_;have BK424:=n2_;have HB:=n3_;clear n0_ n1_ n2_ n3_;(try clear hb);(try clear hb2);(try clear hk);(try clear hi);(try clear ho0)))
            go_ret
            exact ⟨_,by first | rfl | (simp [errW_none,errW_some] <;> rfl) | (simp [*,errW_none,errW_some] <;> rfl),by (with_reducible repeat (first | apply Kd.R_alloc | apply Kd.R_drewN | apply Kd.R_drew));exact HO435.out,by repeat (first | (with_reducible first | exact HB.out | apply below_alloc | apply pw_below_drewN | apply below_drew1 | refine below_set ?_ GE424.out) | exact HB.out)⟩
end Go.Proofs.Ytdcllbhkjcdnoaa.P
namespace Go.Proofs.Ytdcllbhkjcdnoaa.P
open Go.RowKit Go.Proofs.YtdcllbhkjcdnoaaW.PrintWords Go.Proofs.YtdcllbhkjcdnoaaW.PrintLast Go.Proofs.YtdcllbhkjcdnoaaW.PrintMore
attribute [local go_sem] max2_int min2_int max_two min_two max_three min_three max_four min_four   -- for this text's walks alone
attribute [local go_sem] run_store_float
set_option linter.unusedVariables false
set_option linter.unusedSimpArgs false
def row_Of.l0 : Nat → List Nat → Int → Int → Nat → Bool → List Nat → Int → Int → Int → Option (Nat × Bool × List Nat × Int × Int × Int × Int)
  | 0,_,_,_,_,_,_,_,_,_ => none
  | k + 1,x16,x17,x18,x391000,x391001,x391002,x391003,x391004,x391005 => if x18 < x17 then (if 0 ≤ x18 then (if x18 < (x16.length : Int) then ((num_Value.f (rdF x16 x18)).bind fun t392 => (if x391002.length < 17592186044416 then (row_Of.l0 k x16 x17 (wrap64 (x18 + 1)) x391000 x391001 (x391002 ++ [t392]) x391003 x391004 x391005) else (none))) else (none)) else (none)) else (some (x391000,x391001,x391002,x391003,x391004,x391005,0))
def row_Of.f (k : Nat) (a0 : Nat) (l1 : List Nat) : Option (Nat × Bool × List Nat × Int × Int × Int × Int):=if (l1.length : Int) > 4 then (some (0,false,([] : List Nat),0,0,0,1)) else ((num_Key.f a0).bind fun t389 => (row_Of.l0 k l1 (l1.length : Int) 0 t389 false ([] : List Nat) 0 0 0))
def row_Of.T7 : Bool × List (List Nat × List Nat):=(true,[([],[]),([0],[0]),([],[]),([2],[2]),([3],[3]),([1,4,3],[1,4]),([0,1,2,3,4,5],[]),([6,5,5,0,1,2,3,4,5],[5,6])])
def row_Of.B7 : List Nat:=[0,1,0,4,12,31,63,127]
theorem row_Of.tab7 : rtab .any (opsOf Try.f39 7) = row_Of.T7:=by kernel_rfl
theorem row_Of.bits7 : waitsOk row_Of.T7.2 row_Of.B7 = true:=by kernel_rfl
set_option maxHeartbeats 8000000 in
set_option maxRecDepth 100000 in
theorem row_Of.calls (k : Nat) (a0 : Nat) (A1 : Option Addr) (c1 : Nat) (l1 : List Nat) (r1 : Nat) (r2 : Bool) (r3 : List Nat) (r4 : Int) (r5 : Int) (r6 : Int) (r7 : Int) (w : World) (hr1 : Kd.C Kd.f64 w A1 l1.length l1) (hc1 : l1.length ≤ c1) (h : row_Of.f k a0 l1 = some (r1,r2,r3,r4,r5,r6,r7)) :
    Calls Try.prog 39 #[.float .f64 a0,.slice A1 l1.length c1] w fun e w' => ∃ v2_ : Value,e = .returned (.tuple #[.agg #[.float .f64 r1,.bool r2,v2_,.int .i64 r4,.int .i64 r5,.int .i64 r6],.int .i64 r7]) ∧ Kd.R Kd.f64 25 w' w.heap.size (fun _ => True) v2_ r3 ∧ Below w.heap.size w w':=by
  have hu30:=Try.underlying30
  have HR1:=Aside0.mk hr1
  have HC1:=Aside0.mk hc1
  clear hr1 hc1
  have HB:=Aside0.mk (Below.refl w.heap.size w)
  have H : (if (l1.length : Int) > 4 then (some (0,false,([] : List Nat),0,0,0,1)) else ((num_Key.f a0).bind fun t389 => (row_Of.l0 k l1 (l1.length : Int) 0 t389 false ([] : List Nat) 0 0 0))) = some (r1,r2,r3,r4,r5,r6,r7):=h
  clear h
  by_cases c3 : (l1.length : Int) > 4
  · rw [if_pos c3] at H
    have c3b0 : decide (4 < (l1.length : Int)) = true:=decide_eq_true c3
    have c3b1 : decide (4 < l1.length) = true:=decide_eq_true (by omega)
    clear c3
    simp only [Option.some.injEq,Prod.mk.injEq] at H
    obtain ⟨rfl,rfl,rfl,rfl,rfl,rfl,rfl⟩:=H
    go_enter Try.func39,Try.ntmps39
    go_wp2_with (first | ((with_reducible refine gate_dst (N:=4) rfl ?_);refine box_event ?hg (N:=4) ?hd (cs:=#[.float .f64 0,.bool false,.slice none 0 0,.int .i64 0,.int .i64 0,.int .i64 0]) (t:=30) ?hr ?_;(case hd => rfl);(case hg => rfl);(case hr => first | (go_simp;done) | (go_simp;rfl));intro gb388 hg w4 hbox hb;have n0_:=Aside0.mk (below_step (by repeat (first | (with_reducible first | exact HB.out | apply below_alloc | apply pw_below_drewN | apply below_drew1) | exact HB.out)) hb);have n1_:=Aside0.mk (hbox);have n2_:=Aside0.mk ((by rw [hg];exact (below_size (by repeat (first | (with_reducible first | exact HB.out | apply below_alloc | apply pw_below_drewN | apply below_drew1) | exact HB.out))) : w.heap.size ≤ gb388));have n3_:=Aside0.mk ((by rw [hg];exact (below_size (by repeat (first | (with_reducible first | exact HB.out | apply below_alloc | apply pw_below_drewN | apply below_drew1) | exact HB.out))) : w.heap.size ≤ gb388));clear HB;have HB:=n0_;have BK388:=n1_;have GW388:=n2_;have GE388:=n3_;clear n0_ n1_ n2_ n3_;clear hb hbox hg;have hcz5_0 : w4.cell? ⟨gb388,0,none⟩ = some (.float .f64 0):=(blk_cell BK388.out 0).trans rfl;have hcz5_1 : w4.cell? ⟨gb388,1,none⟩ = some (.bool false):=(blk_cell BK388.out 1).trans rfl;have hcz5_2 : w4.cell? ⟨gb388,2,none⟩ = some (.slice none 0 0):=(blk_cell BK388.out 2).trans rfl;have hcz5_3 : w4.cell? ⟨gb388,3,none⟩ = some (.int .i64 0):=(blk_cell BK388.out 3).trans rfl;have hcz5_4 : w4.cell? ⟨gb388,4,none⟩ = some (.int .i64 0):=(blk_cell BK388.out 4).trans rfl;have hcz5_5 : w4.cell? ⟨gb388,5,none⟩ = some (.int .i64 0):=(blk_cell BK388.out 5).trans rfl;have hfz5_0:=blk_frozen BK388.out 0;have hfz5_1:=blk_frozen BK388.out 1;have hfz5_2:=blk_frozen BK388.out 2;have hfz5_3:=blk_frozen BK388.out 3;have hfz5_4:=blk_frozen BK388.out 4;have hfz5_5:=blk_frozen BK388.out 5))
    refine bodyPost_ret (results_ct rfl _ _ gb388 30 #[.float .f64 0,.bool false,.slice none 0 0,.int .i64 0,.int .i64 0,.int .i64 0] (0,0) _ rfl (by (with_reducible repeat (first | refine blk_drewN ?_ _ | refine blk_drew ?_ | refine blk_alloc ?_ _));refine blk_put (cs:=#[.float .f64 0,.bool false,.slice none 0 0,.int .i64 0,.int .i64 0,.int .i64 0]) ?_ 5 _ rfl;(with_reducible repeat (first | refine blk_drewN ?_ _ | refine blk_drew ?_ | refine blk_alloc ?_ _));refine blk_put (cs:=#[.float .f64 0,.bool false,.slice none 0 0,.int .i64 0,.int .i64 0,.int .i64 0]) ?_ 4 _ rfl;(with_reducible repeat (first | refine blk_drewN ?_ _ | refine blk_drew ?_ | refine blk_alloc ?_ _));refine blk_put (cs:=#[.float .f64 0,.bool false,.slice none 0 0,.int .i64 0,.int .i64 0,.int .i64 0]) ?_ 3 _ rfl;(with_reducible repeat (first | refine blk_drewN ?_ _ | refine blk_drew ?_ | refine blk_alloc ?_ _));refine blk_put (cs:=#[.float .f64 0,.bool false,.slice none 0 0,.int .i64 0,.int .i64 0,.int .i64 0]) ?_ 2 _ rfl;(with_reducible repeat (first | refine blk_drewN ?_ _ | refine blk_drew ?_ | refine blk_alloc ?_ _));refine blk_put (cs:=#[.float .f64 0,.bool false,.slice none 0 0,.int .i64 0,.int .i64 0,.int .i64 0]) ?_ 1 _ rfl;(with_reducible repeat (first | refine blk_drewN ?_ _ | refine blk_drew ?_ | refine blk_alloc ?_ _));refine blk_put (cs:=#[.float .f64 0,.bool false,.slice none 0 0,.int .i64 0,.int .i64 0,.int .i64 0]) ?_ 0 _ rfl;(with_reducible repeat (first | refine blk_drewN ?_ _ | refine blk_drew ?_ | refine blk_alloc ?_ _));exact BK388.out) Try.underlying30 rfl (by kernel_rfl)) rfl ?_
    exact ⟨_,by first | rfl | (simp [errW_none,errW_some] <;> rfl) | (simp [*,errW_none,errW_some] <;> rfl),by first | exact Kd.R_nil _ _ _ _ _ | exact Kd.N_nil _ _ _ _ _ | exact Kd.V_nil _ _ _ _ _ | exact Kd.Q_nil _ _ _ _ _ | exact Kd.S_nil _ _ _ _ _,by repeat (first | (with_reducible first | exact HB.out | apply below_alloc | apply pw_below_drewN | apply below_drew1 | refine below_set ?_ GE388.out) | exact HB.out)⟩
  · rw [if_neg c3] at H
    have c3b0 : decide (4 < (l1.length : Int)) = false:=decide_eq_false c3
    have c3b1 : decide (4 < l1.length) = false:=decide_eq_false (by omega)
    clear c3
    replace H:=Option.bind_eq_some_iff.mp H
    obtain ⟨t389,A60,H⟩:=H
    replace H : (row_Of.l0 k l1 (l1.length : Int) 0 t389 false ([] : List Nat) 0 0 0) = some (r1,r2,r3,r4,r5,r6,r7):=H
    have A6:=Aside0.mk A60
    clear A60
    have H':=Aside0.mk H
    clear H
    go_enter Try.func39,Try.ntmps39
    go_wp2_with (first | ((with_reducible refine gate_dst (N:=4) rfl ?_);refine box_event ?hg (N:=4) ?hd (cs:=#[.float .f64 0,.bool false,.slice none 0 0,.int .i64 0,.int .i64 0,.int .i64 0]) (t:=30) ?hr ?_;(case hd => rfl);(case hg => rfl);(case hr => first | (go_simp;done) | (go_simp;rfl));intro gb388 hg w7 hbox hb;have n0_:=Aside0.mk (below_step (by repeat (first | (with_reducible first | exact HB.out | apply below_alloc | apply pw_below_drewN | apply below_drew1) | exact HB.out)) hb);have n1_:=Aside0.mk (hbox);have n2_:=Aside0.mk ((by rw [hg];exact (below_size (by repeat (first | (with_reducible first | exact HB.out | apply below_alloc | apply pw_below_drewN | apply below_drew1) | exact HB.out))) : w.heap.size ≤ gb388));have n3_:=Aside0.mk ((by rw [hg];exact (below_size (by repeat (first | (with_reducible first | exact HB.out | apply below_alloc | apply pw_below_drewN | apply below_drew1) | exact HB.out))) : w.heap.size ≤ gb388));clear HB;have HB:=n0_;have BK388:=n1_;have GW388:=n2_;have GE388:=n3_;clear n0_ n1_ n2_ n3_;clear hb hbox hg) | ((with_reducible refine gate_callee (f:=69) rfl ?_);refine goesL_ (some 14) rfl rfl Try.func69 (by kernel_rfl) rfl #[.float .f64 a0] rfl (by (try simp only [List.map_toArray,List.map_cons,List.map_nil]);first | done | rfl | (simp only [List.length_drop,List.length_take];rfl)) ?_;(with_reducible refine (num_Key.calls a0 t389 _ A6.out).mono ?_);rintro e w' ⟨rfl,⟨nd,rfl⟩⟩;refine ⟨_,rfl,?_⟩;(try (rw [drewN_self w7];generalize hq_ : World.drewN w7 _ = w7;have n0_ : Aside0 (w7.heap[gb388]? = some (.cells #[.float .f64 0,.bool false,.slice none 0 0,.int .i64 0,.int .i64 0,.int .i64 0] 30 (0,0))):=⟨by rw [← hq_];exact (by (with_reducible repeat (first | refine blk_drewN ?_ _ | refine blk_drew ?_ | refine blk_alloc ?_ _));exact BK388.out)⟩;have n1_ : Aside0 (Below w.heap.size w w7):=⟨by rw [← hq_];exact (by repeat (first | (with_reducible first | exact HB.out | apply below_alloc | apply pw_below_drewN | apply below_drew1 | refine below_set ?_ GE388.out) | exact HB.out))⟩;clear BK388 HB hq_;have BK388:=n0_;have HB:=n1_;clear n0_ n1_))) | ((with_reducible refine gate_dst (N:=6) rfl ?_);refine box_event ?hg (N:=6) ?hd (cs:=#[.float .f64 0,.bool false,.slice none 0 0,.int .i64 0,.int .i64 0,.int .i64 0]) (t:=30) ?hr ?_;(case hd => rfl);(case hg => rfl);(case hr => first | (go_simp;done) | (go_simp;rfl));intro gb390 hg w8 hbox hb;have n0_:=Aside0.mk (blk_below (g:=gb388) (o:=.cells #[.float .f64 0,.bool false,.slice none 0 0,.int .i64 0,.int .i64 0,.int .i64 0] 30 (0,0)) (by (with_reducible repeat (first | refine blk_drewN ?_ _ | refine blk_drew ?_ | refine blk_alloc ?_ _));exact BK388.out) hb);have n1_:=Aside0.mk (below_step (by repeat (first | (with_reducible first | exact HB.out | apply below_alloc | apply pw_below_drewN | apply below_drew1 | refine below_set ?_ GE388.out) | exact HB.out)) hb);have n2_:=Aside0.mk (hbox);have n3_:=Aside0.mk ((by rw [hg];exact (below_size (by repeat (first | (with_reducible first | exact HB.out | apply below_alloc | apply pw_below_drewN | apply below_drew1 | refine below_set ?_ GE388.out) | exact HB.out))) : w.heap.size ≤ gb390));have n4_:=Aside0.mk ((by rw [hg];exact (below_size (by repeat (first | (with_reducible first | exact HB.out | apply below_alloc | apply pw_below_drewN | apply below_drew1 | refine below_set ?_ GE388.out) | exact HB.out))) : w.heap.size ≤ gb390));have n5_:=Aside0.mk ((by rw [hg];exact Nat.ne_of_lt (blk_lt (g:=gb388) (o:=.cells #[.float .f64 0,.bool false,.slice none 0 0,.int .i64 0,.int .i64 0,.int .i64 0] 30 (0,0)) (by (with_reducible repeat (first | refine blk_drewN ?_ _ | refine blk_drew ?_ | refine blk_alloc ?_ _));exact BK388.out)) : gb388 ≠ gb390));have n6_:=Aside0.mk ((by rw [hg];exact Nat.ne_of_gt (blk_lt (g:=gb388) (o:=.cells #[.float .f64 0,.bool false,.slice none 0 0,.int .i64 0,.int .i64 0,.int .i64 0] 30 (0,0)) (by (with_reducible repeat (first | refine blk_drewN ?_ _ | refine blk_drew ?_ | refine blk_alloc ?_ _));exact BK388.out)) : gb390 ≠ gb388));clear BK388;clear HB;have BK388:=n0_;have HB:=n1_;have BK390:=n2_;have GW390:=n3_;have GE390:=n4_;have NB388_390:=n5_;have NB390_388:=n6_;clear n0_ n1_ n2_ n3_ n4_ n5_ n6_;clear hb hbox hg;have hnb9:=NB390_388.out;have hnc9:=NB388_390.out;have hcz10_0 : w8.cell? ⟨gb390,0,none⟩ = some (.float .f64 0):=(blk_cell BK390.out 0).trans rfl;have hcz10_1 : w8.cell? ⟨gb390,1,none⟩ = some (.bool false):=(blk_cell BK390.out 1).trans rfl;have hcz10_2 : w8.cell? ⟨gb390,2,none⟩ = some (.slice none 0 0):=(blk_cell BK390.out 2).trans rfl;have hcz10_3 : w8.cell? ⟨gb390,3,none⟩ = some (.int .i64 0):=(blk_cell BK390.out 3).trans rfl;have hcz10_4 : w8.cell? ⟨gb390,4,none⟩ = some (.int .i64 0):=(blk_cell BK390.out 4).trans rfl;have hcz10_5 : w8.cell? ⟨gb390,5,none⟩ = some (.int .i64 0):=(blk_cell BK390.out 5).trans rfl;have hfz10_0:=blk_frozen BK390.out 0;have hfz10_1:=blk_frozen BK390.out 1;have hfz10_2:=blk_frozen BK390.out 2;have hfz10_3:=blk_frozen BK390.out 3;have hfz10_4:=blk_frozen BK390.out 4;have hfz10_5:=blk_frozen BK390.out 5))
    go_loopg [18] k (fun kq v18 w' => ∃ (x18_1 : Int) (x391002_1 : List Nat) (u391002 : Value),v18 = .int .i64 x18_1 ∧ Aside0 (row_Of.l0 kq l1 (l1.length : Int) x18_1 t389 false x391002_1 0 0 0 = some (r1,r2,r3,r4,r5,r6,r7)) ∧ Aside0 (kq ≤ k) ∧ Aside0 (Kd.R Kd.f64 25 w' w.heap.size (fun _ => True) u391002 x391002_1) ∧ Aside0 (w'.heap[gb388]? = some (.cells #[.float .f64 0,.bool false,(.slice none 0 0),.int .i64 0,.int .i64 0,.int .i64 0] 30 (0,0))) ∧ Aside0 (w'.heap[gb390]? = some (.cells #[.float .f64 t389,.bool false,u391002,.int .i64 0,.int .i64 0,.int .i64 0] 30 (0,0))) ∧ Aside0 (Below w.heap.size w w'))
    case atStart => exact ⟨(0),(([] : List Nat)),(.slice none 0 0),(by first | rfl | (simp;done) | (simp [*];done)),H',⟨Nat.le_refl _⟩,⟨by first | exact Kd.R_nil _ _ _ _ _ | exact Kd.N_nil _ _ _ _ _ | exact Kd.V_nil _ _ _ _ _ | exact Kd.Q_nil _ _ _ _ _ | exact Kd.S_nil _ _ _ _ _⟩,⟨by (with_reducible repeat (first | refine blk_drewN ?_ _ | refine blk_drew ?_ | refine blk_alloc ?_ _));refine blk_far ?_ NB388_390.out _;(with_reducible repeat (first | refine blk_drewN ?_ _ | refine blk_drew ?_ | refine blk_alloc ?_ _));refine blk_far ?_ NB388_390.out _;(with_reducible repeat (first | refine blk_drewN ?_ _ | refine blk_drew ?_ | refine blk_alloc ?_ _));refine blk_far ?_ NB388_390.out _;(with_reducible repeat (first | refine blk_drewN ?_ _ | refine blk_drew ?_ | refine blk_alloc ?_ _));refine blk_far ?_ NB388_390.out _;(with_reducible repeat (first | refine blk_drewN ?_ _ | refine blk_drew ?_ | refine blk_alloc ?_ _));refine blk_far ?_ NB388_390.out _;(with_reducible repeat (first | refine blk_drewN ?_ _ | refine blk_drew ?_ | refine blk_alloc ?_ _));refine blk_far ?_ NB388_390.out _;(with_reducible repeat (first | refine blk_drewN ?_ _ | refine blk_drew ?_ | refine blk_alloc ?_ _));exact BK388.out⟩,⟨by (with_reducible repeat (first | refine blk_drewN ?_ _ | refine blk_drew ?_ | refine blk_alloc ?_ _));refine blk_put (cs:=#[.float .f64 t389,.bool false,.slice none 0 0,.int .i64 0,.int .i64 0,.int .i64 0]) ?_ 5 _ rfl;(with_reducible repeat (first | refine blk_drewN ?_ _ | refine blk_drew ?_ | refine blk_alloc ?_ _));refine blk_put (cs:=#[.float .f64 t389,.bool false,.slice none 0 0,.int .i64 0,.int .i64 0,.int .i64 0]) ?_ 4 _ rfl;(with_reducible repeat (first | refine blk_drewN ?_ _ | refine blk_drew ?_ | refine blk_alloc ?_ _));refine blk_put (cs:=#[.float .f64 t389,.bool false,.slice none 0 0,.int .i64 0,.int .i64 0,.int .i64 0]) ?_ 3 _ rfl;(with_reducible repeat (first | refine blk_drewN ?_ _ | refine blk_drew ?_ | refine blk_alloc ?_ _));refine blk_put (cs:=#[.float .f64 t389,.bool false,.slice none 0 0,.int .i64 0,.int .i64 0,.int .i64 0]) ?_ 2 _ rfl;(with_reducible repeat (first | refine blk_drewN ?_ _ | refine blk_drew ?_ | refine blk_alloc ?_ _));refine blk_put (cs:=#[.float .f64 t389,.bool false,.slice none 0 0,.int .i64 0,.int .i64 0,.int .i64 0]) ?_ 1 _ rfl;(with_reducible repeat (first | refine blk_drewN ?_ _ | refine blk_drew ?_ | refine blk_alloc ?_ _));refine blk_put (cs:=#[.float .f64 0,.bool false,.slice none 0 0,.int .i64 0,.int .i64 0,.int .i64 0]) ?_ 0 _ rfl;(with_reducible repeat (first | refine blk_drewN ?_ _ | refine blk_drew ?_ | refine blk_alloc ?_ _));exact BK390.out⟩,⟨by repeat (first | (with_reducible first | exact HB.out | apply below_alloc | apply pw_below_drewN | apply below_drew1 | refine below_set ?_ GE388.out | refine below_set ?_ GE390.out) | exact HB.out)⟩⟩
    case round =>
      clear H'
      try clear c1
      try clear p2
      try clear c3
      try clear c3b0
      try clear c3b1
      try clear c6
      try clear c9
      try clear hcz10_0
      try clear hcz10_1
      try clear hcz10_2
      try clear hcz10_3
      try clear hcz10_4
      try clear hcz10_5
      try clear hcz5_0
      try clear hcz5_1
      try clear hcz5_2
      try clear hcz5_3
      try clear hcz5_4
      try clear hcz5_5
      try clear hfz10_0
      try clear hfz10_1
      try clear hfz10_2
      try clear hfz10_3
      try clear hfz10_4
      try clear hfz10_5
      try clear hfz5_0
      try clear hfz5_1
      try clear hfz5_2
      try clear hfz5_3
      try clear hfz5_4
      try clear hfz5_5
      obtain ⟨x18_1,x391002_1,u391002,rfl,HA,HK1,HO_391002,BK388,BK390,HB⟩:=hrel
      cases gk with
      | zero => exact absurd HA.out (by simp [row_Of.l0])
      | succ k1 =>
        have H:=HA.out
        clear HA
        simp only [row_Of.l0] at H
        by_cases c11 : x18_1 < (l1.length : Int)
        · rw [if_pos c11] at H
          have c11b0 : decide (x18_1 < (l1.length : Int)) = true:=decide_eq_true c11
          clear c11
          by_cases c12 : 0 ≤ x18_1
          · rw [if_pos c12] at H
            have c12b0 : decide (0 ≤ x18_1) = true:=decide_eq_true c12
            clear c12
            by_cases c13 : x18_1 < (l1.length : Int)
            · rw [if_pos c13] at H
              have c13b0 : decide (x18_1 < (l1.length : Int)) = true:=decide_eq_true c13
              clear c13
              replace H:=Option.bind_eq_some_iff.mp H
              obtain ⟨t392,A140,H⟩:=H
              replace H : (if x391002_1.length < 17592186044416 then (row_Of.l0 k1 l1 (l1.length : Int) (wrap64 (x18_1 + 1)) t389 false (x391002_1 ++ [t392]) 0 0 0) else (none)) = some (r1,r2,r3,r4,r5,r6,r7):=H
              have A14:=Aside0.mk A140
              clear A140
              by_cases c15 : x391002_1.length < 17592186044416
              · rw [if_pos c15] at H
                have LMc15:=Aside0.mk c15
                clear c15
                obtain ⟨y393,hy393⟩ : ∃ y_ : List Nat,y_ = (x391002_1 ++ [t392]):=⟨_,rfl⟩
                replace H : (row_Of.l0 k1 l1 (l1.length : Int) (wrap64 (x18_1 + 1)) t389 false y393 0 0 0) = some (r1,r2,r3,r4,r5,r6,r7):=by first | (rw [hy393];with_reducible exact H) | (have H2_:=(Option.bind_some _ _).symm.trans H;rw [hy393];with_reducible exact H2_) | (have H2_:=(Option.bind_some _ _).symm.trans H;with_reducible exact H2_) | with_reducible exact H | (rw [hy393];exact H) | exact H
                have Ny393:=Aside0.mk hy393
                clear hy393
                have H':=Aside0.mk H
                clear H
                have p391 : 0 ≤ (x18_1 : Int):=of_decide_eq_true (by first | (with_reducible assumption) | assumption)
                have q391 : x18_1 < (l1.length : Int):=of_decide_eq_true (by first | (with_reducible assumption) | assumption)
                obtain ⟨ad391,e391,hx391_0⟩:=Kd.at_f64 HR1.out x18_1 p391 q391
                cases e391
                replace hx391_0:=(HB.out.cell (World.block_lt_of_cell? w _ hx391_0)).trans hx391_0
                replace p391:=eq_true p391
                replace q391:=eq_true q391
                try go_wp2
                have n0_:=Aside0.mk (Kd.R_drew HO_391002.out)
                have n1_:=Aside0.mk (blk_drew BK388.out)
                have n2_:=Aside0.mk (blk_drew BK390.out)
                have n3_:=Aside0.mk (below_drew1 HB.out)
                clear HO_391002
                clear BK388
                clear BK390
                clear HB
                have HO_391002:=n0_
                have BK388:=n1_
                have BK390:=n2_
                have HB:=n3_
                clear n0_ n1_ n2_ n3_
                refine start_ (n:=8) (S:=fun w' => w'.cell? ⟨gb390,0,none⟩ = some (.float .f64 t389) ∧ w'.cell? ⟨gb390,1,none⟩ = some (.bool false) ∧ w'.cell? ⟨gb390,2,none⟩ = some (u391002) ∧ w'.cell? ⟨gb390,3,none⟩ = some (.int .i64 0) ∧ w'.cell? ⟨gb390,4,none⟩ = some (.int .i64 0) ∧ w'.cell? ⟨gb390,5,none⟩ = some (.int .i64 0)) (ds:=[7]) #[false,false,false,false,false,false,false,false] (by kernel_rfl) rfl rfl ⟨(blk_cell BK390.out 0).trans rfl,(blk_cell BK390.out 1).trans rfl,(blk_cell BK390.out 2).trans rfl,(blk_cell BK390.out 3).trans rfl,(blk_cell BK390.out 4).trans rfl,(blk_cell BK390.out 5).trans rfl⟩ (fun hHeld => ?_);refine with_tabW row_Of.tab7 row_Of.bits7 (fun HT_ HW_ => ?_)
                generalize wr.drew = w16 at HO_391002 BK388 BK390 HB hHeld ⊢
                refine pure_ (i:=0) (N:=some 22) (v:=?_) (a':=?_) #[true,false,false,false,false,false,false,false] rfl rfl (any_of HT_.out (by kernel_rfl)) (fun _ _ _ h => h) (Or.inl ⟨by rfl,?_⟩) ?_ ?_
                rotate_left
                · intro w'
                  go_simp
                  with_reducible rfl
                rotate_left
                · simp only [Act.put,List.setIfInBounds_toArray,List.set_cons_zero,List.set_cons_succ,i64_w,i32_w]
                  rfl
                refine pure_ (i:=2) (N:=some 24) (v:=?_) (a':=?_) #[true,false,true,false,false,false,false,false] rfl rfl (any_of HT_.out (by kernel_rfl)) (fun _ _ _ h => h) (Or.inl ⟨by rfl,?_⟩) ?_ ?_
                rotate_left
                · intro w'
                  go_simp
                  with_reducible rfl
                rotate_left
                · simp only [Act.put,List.setIfInBounds_toArray,List.set_cons_zero,List.set_cons_succ,i64_w,i32_w]
                  rfl
                refine take_ (i:=1) (N:=some 23) (v:=?_) (a':=?_) #[true,true,true,false,false,false,false,false] rfl rfl (take_ofW HT_.out HW_.out (by kernel_rfl)) (fun _ _ _ h => h) (Or.inl ⟨by rfl,?_⟩) hHeld ?_ ?_
                rotate_left
                · rintro w' ⟨s0,s1,s2,s3,s4,s5⟩
                  go_simp
                  with_reducible rfl
                rotate_left
                · simp only [Act.put,List.setIfInBounds_toArray,List.set_cons_zero,List.set_cons_succ,i64_w,i32_w]
                  rfl
                refine one_ (i:=3) (N:=some 25) #[true,true,true,true,false,false,false,false] rfl rfl (one_of HT_.out (by kernel_rfl)) (by decide) (fun K hK => ?_)
                refine goes_ Try.func68 (by kernel_rfl) rfl #[.float .f64 (rdF l1 x18_1)] (by rfl) rfl rfl (by (try simp only [List.map_toArray,List.map_cons,List.map_nil]);first | done | rfl | (simp only [List.length_drop,List.length_take];rfl)) ?_
                with_reducible refine (num_Value.calls (rdF l1 x18_1) t392 _ A14.out).mono ?_
                rintro e w' ⟨rfl,⟨nd,rfl⟩⟩
                refine ⟨_,rfl,?_⟩
                refine hK.out _ _ ⟨(blk_cell BK390.out 0).trans rfl,(blk_cell BK390.out 1).trans rfl,(blk_cell BK390.out 2).trans rfl,(blk_cell BK390.out 3).trans rfl,(blk_cell BK390.out 4).trans rfl,(blk_cell BK390.out 5).trans rfl⟩ (fun hHeld => ?_)
                clear hK K
                refine norm_ (a':=?_) ?_ ?_
                rotate_left
                · show Act.put _ (some 25) _ = _
                  simp only [Act.put,List.setIfInBounds_toArray,List.set_cons_zero,List.set_cons_succ,i64_w,i32_w]
                  rfl
                refine one_ (i:=4) (N:=some 26) #[true,true,true,true,true,false,false,false] rfl rfl (one_of HT_.out (by kernel_rfl)) (by decide) (fun K hK => ?_)
                refine value_ (w1:=?_) (v:=?_) (by rfl) rfl ?_ ?_
                rotate_left 2
                · go_simp
                  constructor
                  · rfl
                  · rfl
                refine hK.out _ _ ⟨(blk_cell (blk_alloc BK390.out _) 0).trans rfl,(blk_cell (blk_alloc BK390.out _) 1).trans rfl,(blk_cell (blk_alloc BK390.out _) 2).trans rfl,(blk_cell (blk_alloc BK390.out _) 3).trans rfl,(blk_cell (blk_alloc BK390.out _) 4).trans rfl,(blk_cell (blk_alloc BK390.out _) 5).trans rfl⟩ (fun hHeld => ?_)
                clear hK K
                refine norm_ (a':=?_) ?_ ?_
                rotate_left
                · show Act.put _ (some 26) _ = _
                  simp only [Act.put,List.setIfInBounds_toArray,List.set_cons_zero,List.set_cons_succ,i64_w,i32_w]
                  rfl
                refine one_ (i:=5) (N:=some 27) #[true,true,true,true,true,true,false,false] rfl rfl (one_of HT_.out (by kernel_rfl)) (by decide) (fun K hK => ?_)
                refine Kd.R_append_step Kd.f64 (w0:=w) w.heap.size (by rfl) (.tmp 23) (.tmp 26) 26 25 (.float .f64 0) 8 rfl Try.underlying26 info25 rfl (by decide) (by omega) u391002 x391002_1 t392 [.float .f64 t392] (fun _ => True) (fun _ => False) rfl rfl ?aP (fun _ hk => hk.elim) ?aF ?aO ?aB ?aS ?aL ?_
                (case aP => exact rfl)
                (case aB => exact (by repeat (first | (with_reducible first | exact HB.out | apply below_alloc | apply pw_below_drewN | apply below_drew1 | refine below_set ?_ GE388.out | refine below_set ?_ GE390.out) | exact HB.out)))
                (case aF => exact (fun _ _ => trivial))
                (case aO => exact (by (with_reducible repeat (first | apply Kd.R_alloc | apply Kd.R_drewN | apply Kd.R_drew));exact HO_391002.out))
                (case aS => exact (below_size (by repeat (first | (with_reducible first | exact HB.out | apply below_alloc | apply pw_below_drewN | apply below_drew1 | refine below_set ?_ GE388.out | refine below_set ?_ GE390.out) | exact HB.out))))
                (case aL => have:=LMc15.out;omega)
                intro v394 w17 ho hb hg hat
                rw [← Ny393.out] at ho
                have n0_:=Aside0.mk (blk_grown (g:=gb388) (o:=.cells #[.float .f64 0,.bool false,.slice none 0 0,.int .i64 0,.int .i64 0,.int .i64 0] 30 (0,0)) (by (with_reducible repeat (first | refine blk_drewN ?_ _ | refine blk_drew ?_ | refine blk_alloc ?_ _));exact BK388.out) hg (Kd.R_ne HO_391002.out BK388.out (by decide)))
                have n1_:=Aside0.mk (blk_grown (g:=gb390) (o:=.cells #[.float .f64 t389,.bool false,u391002,.int .i64 0,.int .i64 0,.int .i64 0] 30 (0,0)) (by (with_reducible repeat (first | refine blk_drewN ?_ _ | refine blk_drew ?_ | refine blk_alloc ?_ _));exact BK390.out) hg (Kd.R_ne HO_391002.out BK390.out (by decide)))
                have n2_:=Aside0.mk (hb)
                have n3_:=Aside0.mk (ho)
                clear BK388
                clear BK390
                clear HB
                clear HO_391002
                have BK388:=n0_
                have BK390:=n1_
                have HB:=n2_
                have HO395:=n3_
                clear n0_ n1_ n2_ n3_
                clear ho hb hg hat
                obtain ⟨Ao18,co18,eo18⟩:=Kd.R_slice HO395.out
                (first | subst eo18 | (injection eo18 with f1_ f2_ f3_;have f4_:=f1_.symm;have f5_:=f3_.symm;clear f1_ f2_ f3_;subst f4_;subst f5_))
                refine hK.out _ _ ⟨(blk_cell BK390.out 0).trans rfl,(blk_cell BK390.out 1).trans rfl,(blk_cell BK390.out 2).trans rfl,(blk_cell BK390.out 3).trans rfl,(blk_cell BK390.out 4).trans rfl,(blk_cell BK390.out 5).trans rfl⟩ (fun hHeld => ?_)
                clear hK K
                refine norm_ (a':=?_) ?_ ?_
                rotate_left
                · show Act.put _ (some 27) _ = _
                  simp only [Act.put,List.setIfInBounds_toArray,List.set_cons_zero,List.set_cons_succ,i64_w,i32_w]
                  rfl
                refine pure_ (i:=6) (N:=some 28) (v:=?_) (a':=?_) #[true,true,true,true,true,true,true,false] rfl rfl (any_of HT_.out (by kernel_rfl)) (fun _ _ _ h => h) (Or.inl ⟨by rfl,?_⟩) ?_ ?_
                rotate_left
                · intro w'
                  go_simp
                  with_reducible rfl
                rotate_left
                · simp only [Act.put,List.setIfInBounds_toArray,List.set_cons_zero,List.set_cons_succ,i64_w,i32_w]
                  rfl
                refine last_ (i:=7) (N:=none) #[true,true,true,true,true,true,true,true] rfl rfl (one_of HT_.out (by kernel_rfl)) (by decide) (fun K hK => ?_)
                have hs19 : w17.cell? ⟨gb390,2,none⟩ = some (u391002):=(blk_cell BK390.out 2).trans rfl
                have hfs19:=blk_frozen BK390.out 2
                have hns19_0:=NB388_390.out
                have hms19_0:=NB390_388.out
                refine skip_ (w1:=?_) (by rfl) rfl ?_ ?_
                rotate_left
                · go_simp
                  rfl
                refine hK.out _ _ ?_
                clear hK K
                refine done_ (done_of HT_.out (by kernel_rfl)) ?_
                try go_wp2
                go_roundg k1
                case measure => have:=HK1.out;omega
                case rel => exact ⟨(wrap64 (x18_1 + 1)),(y393),(.slice Ao18 y393.length co18),(by first | rfl | (simp;done) | (simp [*];done)),H',⟨by have:=HK1.out;omega⟩,⟨by (with_reducible repeat (first | apply Kd.R_alloc | apply Kd.R_drewN | apply Kd.R_drew));exact Kd.R_mono (Kd.R_far (p:=⟨gb390,2,none⟩) (Kd.R_types HO395.out BK390.out (by decide)) (fun _ hk => hk.2) (.slice Ao18 y393.length co18)) (fun _ hk => trivial)⟩,⟨by (with_reducible repeat (first | refine blk_drewN ?_ _ | refine blk_drew ?_ | refine blk_alloc ?_ _));refine blk_far ?_ NB388_390.out _;(with_reducible repeat (first | refine blk_drewN ?_ _ | refine blk_drew ?_ | refine blk_alloc ?_ _));exact BK388.out⟩,⟨by (with_reducible repeat (first | refine blk_drewN ?_ _ | refine blk_drew ?_ | refine blk_alloc ?_ _));refine blk_put (cs:=#[.float .f64 t389,.bool false,u391002,.int .i64 0,.int .i64 0,.int .i64 0]) ?_ 2 _ rfl;(with_reducible repeat (first | refine blk_drewN ?_ _ | refine blk_drew ?_ | refine blk_alloc ?_ _));exact BK390.out⟩,⟨by repeat (first | (with_reducible first | exact HB.out | apply below_alloc | apply pw_below_drewN | apply below_drew1 | refine below_set ?_ GE388.out | refine below_set ?_ GE390.out) | exact HB.out)⟩⟩
              · rw [if_neg c15] at H
                exact absurd H (by simp)
            · rw [if_neg c13] at H
              exact absurd H (by simp)
          · rw [if_neg c12] at H
            exact absurd H (by simp)
        · rw [if_neg c11] at H
          have c11b0 : decide (x18_1 < (l1.length : Int)) = false:=decide_eq_false c11
          clear c11
          simp only [Option.some.injEq,Prod.mk.injEq] at H
          obtain ⟨rfl,rfl,rfl,rfl,rfl,rfl,rfl⟩:=H
          have hnb20:=NB390_388.out
          have hnc20:=NB388_390.out
          have hcz21_0 : wr.cell? ⟨gb390,0,none⟩ = some (.float .f64 t389):=(blk_cell BK390.out 0).trans rfl
          have hcz21_1 : wr.cell? ⟨gb390,1,none⟩ = some (.bool false):=(blk_cell BK390.out 1).trans rfl
          have hcz21_2 : wr.cell? ⟨gb390,2,none⟩ = some (u391002):=(blk_cell BK390.out 2).trans rfl
          have hcz21_3 : wr.cell? ⟨gb390,3,none⟩ = some (.int .i64 0):=(blk_cell BK390.out 3).trans rfl
          have hcz21_4 : wr.cell? ⟨gb390,4,none⟩ = some (.int .i64 0):=(blk_cell BK390.out 4).trans rfl
          have hcz21_5 : wr.cell? ⟨gb390,5,none⟩ = some (.int .i64 0):=(blk_cell BK390.out 5).trans rfl
          have hfz21_0:=blk_frozen BK390.out 0
          have hfz21_1:=blk_frozen BK390.out 1
          have hfz21_2:=blk_frozen BK390.out 2
          have hfz21_3:=blk_frozen BK390.out 3
          have hfz21_4:=blk_frozen BK390.out 4
          have hfz21_5:=blk_frozen BK390.out 5
          have hcz22_0 : wr.cell? ⟨gb388,0,none⟩ = some (.float .f64 0):=(blk_cell BK388.out 0).trans rfl
          have hcz22_1 : wr.cell? ⟨gb388,1,none⟩ = some (.bool false):=(blk_cell BK388.out 1).trans rfl
          have hcz22_2 : wr.cell? ⟨gb388,2,none⟩ = some (.slice none 0 0):=(blk_cell BK388.out 2).trans rfl
          have hcz22_3 : wr.cell? ⟨gb388,3,none⟩ = some (.int .i64 0):=(blk_cell BK388.out 3).trans rfl
          have hcz22_4 : wr.cell? ⟨gb388,4,none⟩ = some (.int .i64 0):=(blk_cell BK388.out 4).trans rfl
          have hcz22_5 : wr.cell? ⟨gb388,5,none⟩ = some (.int .i64 0):=(blk_cell BK388.out 5).trans rfl
          have hfz22_0:=blk_frozen BK388.out 0
          have hfz22_1:=blk_frozen BK388.out 1
          have hfz22_2:=blk_frozen BK388.out 2
          have hfz22_3:=blk_frozen BK388.out 3
          have hfz22_4:=blk_frozen BK388.out 4
          have hfz22_5:=blk_frozen BK388.out 5
          obtain ⟨Ao23,co23,eo23⟩:=Kd.R_slice HO_391002.out
          subst eo23
          go_wp2
          refine bodyPost_ret (results_ct rfl _ _ gb388 30 #[.float .f64 t389,.bool false,.slice Ao23 x391002_1.length co23,.int .i64 0,.int .i64 0,.int .i64 0] (0,0) _ rfl (by (with_reducible repeat (first | refine blk_drewN ?_ _ | refine blk_drew ?_ | refine blk_alloc ?_ _));refine blk_put (cs:=#[.float .f64 t389,.bool false,.slice Ao23 x391002_1.length co23,.int .i64 0,.int .i64 0,.int .i64 0]) ?_ 5 _ rfl;(with_reducible repeat (first | refine blk_drewN ?_ _ | refine blk_drew ?_ | refine blk_alloc ?_ _));refine blk_put (cs:=#[.float .f64 t389,.bool false,.slice Ao23 x391002_1.length co23,.int .i64 0,.int .i64 0,.int .i64 0]) ?_ 4 _ rfl;(with_reducible repeat (first | refine blk_drewN ?_ _ | refine blk_drew ?_ | refine blk_alloc ?_ _));refine blk_put (cs:=#[.float .f64 t389,.bool false,.slice Ao23 x391002_1.length co23,.int .i64 0,.int .i64 0,.int .i64 0]) ?_ 3 _ rfl;(with_reducible repeat (first | refine blk_drewN ?_ _ | refine blk_drew ?_ | refine blk_alloc ?_ _));refine blk_put (cs:=#[.float .f64 t389,.bool false,.slice none 0 0,.int .i64 0,.int .i64 0,.int .i64 0]) ?_ 2 _ rfl;(with_reducible repeat (first | refine blk_drewN ?_ _ | refine blk_drew ?_ | refine blk_alloc ?_ _));refine blk_put (cs:=#[.float .f64 t389,.bool false,.slice none 0 0,.int .i64 0,.int .i64 0,.int .i64 0]) ?_ 1 _ rfl;(with_reducible repeat (first | refine blk_drewN ?_ _ | refine blk_drew ?_ | refine blk_alloc ?_ _));refine blk_put (cs:=#[.float .f64 0,.bool false,.slice none 0 0,.int .i64 0,.int .i64 0,.int .i64 0]) ?_ 0 _ rfl;(with_reducible repeat (first | refine blk_drewN ?_ _ | refine blk_drew ?_ | refine blk_alloc ?_ _));exact BK388.out) Try.underlying30 rfl (by kernel_rfl)) rfl ?_
          exact ⟨_,by first | rfl | (simp [errW_none,errW_some] <;> rfl) | (simp [*,errW_none,errW_some] <;> rfl),by (with_reducible repeat (first | apply Kd.R_alloc | apply Kd.R_drewN | apply Kd.R_drew));exact Kd.R_mono (Kd.R_far (p:=⟨gb388,5,none⟩) (Kd.R_far (p:=⟨gb388,4,none⟩) (Kd.R_far (p:=⟨gb388,3,none⟩) (Kd.R_far (p:=⟨gb388,2,none⟩) (Kd.R_far (p:=⟨gb388,1,none⟩) (Kd.R_far (p:=⟨gb388,0,none⟩) (Kd.R_types HO_391002.out BK388.out (by decide)) (fun _ hk => hk.2) (.float .f64 t389)) (fun _ hk => hk.2) (.bool false)) (fun _ hk => hk.2) (.slice Ao23 x391002_1.length co23)) (fun _ hk => hk.2) (.int .i64 0)) (fun _ hk => hk.2) (.int .i64 0)) (fun _ hk => hk.2) (.int .i64 0)) (fun _ hk => trivial),by repeat (first | (with_reducible first | exact HB.out | apply below_alloc | apply pw_below_drewN | apply below_drew1 | refine below_set ?_ GE388.out | refine below_set ?_ GE390.out) | exact HB.out)⟩
end Go.Proofs.Ytdcllbhkjcdnoaa.P
namespace Go.Proofs.Ytdcllbhkjcdnoaa.P
open Go.RowKit Go.Proofs.YtdcllbhkjcdnoaaW.PrintWords Go.Proofs.YtdcllbhkjcdnoaaW.PrintLast Go.Proofs.YtdcllbhkjcdnoaaW.PrintMore
attribute [local go_sem] max2_int min2_int max_two min_two max_three min_three max_four min_four   -- for this text's walks alone
attribute [local go_sem] run_store_float
set_option linter.unusedVariables false
set_option linter.unusedSimpArgs false
def humuslaw04_awake.j0 : Nat → Bool → Option (Bool)
  | 0,_ => none
  | k + 1,x0 => some x0
def humuslaw04_awake.f (k : Nat)  : Option (Bool):=(row_Of.f k 4611686018427387904 (([4619567317775286272] : List Nat))).bind fun bt399 => ((row_Encode.f k bt399.1 bt399.2.1 bt399.2.2.1 bt399.2.2.2.1 bt399.2.2.2.2.1 bt399.2.2.2.2.2.1).bind fun bt409 => ((row_Decode.f k bt409.1).bind fun bt413 => (if bt399.2.2.2.2.2.2 = 0 then (if bt409.2 = 0 then (if bt413.2.2.2.2.2.2 = 0 then (if (bt409.1.length : Int) = 28 then ((row_Same.f bt413.1 bt413.2.1 bt413.2.2.1 bt413.2.2.2.1 bt413.2.2.2.2.1 bt413.2.2.2.2.2.1 bt399.1 bt399.2.1 bt399.2.2.1 bt399.2.2.2.1 bt399.2.2.2.2.1 bt399.2.2.2.2.2.1).bind fun t423 => (humuslaw04_awake.j0 k t423)) else (humuslaw04_awake.j0 k false)) else (humuslaw04_awake.j0 k false)) else (humuslaw04_awake.j0 k false)) else (humuslaw04_awake.j0 k false))))
set_option maxHeartbeats 8000000 in
set_option maxRecDepth 100000 in
theorem humuslaw04_awake.calls (k : Nat)  (r : Bool) (w : World) (h : humuslaw04_awake.f k  = some r) :
    Calls Try.prog 31 #[] w fun e w' => e = .returned (.bool r) ∧ Below w.heap.size w w':=by
  have hu30:=Try.underlying30
  have HB:=Aside0.mk (Below.refl w.heap.size w)
  have H : ((row_Of.f k 4611686018427387904 (([4619567317775286272] : List Nat))).bind fun bt399 => ((row_Encode.f k bt399.1 bt399.2.1 bt399.2.2.1 bt399.2.2.2.1 bt399.2.2.2.2.1 bt399.2.2.2.2.2.1).bind fun bt409 => ((row_Decode.f k bt409.1).bind fun bt413 => (if bt399.2.2.2.2.2.2 = 0 then (if bt409.2 = 0 then (if bt413.2.2.2.2.2.2 = 0 then (if (bt409.1.length : Int) = 28 then ((row_Same.f bt413.1 bt413.2.1 bt413.2.2.1 bt413.2.2.2.1 bt413.2.2.2.2.1 bt413.2.2.2.2.2.1 bt399.1 bt399.2.1 bt399.2.2.1 bt399.2.2.2.1 bt399.2.2.2.2.1 bt399.2.2.2.2.2.1).bind fun t423 => (humuslaw04_awake.j0 k t423)) else (humuslaw04_awake.j0 k false)) else (humuslaw04_awake.j0 k false)) else (humuslaw04_awake.j0 k false)) else (humuslaw04_awake.j0 k false))))) = some r:=h
  clear h
  obtain ⟨y396,hy396⟩ : ∃ y_ : List Nat,y_ = (([4619567317775286272] : List Nat)):=⟨_,rfl⟩
  replace H : ((row_Of.f k 4611686018427387904 y396).bind fun bt399 => ((row_Encode.f k bt399.1 bt399.2.1 bt399.2.2.1 bt399.2.2.2.1 bt399.2.2.2.2.1 bt399.2.2.2.2.2.1).bind fun bt409 => ((row_Decode.f k bt409.1).bind fun bt413 => (if bt399.2.2.2.2.2.2 = 0 then (if bt409.2 = 0 then (if bt413.2.2.2.2.2.2 = 0 then (if (bt409.1.length : Int) = 28 then ((row_Same.f bt413.1 bt413.2.1 bt413.2.2.1 bt413.2.2.2.1 bt413.2.2.2.2.1 bt413.2.2.2.2.2.1 bt399.1 bt399.2.1 bt399.2.2.1 bt399.2.2.2.1 bt399.2.2.2.2.1 bt399.2.2.2.2.2.1).bind fun t423 => (humuslaw04_awake.j0 k t423)) else (humuslaw04_awake.j0 k false)) else (humuslaw04_awake.j0 k false)) else (humuslaw04_awake.j0 k false)) else (humuslaw04_awake.j0 k false))))) = some r:=by first | (rw [hy396];with_reducible exact H) | (have H2_:=(Option.bind_some _ _).symm.trans H;rw [hy396];with_reducible exact H2_) | (have H2_:=(Option.bind_some _ _).symm.trans H;with_reducible exact H2_) | with_reducible exact H | (rw [hy396];exact H) | exact H
  have Ny396:=Aside0.mk hy396
  clear hy396
  replace H:=Option.bind_eq_some_iff.mp H
  obtain ⟨⟨t399,t400,t401,t404,t405,t406,t407⟩,A10,H⟩:=H
  replace H : ((row_Encode.f k t399 t400 t401 t404 t405 t406).bind fun bt409 => ((row_Decode.f k bt409.1).bind fun bt413 => (if t407 = 0 then (if bt409.2 = 0 then (if bt413.2.2.2.2.2.2 = 0 then (if (bt409.1.length : Int) = 28 then ((row_Same.f bt413.1 bt413.2.1 bt413.2.2.1 bt413.2.2.2.1 bt413.2.2.2.2.1 bt413.2.2.2.2.2.1 t399 t400 t401 t404 t405 t406).bind fun t423 => (humuslaw04_awake.j0 k t423)) else (humuslaw04_awake.j0 k false)) else (humuslaw04_awake.j0 k false)) else (humuslaw04_awake.j0 k false)) else (humuslaw04_awake.j0 k false)))) = some r:=H
  have A1:=Aside0.mk A10
  clear A10
  replace H:=Option.bind_eq_some_iff.mp H
  obtain ⟨⟨t409,t412⟩,A20,H⟩:=H
  replace H : ((row_Decode.f k t409).bind fun bt413 => (if t407 = 0 then (if t412 = 0 then (if bt413.2.2.2.2.2.2 = 0 then (if (t409.length : Int) = 28 then ((row_Same.f bt413.1 bt413.2.1 bt413.2.2.1 bt413.2.2.2.1 bt413.2.2.2.2.1 bt413.2.2.2.2.2.1 t399 t400 t401 t404 t405 t406).bind fun t423 => (humuslaw04_awake.j0 k t423)) else (humuslaw04_awake.j0 k false)) else (humuslaw04_awake.j0 k false)) else (humuslaw04_awake.j0 k false)) else (humuslaw04_awake.j0 k false))) = some r:=H
  have A2:=Aside0.mk A20
  clear A20
  replace H:=Option.bind_eq_some_iff.mp H
  obtain ⟨⟨t413,t414,t415,t418,t419,t420,t421⟩,A30,H⟩:=H
  replace H : (if t407 = 0 then (if t412 = 0 then (if t421 = 0 then (if (t409.length : Int) = 28 then ((row_Same.f t413 t414 t415 t418 t419 t420 t399 t400 t401 t404 t405 t406).bind fun t423 => (humuslaw04_awake.j0 k t423)) else (humuslaw04_awake.j0 k false)) else (humuslaw04_awake.j0 k false)) else (humuslaw04_awake.j0 k false)) else (humuslaw04_awake.j0 k false)) = some r:=H
  have A3:=Aside0.mk A30
  clear A30
  have HC4:=Aside0.mk H
  clear H
  go_enter Try.func31,Try.ntmps31
  go_upto_region 4 with (first | ((with_reducible refine gate_dst (N:=8) rfl ?_);(try (refine gate_guard (by rfl) ?_;dsimp only));refine Kd.R_lit Kd.f64 _ 25 ?hg (N:=8) ?hd (xs:=([4619567317775286272] : List Nat)) (inner:=[.float .f64 4619567317775286272]) (ok:=fun _ => True) (okp:=fun _ => True) ?hr ?hp (fun _ hk => hk) trivial (Below.refl _ _) (Nat.le_refl _) (by simp) ?_;(case hd => rfl);(case hg => rfl);(case hr => first | (go_simp;done) | (go_simp;rfl));(case hp => exact (Reps.one (show Kd.M Kd.f64 _ _ _ 4619567317775286272 [.float .f64 4619567317775286272] from rfl) (Reps.none _ _)));intro v397 w5 ho6 hb hg_ hnew_;clear hg_ hnew_;(first | rw [← Ny396.out] at ho6 | (simp only [Int.reduceToNat] at ho6;rw [← Ny396.out] at ho6));have n0_:=Aside0.mk (Kd.R_lower ho6 (below_size (by repeat (first | (with_reducible first | exact HB.out | apply below_alloc | apply pw_below_drewN | apply below_drew1) | exact HB.out))));have n1_:=Aside0.mk (below_step (by repeat (first | (with_reducible first | exact HB.out | apply below_alloc | apply pw_below_drewN | apply below_drew1) | exact HB.out)) hb);clear HB;have HO398:=n0_;have HB:=n1_;clear n0_ n1_;clear hb ho6;obtain ⟨Ao7,co7,eo7⟩:=Kd.R_slice HO398.out;subst eo7) | ((with_reducible refine gate_callee (f:=39) rfl ?_);refine goesL_ (some 9) rfl rfl Try.func39 (by kernel_rfl) rfl #[.float .f64 4611686018427387904,.slice Ao7 y396.length co7] rfl (by (try simp only [List.map_toArray,List.map_cons,List.map_nil]);first | done | rfl | (simp only [List.length_drop,List.length_take];rfl)) ?_;(with_reducible refine (row_Of.calls k 4611686018427387904 _ _ y396 t399 t400 t401 t404 t405 t406 t407 _ ?side1 ?side2 A1.out).mono ?_);(case side1 => repeat (first | exact (Kd.R_reads' HO398.out).2.2 | (with_reducible refine Kd.C_alloc ?_ _) | (with_reducible refine Kd.C_drewN ?_ _) | (with_reducible refine Kd.C_drew ?_)));(case side2 => exact (Kd.R_reads' HO398.out).2.1);rintro e w8 ⟨v402,rfl,ho0,hb⟩;refine ⟨_,rfl,?_⟩;have n0_:=Aside0.mk (Kd.R_elder' (by (with_reducible repeat (first | apply Kd.R_alloc | apply Kd.R_drewN | apply Kd.R_drew));exact HO398.out) (Kd.R_base ho0) hb);have n1_:=Aside0.mk (Kd.R_lower (Kd.R_new' ho0 (Kd.R_lt (by (with_reducible repeat (first | apply Kd.R_alloc | apply Kd.R_drewN | apply Kd.R_drew));exact HO398.out))) (below_size (by repeat (first | (with_reducible first | exact HB.out | apply below_alloc | apply pw_below_drewN | apply below_drew1) | exact HB.out))));have n2_:=Aside0.mk (below_step (by repeat (first | (with_reducible first | exact HB.out | apply below_alloc | apply pw_below_drewN | apply below_drew1) | exact HB.out)) hb);clear HO398;clear HB;have HO398:=n0_;have HO403:=n1_;have HB:=n2_;clear n0_ n1_ n2_;(try clear hb);(try clear hb2);(try clear hk);(try clear hi);(try clear ho0)) | ((with_reducible refine gate_dst (N:=1) rfl ?_);(try (refine gate_guard (by rfl) ?_;dsimp only));refine box_event ?hg (N:=1) ?hd (cs:=#[.float .f64 0,.bool false,.slice none 0 0,.int .i64 0,.int .i64 0,.int .i64 0]) (t:=30) ?hr ?_;(case hd => rfl);(case hg => rfl);(case hr => first | (go_simp;done) | (go_simp;rfl));intro gb408 hg w9 hbox hb;have n0_:=Aside0.mk (Kd.R_below (by (with_reducible repeat (first | apply Kd.R_alloc | apply Kd.R_drewN | apply Kd.R_drew));exact HO398.out) hb);have n1_:=Aside0.mk (Kd.R_below (by (with_reducible repeat (first | apply Kd.R_alloc | apply Kd.R_drewN | apply Kd.R_drew));exact HO403.out) hb);have n2_:=Aside0.mk (below_step (by repeat (first | (with_reducible first | exact HB.out | apply below_alloc | apply pw_below_drewN | apply below_drew1) | exact HB.out)) hb);have n3_:=Aside0.mk (hbox);have n4_:=Aside0.mk ((by rw [hg];exact (below_size (by repeat (first | (with_reducible first | exact HB.out | apply below_alloc | apply pw_below_drewN | apply below_drew1) | exact HB.out))) : w.heap.size ≤ gb408));have n5_:=Aside0.mk ((by rw [hg];exact (below_size (by repeat (first | (with_reducible first | exact HB.out | apply below_alloc | apply pw_below_drewN | apply below_drew1) | exact HB.out))) : w.heap.size ≤ gb408));clear HO398;clear HO403;clear HB;have HO398:=n0_;have HO403:=n1_;have HB:=n2_;have BK408:=n3_;have GW408:=n4_;have GE408:=n5_;clear n0_ n1_ n2_ n3_ n4_ n5_;clear hb hbox hg;have hcz10_0 : w9.cell? ⟨gb408,0,none⟩ = some (.float .f64 0):=(blk_cell BK408.out 0).trans rfl;have hcz10_1 : w9.cell? ⟨gb408,1,none⟩ = some (.bool false):=(blk_cell BK408.out 1).trans rfl;have hcz10_2 : w9.cell? ⟨gb408,2,none⟩ = some (.slice none 0 0):=(blk_cell BK408.out 2).trans rfl;have hcz10_3 : w9.cell? ⟨gb408,3,none⟩ = some (.int .i64 0):=(blk_cell BK408.out 3).trans rfl;have hcz10_4 : w9.cell? ⟨gb408,4,none⟩ = some (.int .i64 0):=(blk_cell BK408.out 4).trans rfl;have hcz10_5 : w9.cell? ⟨gb408,5,none⟩ = some (.int .i64 0):=(blk_cell BK408.out 5).trans rfl;have hfz10_0:=blk_frozen BK408.out 0;have hfz10_1:=blk_frozen BK408.out 1;have hfz10_2:=blk_frozen BK408.out 2;have hfz10_3:=blk_frozen BK408.out 3;have hfz10_4:=blk_frozen BK408.out 4;have hfz10_5:=blk_frozen BK408.out 5;obtain ⟨Ao11,co11,eo11⟩:=Kd.R_slice HO403.out;subst eo11) | ((with_reducible refine gate_callee (f:=32) rfl ?_);refine goesL_ (some 14) rfl rfl Try.func32 (by kernel_rfl) rfl #[.agg #[.float .f64 t399,.bool t400,.slice Ao11 t401.length co11,.int .i64 t404,.int .i64 t405,.int .i64 t406]] rfl (by (try simp only [List.map_toArray,List.map_cons,List.map_nil]);first | done | rfl | (simp only [List.length_drop,List.length_take];rfl)) ?_;(with_reducible refine (row_Encode.calls k t399 t400 _ _ t401 t404 t405 t406 t409 t412 _ ?side1 ?side2 A2.out).mono ?_);(case side1 => refine (Kd.R_reads' (e:=25) (base:=w.heap.size) (ok:=fun k_ => (True ∧ some k_ ≠ (.slice Ao7 y396.length co7 : Value).ownBlock)) (n:=t401.length) (c:=co11) ?_).2.2;exact (by (with_reducible repeat (first | apply Kd.R_alloc | apply Kd.R_drewN | apply Kd.R_drew));exact (Kd.R_mono (Kd.R_far (p:=⟨gb408,5,none⟩) (Kd.R_far (p:=⟨gb408,4,none⟩) (Kd.R_far (p:=⟨gb408,3,none⟩) (Kd.R_far (p:=⟨gb408,2,none⟩) (Kd.R_far (p:=⟨gb408,1,none⟩) (Kd.R_far (p:=⟨gb408,0,none⟩) (Kd.R_types HO403.out BK408.out (by decide)) (fun _ hk => hk.2) (.float .f64 t399)) (fun _ hk => hk.2) (.bool t400)) (fun _ hk => hk.2) (.slice Ao11 t401.length co11)) (fun _ hk => hk.2) (.int .i64 t404)) (fun _ hk => hk.2) (.int .i64 t405)) (fun _ hk => hk.2) (.int .i64 t406)) (fun _ h_ => h_.1))));(case side2 => exact (Kd.R_reads' HO403.out).2.1);rintro e w12 ⟨v410,rfl,ho0,hb⟩;refine ⟨_,rfl,?_⟩;have n0_:=Aside0.mk (Kd.R_below (by (with_reducible repeat (first | apply Kd.R_alloc | apply Kd.R_drewN | apply Kd.R_drew));exact (Kd.R_mono (Kd.R_far (p:=⟨gb408,5,none⟩) (Kd.R_far (p:=⟨gb408,4,none⟩) (Kd.R_far (p:=⟨gb408,3,none⟩) (Kd.R_far (p:=⟨gb408,2,none⟩) (Kd.R_far (p:=⟨gb408,1,none⟩) (Kd.R_far (p:=⟨gb408,0,none⟩) (Kd.R_types HO398.out BK408.out (by decide)) (fun _ hk => hk.2) (.float .f64 t399)) (fun _ hk => hk.2) (.bool t400)) (fun _ hk => hk.2) (.slice Ao11 t401.length co11)) (fun _ hk => hk.2) (.int .i64 t404)) (fun _ hk => hk.2) (.int .i64 t405)) (fun _ hk => hk.2) (.int .i64 t406)) (fun _ h_ => h_.1))) hb);have n1_:=Aside0.mk (Kd.R_below (by (with_reducible repeat (first | apply Kd.R_alloc | apply Kd.R_drewN | apply Kd.R_drew));exact (Kd.R_mono (Kd.R_far (p:=⟨gb408,5,none⟩) (Kd.R_far (p:=⟨gb408,4,none⟩) (Kd.R_far (p:=⟨gb408,3,none⟩) (Kd.R_far (p:=⟨gb408,2,none⟩) (Kd.R_far (p:=⟨gb408,1,none⟩) (Kd.R_far (p:=⟨gb408,0,none⟩) (Kd.R_types HO403.out BK408.out (by decide)) (fun _ hk => hk.2) (.float .f64 t399)) (fun _ hk => hk.2) (.bool t400)) (fun _ hk => hk.2) (.slice Ao11 t401.length co11)) (fun _ hk => hk.2) (.int .i64 t404)) (fun _ hk => hk.2) (.int .i64 t405)) (fun _ hk => hk.2) (.int .i64 t406)) (fun _ h_ => h_.1))) hb);have n2_:=Aside0.mk (Kd.R_lower ho0 (below_size (by repeat (first | (with_reducible first | exact HB.out | apply below_alloc | apply pw_below_drewN | apply below_drew1 | refine below_set ?_ GE408.out) | exact HB.out))));have n3_:=Aside0.mk (blk_below (g:=gb408) (o:=.cells #[.float .f64 t399,.bool t400,.slice Ao11 t401.length co11,.int .i64 t404,.int .i64 t405,.int .i64 t406] 30 (0,0)) (by (with_reducible repeat (first | refine blk_drewN ?_ _ | refine blk_drew ?_ | refine blk_alloc ?_ _));refine blk_put (cs:=#[.float .f64 t399,.bool t400,.slice Ao11 t401.length co11,.int .i64 t404,.int .i64 t405,.int .i64 0]) ?_ 5 _ rfl;(with_reducible repeat (first | refine blk_drewN ?_ _ | refine blk_drew ?_ | refine blk_alloc ?_ _));refine blk_put (cs:=#[.float .f64 t399,.bool t400,.slice Ao11 t401.length co11,.int .i64 t404,.int .i64 0,.int .i64 0]) ?_ 4 _ rfl;(with_reducible repeat (first | refine blk_drewN ?_ _ | refine blk_drew ?_ | refine blk_alloc ?_ _));refine blk_put (cs:=#[.float .f64 t399,.bool t400,.slice Ao11 t401.length co11,.int .i64 0,.int .i64 0,.int .i64 0]) ?_ 3 _ rfl;(with_reducible repeat (first | refine blk_drewN ?_ _ | refine blk_drew ?_ | refine blk_alloc ?_ _));refine blk_put (cs:=#[.float .f64 t399,.bool t400,.slice none 0 0,.int .i64 0,.int .i64 0,.int .i64 0]) ?_ 2 _ rfl;(with_reducible repeat (first | refine blk_drewN ?_ _ | refine blk_drew ?_ | refine blk_alloc ?_ _));refine blk_put (cs:=#[.float .f64 t399,.bool false,.slice none 0 0,.int .i64 0,.int .i64 0,.int .i64 0]) ?_ 1 _ rfl;(with_reducible repeat (first | refine blk_drewN ?_ _ | refine blk_drew ?_ | refine blk_alloc ?_ _));refine blk_put (cs:=#[.float .f64 0,.bool false,.slice none 0 0,.int .i64 0,.int .i64 0,.int .i64 0]) ?_ 0 _ rfl;(with_reducible repeat (first | refine blk_drewN ?_ _ | refine blk_drew ?_ | refine blk_alloc ?_ _));exact BK408.out) hb);have n4_:=Aside0.mk (below_step (by repeat (first | (with_reducible first | exact HB.out | apply below_alloc | apply pw_below_drewN | apply below_drew1 | refine below_set ?_ GE408.out) | exact HB.out)) hb);clear HO398;clear HO403;clear BK408;clear HB;have HO398:=n0_;have HO403:=n1_;have HO411:=n2_;have BK408:=n3_;have HB:=n4_;clear n0_ n1_ n2_ n3_ n4_;(try clear hb);(try clear hb2);(try clear hk);(try clear hi);(try clear ho0);obtain ⟨Ao13,co13,eo13⟩:=Kd.R_slice HO411.out;subst eo13) | ((with_reducible refine gate_callee (f:=35) rfl ?_);refine goesL_ (some 19) rfl rfl Try.func35 (by kernel_rfl) rfl #[.slice Ao13 t409.length co13] rfl (by (try simp only [List.map_toArray,List.map_cons,List.map_nil]);first | done | rfl | (simp only [List.length_drop,List.length_take];rfl)) ?_;(with_reducible refine (row_Decode.calls k _ _ t409 t413 t414 t415 t418 t419 t420 t421 _ ?side1 ?side2 A3.out).mono ?_);(case side1 => repeat (first | exact (Kd.R_reads' HO411.out).2.2 | (with_reducible refine Kd.C_alloc ?_ _) | (with_reducible refine Kd.C_drewN ?_ _) | (with_reducible refine Kd.C_drew ?_)));(case side2 => exact (Kd.R_reads' HO411.out).2.1);rintro e w14 ⟨v416,rfl,ho0,hb⟩;refine ⟨_,rfl,?_⟩;have n0_:=Aside0.mk (Kd.R_elder' (by (with_reducible repeat (first | apply Kd.R_alloc | apply Kd.R_drewN | apply Kd.R_drew));exact HO398.out) (Kd.R_base ho0) hb);have n1_:=Aside0.mk (Kd.R_elder' (by (with_reducible repeat (first | apply Kd.R_alloc | apply Kd.R_drewN | apply Kd.R_drew));exact HO403.out) (Kd.R_base ho0) hb);have n2_:=Aside0.mk (Kd.R_below (by (with_reducible repeat (first | apply Kd.R_alloc | apply Kd.R_drewN | apply Kd.R_drew));exact HO411.out) hb);have n3_:=Aside0.mk (Kd.R_lower (Kd.R_new' (Kd.R_new' ho0 (Kd.R_lt (by (with_reducible repeat (first | apply Kd.R_alloc | apply Kd.R_drewN | apply Kd.R_drew));exact HO398.out))) (Kd.R_lt (by (with_reducible repeat (first | apply Kd.R_alloc | apply Kd.R_drewN | apply Kd.R_drew));exact HO403.out))) (below_size (by repeat (first | (with_reducible first | exact HB.out | apply below_alloc | apply pw_below_drewN | apply below_drew1 | refine below_set ?_ GE408.out) | exact HB.out))));have n4_:=Aside0.mk (blk_below (g:=gb408) (o:=.cells #[.float .f64 t399,.bool t400,.slice Ao11 t401.length co11,.int .i64 t404,.int .i64 t405,.int .i64 t406] 30 (0,0)) (by (with_reducible repeat (first | refine blk_drewN ?_ _ | refine blk_drew ?_ | refine blk_alloc ?_ _));exact BK408.out) hb);have n5_:=Aside0.mk (below_step (by repeat (first | (with_reducible first | exact HB.out | apply below_alloc | apply pw_below_drewN | apply below_drew1 | refine below_set ?_ GE408.out) | exact HB.out)) hb);clear HO398;clear HO403;clear HO411;clear BK408;clear HB;have HO398:=n0_;have HO403:=n1_;have HO411:=n2_;have HO417:=n3_;have BK408:=n4_;have HB:=n5_;clear n0_ n1_ n2_ n3_ n4_ n5_;(try clear hb);(try clear hb2);(try clear hk);(try clear hi);(try clear ho0)) | ((with_reducible refine gate_dst (N:=5) rfl ?_);(try (refine gate_guard (by rfl) ?_;dsimp only));refine box_event ?hg (N:=5) ?hd (cs:=#[.float .f64 0,.bool false,.slice none 0 0,.int .i64 0,.int .i64 0,.int .i64 0]) (t:=30) ?hr ?_;(case hd => rfl);(case hg => rfl);(case hr => first | (go_simp;done) | (go_simp;rfl));intro gb422 hg w15 hbox hb;have n0_:=Aside0.mk (Kd.R_below (by (with_reducible repeat (first | apply Kd.R_alloc | apply Kd.R_drewN | apply Kd.R_drew));exact HO398.out) hb);have n1_:=Aside0.mk (Kd.R_below (by (with_reducible repeat (first | apply Kd.R_alloc | apply Kd.R_drewN | apply Kd.R_drew));exact HO403.out) hb);have n2_:=Aside0.mk (Kd.R_below (by (with_reducible repeat (first | apply Kd.R_alloc | apply Kd.R_drewN | apply Kd.R_drew));exact HO411.out) hb);have n3_:=Aside0.mk (Kd.R_below (by (with_reducible repeat (first | apply Kd.R_alloc | apply Kd.R_drewN | apply Kd.R_drew));exact HO417.out) hb);have n4_:=Aside0.mk (blk_below (g:=gb408) (o:=.cells #[.float .f64 t399,.bool t400,.slice Ao11 t401.length co11,.int .i64 t404,.int .i64 t405,.int .i64 t406] 30 (0,0)) (by (with_reducible repeat (first | refine blk_drewN ?_ _ | refine blk_drew ?_ | refine blk_alloc ?_ _));exact BK408.out) hb);have n5_:=Aside0.mk (below_step (by repeat (first | (with_reducible first | exact HB.out | apply below_alloc | apply pw_below_drewN | apply below_drew1 | refine below_set ?_ GE408.out) | exact HB.out)) hb);have n6_:=Aside0.mk (hbox);have n7_:=Aside0.mk ((by rw [hg];exact (below_size (by repeat (first | (with_reducible first | exact HB.out | apply below_alloc | apply pw_below_drewN | apply below_drew1 | refine below_set ?_ GE408.out) | exact HB.out))) : w.heap.size ≤ gb422));have n8_:=Aside0.mk ((by rw [hg];exact (below_size (by repeat (first | (with_reducible first | exact HB.out | apply below_alloc | apply pw_below_drewN | apply below_drew1 | refine below_set ?_ GE408.out) | exact HB.out))) : w.heap.size ≤ gb422));have n9_:=Aside0.mk ((by rw [hg];exact Nat.ne_of_lt (blk_lt (g:=gb408) (o:=.cells #[.float .f64 t399,.bool t400,.slice Ao11 t401.length co11,.int .i64 t404,.int .i64 t405,.int .i64 t406] 30 (0,0)) (by (with_reducible repeat (first | refine blk_drewN ?_ _ | refine blk_drew ?_ | refine blk_alloc ?_ _));exact BK408.out)) : gb408 ≠ gb422));have n10_:=Aside0.mk ((by rw [hg];exact Nat.ne_of_gt (blk_lt (g:=gb408) (o:=.cells #[.float .f64 t399,.bool t400,.slice Ao11 t401.length co11,.int .i64 t404,.int .i64 t405,.int .i64 t406] 30 (0,0)) (by (with_reducible repeat (first | refine blk_drewN ?_ _ | refine blk_drew ?_ | refine blk_alloc ?_ _));exact BK408.out)) : gb422 ≠ gb408));clear HO398;clear HO403;clear HO411;clear HO417;clear BK408;clear HB;have HO398:=n0_;have HO403:=n1_;have HO411:=n2_;have HO417:=n3_;have BK408:=n4_;have HB:=n5_;have BK422:=n6_;have GW422:=n7_;have GE422:=n8_;have NB408_422:=n9_;have NB422_408:=n10_;clear n0_ n1_ n2_ n3_ n4_ n5_ n6_ n7_ n8_ n9_ n10_;clear hb hbox hg;have hnb16:=NB422_408.out;have hnc16:=NB408_422.out;have hcz17_0 : w15.cell? ⟨gb422,0,none⟩ = some (.float .f64 0):=(blk_cell BK422.out 0).trans rfl;have hcz17_1 : w15.cell? ⟨gb422,1,none⟩ = some (.bool false):=(blk_cell BK422.out 1).trans rfl;have hcz17_2 : w15.cell? ⟨gb422,2,none⟩ = some (.slice none 0 0):=(blk_cell BK422.out 2).trans rfl;have hcz17_3 : w15.cell? ⟨gb422,3,none⟩ = some (.int .i64 0):=(blk_cell BK422.out 3).trans rfl;have hcz17_4 : w15.cell? ⟨gb422,4,none⟩ = some (.int .i64 0):=(blk_cell BK422.out 4).trans rfl;have hcz17_5 : w15.cell? ⟨gb422,5,none⟩ = some (.int .i64 0):=(blk_cell BK422.out 5).trans rfl;have hfz17_0:=blk_frozen BK422.out 0;have hfz17_1:=blk_frozen BK422.out 1;have hfz17_2:=blk_frozen BK422.out 2;have hfz17_3:=blk_frozen BK422.out 3;have hfz17_4:=blk_frozen BK422.out 4;have hfz17_5:=blk_frozen BK422.out 5;obtain ⟨Ao18,co18,eo18⟩:=Kd.R_slice HO417.out;subst eo18))
  (try simp only [Act.put,List.setIfInBounds_toArray,List.set_cons_zero,List.set_cons_succ])
  go_cut [0] (fun v0 wc => ∃ (kq : Nat) (x0_3 : Bool),v0 = .bool x0_3 ∧ Aside0 (humuslaw04_awake.j0 kq x0_3 = some r) ∧ Aside0 (kq ≤ k) ∧ Aside0 (Kd.R Kd.f64 25 wc w.heap.size (fun k_ => some k_ ≠ ((.slice Ao18 t415.length co18) : Value).ownBlock) (.slice Ao11 t401.length co11) t401) ∧ Aside0 (Kd.R Kd.f64 25 wc w.heap.size (fun k_ => some k_ ≠ ((.slice Ao11 t401.length co11) : Value).ownBlock) (.slice Ao18 t415.length co18) t415) ∧ Aside0 (wc.heap[gb408]? = some (.cells #[.float .f64 t399,.bool t400,(.slice Ao11 t401.length co11),.int .i64 t404,.int .i64 t405,.int .i64 t406] 30 (0,0))) ∧ Aside0 (wc.heap[gb422]? = some (.cells #[.float .f64 t413,.bool t414,(.slice Ao18 t415.length co18),.int .i64 t418,.int .i64 t419,.int .i64 t420] 30 (0,0))) ∧ Aside0 (Below w.heap.size w wc))
  case first =>
    have H:=HC4.out
    clear HC4
    by_cases c19 : t407 = 0
    · rw [if_pos c19] at H
      have c19b0 : (t407 == 0) = true:=beq_iff_eq.mpr c19
      have c19b1 : (t407 != 0) = false:=bne_eq_false_iff_eq.mpr c19
      clear c19
      (first | rw [c19b0] | (simp only [i64_w,i32_w];rw [c19b0]) | skip)
      by_cases c20 : t412 = 0
      · rw [if_pos c20] at H
        have c20b0 : (t412 == 0) = true:=beq_iff_eq.mpr c20
        have c20b1 : (t412 != 0) = false:=bne_eq_false_iff_eq.mpr c20
        clear c20
        by_cases c21 : t421 = 0
        · rw [if_pos c21] at H
          have c21b0 : (t421 == 0) = true:=beq_iff_eq.mpr c21
          have c21b1 : (t421 != 0) = false:=bne_eq_false_iff_eq.mpr c21
          clear c21
          by_cases c22 : (t409.length : Int) = 28
          · rw [if_pos c22] at H
            have c22b0 : ((t409.length : Int) == 28) = true:=beq_iff_eq.mpr c22
            have c22b1 : ((t409.length : Int) != 28) = false:=bne_eq_false_iff_eq.mpr c22
            clear c22
            replace H:=Option.bind_eq_some_iff.mp H
            obtain ⟨t423,A230,H⟩:=H
            replace H : (humuslaw04_awake.j0 k t423) = some r:=H
            have A23:=Aside0.mk A230
            clear A230
            have H':=Aside0.mk H
            clear H
            have hnb24:=NB422_408.out
            have hnc24:=NB408_422.out
            have hcz25_0 : w15.cell? ⟨gb422,0,none⟩ = some (.float .f64 0):=(blk_cell BK422.out 0).trans rfl
            have hcz25_1 : w15.cell? ⟨gb422,1,none⟩ = some (.bool false):=(blk_cell BK422.out 1).trans rfl
            have hcz25_2 : w15.cell? ⟨gb422,2,none⟩ = some (.slice none 0 0):=(blk_cell BK422.out 2).trans rfl
            have hcz25_3 : w15.cell? ⟨gb422,3,none⟩ = some (.int .i64 0):=(blk_cell BK422.out 3).trans rfl
            have hcz25_4 : w15.cell? ⟨gb422,4,none⟩ = some (.int .i64 0):=(blk_cell BK422.out 4).trans rfl
            have hcz25_5 : w15.cell? ⟨gb422,5,none⟩ = some (.int .i64 0):=(blk_cell BK422.out 5).trans rfl
            have hfz25_0:=blk_frozen BK422.out 0
            have hfz25_1:=blk_frozen BK422.out 1
            have hfz25_2:=blk_frozen BK422.out 2
            have hfz25_3:=blk_frozen BK422.out 3
            have hfz25_4:=blk_frozen BK422.out 4
            have hfz25_5:=blk_frozen BK422.out 5
            have hcz26_0 : w15.cell? ⟨gb408,0,none⟩ = some (.float .f64 t399):=(blk_cell BK408.out 0).trans rfl
            have hcz26_1 : w15.cell? ⟨gb408,1,none⟩ = some (.bool t400):=(blk_cell BK408.out 1).trans rfl
            have hcz26_2 : w15.cell? ⟨gb408,2,none⟩ = some (.slice Ao11 t401.length co11):=(blk_cell BK408.out 2).trans rfl
            have hcz26_3 : w15.cell? ⟨gb408,3,none⟩ = some (.int .i64 t404):=(blk_cell BK408.out 3).trans rfl
            have hcz26_4 : w15.cell? ⟨gb408,4,none⟩ = some (.int .i64 t405):=(blk_cell BK408.out 4).trans rfl
            have hcz26_5 : w15.cell? ⟨gb408,5,none⟩ = some (.int .i64 t406):=(blk_cell BK408.out 5).trans rfl
            have hfz26_0:=blk_frozen BK408.out 0
            have hfz26_1:=blk_frozen BK408.out 1
            have hfz26_2:=blk_frozen BK408.out 2
            have hfz26_3:=blk_frozen BK408.out 3
            have hfz26_4:=blk_frozen BK408.out 4
            have hfz26_5:=blk_frozen BK408.out 5
            go_wp2_with (first | (go_at_call 43;(with_reducible refine (row_Same.calls t413 t414 _ _ t415 t418 t419 t420 t399 t400 _ _ t401 t404 t405 t406 t423 _ ?side1 ?side2 ?side3 ?side4 A23.out).mono ?_);(case side1 => refine (Kd.R_reads' (e:=25) (base:=w.heap.size) (ok:=fun k_ => ((True ∧ some k_ ≠ (.slice Ao7 y396.length co7 : Value).ownBlock) ∧ some k_ ≠ (.slice Ao11 t401.length co11 : Value).ownBlock)) (n:=t415.length) (c:=co18) ?_).2.2;exact (by (with_reducible repeat (first | apply Kd.R_alloc | apply Kd.R_drewN | apply Kd.R_drew));exact (Kd.R_mono (Kd.R_far (p:=⟨gb422,5,none⟩) (Kd.R_far (p:=⟨gb422,4,none⟩) (Kd.R_far (p:=⟨gb422,3,none⟩) (Kd.R_far (p:=⟨gb422,2,none⟩) (Kd.R_far (p:=⟨gb422,1,none⟩) (Kd.R_far (p:=⟨gb422,0,none⟩) (Kd.R_types HO417.out BK422.out (by decide)) (fun _ hk => hk.2) (.float .f64 t413)) (fun _ hk => hk.2) (.bool t414)) (fun _ hk => hk.2) (.slice Ao18 t415.length co18)) (fun _ hk => hk.2) (.int .i64 t418)) (fun _ hk => hk.2) (.int .i64 t419)) (fun _ hk => hk.2) (.int .i64 t420)) (fun _ h_ => h_.1))));(case side2 => exact (Kd.R_reads' HO417.out).2.1);(case side3 => refine (Kd.R_reads' (e:=25) (base:=w.heap.size) (ok:=fun k_ => ((True ∧ some k_ ≠ (.slice Ao7 y396.length co7 : Value).ownBlock) ∧ some k_ ≠ (.slice Ao18 t415.length co18 : Value).ownBlock)) (n:=t401.length) (c:=co11) ?_).2.2;exact (by (with_reducible repeat (first | apply Kd.R_alloc | apply Kd.R_drewN | apply Kd.R_drew));exact (Kd.R_mono (Kd.R_far (p:=⟨gb422,5,none⟩) (Kd.R_far (p:=⟨gb422,4,none⟩) (Kd.R_far (p:=⟨gb422,3,none⟩) (Kd.R_far (p:=⟨gb422,2,none⟩) (Kd.R_far (p:=⟨gb422,1,none⟩) (Kd.R_far (p:=⟨gb422,0,none⟩) (Kd.R_types HO403.out BK422.out (by decide)) (fun _ hk => hk.2) (.float .f64 t413)) (fun _ hk => hk.2) (.bool t414)) (fun _ hk => hk.2) (.slice Ao18 t415.length co18)) (fun _ hk => hk.2) (.int .i64 t418)) (fun _ hk => hk.2) (.int .i64 t419)) (fun _ hk => hk.2) (.int .i64 t420)) (fun _ h_ => h_.1))));(case side4 => exact (Kd.R_reads' HO403.out).2.1);rintro e w27 ⟨rfl,hb⟩;have n0_:=Aside0.mk (Kd.R_below (by (with_reducible repeat (first | apply Kd.R_alloc | apply Kd.R_drewN | apply Kd.R_drew));exact (Kd.R_mono (Kd.R_far (p:=⟨gb422,5,none⟩) (Kd.R_far (p:=⟨gb422,4,none⟩) (Kd.R_far (p:=⟨gb422,3,none⟩) (Kd.R_far (p:=⟨gb422,2,none⟩) (Kd.R_far (p:=⟨gb422,1,none⟩) (Kd.R_far (p:=⟨gb422,0,none⟩) (Kd.R_types HO398.out BK422.out (by decide)) (fun _ hk => hk.2) (.float .f64 t413)) (fun _ hk => hk.2) (.bool t414)) (fun _ hk => hk.2) (.slice Ao18 t415.length co18)) (fun _ hk => hk.2) (.int .i64 t418)) (fun _ hk => hk.2) (.int .i64 t419)) (fun _ hk => hk.2) (.int .i64 t420)) (fun _ h_ => h_.1))) hb);have n1_:=Aside0.mk (Kd.R_below (by (with_reducible repeat (first | apply Kd.R_alloc | apply Kd.R_drewN | apply Kd.R_drew));exact (Kd.R_mono (Kd.R_far (p:=⟨gb422,5,none⟩) (Kd.R_far (p:=⟨gb422,4,none⟩) (Kd.R_far (p:=⟨gb422,3,none⟩) (Kd.R_far (p:=⟨gb422,2,none⟩) (Kd.R_far (p:=⟨gb422,1,none⟩) (Kd.R_far (p:=⟨gb422,0,none⟩) (Kd.R_types HO403.out BK422.out (by decide)) (fun _ hk => hk.2) (.float .f64 t413)) (fun _ hk => hk.2) (.bool t414)) (fun _ hk => hk.2) (.slice Ao18 t415.length co18)) (fun _ hk => hk.2) (.int .i64 t418)) (fun _ hk => hk.2) (.int .i64 t419)) (fun _ hk => hk.2) (.int .i64 t420)) (fun _ h_ => h_.1))) hb);have n2_:=Aside0.mk (Kd.R_below (by (with_reducible repeat (first | apply Kd.R_alloc | apply Kd.R_drewN | apply Kd.R_drew));exact (Kd.R_mono (Kd.R_far (p:=⟨gb422,5,none⟩) (Kd.R_far (p:=⟨gb422,4,none⟩) (Kd.R_far (p:=⟨gb422,3,none⟩) (Kd.R_far (p:=⟨gb422,2,none⟩) (Kd.R_far (p:=⟨gb422,1,none⟩) (Kd.R_far (p:=⟨gb422,0,none⟩) (Kd.R_types HO411.out BK422.out (by decide)) (fun _ hk => hk.2) (.float .f64 t413)) (fun _ hk => hk.2) (.bool t414)) (fun _ hk => hk.2) (.slice Ao18 t415.length co18)) (fun _ hk => hk.2) (.int .i64 t418)) (fun _ hk => hk.2) (.int .i64 t419)) (fun _ hk => hk.2) (.int .i64 t420)) (fun _ h_ => h_.1))) hb);have n3_:=Aside0.mk (Kd.R_below (by (with_reducible repeat (first | apply Kd.R_alloc | apply Kd.R_drewN | apply Kd.R_drew));exact (Kd.R_mono (Kd.R_far (p:=⟨gb422,5,none⟩) (Kd.R_far (p:=⟨gb422,4,none⟩) (Kd.R_far (p:=⟨gb422,3,none⟩) (Kd.R_far (p:=⟨gb422,2,none⟩) (Kd.R_far (p:=⟨gb422,1,none⟩) (Kd.R_far (p:=⟨gb422,0,none⟩) (Kd.R_types HO417.out BK422.out (by decide)) (fun _ hk => hk.2) (.float .f64 t413)) (fun _ hk => hk.2) (.bool t414)) (fun _ hk => hk.2) (.slice Ao18 t415.length co18)) (fun _ hk => hk.2) (.int .i64 t418)) (fun _ hk => hk.2) (.int .i64 t419)) (fun _ hk => hk.2) (.int .i64 t420)) (fun _ h_ => h_.1))) hb);have n4_:=Aside0.mk (blk_below (g:=gb408) (o:=.cells #[.float .f64 t399,.bool t400,.slice Ao11 t401.length co11,.int .i64 t404,.int .i64 t405,.int .i64 t406] 30 (0,0)) (by (with_reducible repeat (first | refine blk_drewN ?_ _ | refine blk_drew ?_ | refine blk_alloc ?_ _));refine blk_far ?_ NB408_422.out _;(with_reducible repeat (first | refine blk_drewN ?_ _ | refine blk_drew ?_ | refine blk_alloc ?_ _));refine blk_far ?_ NB408_422.out _;(with_reducible repeat (first | refine blk_drewN ?_ _ | refine blk_drew ?_ | refine blk_alloc ?_ _));refine blk_far ?_ NB408_422.out _;(with_reducible repeat (first | refine blk_drewN ?_ _ | refine blk_drew ?_ | refine blk_alloc ?_ _));refine blk_far ?_ NB408_422.out _;(with_reducible repeat (first | refine blk_drewN ?_ _ | refine blk_drew ?_ | refine blk_alloc ?_ _));refine blk_far ?_ NB408_422.out _;(with_reducible repeat (first | refine blk_drewN ?_ _ | refine blk_drew ?_ | refine blk_alloc ?_ _));refine blk_far ?_ NB408_422.out _;(with_reducible repeat (first | refine blk_drewN ?_ _ | refine blk_drew ?_ | refine blk_alloc ?_ _));exact BK408.out) hb);have n5_:=Aside0.mk (blk_below (g:=gb422) (o:=.cells #[.float .f64 t413,.bool t414,.slice Ao18 t415.length co18,.int .i64 t418,.int .i64 t419,.int .i64 t420] 30 (0,0)) (by (with_reducible repeat (first | refine blk_drewN ?_ _ | refine blk_drew ?_ | refine blk_alloc ?_ _));refine blk_put (cs:=#[.float .f64 t413,.bool t414,.slice Ao18 t415.length co18,.int .i64 t418,.int .i64 t419,.int .i64 0]) ?_ 5 _ rfl;(with_reducible repeat (first | refine blk_drewN ?_ _ | refine blk_drew ?_ | refine blk_alloc ?_ _));refine blk_put (cs:=#[.float .f64 t413,.bool t414,.slice Ao18 t415.length co18,.int .i64 t418,.int .i64 0,.int .i64 0]) ?_ 4 _ rfl;(with_reducible repeat (first | refine blk_drewN ?_ _ | refine blk_drew ?_ | refine blk_alloc ?_ _));refine blk_put (cs:=#[.float .f64 t413,.bool t414,.slice Ao18 t415.length co18,.int .i64 0,.int .i64 0,.int .i64 0]) ?_ 3 _ rfl;(with_reducible repeat (first | refine blk_drewN ?_ _ | refine blk_drew ?_ | refine blk_alloc ?_ _));refine blk_put (cs:=#[.float .f64 t413,.bool t414,.slice none 0 0,.int .i64 0,.int .i64 0,.int .i64 0]) ?_ 2 _ rfl;(with_reducible repeat (first | refine blk_drewN ?_ _ | refine blk_drew ?_ | refine blk_alloc ?_ _));refine blk_put (cs:=#[.float .f64 t413,.bool false,.slice none 0 0,.int .i64 0,.int .i64 0,.int .i64 0]) ?_ 1 _ rfl;(with_reducible repeat (first | refine blk_drewN ?_ _ | refine blk_drew ?_ | refine blk_alloc ?_ _));refine blk_put (cs:=#[.float .f64 0,.bool false,.slice none 0 0,.int .i64 0,.int .i64 0,.int .i64 0]) ?_ 0 _ rfl;(with_reducible repeat (first | refine blk_drewN ?_ _ | refine blk_drew ?_ | refine blk_alloc ?_ _));exact BK422.out) hb);have n6_:=Aside0.mk (below_step (by repeat (first | (with_reducible first | exact HB.out | apply below_alloc | apply pw_below_drewN | apply below_drew1 | refine below_set ?_ GE408.out | refine below_set ?_ GE422.out) | exact HB.out)) hb);clear HO398;clear HO403;clear HO411;clear HO417;clear BK408;clear BK422;clear HB;have HO398:=n0_;have HO403:=n1_;have HO411:=n2_;have HO417:=n3_;have BK408:=n4_;have BK422:=n5_;have HB:=n6_;clear n0_ n1_ n2_ n3_ n4_ n5_ n6_;(try clear hb);(try clear hb2);(try clear hk);(try clear hi)))
            go_meet
            case rel => exact ⟨_,(t423),(by first | rfl | (simp;done) | (simp [*];done)),H',⟨by first | omega | exact Nat.le_refl _⟩,⟨by (with_reducible repeat (first | apply Kd.R_alloc | apply Kd.R_drewN | apply Kd.R_drew));exact Kd.R_mono HO403.out (fun _ hk => hk.2)⟩,⟨by (with_reducible repeat (first | apply Kd.R_alloc | apply Kd.R_drewN | apply Kd.R_drew));exact Kd.R_mono HO417.out (fun _ hk => hk.2)⟩,⟨by (with_reducible repeat (first | refine blk_drewN ?_ _ | refine blk_drew ?_ | refine blk_alloc ?_ _));exact BK408.out⟩,⟨by (with_reducible repeat (first | refine blk_drewN ?_ _ | refine blk_drew ?_ | refine blk_alloc ?_ _));exact BK422.out⟩,⟨by repeat (first | (with_reducible first | exact HB.out | apply below_alloc | apply pw_below_drewN | apply below_drew1 | refine below_set ?_ GE408.out | refine below_set ?_ GE422.out) | exact HB.out)⟩⟩
          · rw [if_neg c22] at H
            have c22b0 : ((t409.length : Int) == 28) = false:=beq_eq_false_iff_ne.mpr c22
            have c22b1 : ((t409.length : Int) != 28) = true:=bne_iff_ne.mpr c22
            have H':=Aside0.mk H
            clear H
            go_wp2
            go_meet
            case rel => exact ⟨_,(false),(by first | rfl | (simp;done) | (simp [*];done)),H',⟨by first | omega | exact Nat.le_refl _⟩,⟨by (with_reducible repeat (first | apply Kd.R_alloc | apply Kd.R_drewN | apply Kd.R_drew));exact Kd.R_mono (Kd.R_far (p:=⟨gb422,5,none⟩) (Kd.R_far (p:=⟨gb422,4,none⟩) (Kd.R_far (p:=⟨gb422,3,none⟩) (Kd.R_far (p:=⟨gb422,2,none⟩) (Kd.R_far (p:=⟨gb422,1,none⟩) (Kd.R_far (p:=⟨gb422,0,none⟩) (Kd.R_types HO403.out BK422.out (by decide)) (fun _ hk => hk.2) (.float .f64 t413)) (fun _ hk => hk.2) (.bool t414)) (fun _ hk => hk.2) (.slice Ao18 t415.length co18)) (fun _ hk => hk.2) (.int .i64 t418)) (fun _ hk => hk.2) (.int .i64 t419)) (fun _ hk => hk.2) (.int .i64 t420)) (fun _ hk => hk.1.2)⟩,⟨by (with_reducible repeat (first | apply Kd.R_alloc | apply Kd.R_drewN | apply Kd.R_drew));exact Kd.R_mono (Kd.R_far (p:=⟨gb422,5,none⟩) (Kd.R_far (p:=⟨gb422,4,none⟩) (Kd.R_far (p:=⟨gb422,3,none⟩) (Kd.R_far (p:=⟨gb422,2,none⟩) (Kd.R_far (p:=⟨gb422,1,none⟩) (Kd.R_far (p:=⟨gb422,0,none⟩) (Kd.R_types HO417.out BK422.out (by decide)) (fun _ hk => hk.2) (.float .f64 t413)) (fun _ hk => hk.2) (.bool t414)) (fun _ hk => hk.2) (.slice Ao18 t415.length co18)) (fun _ hk => hk.2) (.int .i64 t418)) (fun _ hk => hk.2) (.int .i64 t419)) (fun _ hk => hk.2) (.int .i64 t420)) (fun _ hk => hk.1.2)⟩,⟨by (with_reducible repeat (first | refine blk_drewN ?_ _ | refine blk_drew ?_ | refine blk_alloc ?_ _));refine blk_far ?_ NB408_422.out _;(with_reducible repeat (first | refine blk_drewN ?_ _ | refine blk_drew ?_ | refine blk_alloc ?_ _));refine blk_far ?_ NB408_422.out _;(with_reducible repeat (first | refine blk_drewN ?_ _ | refine blk_drew ?_ | refine blk_alloc ?_ _));refine blk_far ?_ NB408_422.out _;(with_reducible repeat (first | refine blk_drewN ?_ _ | refine blk_drew ?_ | refine blk_alloc ?_ _));refine blk_far ?_ NB408_422.out _;(with_reducible repeat (first | refine blk_drewN ?_ _ | refine blk_drew ?_ | refine blk_alloc ?_ _));refine blk_far ?_ NB408_422.out _;(with_reducible repeat (first | refine blk_drewN ?_ _ | refine blk_drew ?_ | refine blk_alloc ?_ _));refine blk_far ?_ NB408_422.out _;(with_reducible repeat (first | refine blk_drewN ?_ _ | refine blk_drew ?_ | refine blk_alloc ?_ _));exact BK408.out⟩,⟨by (with_reducible repeat (first | refine blk_drewN ?_ _ | refine blk_drew ?_ | refine blk_alloc ?_ _));refine blk_put (cs:=#[.float .f64 t413,.bool t414,.slice Ao18 t415.length co18,.int .i64 t418,.int .i64 t419,.int .i64 0]) ?_ 5 _ rfl;(with_reducible repeat (first | refine blk_drewN ?_ _ | refine blk_drew ?_ | refine blk_alloc ?_ _));refine blk_put (cs:=#[.float .f64 t413,.bool t414,.slice Ao18 t415.length co18,.int .i64 t418,.int .i64 0,.int .i64 0]) ?_ 4 _ rfl;(with_reducible repeat (first | refine blk_drewN ?_ _ | refine blk_drew ?_ | refine blk_alloc ?_ _));refine blk_put (cs:=#[.float .f64 t413,.bool t414,.slice Ao18 t415.length co18,.int .i64 0,.int .i64 0,.int .i64 0]) ?_ 3 _ rfl;(with_reducible repeat (first | refine blk_drewN ?_ _ | refine blk_drew ?_ | refine blk_alloc ?_ _));refine blk_put (cs:=#[.float .f64 t413,.bool t414,.slice none 0 0,.int .i64 0,.int .i64 0,.int .i64 0]) ?_ 2 _ rfl;(with_reducible repeat (first | refine blk_drewN ?_ _ | refine blk_drew ?_ | refine blk_alloc ?_ _));refine blk_put (cs:=#[.float .f64 t413,.bool false,.slice none 0 0,.int .i64 0,.int .i64 0,.int .i64 0]) ?_ 1 _ rfl;(with_reducible repeat (first | refine blk_drewN ?_ _ | refine blk_drew ?_ | refine blk_alloc ?_ _));refine blk_put (cs:=#[.float .f64 0,.bool false,.slice none 0 0,.int .i64 0,.int .i64 0,.int .i64 0]) ?_ 0 _ rfl;(with_reducible repeat (first | refine blk_drewN ?_ _ | refine blk_drew ?_ | refine blk_alloc ?_ _));exact BK422.out⟩,⟨by repeat (first | (with_reducible first | exact HB.out | apply below_alloc | apply pw_below_drewN | apply below_drew1 | refine below_set ?_ GE408.out | refine below_set ?_ GE422.out) | exact HB.out)⟩⟩
        · rw [if_neg c21] at H
          have c21b0 : (t421 == 0) = false:=beq_eq_false_iff_ne.mpr c21
          have c21b1 : (t421 != 0) = true:=bne_iff_ne.mpr c21
          have H':=Aside0.mk H
          clear H
          go_wp2
          go_meet
          case rel => exact ⟨_,(false),(by first | rfl | (simp;done) | (simp [*];done)),H',⟨by first | omega | exact Nat.le_refl _⟩,⟨by (with_reducible repeat (first | apply Kd.R_alloc | apply Kd.R_drewN | apply Kd.R_drew));exact Kd.R_mono (Kd.R_far (p:=⟨gb422,5,none⟩) (Kd.R_far (p:=⟨gb422,4,none⟩) (Kd.R_far (p:=⟨gb422,3,none⟩) (Kd.R_far (p:=⟨gb422,2,none⟩) (Kd.R_far (p:=⟨gb422,1,none⟩) (Kd.R_far (p:=⟨gb422,0,none⟩) (Kd.R_types HO403.out BK422.out (by decide)) (fun _ hk => hk.2) (.float .f64 t413)) (fun _ hk => hk.2) (.bool t414)) (fun _ hk => hk.2) (.slice Ao18 t415.length co18)) (fun _ hk => hk.2) (.int .i64 t418)) (fun _ hk => hk.2) (.int .i64 t419)) (fun _ hk => hk.2) (.int .i64 t420)) (fun _ hk => hk.1.2)⟩,⟨by (with_reducible repeat (first | apply Kd.R_alloc | apply Kd.R_drewN | apply Kd.R_drew));exact Kd.R_mono (Kd.R_far (p:=⟨gb422,5,none⟩) (Kd.R_far (p:=⟨gb422,4,none⟩) (Kd.R_far (p:=⟨gb422,3,none⟩) (Kd.R_far (p:=⟨gb422,2,none⟩) (Kd.R_far (p:=⟨gb422,1,none⟩) (Kd.R_far (p:=⟨gb422,0,none⟩) (Kd.R_types HO417.out BK422.out (by decide)) (fun _ hk => hk.2) (.float .f64 t413)) (fun _ hk => hk.2) (.bool t414)) (fun _ hk => hk.2) (.slice Ao18 t415.length co18)) (fun _ hk => hk.2) (.int .i64 t418)) (fun _ hk => hk.2) (.int .i64 t419)) (fun _ hk => hk.2) (.int .i64 t420)) (fun _ hk => hk.1.2)⟩,⟨by (with_reducible repeat (first | refine blk_drewN ?_ _ | refine blk_drew ?_ | refine blk_alloc ?_ _));refine blk_far ?_ NB408_422.out _;(with_reducible repeat (first | refine blk_drewN ?_ _ | refine blk_drew ?_ | refine blk_alloc ?_ _));refine blk_far ?_ NB408_422.out _;(with_reducible repeat (first | refine blk_drewN ?_ _ | refine blk_drew ?_ | refine blk_alloc ?_ _));refine blk_far ?_ NB408_422.out _;(with_reducible repeat (first | refine blk_drewN ?_ _ | refine blk_drew ?_ | refine blk_alloc ?_ _));refine blk_far ?_ NB408_422.out _;(with_reducible repeat (first | refine blk_drewN ?_ _ | refine blk_drew ?_ | refine blk_alloc ?_ _));refine blk_far ?_ NB408_422.out _;(with_reducible repeat (first | refine blk_drewN ?_ _ | refine blk_drew ?_ | refine blk_alloc ?_ _));refine blk_far ?_ NB408_422.out _;(with_reducible repeat (first | refine blk_drewN ?_ _ | refine blk_drew ?_ | refine blk_alloc ?_ _));exact BK408.out⟩,⟨by (with_reducible repeat (first | refine blk_drewN ?_ _ | refine blk_drew ?_ | refine blk_alloc ?_ _));refine blk_put (cs:=#[.float .f64 t413,.bool t414,.slice Ao18 t415.length co18,.int .i64 t418,.int .i64 t419,.int .i64 0]) ?_ 5 _ rfl;(with_reducible repeat (first | refine blk_drewN ?_ _ | refine blk_drew ?_ | refine blk_alloc ?_ _));refine blk_put (cs:=#[.float .f64 t413,.bool t414,.slice Ao18 t415.length co18,.int .i64 t418,.int .i64 0,.int .i64 0]) ?_ 4 _ rfl;(with_reducible repeat (first | refine blk_drewN ?_ _ | refine blk_drew ?_ | refine blk_alloc ?_ _));refine blk_put (cs:=#[.float .f64 t413,.bool t414,.slice Ao18 t415.length co18,.int .i64 0,.int .i64 0,.int .i64 0]) ?_ 3 _ rfl;(with_reducible repeat (first | refine blk_drewN ?_ _ | refine blk_drew ?_ | refine blk_alloc ?_ _));refine blk_put (cs:=#[.float .f64 t413,.bool t414,.slice none 0 0,.int .i64 0,.int .i64 0,.int .i64 0]) ?_ 2 _ rfl;(with_reducible repeat (first | refine blk_drewN ?_ _ | refine blk_drew ?_ | refine blk_alloc ?_ _));refine blk_put (cs:=#[.float .f64 t413,.bool false,.slice none 0 0,.int .i64 0,.int .i64 0,.int .i64 0]) ?_ 1 _ rfl;(with_reducible repeat (first | refine blk_drewN ?_ _ | refine blk_drew ?_ | refine blk_alloc ?_ _));refine blk_put (cs:=#[.float .f64 0,.bool false,.slice none 0 0,.int .i64 0,.int .i64 0,.int .i64 0]) ?_ 0 _ rfl;(with_reducible repeat (first | refine blk_drewN ?_ _ | refine blk_drew ?_ | refine blk_alloc ?_ _));exact BK422.out⟩,⟨by repeat (first | (with_reducible first | exact HB.out | apply below_alloc | apply pw_below_drewN | apply below_drew1 | refine below_set ?_ GE408.out | refine below_set ?_ GE422.out) | exact HB.out)⟩⟩
      · rw [if_neg c20] at H
        have c20b0 : (t412 == 0) = false:=beq_eq_false_iff_ne.mpr c20
        have c20b1 : (t412 != 0) = true:=bne_iff_ne.mpr c20
        have H':=Aside0.mk H
        clear H
        go_wp2
        go_meet
        case rel => exact ⟨_,(false),(by first | rfl | (simp;done) | (simp [*];done)),H',⟨by first | omega | exact Nat.le_refl _⟩,⟨by (with_reducible repeat (first | apply Kd.R_alloc | apply Kd.R_drewN | apply Kd.R_drew));exact Kd.R_mono (Kd.R_far (p:=⟨gb422,5,none⟩) (Kd.R_far (p:=⟨gb422,4,none⟩) (Kd.R_far (p:=⟨gb422,3,none⟩) (Kd.R_far (p:=⟨gb422,2,none⟩) (Kd.R_far (p:=⟨gb422,1,none⟩) (Kd.R_far (p:=⟨gb422,0,none⟩) (Kd.R_types HO403.out BK422.out (by decide)) (fun _ hk => hk.2) (.float .f64 t413)) (fun _ hk => hk.2) (.bool t414)) (fun _ hk => hk.2) (.slice Ao18 t415.length co18)) (fun _ hk => hk.2) (.int .i64 t418)) (fun _ hk => hk.2) (.int .i64 t419)) (fun _ hk => hk.2) (.int .i64 t420)) (fun _ hk => hk.1.2)⟩,⟨by (with_reducible repeat (first | apply Kd.R_alloc | apply Kd.R_drewN | apply Kd.R_drew));exact Kd.R_mono (Kd.R_far (p:=⟨gb422,5,none⟩) (Kd.R_far (p:=⟨gb422,4,none⟩) (Kd.R_far (p:=⟨gb422,3,none⟩) (Kd.R_far (p:=⟨gb422,2,none⟩) (Kd.R_far (p:=⟨gb422,1,none⟩) (Kd.R_far (p:=⟨gb422,0,none⟩) (Kd.R_types HO417.out BK422.out (by decide)) (fun _ hk => hk.2) (.float .f64 t413)) (fun _ hk => hk.2) (.bool t414)) (fun _ hk => hk.2) (.slice Ao18 t415.length co18)) (fun _ hk => hk.2) (.int .i64 t418)) (fun _ hk => hk.2) (.int .i64 t419)) (fun _ hk => hk.2) (.int .i64 t420)) (fun _ hk => hk.1.2)⟩,⟨by (with_reducible repeat (first | refine blk_drewN ?_ _ | refine blk_drew ?_ | refine blk_alloc ?_ _));refine blk_far ?_ NB408_422.out _;(with_reducible repeat (first | refine blk_drewN ?_ _ | refine blk_drew ?_ | refine blk_alloc ?_ _));refine blk_far ?_ NB408_422.out _;(with_reducible repeat (first | refine blk_drewN ?_ _ | refine blk_drew ?_ | refine blk_alloc ?_ _));refine blk_far ?_ NB408_422.out _;(with_reducible repeat (first | refine blk_drewN ?_ _ | refine blk_drew ?_ | refine blk_alloc ?_ _));refine blk_far ?_ NB408_422.out _;(with_reducible repeat (first | refine blk_drewN ?_ _ | refine blk_drew ?_ | refine blk_alloc ?_ _));refine blk_far ?_ NB408_422.out _;(with_reducible repeat (first | refine blk_drewN ?_ _ | refine blk_drew ?_ | refine blk_alloc ?_ _));refine blk_far ?_ NB408_422.out _;(with_reducible repeat (first | refine blk_drewN ?_ _ | refine blk_drew ?_ | refine blk_alloc ?_ _));exact BK408.out⟩,⟨by (with_reducible repeat (first | refine blk_drewN ?_ _ | refine blk_drew ?_ | refine blk_alloc ?_ _));refine blk_put (cs:=#[.float .f64 t413,.bool t414,.slice Ao18 t415.length co18,.int .i64 t418,.int .i64 t419,.int .i64 0]) ?_ 5 _ rfl;(with_reducible repeat (first | refine blk_drewN ?_ _ | refine blk_drew ?_ | refine blk_alloc ?_ _));refine blk_put (cs:=#[.float .f64 t413,.bool t414,.slice Ao18 t415.length co18,.int .i64 t418,.int .i64 0,.int .i64 0]) ?_ 4 _ rfl;(with_reducible repeat (first | refine blk_drewN ?_ _ | refine blk_drew ?_ | refine blk_alloc ?_ _));refine blk_put (cs:=#[.float .f64 t413,.bool t414,.slice Ao18 t415.length co18,.int .i64 0,.int .i64 0,.int .i64 0]) ?_ 3 _ rfl;(with_reducible repeat (first | refine blk_drewN ?_ _ | refine blk_drew ?_ | refine blk_alloc ?_ _));refine blk_put (cs:=#[.float .f64 t413,.bool t414,.slice none 0 0,.int .i64 0,.int .i64 0,.int .i64 0]) ?_ 2 _ rfl;(with_reducible repeat (first | refine blk_drewN ?_ _ | refine blk_drew ?_ | refine blk_alloc ?_ _));refine blk_put (cs:=#[.float .f64 t413,.bool false,.slice none 0 0,.int .i64 0,.int .i64 0,.int .i64 0]) ?_ 1 _ rfl;(with_reducible repeat (first | refine blk_drewN ?_ _ | refine blk_drew ?_ | refine blk_alloc ?_ _));refine blk_put (cs:=#[.float .f64 0,.bool false,.slice none 0 0,.int .i64 0,.int .i64 0,.int .i64 0]) ?_ 0 _ rfl;(with_reducible repeat (first | refine blk_drewN ?_ _ | refine blk_drew ?_ | refine blk_alloc ?_ _));exact BK422.out⟩,⟨by repeat (first | (with_reducible first | exact HB.out | apply below_alloc | apply pw_below_drewN | apply below_drew1 | refine below_set ?_ GE408.out | refine below_set ?_ GE422.out) | exact HB.out)⟩⟩
    · rw [if_neg c19] at H
      have c19b0 : (t407 == 0) = false:=beq_eq_false_iff_ne.mpr c19
      have c19b1 : (t407 != 0) = true:=bne_iff_ne.mpr c19
      (first | rw [c19b0] | (simp only [i64_w,i32_w];rw [c19b0]) | skip)
      have H':=Aside0.mk H
      clear H
      go_wp2
      go_meet
      case rel => exact ⟨_,(false),(by first | rfl | (simp;done) | (simp [*];done)),H',⟨by first | omega | exact Nat.le_refl _⟩,⟨by (with_reducible repeat (first | apply Kd.R_alloc | apply Kd.R_drewN | apply Kd.R_drew));exact Kd.R_mono (Kd.R_far (p:=⟨gb422,5,none⟩) (Kd.R_far (p:=⟨gb422,4,none⟩) (Kd.R_far (p:=⟨gb422,3,none⟩) (Kd.R_far (p:=⟨gb422,2,none⟩) (Kd.R_far (p:=⟨gb422,1,none⟩) (Kd.R_far (p:=⟨gb422,0,none⟩) (Kd.R_types HO403.out BK422.out (by decide)) (fun _ hk => hk.2) (.float .f64 t413)) (fun _ hk => hk.2) (.bool t414)) (fun _ hk => hk.2) (.slice Ao18 t415.length co18)) (fun _ hk => hk.2) (.int .i64 t418)) (fun _ hk => hk.2) (.int .i64 t419)) (fun _ hk => hk.2) (.int .i64 t420)) (fun _ hk => hk.1.2)⟩,⟨by (with_reducible repeat (first | apply Kd.R_alloc | apply Kd.R_drewN | apply Kd.R_drew));exact Kd.R_mono (Kd.R_far (p:=⟨gb422,5,none⟩) (Kd.R_far (p:=⟨gb422,4,none⟩) (Kd.R_far (p:=⟨gb422,3,none⟩) (Kd.R_far (p:=⟨gb422,2,none⟩) (Kd.R_far (p:=⟨gb422,1,none⟩) (Kd.R_far (p:=⟨gb422,0,none⟩) (Kd.R_types HO417.out BK422.out (by decide)) (fun _ hk => hk.2) (.float .f64 t413)) (fun _ hk => hk.2) (.bool t414)) (fun _ hk => hk.2) (.slice Ao18 t415.length co18)) (fun _ hk => hk.2) (.int .i64 t418)) (fun _ hk => hk.2) (.int .i64 t419)) (fun _ hk => hk.2) (.int .i64 t420)) (fun _ hk => hk.1.2)⟩,⟨by (with_reducible repeat (first | refine blk_drewN ?_ _ | refine blk_drew ?_ | refine blk_alloc ?_ _));refine blk_far ?_ NB408_422.out _;(with_reducible repeat (first | refine blk_drewN ?_ _ | refine blk_drew ?_ | refine blk_alloc ?_ _));refine blk_far ?_ NB408_422.out _;(with_reducible repeat (first | refine blk_drewN ?_ _ | refine blk_drew ?_ | refine blk_alloc ?_ _));refine blk_far ?_ NB408_422.out _;(with_reducible repeat (first | refine blk_drewN ?_ _ | refine blk_drew ?_ | refine blk_alloc ?_ _));refine blk_far ?_ NB408_422.out _;(with_reducible repeat (first | refine blk_drewN ?_ _ | refine blk_drew ?_ | refine blk_alloc ?_ _));refine blk_far ?_ NB408_422.out _;(with_reducible repeat (first | refine blk_drewN ?_ _ | refine blk_drew ?_ | refine blk_alloc ?_ _));refine blk_far ?_ NB408_422.out _;(with_reducible repeat (first | refine blk_drewN ?_ _ | refine blk_drew ?_ | refine blk_alloc ?_ _));exact BK408.out⟩,⟨by (with_reducible repeat (first | refine blk_drewN ?_ _ | refine blk_drew ?_ | refine blk_alloc ?_ _));refine blk_put (cs:=#[.float .f64 t413,.bool t414,.slice Ao18 t415.length co18,.int .i64 t418,.int .i64 t419,.int .i64 0]) ?_ 5 _ rfl;(with_reducible repeat (first | refine blk_drewN ?_ _ | refine blk_drew ?_ | refine blk_alloc ?_ _));refine blk_put (cs:=#[.float .f64 t413,.bool t414,.slice Ao18 t415.length co18,.int .i64 t418,.int .i64 0,.int .i64 0]) ?_ 4 _ rfl;(with_reducible repeat (first | refine blk_drewN ?_ _ | refine blk_drew ?_ | refine blk_alloc ?_ _));refine blk_put (cs:=#[.float .f64 t413,.bool t414,.slice Ao18 t415.length co18,.int .i64 0,.int .i64 0,.int .i64 0]) ?_ 3 _ rfl;(with_reducible repeat (first | refine blk_drewN ?_ _ | refine blk_drew ?_ | refine blk_alloc ?_ _));refine blk_put (cs:=#[.float .f64 t413,.bool t414,.slice none 0 0,.int .i64 0,.int .i64 0,.int .i64 0]) ?_ 2 _ rfl;(with_reducible repeat (first | refine blk_drewN ?_ _ | refine blk_drew ?_ | refine blk_alloc ?_ _));refine blk_put (cs:=#[.float .f64 t413,.bool false,.slice none 0 0,.int .i64 0,.int .i64 0,.int .i64 0]) ?_ 1 _ rfl;(with_reducible repeat (first | refine blk_drewN ?_ _ | refine blk_drew ?_ | refine blk_alloc ?_ _));refine blk_put (cs:=#[.float .f64 0,.bool false,.slice none 0 0,.int .i64 0,.int .i64 0,.int .i64 0]) ?_ 0 _ rfl;(with_reducible repeat (first | refine blk_drewN ?_ _ | refine blk_drew ?_ | refine blk_alloc ?_ _));exact BK422.out⟩,⟨by repeat (first | (with_reducible first | exact HB.out | apply below_alloc | apply pw_below_drewN | apply below_drew1 | refine below_set ?_ GE408.out | refine below_set ?_ GE422.out) | exact HB.out)⟩⟩
  case rest =>
    clear HC4
    try clear c1
    try clear c2
    try clear p2
    try clear c3
    try clear c16
    try clear c19
    try clear c19b0
    try clear c19b1
    try clear c20
    try clear c20b0
    try clear c20b1
    try clear c21
    try clear c21b0
    try clear c21b1
    try clear c22
    try clear c22b0
    try clear c22b1
    try clear c24
    try clear hcz10_0
    try clear hcz10_1
    try clear hcz10_2
    try clear hcz10_3
    try clear hcz10_4
    try clear hcz10_5
    try clear hcz17_0
    try clear hcz17_1
    try clear hcz17_2
    try clear hcz17_3
    try clear hcz17_4
    try clear hcz17_5
    try clear hcz25_0
    try clear hcz25_1
    try clear hcz25_2
    try clear hcz25_3
    try clear hcz25_4
    try clear hcz25_5
    try clear hcz26_0
    try clear hcz26_1
    try clear hcz26_2
    try clear hcz26_3
    try clear hcz26_4
    try clear hcz26_5
    try clear hfz10_0
    try clear hfz10_1
    try clear hfz10_2
    try clear hfz10_3
    try clear hfz10_4
    try clear hfz10_5
    try clear hfz17_0
    try clear hfz17_1
    try clear hfz17_2
    try clear hfz17_3
    try clear hfz17_4
    try clear hfz17_5
    try clear hfz25_0
    try clear hfz25_1
    try clear hfz25_2
    try clear hfz25_3
    try clear hfz25_4
    try clear hfz25_5
    try clear hfz26_0
    try clear hfz26_1
    try clear hfz26_2
    try clear hfz26_3
    try clear hfz26_4
    try clear hfz26_5
    obtain ⟨kq,x0_3,rfl,HA,HJ3,HO_409002,HO_423002,BK408,BK422,HB⟩:=hcut
    cases kq with
    | zero => exact absurd HA.out (by simp [humuslaw04_awake.j0])
    | succ kj3 =>
      have H:=HA.out
      clear HA
      simp only [humuslaw04_awake.j0] at H
      obtain rfl:=Option.some.inj H
      go_wp2
      go_ret
      exact ⟨by first | rfl | (simp [errW_none,errW_some] <;> rfl) | (simp [*,errW_none,errW_some] <;> rfl),by repeat (first | (with_reducible first | exact HB.out | apply below_alloc | apply pw_below_drewN | apply below_drew1 | refine below_set ?_ GE408.out | refine below_set ?_ GE422.out) | exact HB.out)⟩
end Go.Proofs.Ytdcllbhkjcdnoaa.P
set_option linter.unusedVariables false
set_option linter.unusedSimpArgs false
namespace Go.Proofs.Ytdcllbhkjcdnoaa.P
open Go.RowKit Go.Proofs.Ytdcllbhkjcdnoaa Go.Proofs.Ytdcllbhkjcdnoaa.Mem Go.Proofs.Ytdcllbhkjcdnoaa.Pac Go.Proofs.YtdcllbhkjcdnoaaW.PrintWords Go.Proofs.YtdcllbhkjcdnoaaW.PrintLast Go.Proofs.YtdcllbhkjcdnoaaW.PrintMore
def headIt (ke : Nat) (d wr ce no n : Int) : List It := [⟨1, d, 0, ⟨#[]⟩⟩, ⟨4, 0, ke, ⟨#[]⟩⟩, ⟨3, wr, 0, ⟨#[]⟩⟩, ⟨2, ce, 0, ⟨#[]⟩⟩, ⟨3, no, 0, ⟨#[]⟩⟩, ⟨1, n, 0, ⟨#[]⟩⟩]
def colIt (co : List Nat) : List It := co.map (fun x => ⟨4, 0, x, ⟨#[]⟩⟩)
def dN (de : Bool) : Int := if de = true then 1 else 0
def rowIt (ke : Nat) (de : Bool) (co : List Nat) (wr ce no : Int) : List It := headIt ke (dN de) wr ce no (co.length : Int) ++ colIt co
theorem mem6 {α : Type} {P : α → Prop} {a b c d e f : α} (ha : P a) (hb : P b) (hc : P c) (hd : P d) (he : P e) (hf : P f) : ∀ x ∈ [a, b, c, d, e, f], P x := by
  intro x hx
  simp only [List.mem_cons, List.not_mem_nil, or_false] at hx
  rcases hx with rfl | rfl | rfl | rfl | rfl | rfl <;> assumption
theorem head_may {ke : Nat} {d wr ce no n : Int} (h1 : 0 ≤ d ∧ d < 256) (h2 : 0 ≤ wr ∧ wr ≤ 2147483647) (h3 : 0 ≤ ce ∧ ce < 65536) (h4 : 0 ≤ no ∧ no ≤ 2147483647) (h5 : 0 ≤ n ∧ n < 256) : ∀ a ∈ headIt ke d wr ce no n, may a = true := by
  refine mem6 ?_ ?_ ?_ ?_ ?_ ?_
  · rw [may_1, nil_str]; simp; exact h1
  · rw [may_4, nil_str]; rfl
  · rw [may_3, nil_str]; simp; omega
  · rw [may_2, nil_str]; simp; exact h3
  · rw [may_3, nil_str]; simp; omega
  · rw [may_1, nil_str]; simp; exact h5
theorem col_may (co : List Nat) : ∀ a ∈ colIt co, may a = true := by
  intro a ha
  obtain ⟨x, _, rfl⟩ := List.mem_map.1 ha
  rw [may_4, nil_str]; rfl
theorem dN_bd (de : Bool) : 0 ≤ dN de ∧ dN de < 256 := by cases de <;> decide
theorem rowIt_may {ke : Nat} {de : Bool} {co : List Nat} {wr ce no : Int} (h : mayRow ke de co wr ce no = true) : ∀ a ∈ rowIt ke de co wr ce no, may a = true := by
  obtain ⟨h1, h2, h3, h4, h5, h6, h7, h8⟩ := mayRow_iff.1 h
  intro a ha
  rcases List.mem_append.1 ha with ha | ha
  · exact head_may (dN_bd de) h5 h6 h7 (by omega) a ha
  · exact col_may co a ha
theorem rowIt_x {ke : Nat} {de : Bool} {co : List Nat} {wr ce no : Int} (hk : ke < 18446744073709551616) (hc : ∀ x ∈ co, x < 18446744073709551616) : ∀ a ∈ rowIt ke de co wr ce no, a.x < 18446744073709551616 := by
  intro a ha
  rcases List.mem_append.1 ha with ha | ha
  · exact mem6 (P := fun a => a.x < 18446744073709551616) (show 0 < 18446744073709551616 by decide) hk (show 0 < 18446744073709551616 by decide) (show 0 < 18446744073709551616 by decide) (show 0 < 18446744073709551616 by decide) (show 0 < 18446744073709551616 by decide) a ha
  · obtain ⟨x, hx, rfl⟩ := List.mem_map.1 ha
    exact hc x hx
theorem val_of_key {x : Nat} (h : x = Flt.key x) : Flt.val x = x := by
  unfold Flt.key at h
  split at h
  · subst h; exact val0
  · exact h.symm
theorem rowIt_norm {ke : Nat} {de : Bool} {co : List Nat} {wr ce no : Int} (h : mayRow ke de co wr ce no = true) : (rowIt ke de co wr ce no).map norm = rowIt ke de co wr ce no := by
  obtain ⟨h1, h2, h3, h4, h5, h6, h7, h8⟩ := mayRow_iff.1 h
  unfold rowIt
  rw [List.map_append]
  congr 1
  · unfold headIt norm
    simp only [List.map_cons, List.map_nil, val0, val_of_key h1]
  · unfold colIt
    rw [List.map_map]
    refine List.map_congr_left (fun x hx => ?_)
    have hv := of_decide_eq_true ((List.all_eq_true.1 h4) x hx)
    show (⟨4, 0, Flt.val x, ⟨#[]⟩⟩ : It) = _
    rw [← hv]
def headS (ke : Nat) (d wr ce no n : Int) : List SIt := [⟨1, d, 0, ⟨#[]⟩⟩, ⟨4, 0, ke, ⟨#[]⟩⟩, ⟨3, wr, 0, ⟨#[]⟩⟩, ⟨2, ce, 0, ⟨#[]⟩⟩, ⟨3, no, 0, ⟨#[]⟩⟩, ⟨1, n, 0, ⟨#[]⟩⟩]
def colS (co : List Nat) : List SIt := co.map (fun x => ⟨4, 0, x, ⟨#[]⟩⟩)
theorem rowS_it (ke : Nat) (de : Bool) (co : List Nat) (wr ce no : Int) : (headS ke (dN de) wr ce no (co.length : Int) ++ colS co).map itOf = rowIt ke de co wr ce no := by
  rw [List.map_append]
  unfold rowIt colS colIt
  rw [List.map_map]
  rfl
theorem bd_of {l : List SIt} (h : ∀ a ∈ l.map itOf, a.x < 18446744073709551616) : bdX l = true := by
  unfold bdX
  rw [List.all_eq_true]
  intro x hx
  exact decide_eq_true (h (itOf x) (List.mem_map.2 ⟨x, hx, rfl⟩))
theorem put_rows {l : List SIt} (hl : l.length ≤ 1000) (hm : ∀ a ∈ l.map itOf, may a = true) (hx : ∀ a ∈ l.map itOf, a.x < 18446744073709551616) : pack_Put.f l = some (ones (l.map itOf), 0) ∧ humusref03_Put.f l = some (ones (l.map itOf), true) := by
  have ha : (l.map itOf).all may = true := by rw [List.all_eq_true]; exact hm
  unfold pack_Put.f humusref03_Put.f
  have hb : l.length ≤ 1000 ∧ bdX l = true := ⟨hl, bd_of hx⟩
  rw [if_pos hb, if_pos hb, ha, if_pos rfl]
  exact ⟨rfl, rfl⟩
theorem colS_drop {co : List Nat} {i : Nat} (hi : i < co.length) : colS (co.drop i) = ⟨4, 0, rdF co i, ⟨#[]⟩⟩ :: colS (co.drop (i + 1)) := by
  rw [rdF_of (List.getElem?_eq_getElem hi), List.drop_eq_getElem_cons hi]
  rfl
theorem enc_l1 (co : List Nat) (hl : co.length ≤ 1000) (r : List Int × Int) : ∀ (d i k : Nat) (xs : List SIt), i + d = co.length → d < k → xs.length + d ≤ 2000 → pack_Put.f (xs ++ colS (co.drop i)) = some r → row_Encode.l1 k xs co (co.length : Int) (i : Int) = some r := by
  intro d
  induction d with
  | zero =>
    intro i k xs hi hk hx h
    obtain ⟨k, rfl⟩ : ∃ m, k = m + 1 := ⟨k - 1, by omega⟩
    obtain rfl : i = co.length := by omega
    simp only [row_Encode.l1]
    rw [if_neg (by omega)]
    rw [List.drop_length, show colS [] = [] from rfl, List.append_nil] at h
    rw [h]; rfl
  | succ d ih =>
    intro i k xs hi hk hx h
    obtain ⟨k, rfl⟩ : ∃ m, k = m + 1 := ⟨k - 1, by omega⟩
    simp only [row_Encode.l1]
    rw [if_pos (by omega), if_pos (by omega), if_pos (by omega), if_pos (by omega)]
    rw [show wrap64 ((i : Int) + 1) = ((i + 1 : Nat) : Int) by unfold wrap64; omega]
    rw [colS_drop (by omega), List.append_cons] at h
    exact ih (i + 1) k _ (by omega) (by omega) (by rw [List.length_append, List.length_singleton]; omega) h
theorem enc_l0 (k : Nat) (ke : Nat) (d wr ce no n : Int) (ke' : Nat) (de : Bool) (co : List Nat) (wr' ce' no' : Int) :
    row_Encode.l0 (k + 7) ([(⟨0, d, 0, (⟨#[]⟩ : ByteArray)⟩ : SIt), (⟨0, 0, ke, (⟨#[]⟩ : ByteArray)⟩ : SIt), (⟨0, wr, 0, (⟨#[]⟩ : ByteArray)⟩ : SIt), (⟨0, ce, 0, (⟨#[]⟩ : ByteArray)⟩ : SIt), (⟨0, no, 0, (⟨#[]⟩ : ByteArray)⟩ : SIt), (⟨0, n, 0, (⟨#[]⟩ : ByteArray)⟩ : SIt)] : List SIt) [1, 4, 3, 2, 3, 1] 6 0 ke' de co wr' ce' no' = row_Encode.l1 k (headS ke d wr ce no n) co (co.length : Int) 0 := by
  unfold headS
  have w0 : wrap64 1 = 1 := by unfold wrap64; omega
  have w1 : wrap64 2 = 2 := by unfold wrap64; omega
  have w2 : wrap64 3 = 3 := by unfold wrap64; omega
  have w3 : wrap64 4 = 4 := by unfold wrap64; omega
  have w4 : wrap64 5 = 5 := by unfold wrap64; omega
  have w5 : wrap64 6 = 6 := by unfold wrap64; omega
  simp [row_Encode.l0, w0, w1, w2, w3, w4, w5, rd, rd_T86]
theorem row_Encode_ev {k : Nat} {ke : Nat} {de : Bool} {co : List Nat} {wr ce no : Int} (hk : co.length + 20 ≤ k) (hl : co.length ≤ 900) (hx : ke < 18446744073709551616) (hc : ∀ x ∈ co, x < 18446744073709551616) :
    row_Encode.f k ke de co wr ce no = some (if mayRow ke de co wr ce no = true then (ones (rowIt ke de co wr ce no), 0) else ([], 1)) := by
  unfold row_Encode.f
  rw [row_Check_ev (by omega) (by omega)]
  simp only [Option.bind_some]
  by_cases hm : mayRow ke de co wr ce no = true
  · rw [if_pos hm, if_pos hm, if_pos rfl]
    have hlen : co.length ≤ 4 := (mayRow_iff.1 hm).2.1
    obtain ⟨k, rfl⟩ : ∃ m, k = m + 8 := ⟨k - 8, by omega⟩
    have hp := (put_rows (l := headS ke (dN de) wr ce no (co.length : Int) ++ colS co) (by rw [List.length_append]; show 6 + (co.map _).length ≤ 1000; rw [List.length_map]; omega) (by rw [rowS_it]; exact rowIt_may hm) (by rw [rowS_it]; exact rowIt_x hx hc)).1
    rw [rowS_it] at hp
    have hj : ∀ d, d = dN de → row_Encode.j0 (k + 8) d ke de co wr ce no = some (ones (rowIt ke de co wr ce no), 0) := by
      rintro d rfl
      simp only [row_Encode.j0, row_head.f, Option.bind_some]
      rw [show (([1, 4, 3, 2, 3, 1] : List Int).length : Int) = 6 from rfl, enc_l0]
      exact enc_l1 co (by omega) _ co.length 0 k _ (by omega) (by omega) (by show 6 + co.length ≤ 2000; omega) (by rw [List.drop_zero]; exact hp)
    cases de with
    | true => rw [if_pos rfl]; exact hj 1 rfl
    | false => rw [if_neg (by decide)]; exact hj 0 rfl
  · rw [if_neg hm, if_neg hm, if_neg (by decide)]
theorem byt_l0 (ke : Nat) (de : Bool) (co : List Nat) (wr ce no : Int) (hl : co.length ≤ 1000) (r : List Int × Bool) : ∀ (d i k : Nat) (xs : List SIt), i + d = co.length → d < k → xs.length + d ≤ 2000 → humusref03_Put.f (xs ++ colS (co.drop i)) = some r → humusref04_Bytes.l0 k xs (i : Int) ke de co wr ce no = some r.1 := by
  intro d
  induction d with
  | zero =>
    intro i k xs hi hk hx h
    obtain ⟨k, rfl⟩ : ∃ m, k = m + 1 := ⟨k - 1, by omega⟩
    obtain rfl : i = co.length := by omega
    simp only [humusref04_Bytes.l0]
    rw [if_neg (by omega)]
    rw [List.drop_length, show colS [] = [] from rfl, List.append_nil] at h
    rw [h]; rfl
  | succ d ih =>
    intro i k xs hi hk hx h
    obtain ⟨k, rfl⟩ : ∃ m, k = m + 1 := ⟨k - 1, by omega⟩
    simp only [humusref04_Bytes.l0]
    rw [if_pos (by omega), if_pos (by omega), if_pos (by omega)]
    rw [show wrap64 ((i : Int) + 1) = ((i + 1 : Nat) : Int) by unfold wrap64; omega]
    rw [colS_drop (by omega), List.append_cons] at h
    exact ih (i + 1) k _ (by omega) (by omega) (by rw [List.length_append, List.length_singleton]; omega) h
theorem Bytes04_ev {k : Nat} {ke : Nat} {de : Bool} {co : List Nat} {wr ce no : Int} (hk : co.length + 3 ≤ k) (hx : ke < 18446744073709551616) (hc : ∀ x ∈ co, x < 18446744073709551616) (hm : mayRow ke de co wr ce no = true) :
    humusref04_Bytes.f k ke de co wr ce no = some (ones (rowIt ke de co wr ce no)) := by
  unfold humusref04_Bytes.f
  have hlen : co.length ≤ 4 := (mayRow_iff.1 hm).2.1
  obtain ⟨k, rfl⟩ : ∃ m, k = m + 1 := ⟨k - 1, by omega⟩
  have hp := (put_rows (l := headS ke (dN de) wr ce no (co.length : Int) ++ colS co) (by rw [List.length_append]; show 6 + (co.map _).length ≤ 1000; rw [List.length_map]; omega) (by rw [rowS_it]; exact rowIt_may hm) (by rw [rowS_it]; exact rowIt_x hx hc)).2
  rw [rowS_it] at hp
  have hj : ∀ d, d = dN de → humusref04_Bytes.j0 (k + 1) d ke de co wr ce no = some (ones (rowIt ke de co wr ce no)) := by
    rintro d rfl
    simp only [humusref04_Bytes.j0]
    exact byt_l0 ke de co wr ce no (by omega) _ co.length 0 k (headS ke (dN de) wr ce no (co.length : Int)) (by omega) (by omega) (by show 6 + co.length ≤ 2000; omega) (by rw [List.drop_zero]; exact hp)
  cases de with
  | true => rw [if_pos rfl]; exact hj 1 rfl
  | false => rw [if_neg (by decide)]; exact hj 0 rfl
end Go.Proofs.Ytdcllbhkjcdnoaa.P
set_option linter.unusedVariables false
set_option linter.unusedSimpArgs false
namespace Go.Proofs.Ytdcllbhkjcdnoaa.P
open Go.RowKit Go.Proofs.Ytdcllbhkjcdnoaa Go.Proofs.Ytdcllbhkjcdnoaa.Mem Go.Proofs.Ytdcllbhkjcdnoaa.Pac Go.Proofs.YtdcllbhkjcdnoaaW.PrintWords Go.Proofs.YtdcllbhkjcdnoaaW.PrintLast Go.Proofs.YtdcllbhkjcdnoaaW.PrintMore
abbrev DecT := Nat × Bool × List Nat × Int × Int × Int × Int
def decErr : DecT := (0, false, [], 0, 0, 0, 4)
theorem dec_l0 (x0 : List Int) (x5 x6 x8 : Int) (xs : List SIt) (ke : Nat) (de : Bool) (wr ce no : Int) (hl : xs.length ≤ 900) : ∀ (d i k : Nat) (co : List Nat), i + d = xs.length → d + 3 < k → co.length + d ≤ 900 →
    row_Decode.l0 k x0 x5 x6 x8 xs (xs.length : Int) (i : Int) ke de co wr ce no = some (if x6 = 0 ∧ wrap64 (x5 + x8) = (x0.length : Int) ∧ mayRow ke de (co ++ (xs.drop i).map (·.f2)) wr ce no = true then (ke, de, co ++ (xs.drop i).map (·.f2), wr, ce, no, 0) else decErr) := by
  intro d
  induction d with
  | zero =>
    intro i k co hi hk hc
    obtain ⟨k, rfl⟩ : ∃ m, k = m + 1 := ⟨k - 1, by omega⟩
    obtain rfl : i = xs.length := by omega
    simp only [row_Decode.l0]
    rw [if_neg (by omega), List.drop_length, List.map_nil, List.append_nil]
    by_cases h6 : x6 = 0
    · rw [if_pos h6]
      by_cases h8 : wrap64 (x5 + x8) = (x0.length : Int)
      · rw [if_pos h8, row_Check_ev (by omega) (by omega)]
        simp only [Option.bind_some]
        by_cases hm : mayRow ke de co wr ce no = true
        · rw [if_pos hm, if_pos rfl, if_pos ⟨h6, h8, hm⟩]
        · rw [if_neg hm, if_neg (by decide), if_neg (fun h => hm h.2.2)]; rfl
      · rw [if_neg h8, if_neg (fun h => h8 h.2.1)]; rfl
    · rw [if_neg h6, if_neg (fun h => h6 h.1)]; rfl
  | succ d ih =>
    intro i k co hi hk hc
    obtain ⟨k, rfl⟩ : ∃ m, k = m + 1 := ⟨k - 1, by omega⟩
    have hlt : i < xs.length := by omega
    simp only [row_Decode.l0]
    rw [if_pos (by omega), if_pos (by omega), if_pos (by omega), if_pos (by omega)]
    rw [show wrap64 ((i : Int) + 1) = ((i + 1 : Nat) : Int) by unfold wrap64; omega]
    rw [ih (i + 1) k _ (by omega) (by omega) (by rw [List.length_append, List.length_singleton]; omega)]
    have e : co ++ [(rd_T86 xs (i : Int)).f2] ++ (xs.drop (i + 1)).map (·.f2) = co ++ (xs.drop i).map (·.f2) := by
      rw [List.drop_eq_getElem_cons hlt, List.map_cons, List.append_assoc]
      congr 1
      unfold rd_T86
      rw [Int.toNat_natCast, List.getD_eq_getElem?_getD, List.getElem?_eq_getElem hlt]; rfl
    rw [e]
theorem reps4 (m : Nat) : reps m [4] = List.replicate m 4 := by
  unfold reps
  induction m with
  | zero => rfl
  | succ m ih => rw [List.replicate_succ, List.flatten_cons, ih, List.replicate_succ]; rfl
theorem kinds_rep (m : Nat) : kindsOk (List.replicate m 4) = true := by
  unfold kindsOk
  rw [List.all_eq_true]
  intro x hx
  rw [List.eq_of_mem_replicate hx]; decide
theorem byB_drop {b : List Int} (h : byB b = true) (n : Nat) : byB (b.drop n) = true := byB_bytes.2 ((byB_bytes.1 h).drop n)
theorem fin_if {A : Type} {n m c : Nat} {P : Prop} [Decidable P] (x y : A) : (if (0 : Int) = 0 ∧ ((n + m : Nat) : Int) = (c : Int) ∧ P then x else y) = (if n + m = c ∧ P then x else y) := by
  by_cases h : n + m = c ∧ P
  · rw [if_pos h, if_pos ⟨rfl, by omega, h.2⟩]
  · rw [if_neg h, if_neg (fun h2 => h ⟨by omega, h2.2.2⟩)]
set_option maxHeartbeats 4000000 in
theorem dec_any {k : Nat} {b : List Int} (hk : 40 ≤ k) (hb : byB b = true) (hl : b.length ≤ 100000) :
    row_Decode.f k b = some (match takes b 0 [1, 4, 3, 2, 3, 1] with
      | some ([i0, i1, i2, i3, i4, i5], n) => if i0.n > 1 then decErr else if i5.n > 4 then decErr else
          (match takes (b.drop n) 0 (List.replicate i5.n.toNat 4) with
          | none => decErr
          | some (l2, m) => if n + m = b.length ∧ mayRow i1.x (i0.n == 1) (l2.map (·.x)) i2.n i3.n i4.n = true then (i1.x, (i0.n == 1), l2.map (·.x), i2.n, i3.n, i4.n, 0) else decErr)
      | _ => decErr) := by
  have hby := byB_bytes.1 hb
  obtain ⟨k, rfl⟩ : ∃ m, k = m + 2 := ⟨k - 2, by omega⟩
  unfold row_Decode.f row_head.f
  simp only [Option.bind_some]
  unfold pack_Take.f takeF
  rw [if_pos ⟨hb, by omega, by decide⟩]
  simp only [Option.bind_some]
  have hj : ∀ l n, row_Decode.j0 (k + 2) b l n true = some decErr := fun l n => by simp only [row_Decode.j0, if_true]; rfl
  unfold takeR
  rw [if_pos (show kindsOk [1, 4, 3, 2, 3, 1] = true by decide)]
  cases ht : takes b 0 [1, 4, 3, 2, 3, 1] with
  | none =>
    simp only
    rw [if_neg (by decide)]
    exact hj _ _
  | some p =>
    obtain ⟨l, n⟩ := p
    obtain ⟨t1, t2, t3, t4, t5, t6, t7⟩ := takes_spec hby _ _ _ _ (Nat.zero_le _) (by decide) ht
    have h6 : l.length = 6 := by rw [← List.length_map (f := (·.k)), t3]; rfl
    obtain ⟨i0, i1, i2, i3, i4, i5, rfl⟩ : ∃ a b c d e f, l = [a, b, c, d, e, f] := by
      match l, h6 with
      | [a, b, c, d, e, f], _ => exact ⟨a, b, c, d, e, f, rfl⟩
    simp only [List.map_cons, List.map_nil]
    rw [if_pos trivial]
    have r0 : rd_T86 [ofIt i0, ofIt i1, ofIt i2, ofIt i3, ofIt i4, ofIt i5] 0 = ofIt i0 := rfl
    have r1 : rd_T86 [ofIt i0, ofIt i1, ofIt i2, ofIt i3, ofIt i4, ofIt i5] 1 = ofIt i1 := rfl
    have r2 : rd_T86 [ofIt i0, ofIt i1, ofIt i2, ofIt i3, ofIt i4, ofIt i5] 2 = ofIt i2 := rfl
    have r3 : rd_T86 [ofIt i0, ofIt i1, ofIt i2, ofIt i3, ofIt i4, ofIt i5] 3 = ofIt i3 := rfl
    have r4 : rd_T86 [ofIt i0, ofIt i1, ofIt i2, ofIt i3, ofIt i4, ofIt i5] 4 = ofIt i4 := rfl
    have r5 : rd_T86 [ofIt i0, ofIt i1, ofIt i2, ofIt i3, ofIt i4, ofIt i5] 5 = ofIt i5 := rfl
    have hlen : (([ofIt i0, ofIt i1, ofIt i2, ofIt i3, ofIt i4, ofIt i5] : List SIt).length : Int) = 6 := rfl
    simp only [r0, r5, hlen]
    rw [if_pos (by decide)]
    have e0 : (ofIt i0).f1 = i0.n := rfl
    have e1 : (ofIt i1).f2 = i1.x := rfl
    have e2 : (ofIt i2).f1 = i2.n := rfl
    have e3 : (ofIt i3).f1 = i3.n := rfl
    have e4 : (ofIt i4).f1 = i4.n := rfl
    have e5 : (ofIt i5).f1 = i5.n := rfl
    rw [e0, e5]
    by_cases hn0 : i0.n > 1
    · rw [if_pos hn0, if_pos hn0]; exact hj _ _
    rw [if_neg hn0, if_neg hn0, if_pos (by decide)]
    by_cases hn5 : i5.n > 4
    · rw [if_pos hn5, decide_eq_true hn5]; exact hj _ _
    rw [if_neg hn5, decide_eq_false hn5]
    have hm5 : may i5 = true := t4 i5 (by simp)
    have hk5 : i5.k = 1 := by have := congrArg (fun z => z[5]?) t3; simpa using this
    have h5 := (form123 hm5 (.inl hk5)).2.1
    simp only [row_Decode.j0]
    rw [if_neg (by decide), if_pos (by omega), if_pos (by omega), if_pos (show (5 : Int) < (([ofIt i0, ofIt i1, ofIt i2, ofIt i3, ofIt i4, ofIt i5] : List SIt).length : Int) by rw [hlen]; decide)]
    unfold slices_Repeat_int_int.f
    simp only [r0, r1, r2, r3, r4, r5, e0, e1, e2, e3, e4, e5, hlen]
    rw [if_pos ⟨h5, by omega, by decide⟩]
    simp only [Option.bind_some]
    unfold pack_Take.f takeF
    rw [reps4]
    rw [if_pos ⟨byB_drop hb _, by rw [List.length_drop]; omega, by rw [List.length_replicate]; omega⟩]
    simp only [Option.bind_some]
    rw [if_pos (by decide), if_pos (by decide), if_pos (by decide), if_pos (by decide), if_pos (by decide)]
    unfold takeR
    rw [if_pos (kinds_rep _), Int.toNat_natCast]
    cases ht2 : takes (b.drop n) 0 (List.replicate i5.n.toNat 4) with
    | none =>
      simp only [List.map_nil]
      have := dec_l0 b (n : Int) 4 0 [] i1.x (i0.n == 1) i2.n i3.n i4.n (by decide) 0 0 (k + 1) [] rfl (by omega) (by decide)
      rw [if_neg (by intro h; exact absurd h.1 (by decide))] at this
      exact this
    | some q =>
      obtain ⟨l2, m⟩ := q
      have hs2 := takes_spec (hby.drop n) _ _ _ _ (Nat.zero_le _) (kinds_rep _) ht2
      have hl2 := takes_len (hby.drop n) (Nat.zero_le _) (kinds_rep _) ht2
      rw [List.length_replicate] at hl2
      simp only
      have := dec_l0 b (n : Int) 0 (m : Int) (l2.map ofIt) i1.x (i0.n == 1) i2.n i3.n i4.n (by rw [List.length_map]; omega) (l2.map ofIt).length 0 (k + 1) [] (by omega) (by rw [List.length_map]; omega) (by rw [List.length_map, List.length_nil]; omega)
      have ex : (l2.map ofIt).map (·.f2) = l2.map (·.x) := by rw [List.map_map]; rfl
      rw [List.drop_zero, List.nil_append, ex] at this
      rw [List.length_drop] at hs2
      have hw : wrap64 ((n : Int) + (m : Int)) = ((n + m : Nat) : Int) := by unfold wrap64; omega
      rw [hw] at this
      rw [fin_if] at this
      exact this
end Go.Proofs.Ytdcllbhkjcdnoaa.P
set_option linter.unusedVariables false
set_option linter.unusedSimpArgs false
namespace Go.Proofs.Ytdcllbhkjcdnoaa.P
open Go.RowKit Go.Proofs.Ytdcllbhkjcdnoaa Go.Proofs.Ytdcllbhkjcdnoaa.Mem Go.Proofs.Ytdcllbhkjcdnoaa.Pac Go.Proofs.YtdcllbhkjcdnoaaW.PrintWords Go.Proofs.YtdcllbhkjcdnoaaW.PrintLast Go.Proofs.YtdcllbhkjcdnoaaW.PrintMore
theorem colIt_k (co : List Nat) : (colIt co).map (·.k) = List.replicate co.length 4 := by
  unfold colIt
  rw [List.map_map]
  induction co with
  | nil => rfl
  | cons x co ih => rw [List.map_cons, ih, List.length_cons, List.replicate_succ]; rfl
theorem colIt_x (co : List Nat) : (colIt co).map (·.x) = co := by
  unfold colIt
  rw [List.map_map]
  conv => rhs; rw [← List.map_id co]
  rfl
theorem rowIt_parts {ke : Nat} {de : Bool} {co : List Nat} {wr ce no : Int} (h : mayRow ke de co wr ce no = true) :
    (headIt ke (dN de) wr ce no (co.length : Int)).map norm = headIt ke (dN de) wr ce no (co.length : Int) ∧ (colIt co).map norm = colIt co := by
  have := rowIt_norm h
  unfold rowIt at this
  rw [List.map_append] at this
  exact List.append_inj this (by rw [List.length_map])
theorem ones_byB {l : List It} (h : ∀ a ∈ l, may a = true) : byB (ones l) = true := byB_bytes.2 (ones_bytes h)
theorem dec_row {k : Nat} {ke : Nat} {de : Bool} {co : List Nat} {wr ce no : Int} (hk : 40 ≤ k) (hm : mayRow ke de co wr ce no = true) (hx : ke < 18446744073709551616) (hc : ∀ x ∈ co, x < 18446744073709551616) :
    row_Decode.f k (ones (rowIt ke de co wr ce no)) = some (ke, de, co, wr, ce, no, 0) := by
  have hmay := rowIt_may hm
  have hxx := rowIt_x (de := de) (wr := wr) (ce := ce) (no := no) hx hc
  have hlen : co.length ≤ 4 := (mayRow_iff.1 hm).2.1
  have hll : (ones (rowIt ke de co wr ce no)).length ≤ 100000 := by
    have := ones_length hmay
    have h2 : (rowIt ke de co wr ce no).length = 6 + co.length := by
      unfold rowIt colIt
      rw [List.length_append, List.length_map]; rfl
    omega
  rw [dec_any hk (ones_byB hmay) hll]
  obtain ⟨n1, n2⟩ := rowIt_parts hm
  have hH := takes_ones (headIt ke (dN de) wr ce no (co.length : Int)) (fun a ha => hmay a (List.mem_append.2 (.inl ha))) (fun a ha => hxx a (List.mem_append.2 (.inl ha))) [] (ones (colIt co))
  rw [n1, List.nil_append, List.length_nil, Nat.zero_add] at hH
  have hC := takes_ones (colIt co) (fun a ha => hmay a (List.mem_append.2 (.inr ha))) (fun a ha => hxx a (List.mem_append.2 (.inr ha))) [] []
  rw [n2, List.nil_append, List.append_nil, List.length_nil, Nat.zero_add, colIt_k] at hC
  have hb : ones (rowIt ke de co wr ce no) = ones (headIt ke (dN de) wr ce no (co.length : Int)) ++ ones (colIt co) := by unfold rowIt; rw [ones_append]
  rw [hb]
  have hk6 : (headIt ke (dN de) wr ce no (co.length : Int)).map (·.k) = [1, 4, 3, 2, 3, 1] := rfl
  rw [hk6] at hH
  rw [hH]
  have hd : (dN de == 1) = de := by cases de <;> rfl
  have hnot : ¬ (dN de > 1) := by cases de <;> decide
  congr 1
  unfold headIt
  simp only
  rw [if_neg hnot, if_neg (by omega), Int.toNat_natCast]
  rw [List.drop_left' rfl]
  rw [hC]
  simp only
  rw [hd, colIt_x, if_pos ⟨by rw [List.length_append], hm⟩]
end Go.Proofs.Ytdcllbhkjcdnoaa.P
set_option linter.unusedVariables false
set_option linter.unusedSimpArgs false
namespace Go.Proofs.Ytdcllbhkjcdnoaa.P
open Go.RowKit Go.Proofs.Ytdcllbhkjcdnoaa Go.Proofs.Ytdcllbhkjcdnoaa.Mem Go.Proofs.Ytdcllbhkjcdnoaa.Pac Go.Proofs.YtdcllbhkjcdnoaaW.PrintWords Go.Proofs.YtdcllbhkjcdnoaaW.PrintLast Go.Proofs.YtdcllbhkjcdnoaaW.PrintMore
theorem one1 (n : Int) : one ⟨1, n, 0, ⟨#[]⟩⟩ = [n % 256] := by
  show bigs n 1 = _
  simp [bigs]
theorem head19 (ke : Nat) (d wr ce no n : Int) : ∃ pre : List Int, ones (headIt ke d wr ce no n) = pre ++ [n % 256] ∧ pre.length = 19 := by
  refine ⟨one ⟨1, d, 0, ⟨#[]⟩⟩ ++ (one ⟨4, 0, ke, ⟨#[]⟩⟩ ++ (one ⟨3, wr, 0, ⟨#[]⟩⟩ ++ (one ⟨2, ce, 0, ⟨#[]⟩⟩ ++ one ⟨3, no, 0, ⟨#[]⟩⟩))), ?_, ?_⟩
  · unfold headIt ones
    simp only [List.flatMap_cons, List.flatMap_nil, List.append_nil, List.append_assoc]
    rw [one1 n]
  · have h1 : (one ⟨1, d, 0, ⟨#[]⟩⟩).length = 1 := bigs_length _ _
    have h2 : (one ⟨4, 0, ke, ⟨#[]⟩⟩).length = 8 := bigs_length _ _
    have h3 : ∀ z, (one ⟨3, z, 0, ⟨#[]⟩⟩).length = 4 := fun z => bigs_length _ _
    have h4 : (one ⟨2, ce, 0, ⟨#[]⟩⟩).length = 2 := bigs_length _ _
    simp only [List.length_append, h1, h2, h3, h4]
theorem colIt_len (co : List Nat) : (ones (colIt co)).length = 8 * co.length := by
  unfold colIt ones
  induction co with
  | nil => rfl
  | cons x co ih =>
    rw [List.map_cons, List.flatMap_cons, List.length_append, ih]
    have : (one ⟨4, 0, x, ⟨#[]⟩⟩).length = 8 := bigs_length _ _
    rw [this, List.length_cons]; omega
theorem rowIt_len (ke : Nat) (de : Bool) (co : List Nat) (wr ce no : Int) : (ones (rowIt ke de co wr ce no)).length = 20 + 8 * co.length := by
  unfold rowIt
  obtain ⟨pre, h1, h2⟩ := head19 ke (dN de) wr ce no (co.length : Int)
  rw [ones_append, List.length_append, h1, List.length_append, h2, colIt_len]; rfl
theorem of_l0 (co : List Nat) (hl : co.length ≤ 900) (ke : Nat) (de : Bool) (wr ce no : Int) : ∀ (d i k : Nat) (xs : List Nat), i + d = co.length → d < k → xs.length + d ≤ 900 →
    row_Of.l0 k co (co.length : Int) (i : Int) ke de xs wr ce no = some (ke, de, xs ++ (co.drop i).map Flt.val, wr, ce, no, 0) := by
  intro d
  induction d with
  | zero =>
    intro i k xs hi hk hx
    obtain ⟨k, rfl⟩ : ∃ m, k = m + 1 := ⟨k - 1, by omega⟩
    obtain rfl : i = co.length := by omega
    simp only [row_Of.l0]
    rw [if_neg (by omega), List.drop_length, List.map_nil, List.append_nil]
  | succ d ih =>
    intro i k xs hi hk hx
    obtain ⟨k, rfl⟩ : ∃ m, k = m + 1 := ⟨k - 1, by omega⟩
    have hlt : i < co.length := by omega
    simp only [row_Of.l0, num_Value.f, Option.bind_some]
    rw [if_pos (by omega), if_pos (by omega), if_pos (by omega), if_pos (by omega)]
    rw [show wrap64 ((i : Int) + 1) = ((i + 1 : Nat) : Int) by unfold wrap64; omega]
    rw [ih (i + 1) k _ (by omega) (by omega) (by rw [List.length_append, List.length_singleton]; omega)]
    rw [rdF_of (List.getElem?_eq_getElem hlt), List.drop_eq_getElem_cons hlt, List.map_cons, List.append_assoc]; rfl
theorem row_Of_ev {k : Nat} {ke : Nat} {co : List Nat} (hk : 10 ≤ k) : row_Of.f k ke co = some (if co.length > 4 then (0, false, [], 0, 0, 0, 1) else (Flt.key ke, false, co.map Flt.val, 0, 0, 0, 0)) := by
  unfold row_Of.f num_Key.f
  by_cases h : co.length > 4
  · rw [if_pos (by omega), if_pos h]
  · rw [if_neg (by omega), if_neg h]
    simp only [Option.bind_some]
    have := of_l0 co (by omega) (Flt.key ke) false 0 0 0 co.length 0 k [] (by omega) (by omega) (by rw [List.length_nil]; omega)
    rw [List.drop_zero, List.nil_append] at this
    exact this
theorem awake04_ev {k : Nat} (hk : 60 ≤ k) : humuslaw04_awake.f k = some true := by
  have hm : mayRow 4611686018427387904 false [4619567317775286272] 0 0 0 = true := by kernel_rfl
  have hkey : Flt.key 4611686018427387904 = 4611686018427387904 := by kernel_rfl
  have hval : Flt.val 4619567317775286272 = 4619567317775286272 := by kernel_rfl
  have hc : ∀ x ∈ [4619567317775286272], x < 18446744073709551616 := by intro x hx; rw [List.mem_singleton.1 hx]; decide
  unfold humuslaw04_awake.f
  rw [row_Of_ev (by omega), if_neg (by decide), hkey]
  simp only [Option.bind_some, List.map_cons, List.map_nil, hval]
  rw [row_Encode_ev (by show 1 + 20 ≤ k; omega) (by decide) (by decide) hc, if_pos hm]
  simp only [Option.bind_some]
  rw [dec_row (by omega) hm (by decide) hc]
  simp only [Option.bind_some]
  rw [if_pos trivial, if_pos trivial, if_pos trivial, rowIt_len, if_pos (by decide), row_Same_ev (by decide), sameRow_self]
  obtain ⟨m, rfl⟩ : ∃ m, k = m + 1 := ⟨k - 1, by omega⟩
  rfl
end Go.Proofs.Ytdcllbhkjcdnoaa.P
