/- Put together by wip/prune.py out of this claim's texts. -/
import Derived.Test.YtbmcbhpkefjhbaaMTableCounts5
import Derived.Test.YtbmcbhpkefjhbaaMTableCounts8
import Derived.Test.YtbmcbhpkefjhbaaMTableCounts9
import Derived.Test.YtbmcbhpkefjhbaaMTableCounts10
namespace Go.Proofs.Ytbmcbhpkefjhbaa.P
open Go.RowKit Go.Proofs.YtbmcbhpkefjhbaaW.PrintWords Go.Proofs.YtbmcbhpkefjhbaaW.PrintLast Go.Proofs.YtbmcbhpkefjhbaaW.PrintMore
attribute [local go_sem] max2_int min2_int max_two min_two max_three min_three max_four min_four   -- for this text's walks alone
attribute [local go_sem] run_store_float
set_option linter.unusedVariables false
set_option linter.unusedSimpArgs false
def humuslaw11_awake.j0 : Nat → Bool → Option (Bool)
 | 0,_ => none
 | k + 1,x0 => some x0
def humuslaw11_awake.f (k : Nat)  : Option (Bool):=(table_First.f).bind fun bt183 => ((table_Enter.f k bt183.1 bt183.2.1 bt183.2.2.1 bt183.2.2.2 5).bind fun bt189 => ((table_Commit.f k bt189.1 bt189.2.1 bt189.2.2.1 bt189.2.2.2.1 5).bind fun bt198 => (if bt189.2.2.2.2.2 = 0 then (if bt198.2.2.2.2.2 = 0 then (if bt189.2.2.2.2.1 = 0 then (if bt198.2.2.2.2.1 = 1 then (if bt198.1 = 6 then ((table_Eldest.f k bt198.1 bt198.2.1 bt198.2.2.1 bt198.2.2.2.1).bind fun t206 => (humuslaw11_awake.j0 k (t206 == 5))) else (humuslaw11_awake.j0 k false)) else (humuslaw11_awake.j0 k false)) else (humuslaw11_awake.j0 k false)) else (humuslaw11_awake.j0 k false)) else (humuslaw11_awake.j0 k false))))
theorem humuslaw11_awake.mono_l : ∀ k,(∀ y0,LeO (humuslaw11_awake.j0 k y0) (humuslaw11_awake.j0 (k + 1) y0))
 | 0 => fun _ r h => by simp [humuslaw11_awake.j0] at h
 | k + 1 => by
  have ih0:=humuslaw11_awake.mono_l k
  ·intro y0
   unfold humuslaw11_awake.j0
   repeat' first
   | (with_reducible exact ih0 _)
   | (with_reducible exact table_Commit.mono _ _ _ _ _ _)
   | (with_reducible exact table_Eldest.mono _ _ _ _ _)
   | (with_reducible exact table_Enter.mono _ _ _ _ _ _)
   | (with_reducible exact LeO.refl _)
   | (with_reducible exact LeO.none _)
   | (with_reducible refine LeO.ite ?_ ?_)
   | (with_reducible refine LeO.bind ?_ (fun _ => ?_))
   | exact ih0 _
   | exact table_Commit.mono _ _ _ _ _ _
   | exact table_Eldest.mono _ _ _ _ _
   | exact table_Enter.mono _ _ _ _ _ _
   | exact LeO.none _
   | refine LeO.ite ?_ ?_
   | refine LeO.bind ?_ (fun _ => ?_)
theorem humuslaw11_awake.mono : ∀ k,LeO (humuslaw11_awake.f k ) (humuslaw11_awake.f (k + 1) ):=by
 intro  k
 have ih0:=humuslaw11_awake.mono_l k
 unfold humuslaw11_awake.f
 repeat' first
   | (with_reducible exact ih0 _)
   | (with_reducible exact table_Commit.mono _ _ _ _ _ _)
   | (with_reducible exact table_Eldest.mono _ _ _ _ _)
   | (with_reducible exact table_Enter.mono _ _ _ _ _ _)
   | (with_reducible exact LeO.refl _)
   | (with_reducible exact LeO.none _)
   | (with_reducible refine LeO.ite ?_ ?_)
   | (with_reducible refine LeO.bind ?_ (fun _ => ?_))
   | exact ih0 _
   | exact table_Commit.mono _ _ _ _ _ _
   | exact table_Eldest.mono _ _ _ _ _
   | exact table_Enter.mono _ _ _ _ _ _
   | exact LeO.none _
   | refine LeO.ite ?_ ?_
   | refine LeO.bind ?_ (fun _ => ?_)
set_option maxHeartbeats 8000000 in
set_option maxRecDepth 100000 in
theorem humuslaw11_awake.calls (k : Nat)  (r : Bool) (w : World) (h : humuslaw11_awake.f k  = some r) :
  Calls Try.prog 39 #[] w fun e w' => e = .returned (.bool r) ∧ Below w.heap.size w w':=by
 have hu69:=Try.underlying69
 have HB:=Aside0.mk (Below.refl w.heap.size w)
 have H : ((table_First.f).bind fun bt183 => ((table_Enter.f k bt183.1 bt183.2.1 bt183.2.2.1 bt183.2.2.2 5).bind fun bt189 => ((table_Commit.f k bt189.1 bt189.2.1 bt189.2.2.1 bt189.2.2.2.1 5).bind fun bt198 => (if bt189.2.2.2.2.2 = 0 then (if bt198.2.2.2.2.2 = 0 then (if bt189.2.2.2.2.1 = 0 then (if bt198.2.2.2.2.1 = 1 then (if bt198.1 = 6 then ((table_Eldest.f k bt198.1 bt198.2.1 bt198.2.2.1 bt198.2.2.2.1).bind fun t206 => (humuslaw11_awake.j0 k (t206 == 5))) else (humuslaw11_awake.j0 k false)) else (humuslaw11_awake.j0 k false)) else (humuslaw11_awake.j0 k false)) else (humuslaw11_awake.j0 k false)) else (humuslaw11_awake.j0 k false))))) = some r:=h
 clear h
 replace H:=Option.bind_eq_some_iff.mp H
 obtain ⟨⟨t183,t184,t185,t186⟩,A10,H⟩:=H
 replace H : ((table_Enter.f k t183 t184 t185 t186 5).bind fun bt189 => ((table_Commit.f k bt189.1 bt189.2.1 bt189.2.2.1 bt189.2.2.2.1 5).bind fun bt198 => (if bt189.2.2.2.2.2 = 0 then (if bt198.2.2.2.2.2 = 0 then (if bt189.2.2.2.2.1 = 0 then (if bt198.2.2.2.2.1 = 1 then (if bt198.1 = 6 then ((table_Eldest.f k bt198.1 bt198.2.1 bt198.2.2.1 bt198.2.2.2.1).bind fun t206 => (humuslaw11_awake.j0 k (t206 == 5))) else (humuslaw11_awake.j0 k false)) else (humuslaw11_awake.j0 k false)) else (humuslaw11_awake.j0 k false)) else (humuslaw11_awake.j0 k false)) else (humuslaw11_awake.j0 k false)))) = some r:=H
 have A1:=Aside0.mk A10
 clear A10
 replace H:=Option.bind_eq_some_iff.mp H
 obtain ⟨⟨t189,t190,t191,t192,t195,t196⟩,A20,H⟩:=H
 replace H : ((table_Commit.f k t189 t190 t191 t192 5).bind fun bt198 => (if t196 = 0 then (if bt198.2.2.2.2.2 = 0 then (if t195 = 0 then (if bt198.2.2.2.2.1 = 1 then (if bt198.1 = 6 then ((table_Eldest.f k bt198.1 bt198.2.1 bt198.2.2.1 bt198.2.2.2.1).bind fun t206 => (humuslaw11_awake.j0 k (t206 == 5))) else (humuslaw11_awake.j0 k false)) else (humuslaw11_awake.j0 k false)) else (humuslaw11_awake.j0 k false)) else (humuslaw11_awake.j0 k false)) else (humuslaw11_awake.j0 k false))) = some r:=H
 have A2:=Aside0.mk A20
 clear A20
 replace H:=Option.bind_eq_some_iff.mp H
 obtain ⟨⟨t198,t199,t200,t201,t204,t205⟩,A30,H⟩:=H
 replace H : (if t196 = 0 then (if t205 = 0 then (if t195 = 0 then (if t204 = 1 then (if t198 = 6 then ((table_Eldest.f k t198 t199 t200 t201).bind fun t206 => (humuslaw11_awake.j0 k (t206 == 5))) else (humuslaw11_awake.j0 k false)) else (humuslaw11_awake.j0 k false)) else (humuslaw11_awake.j0 k false)) else (humuslaw11_awake.j0 k false)) else (humuslaw11_awake.j0 k false)) = some r:=H
 have A3:=Aside0.mk A30
 clear A30
 have HC4:=Aside0.mk H
 clear H
 go_enter Try.func39,Try.ntmps39
 go_upto_region 3 with (first | ((with_reducible refine gate_callee (f:=36) rfl ?_);refine goesL_ (some 7) rfl rfl Try.func36 (by kernel_rfl) rfl #[] rfl (by (try simp only [List.map_toArray,List.map_cons,List.map_nil]);first | done | rfl | (simp only [List.length_drop,List.length_take];rfl)) ?_;(with_reducible refine (table_First.calls  t183 t184 t185 t186 _ A1.out).mono ?_);rintro e w5 ⟨v187,rfl,ho0,hb⟩;refine ⟨_,rfl,?_⟩;have n0_:=Aside0.mk (Kd.R_lower ho0 (below_size (by repeat (first | (with_reducible first | exact HB.out | apply below_alloc | apply pw_below_drewN | apply below_drew1) | exact HB.out))));have n1_:=Aside0.mk (below_step (by repeat (first | (with_reducible first | exact HB.out | apply below_alloc | apply pw_below_drewN | apply below_drew1) | exact HB.out)) hb);clear HB;have HO188:=n0_;have HB:=n1_;clear n0_ n1_;(try clear hb);(try clear hb2);(try clear hk);(try clear hi);(try clear ho0);obtain ⟨Ao6,co6,eo6⟩:=Kd.R_slice HO188.out;subst eo6) | ((with_reducible refine gate_callee (f:=37) rfl ?_);refine goesL_ (some 8) rfl rfl Try.func37 (by kernel_rfl) rfl #[.agg #[.int .i64 t183,.int .i64 t184,.int .i64 t185,.slice Ao6 t186.length co6],.int .i64 5] rfl (by (try simp only [List.map_toArray,List.map_cons,List.map_nil]);first | done | rfl | (simp only [List.length_drop,List.length_take];rfl)) ?_;(with_reducible refine (table_Enter.calls k t183 t184 t185 _ _ t186 5 t189 t190 t191 t192 t195 t196 _ ?side1 ?side2 A2.out).mono ?_);(case side1 => repeat (first | exact (Kd.R_reads' HO188.out).2.2 | (with_reducible refine Kd.C_alloc ?_ _) | (with_reducible refine Kd.C_drewN ?_ _) | (with_reducible refine Kd.C_drew ?_)));(case side2 => exact (Kd.R_reads' HO188.out).2.1);rintro e w7 ⟨v193,rfl,ho0,hb⟩;refine ⟨_,rfl,?_⟩;have n0_:=Aside0.mk (Kd.R_elder' (by (with_reducible repeat (first | apply Kd.R_alloc | apply Kd.R_drewN | apply Kd.R_drew));exact HO188.out) (Kd.R_base ho0) hb);have n1_:=Aside0.mk (Kd.R_lower (Kd.R_new' ho0 (Kd.R_lt (by (with_reducible repeat (first | apply Kd.R_alloc | apply Kd.R_drewN | apply Kd.R_drew));exact HO188.out))) (below_size (by repeat (first | (with_reducible first | exact HB.out | apply below_alloc | apply pw_below_drewN | apply below_drew1) | exact HB.out))));have n2_:=Aside0.mk (below_step (by repeat (first | (with_reducible first | exact HB.out | apply below_alloc | apply pw_below_drewN | apply below_drew1) | exact HB.out)) hb);clear HO188;clear HB;have HO188:=n0_;have HO194:=n1_;have HB:=n2_;clear n0_ n1_ n2_;(try clear hb);(try clear hb2);(try clear hk);(try clear hi);(try clear ho0)) | ((with_reducible refine gate_dst (N:=1) rfl ?_);refine box_event ?hg (N:=1) ?hd (cs:=#[.int .i64 0,.int .i64 0,.int .i64 0,.slice none 0 0]) (t:=69) ?hr ?_;(case hd => rfl);(case hg => rfl);(case hr => first | (go_simp;done) | (go_simp;rfl));intro gb197 hg w8 hbox hb;have n0_:=Aside0.mk (Kd.R_below (by (with_reducible repeat (first | apply Kd.R_alloc | apply Kd.R_drewN | apply Kd.R_drew));exact HO188.out) hb);have n1_:=Aside0.mk (Kd.R_below (by (with_reducible repeat (first | apply Kd.R_alloc | apply Kd.R_drewN | apply Kd.R_drew));exact HO194.out) hb);have n2_:=Aside0.mk (below_step (by repeat (first | (with_reducible first | exact HB.out | apply below_alloc | apply pw_below_drewN | apply below_drew1) | exact HB.out)) hb);have n3_:=Aside0.mk (hbox);have n4_:=Aside0.mk ((by rw [hg];exact (below_size (by repeat (first | (with_reducible first | exact HB.out | apply below_alloc | apply pw_below_drewN | apply below_drew1) | exact HB.out))) : w.heap.size ≤ gb197));have n5_:=Aside0.mk ((by rw [hg];exact (below_size (by repeat (first | (with_reducible first | exact HB.out | apply below_alloc | apply pw_below_drewN | apply below_drew1) | exact HB.out))) : w.heap.size ≤ gb197));clear HO188;clear HO194;clear HB;have HO188:=n0_;have HO194:=n1_;have HB:=n2_;have BK197:=n3_;have GW197:=n4_;have GE197:=n5_;clear n0_ n1_ n2_ n3_ n4_ n5_;clear hb hbox hg;obtain ⟨hcz9_0,hcz9_1,hcz9_2,hcz9_3⟩:=blkc_4 BK197.out;obtain ⟨hfz9_0,hfz9_1,hfz9_2,hfz9_3⟩:=blkz_4 BK197.out;obtain ⟨Ao10,co10,eo10⟩:=Kd.R_slice HO194.out;subst eo10) | ((with_reducible refine gate_callee (f:=41) rfl ?_);refine goesL_ (some 14) rfl rfl Try.func41 (by kernel_rfl) rfl #[.agg #[.int .i64 t189,.int .i64 t190,.int .i64 t191,.slice Ao10 t192.length co10],.int .i64 5] rfl (by (try simp only [List.map_toArray,List.map_cons,List.map_nil]);first | done | rfl | (simp only [List.length_drop,List.length_take];rfl)) ?_;(with_reducible refine (table_Commit.calls k t189 t190 t191 _ _ t192 5 t198 t199 t200 t201 t204 t205 _ ?side1 ?side2 A3.out).mono ?_);(case side1 => refine (Kd.R_reads' (e:=112) (base:=w.heap.size) (ok:=fun k_ => (True ∧ some k_ ≠ (.slice Ao6 t186.length co6 : Value).ownBlock)) (n:=t192.length) (c:=co10) ?_).2.2;exact (by (with_reducible repeat (first | apply Kd.R_alloc | apply Kd.R_drewN | apply Kd.R_drew));exact (Kd.R_mono (Kd.R_far (p:=⟨gb197,3,none⟩) (Kd.R_far (p:=⟨gb197,2,none⟩) (Kd.R_far (p:=⟨gb197,1,none⟩) (Kd.R_far (p:=⟨gb197,0,none⟩) (Kd.R_types HO194.out BK197.out (by decide)) (fun _ hk => hk.2) (.int .i64 t189)) (fun _ hk => hk.2) (.int .i64 t190)) (fun _ hk => hk.2) (.int .i64 t191)) (fun _ hk => hk.2) (.slice Ao10 t192.length co10)) (fun _ h_ => h_.1))));(case side2 => exact (Kd.R_reads' HO194.out).2.1);rintro e w11 ⟨v202,rfl,ho0,hb⟩;refine ⟨_,rfl,?_⟩;have n0_:=Aside0.mk (Kd.R_elder' (by (with_reducible repeat (first | apply Kd.R_alloc | apply Kd.R_drewN | apply Kd.R_drew));exact (Kd.R_mono (Kd.R_far (p:=⟨gb197,3,none⟩) (Kd.R_far (p:=⟨gb197,2,none⟩) (Kd.R_far (p:=⟨gb197,1,none⟩) (Kd.R_far (p:=⟨gb197,0,none⟩) (Kd.R_types HO188.out BK197.out (by decide)) (fun _ hk => hk.2) (.int .i64 t189)) (fun _ hk => hk.2) (.int .i64 t190)) (fun _ hk => hk.2) (.int .i64 t191)) (fun _ hk => hk.2) (.slice Ao10 t192.length co10)) (fun _ h_ => h_.1))) (Kd.R_base ho0) hb);have n1_:=Aside0.mk (Kd.R_elder' (by (with_reducible repeat (first | apply Kd.R_alloc | apply Kd.R_drewN | apply Kd.R_drew));exact (Kd.R_mono (Kd.R_far (p:=⟨gb197,3,none⟩) (Kd.R_far (p:=⟨gb197,2,none⟩) (Kd.R_far (p:=⟨gb197,1,none⟩) (Kd.R_far (p:=⟨gb197,0,none⟩) (Kd.R_types HO194.out BK197.out (by decide)) (fun _ hk => hk.2) (.int .i64 t189)) (fun _ hk => hk.2) (.int .i64 t190)) (fun _ hk => hk.2) (.int .i64 t191)) (fun _ hk => hk.2) (.slice Ao10 t192.length co10)) (fun _ h_ => h_.1))) (Kd.R_base ho0) hb);have n2_:=Aside0.mk (Kd.R_lower (Kd.R_new' (Kd.R_new' ho0 (Kd.R_lt (by (with_reducible repeat (first | apply Kd.R_alloc | apply Kd.R_drewN | apply Kd.R_drew));exact (Kd.R_mono (Kd.R_far (p:=⟨gb197,3,none⟩) (Kd.R_far (p:=⟨gb197,2,none⟩) (Kd.R_far (p:=⟨gb197,1,none⟩) (Kd.R_far (p:=⟨gb197,0,none⟩) (Kd.R_types HO188.out BK197.out (by decide)) (fun _ hk => hk.2) (.int .i64 t189)) (fun _ hk => hk.2) (.int .i64 t190)) (fun _ hk => hk.2) (.int .i64 t191)) (fun _ hk => hk.2) (.slice Ao10 t192.length co10)) (fun _ h_ => h_.1))))) (Kd.R_lt (by (with_reducible repeat (first | apply Kd.R_alloc | apply Kd.R_drewN | apply Kd.R_drew));exact (Kd.R_mono (Kd.R_far (p:=⟨gb197,3,none⟩) (Kd.R_far (p:=⟨gb197,2,none⟩) (Kd.R_far (p:=⟨gb197,1,none⟩) (Kd.R_far (p:=⟨gb197,0,none⟩) (Kd.R_types HO194.out BK197.out (by decide)) (fun _ hk => hk.2) (.int .i64 t189)) (fun _ hk => hk.2) (.int .i64 t190)) (fun _ hk => hk.2) (.int .i64 t191)) (fun _ hk => hk.2) (.slice Ao10 t192.length co10)) (fun _ h_ => h_.1))))) (below_size (by repeat (first | (with_reducible first | exact HB.out | apply below_alloc | apply pw_below_drewN | apply below_drew1 | refine below_set ?_ GE197.out) | exact HB.out))));have n3_:=Aside0.mk (blk_below (g:=gb197) (o:=.cells #[.int .i64 t189,.int .i64 t190,.int .i64 t191,.slice Ao10 t192.length co10] 69 (0,0)) (by (with_reducible repeat (first | refine blk_drewN ?_ _ | refine blk_drew ?_ | refine blk_alloc ?_ _));apply blkf_4_0_3;(with_reducible repeat (first | refine blk_drewN ?_ _ | refine blk_drew ?_ | refine blk_alloc ?_ _));exact BK197.out) hb);have n4_:=Aside0.mk (below_step (by repeat (first | (with_reducible first | exact HB.out | apply below_alloc | apply pw_below_drewN | apply below_drew1 | refine below_set ?_ GE197.out) | exact HB.out)) hb);clear HO188;clear HO194;clear BK197;clear HB;have HO188:=n0_;have HO194:=n1_;have HO203:=n2_;have BK197:=n3_;have HB:=n4_;clear n0_ n1_ n2_ n3_ n4_;(try clear hb);(try clear hb2);(try clear hk);(try clear hi);(try clear ho0);obtain ⟨hcz12_0,hcz12_1,hcz12_2,hcz12_3⟩:=blkc_4 BK197.out;obtain ⟨hfz12_0,hfz12_1,hfz12_2,hfz12_3⟩:=blkz_4 BK197.out;obtain ⟨Ao13,co13,eo13⟩:=Kd.R_slice HO203.out;subst eo13))
 (try simp only [Act.put,List.setIfInBounds_toArray,List.set_cons_zero,List.set_cons_succ])
 go_cut [0] (fun v0 wc => ∃ (kq : Nat) (x0_3 : Bool),v0 = .bool x0_3 ∧ Aside0 (humuslaw11_awake.j0 kq x0_3 = some r) ∧ Aside0 (kq ≤ k) ∧ Aside0 (Kd.R k112 112 wc w.heap.size (fun _ => True) (.slice Ao13 t201.length co13) t201) ∧ Aside0 (wc.heap[gb197]? = some (.cells #[.int .i64 t198,.int .i64 t199,.int .i64 t200,(.slice Ao13 t201.length co13)] 69 (0,0))) ∧ Aside0 (Below w.heap.size w wc))
 case first =>
  have H:=HC4.out
  clear HC4
  by_cases c14 : t196 = 0
  ·rw [if_pos c14] at H
   have c14b0 : (t196 == 0) = true:=beq_iff_eq.mpr c14
   have c14b1 : (t196 != 0) = false:=bne_eq_false_iff_eq.mpr c14
   clear c14
   (first | rw [c14b0] | (simp only [i64_w,i32_w];rw [c14b0]) | skip)
   by_cases c15 : t205 = 0
   ·rw [if_pos c15] at H
    have c15b0 : (t205 == 0) = true:=beq_iff_eq.mpr c15
    have c15b1 : (t205 != 0) = false:=bne_eq_false_iff_eq.mpr c15
    clear c15
    by_cases c16 : t195 = 0
    ·rw [if_pos c16] at H
     have c16b0 : (t195 == 0) = true:=beq_iff_eq.mpr c16
     have c16b1 : (t195 != 0) = false:=bne_eq_false_iff_eq.mpr c16
     clear c16
     by_cases c17 : t204 = 1
     ·rw [if_pos c17] at H
      have c17b0 : (t204 == 1) = true:=beq_iff_eq.mpr c17
      have c17b1 : (t204 != 1) = false:=bne_eq_false_iff_eq.mpr c17
      clear c17
      by_cases c18 : t198 = 6
      ·rw [if_pos c18] at H
       have c18b0 : (t198 == 6) = true:=beq_iff_eq.mpr c18
       have c18b1 : (t198 != 6) = false:=bne_eq_false_iff_eq.mpr c18
       clear c18
       replace H:=Option.bind_eq_some_iff.mp H
       obtain ⟨t206,A190,H⟩:=H
       replace H : (humuslaw11_awake.j0 k (t206 == 5)) = some r:=H
       have A19:=Aside0.mk A190
       clear A190
       have H':=Aside0.mk H
       clear H
       obtain ⟨hcz20_0,hcz20_1,hcz20_2,hcz20_3⟩:=blkc_4 BK197.out
       obtain ⟨hfz20_0,hfz20_1,hfz20_2,hfz20_3⟩:=blkz_4 BK197.out
       go_wp2_with (first | (go_at_call 43;(with_reducible refine (table_Eldest.calls k t198 t199 t200 _ _ t201 t206 _ ?side1 ?side2 A19.out).mono ?_);(case side1 => refine (Kd.R_reads' (e:=112) (base:=w.heap.size) (ok:=fun k_ => ((True ∧ some k_ ≠ (.slice Ao6 t186.length co6 : Value).ownBlock) ∧ some k_ ≠ (.slice Ao10 t192.length co10 : Value).ownBlock)) (n:=t201.length) (c:=co13) ?_).2.2;exact (by (with_reducible repeat (first | apply Kd.R_alloc | apply Kd.R_drewN | apply Kd.R_drew));exact (Kd.R_mono (Kd.R_far (p:=⟨gb197,3,none⟩) (Kd.R_far (p:=⟨gb197,2,none⟩) (Kd.R_far (p:=⟨gb197,1,none⟩) (Kd.R_far (p:=⟨gb197,0,none⟩) (Kd.R_types HO203.out BK197.out (by decide)) (fun _ hk => hk.2) (.int .i64 t198)) (fun _ hk => hk.2) (.int .i64 t199)) (fun _ hk => hk.2) (.int .i64 t200)) (fun _ hk => hk.2) (.slice Ao13 t201.length co13)) (fun _ h_ => h_.1))));(case side2 => exact (Kd.R_reads' HO203.out).2.1);rintro e w21 ⟨rfl,hb⟩;have n0_:=Aside0.mk (Kd.R_below (by (with_reducible repeat (first | apply Kd.R_alloc | apply Kd.R_drewN | apply Kd.R_drew));exact (Kd.R_mono (Kd.R_far (p:=⟨gb197,3,none⟩) (Kd.R_far (p:=⟨gb197,2,none⟩) (Kd.R_far (p:=⟨gb197,1,none⟩) (Kd.R_far (p:=⟨gb197,0,none⟩) (Kd.R_types HO188.out BK197.out (by decide)) (fun _ hk => hk.2) (.int .i64 t198)) (fun _ hk => hk.2) (.int .i64 t199)) (fun _ hk => hk.2) (.int .i64 t200)) (fun _ hk => hk.2) (.slice Ao13 t201.length co13)) (fun _ h_ => h_.1))) hb);have n1_:=Aside0.mk (Kd.R_below (by (with_reducible repeat (first | apply Kd.R_alloc | apply Kd.R_drewN | apply Kd.R_drew));exact (Kd.R_mono (Kd.R_far (p:=⟨gb197,3,none⟩) (Kd.R_far (p:=⟨gb197,2,none⟩) (Kd.R_far (p:=⟨gb197,1,none⟩) (Kd.R_far (p:=⟨gb197,0,none⟩) (Kd.R_types HO194.out BK197.out (by decide)) (fun _ hk => hk.2) (.int .i64 t198)) (fun _ hk => hk.2) (.int .i64 t199)) (fun _ hk => hk.2) (.int .i64 t200)) (fun _ hk => hk.2) (.slice Ao13 t201.length co13)) (fun _ h_ => h_.1))) hb);have n2_:=Aside0.mk (Kd.R_below (by (with_reducible repeat (first | apply Kd.R_alloc | apply Kd.R_drewN | apply Kd.R_drew));exact (Kd.R_mono (Kd.R_far (p:=⟨gb197,3,none⟩) (Kd.R_far (p:=⟨gb197,2,none⟩) (Kd.R_far (p:=⟨gb197,1,none⟩) (Kd.R_far (p:=⟨gb197,0,none⟩) (Kd.R_types HO203.out BK197.out (by decide)) (fun _ hk => hk.2) (.int .i64 t198)) (fun _ hk => hk.2) (.int .i64 t199)) (fun _ hk => hk.2) (.int .i64 t200)) (fun _ hk => hk.2) (.slice Ao13 t201.length co13)) (fun _ h_ => h_.1))) hb);have n3_:=Aside0.mk (blk_below (g:=gb197) (o:=.cells #[.int .i64 t198,.int .i64 t199,.int .i64 t200,.slice Ao13 t201.length co13] 69 (0,0)) (by (with_reducible repeat (first | refine blk_drewN ?_ _ | refine blk_drew ?_ | refine blk_alloc ?_ _));apply blkf_4_0_3;(with_reducible repeat (first | refine blk_drewN ?_ _ | refine blk_drew ?_ | refine blk_alloc ?_ _));exact BK197.out) hb);have n4_:=Aside0.mk (below_step (by repeat (first | (with_reducible first | exact HB.out | apply below_alloc | apply pw_below_drewN | apply below_drew1 | refine below_set ?_ GE197.out) | exact HB.out)) hb);clear HO188;clear HO194;clear HO203;clear BK197;clear HB;have HO188:=n0_;have HO194:=n1_;have HO203:=n2_;have BK197:=n3_;have HB:=n4_;clear n0_ n1_ n2_ n3_ n4_;(try clear hb);(try clear hb2);(try clear hk);(try clear hi)))
       go_meet
       case rel => exact ⟨_,((t206 == 5)),(by first | rfl | (simp;done) | (simp [*];done)),H',⟨by first | omega | exact Nat.le_refl _⟩,⟨by (with_reducible repeat (first | apply Kd.R_alloc | apply Kd.R_drewN | apply Kd.R_drew));exact Kd.R_mono HO203.out (fun _ hk => trivial)⟩,⟨by (with_reducible repeat (first | refine blk_drewN ?_ _ | refine blk_drew ?_ | refine blk_alloc ?_ _));exact BK197.out⟩,⟨by repeat (first | (with_reducible first | exact HB.out | apply below_alloc | apply pw_below_drewN | apply below_drew1 | refine below_set ?_ GE197.out) | exact HB.out)⟩⟩
      ·rw [if_neg c18] at H
       have c18b0 : (t198 == 6) = false:=beq_eq_false_iff_ne.mpr c18
       have c18b1 : (t198 != 6) = true:=bne_iff_ne.mpr c18
       have H':=Aside0.mk H
       clear H
       obtain ⟨hcz22_0,hcz22_1,hcz22_2,hcz22_3⟩:=blkc_4 BK197.out
       obtain ⟨hfz22_0,hfz22_1,hfz22_2,hfz22_3⟩:=blkz_4 BK197.out
       go_wp2
       go_meet
       case rel => exact ⟨_,(false),(by first | rfl | (simp;done) | (simp [*];done)),H',⟨by first | omega | exact Nat.le_refl _⟩,⟨by (with_reducible repeat (first | apply Kd.R_alloc | apply Kd.R_drewN | apply Kd.R_drew));exact Kd.R_mono (Kd.R_far (p:=⟨gb197,3,none⟩) (Kd.R_far (p:=⟨gb197,2,none⟩) (Kd.R_far (p:=⟨gb197,1,none⟩) (Kd.R_far (p:=⟨gb197,0,none⟩) (Kd.R_types HO203.out BK197.out (by decide)) (fun _ hk => hk.2) (.int .i64 t198)) (fun _ hk => hk.2) (.int .i64 t199)) (fun _ hk => hk.2) (.int .i64 t200)) (fun _ hk => hk.2) (.slice Ao13 t201.length co13)) (fun _ hk => trivial)⟩,⟨by (with_reducible repeat (first | refine blk_drewN ?_ _ | refine blk_drew ?_ | refine blk_alloc ?_ _));apply blkf_4_0_3;(with_reducible repeat (first | refine blk_drewN ?_ _ | refine blk_drew ?_ | refine blk_alloc ?_ _));exact BK197.out⟩,⟨by repeat (first | (with_reducible first | exact HB.out | apply below_alloc | apply pw_below_drewN | apply below_drew1 | refine below_set ?_ GE197.out) | exact HB.out)⟩⟩
     ·rw [if_neg c17] at H
      have c17b0 : (t204 == 1) = false:=beq_eq_false_iff_ne.mpr c17
      have c17b1 : (t204 != 1) = true:=bne_iff_ne.mpr c17
      have H':=Aside0.mk H
      clear H
      go_wp2
      go_meet
      case rel => exact ⟨_,(false),(by first | rfl | (simp;done) | (simp [*];done)),H',⟨by first | omega | exact Nat.le_refl _⟩,⟨by (with_reducible repeat (first | apply Kd.R_alloc | apply Kd.R_drewN | apply Kd.R_drew));exact Kd.R_mono (Kd.R_far (p:=⟨gb197,3,none⟩) (Kd.R_far (p:=⟨gb197,2,none⟩) (Kd.R_far (p:=⟨gb197,1,none⟩) (Kd.R_far (p:=⟨gb197,0,none⟩) (Kd.R_types HO203.out BK197.out (by decide)) (fun _ hk => hk.2) (.int .i64 t198)) (fun _ hk => hk.2) (.int .i64 t199)) (fun _ hk => hk.2) (.int .i64 t200)) (fun _ hk => hk.2) (.slice Ao13 t201.length co13)) (fun _ hk => trivial)⟩,⟨by (with_reducible repeat (first | refine blk_drewN ?_ _ | refine blk_drew ?_ | refine blk_alloc ?_ _));apply blkf_4_0_3;(with_reducible repeat (first | refine blk_drewN ?_ _ | refine blk_drew ?_ | refine blk_alloc ?_ _));exact BK197.out⟩,⟨by repeat (first | (with_reducible first | exact HB.out | apply below_alloc | apply pw_below_drewN | apply below_drew1 | refine below_set ?_ GE197.out) | exact HB.out)⟩⟩
    ·rw [if_neg c16] at H
     have c16b0 : (t195 == 0) = false:=beq_eq_false_iff_ne.mpr c16
     have c16b1 : (t195 != 0) = true:=bne_iff_ne.mpr c16
     have H':=Aside0.mk H
     clear H
     go_wp2
     go_meet
     case rel => exact ⟨_,(false),(by first | rfl | (simp;done) | (simp [*];done)),H',⟨by first | omega | exact Nat.le_refl _⟩,⟨by (with_reducible repeat (first | apply Kd.R_alloc | apply Kd.R_drewN | apply Kd.R_drew));exact Kd.R_mono (Kd.R_far (p:=⟨gb197,3,none⟩) (Kd.R_far (p:=⟨gb197,2,none⟩) (Kd.R_far (p:=⟨gb197,1,none⟩) (Kd.R_far (p:=⟨gb197,0,none⟩) (Kd.R_types HO203.out BK197.out (by decide)) (fun _ hk => hk.2) (.int .i64 t198)) (fun _ hk => hk.2) (.int .i64 t199)) (fun _ hk => hk.2) (.int .i64 t200)) (fun _ hk => hk.2) (.slice Ao13 t201.length co13)) (fun _ hk => trivial)⟩,⟨by (with_reducible repeat (first | refine blk_drewN ?_ _ | refine blk_drew ?_ | refine blk_alloc ?_ _));apply blkf_4_0_3;(with_reducible repeat (first | refine blk_drewN ?_ _ | refine blk_drew ?_ | refine blk_alloc ?_ _));exact BK197.out⟩,⟨by repeat (first | (with_reducible first | exact HB.out | apply below_alloc | apply pw_below_drewN | apply below_drew1 | refine below_set ?_ GE197.out) | exact HB.out)⟩⟩
   ·rw [if_neg c15] at H
    have c15b0 : (t205 == 0) = false:=beq_eq_false_iff_ne.mpr c15
    have c15b1 : (t205 != 0) = true:=bne_iff_ne.mpr c15
    have H':=Aside0.mk H
    clear H
    go_wp2
    go_meet
    case rel => exact ⟨_,(false),(by first | rfl | (simp;done) | (simp [*];done)),H',⟨by first | omega | exact Nat.le_refl _⟩,⟨by (with_reducible repeat (first | apply Kd.R_alloc | apply Kd.R_drewN | apply Kd.R_drew));exact Kd.R_mono (Kd.R_far (p:=⟨gb197,3,none⟩) (Kd.R_far (p:=⟨gb197,2,none⟩) (Kd.R_far (p:=⟨gb197,1,none⟩) (Kd.R_far (p:=⟨gb197,0,none⟩) (Kd.R_types HO203.out BK197.out (by decide)) (fun _ hk => hk.2) (.int .i64 t198)) (fun _ hk => hk.2) (.int .i64 t199)) (fun _ hk => hk.2) (.int .i64 t200)) (fun _ hk => hk.2) (.slice Ao13 t201.length co13)) (fun _ hk => trivial)⟩,⟨by (with_reducible repeat (first | refine blk_drewN ?_ _ | refine blk_drew ?_ | refine blk_alloc ?_ _));apply blkf_4_0_3;(with_reducible repeat (first | refine blk_drewN ?_ _ | refine blk_drew ?_ | refine blk_alloc ?_ _));exact BK197.out⟩,⟨by repeat (first | (with_reducible first | exact HB.out | apply below_alloc | apply pw_below_drewN | apply below_drew1 | refine below_set ?_ GE197.out) | exact HB.out)⟩⟩
  ·rw [if_neg c14] at H
   have c14b0 : (t196 == 0) = false:=beq_eq_false_iff_ne.mpr c14
   have c14b1 : (t196 != 0) = true:=bne_iff_ne.mpr c14
   (first | rw [c14b0] | (simp only [i64_w,i32_w];rw [c14b0]) | skip)
   have H':=Aside0.mk H
   clear H
   go_wp2
   go_meet
   case rel => exact ⟨_,(false),(by first | rfl | (simp;done) | (simp [*];done)),H',⟨by first | omega | exact Nat.le_refl _⟩,⟨by (with_reducible repeat (first | apply Kd.R_alloc | apply Kd.R_drewN | apply Kd.R_drew));exact Kd.R_mono (Kd.R_far (p:=⟨gb197,3,none⟩) (Kd.R_far (p:=⟨gb197,2,none⟩) (Kd.R_far (p:=⟨gb197,1,none⟩) (Kd.R_far (p:=⟨gb197,0,none⟩) (Kd.R_types HO203.out BK197.out (by decide)) (fun _ hk => hk.2) (.int .i64 t198)) (fun _ hk => hk.2) (.int .i64 t199)) (fun _ hk => hk.2) (.int .i64 t200)) (fun _ hk => hk.2) (.slice Ao13 t201.length co13)) (fun _ hk => trivial)⟩,⟨by (with_reducible repeat (first | refine blk_drewN ?_ _ | refine blk_drew ?_ | refine blk_alloc ?_ _));apply blkf_4_0_3;(with_reducible repeat (first | refine blk_drewN ?_ _ | refine blk_drew ?_ | refine blk_alloc ?_ _));exact BK197.out⟩,⟨by repeat (first | (with_reducible first | exact HB.out | apply below_alloc | apply pw_below_drewN | apply below_drew1 | refine below_set ?_ GE197.out) | exact HB.out)⟩⟩
 case rest =>
  clear HC4
  try clear c1
  try clear p2
  try clear c3
  try clear c4
  try clear c14
  try clear c14b0
  try clear c14b1
  try clear c15
  try clear c15b0
  try clear c15b1
  try clear c16
  try clear c16b0
  try clear c16b1
  try clear c17
  try clear c17b0
  try clear c17b1
  try clear c18
  try clear c18b0
  try clear c18b1
  try clear hcz12_0
  try clear hcz12_1
  try clear hcz12_2
  try clear hcz12_3
  try clear hcz20_0
  try clear hcz20_1
  try clear hcz20_2
  try clear hcz20_3
  try clear hcz22_0
  try clear hcz22_1
  try clear hcz22_2
  try clear hcz22_3
  try clear hcz9_0
  try clear hcz9_1
  try clear hcz9_2
  try clear hcz9_3
  try clear hfz12_0
  try clear hfz12_1
  try clear hfz12_2
  try clear hfz12_3
  try clear hfz20_0
  try clear hfz20_1
  try clear hfz20_2
  try clear hfz20_3
  try clear hfz22_0
  try clear hfz22_1
  try clear hfz22_2
  try clear hfz22_3
  try clear hfz9_0
  try clear hfz9_1
  try clear hfz9_2
  try clear hfz9_3
  obtain ⟨kq,x0_3,rfl,HA,HJ3,HO_198003,BK197,HB⟩:=hcut
  cases kq with
  | zero => exact absurd HA.out (by simp [humuslaw11_awake.j0])
  | succ kj3 =>
   have H:=HA.out
   clear HA
   simp only [humuslaw11_awake.j0] at H
   obtain rfl:=Option.some.inj H
   go_wp2
   go_ret
   exact ⟨by first | rfl | (simp [errW_none,errW_some] <;> rfl) | (simp [*,errW_none,errW_some] <;> rfl),by repeat (first | (with_reducible first | exact HB.out | apply below_alloc | apply pw_below_drewN | apply below_drew1 | refine below_set ?_ GE197.out) | exact HB.out)⟩
end Go.Proofs.Ytbmcbhpkefjhbaa.P
namespace Go.Proofs.Ytbmcbhpkefjhbaa.P
open Go.RowKit Go.Proofs.YtbmcbhpkefjhbaaW.PrintWords Go.Proofs.YtbmcbhpkefjhbaaW.PrintLast Go.Proofs.YtbmcbhpkefjhbaaW.PrintMore
attribute [local go_sem] max2_int min2_int max_two min_two max_three min_three max_four min_four   -- for this text's walks alone
attribute [local go_sem] run_store_float
set_option linter.unusedVariables false
set_option linter.unusedSimpArgs false
mutual
def humuslaw11_TableCounts.j0 : Nat → List (S32) → List Int → Int → Int → Int → Int → List (S112) → Option (Bool)
 | 0,_,_,_,_,_,_,_ => none
 | k + 1,x0,x4,x5,x285000,x285001,x285002,x285003 => humuslaw11_TableCounts.l0 k x0 x4 x5 x285000 x285001 x285002 x285003
def humuslaw11_TableCounts.l0 : Nat → List (S32) → List Int → Int → Int → Int → Int → List (S112) → Option (Bool)
 | 0,_,_,_,_,_,_,_ => none
 | k + 1,x0,x4,x5,x285000,x285001,x285002,x285003 => if x5 < (x0.length : Int) then (humuslaw11_TableCounts.j2 k x0 x4 x5 (decide (x5 < 100)) x285000 x285001 x285002 x285003) else (humuslaw11_TableCounts.j2 k x0 x4 x5 false x285000 x285001 x285002 x285003)
def humuslaw11_TableCounts.j2 : Nat → List (S32) → List Int → Int → Bool → Int → Int → Int → List (S112) → Option (Bool)
 | 0,_,_,_,_,_,_,_,_ => none
 | k + 1,x0,x4,x5,x22,x285000,x285001,x285002,x285003 => if x22 = true then (if 0 ≤ x5 then (if x5 < (x0.length : Int) then (humuslaw11_TableCounts.j3 k x0 x4 x5 (wrap64 (1 + (wrap64 (Int.tmod ((rd_T32 x0 x5).f1) 20)))) x285000 x285001 x285002 x285003) else (none)) else (none)) else ((humuslaw11_awake.f k).bind fun t288 => (some t288))
def humuslaw11_TableCounts.j3 : Nat → List (S32) → List Int → Int → Int → Int → Int → Int → List (S112) → Option (Bool)
 | 0,_,_,_,_,_,_,_,_ => none
 | k + 1,x0,x4,x5,x6,x285000,x285001,x285002,x285003 => if 0 ≤ x5 then (if x5 < (x0.length : Int) then (if (Int.tmod ((rd_T32 x0 x5).f0) 4) = 0 then ((table_Enter.f k x285000 x285001 x285002 x285003 x6).bind fun bt292 => (humuslaw11_TableCounts.j9 k x0 x4 x5 bt292.2.2.2.2.2 x285000 x285001 x285002 x285003 bt292.1 bt292.2.1 bt292.2.2.1 bt292.2.2.2.1)) else (humuslaw11_TableCounts.j4 k x0 x4 x5 x6 (Int.tmod ((rd_T32 x0 x5).f0) 4) ((Int.tmod ((rd_T32 x0 x5).f0) 4) == 1) x285000 x285001 x285002 x285003)) else (none)) else (none)
def humuslaw11_TableCounts.j9 : Nat → List (S32) → List Int → Int → Int → Int → Int → Int → List (S112) → Int → Int → Int → List (S112) → Option (Bool)
 | 0,_,_,_,_,_,_,_,_,_,_,_,_ => none
 | k + 1,x0,x4,x5,x9,x285000,x285001,x285002,x285003,x291000,x291001,x291002,x291003 => if x9 = 0 then (humuslaw11_TableCounts.j10 k x0 x4 x5 false x291000 x291001 x291002 x291003) else ((humusref11_Same.f k x291000 x291001 x291002 x291003 x285000 x285001 x285002 x285003).bind fun t333 => (humuslaw11_TableCounts.j10 k x0 x4 x5 (!t333) x291000 x291001 x291002 x291003))
def humuslaw11_TableCounts.j10 : Nat → List (S32) → List Int → Int → Bool → Int → Int → Int → List (S112) → Option (Bool)
 | 0,_,_,_,_,_,_,_,_ => none
 | k + 1,x0,x4,x5,x113,x291000,x291001,x291002,x291003 => if x113 = true then (none) else (if (x4.length : Int) > 0 then (if 0 < (x4.length : Int) then ((table_Eldest.f k x291000 x291001 x291002 x291003).bind fun t335 => (if t335 = (rd x4 0) then (humuslaw11_TableCounts.j12 k x0 x4 (wrap64 (x5 + 1)) x291000 x291001 x291002 x291003) else (none))) else (none)) else ((table_Eldest.f k x291000 x291001 x291002 x291003).bind fun t336 => (if t336 = 0 then (humuslaw11_TableCounts.j13 k x0 x4 (wrap64 (x5 + 1)) x291000 x291001 x291002 x291003) else (none))))
def humuslaw11_TableCounts.j12 : Nat → List (S32) → List Int → Int → Int → Int → Int → List (S112) → Option (Bool)
 | 0,_,_,_,_,_,_,_ => none
 | k + 1,x0,x4,x5,x285000,x285001,x285002,x285003 => humuslaw11_TableCounts.l0 k x0 x4 x5 x285000 x285001 x285002 x285003
def humuslaw11_TableCounts.j13 : Nat → List (S32) → List Int → Int → Int → Int → Int → List (S112) → Option (Bool)
 | 0,_,_,_,_,_,_,_ => none
 | k + 1,x0,x4,x5,x285000,x285001,x285002,x285003 => humuslaw11_TableCounts.l0 k x0 x4 x5 x285000 x285001 x285002 x285003
def humuslaw11_TableCounts.j4 : Nat → List (S32) → List Int → Int → Int → Int → Bool → Int → Int → Int → List (S112) → Option (Bool)
 | 0,_,_,_,_,_,_,_,_,_,_ => none
 | k + 1,x0,x4,x5,x6,x39,x78,x285000,x285001,x285002,x285003 => if x78 = true then ((table_Write.f k x285000 x285001 x285002 x285003 x6 7).bind fun bt300 => (humuslaw11_TableCounts.j9 k x0 x4 x5 bt300.2.2.2.2 x285000 x285001 x285002 x285003 bt300.1 bt300.2.1 bt300.2.2.1 bt300.2.2.2.1)) else (humuslaw11_TableCounts.j5 k x0 x4 x5 x6 (x39 == 2) x285000 x285001 x285002 x285003)
def humuslaw11_TableCounts.j5 : Nat → List (S32) → List Int → Int → Int → Bool → Int → Int → Int → List (S112) → Option (Bool)
 | 0,_,_,_,_,_,_,_,_,_ => none
 | k + 1,x0,x4,x5,x6,x86,x285000,x285001,x285002,x285003 => if x86 = true then ((table_Commit.f k x285000 x285001 x285002 x285003 x6).bind fun bt307 => (humuslaw11_TableCounts.j6 k x0 x4 x5 x6 bt307.2.2.2.2.1 bt307.2.2.2.2.2 (bt307.2.2.2.2.2 == 0) x285000 x285001 x285002 x285003 bt307.1 bt307.2.1 bt307.2.2.1 bt307.2.2.2.1)) else ((table_Leave.f k x285000 x285001 x285002 x285003 x6).bind fun bt318 => (humuslaw11_TableCounts.j7 k x0 x4 x5 x6 bt318.2.2.2.2 (([] : List Int)) 0 x285000 x285001 x285002 x285003 bt318.1 bt318.2.1 bt318.2.2.1 bt318.2.2.2.1))
def humuslaw11_TableCounts.j6 : Nat → List (S32) → List Int → Int → Int → Int → Int → Bool → Int → Int → Int → List (S112) → Int → Int → Int → List (S112) → Option (Bool)
 | 0,_,_,_,_,_,_,_,_,_,_,_,_,_,_,_ => none
 | k + 1,x0,x4,x5,x6,x8,x9,x96,x285000,x285001,x285002,x285003,x291000,x291001,x291002,x291003 => if x96 = true then (if x8 = (wrap64 (x285002 + 1)) then (if x4.length < 17592186044416 then (humuslaw11_TableCounts.j9 k x0 (x4 ++ [x6]) x5 x9 x285000 x285001 x285002 x285003 x291000 x291001 x291002 x291003) else (none)) else (none)) else (humuslaw11_TableCounts.j9 k x0 x4 x5 x9 x285000 x285001 x285002 x285003 x291000 x291001 x291002 x291003)
def humuslaw11_TableCounts.j7 : Nat → List (S32) → List Int → Int → Int → Int → List Int → Int → Int → Int → Int → List (S112) → Int → Int → Int → List (S112) → Option (Bool)
 | 0,_,_,_,_,_,_,_,_,_,_,_,_,_,_,_ => none
 | k + 1,x0,x4,x5,x6,x9,x10,x11,x285000,x285001,x285002,x285003,x291000,x291001,x291002,x291003 => humuslaw11_TableCounts.l1 k x0 x4 x5 x6 x9 x10 x11 x285000 x285001 x285002 x285003 x291000 x291001 x291002 x291003
def humuslaw11_TableCounts.l1 : Nat → List (S32) → List Int → Int → Int → Int → List Int → Int → Int → Int → Int → List (S112) → Int → Int → Int → List (S112) → Option (Bool)
 | 0,_,_,_,_,_,_,_,_,_,_,_,_,_,_,_ => none
 | k + 1,x0,x4,x5,x6,x9,x10,x11,x285000,x285001,x285002,x285003,x291000,x291001,x291002,x291003 => if x11 < (x4.length : Int) then (if 0 ≤ x11 then (if (rd x4 x11) = x6 then (humuslaw11_TableCounts.l1 k x0 x4 x5 x6 x9 x10 (wrap64 (x11 + 1)) x285000 x285001 x285002 x285003 x291000 x291001 x291002 x291003) else (if x10.length < 17592186044416 then (humuslaw11_TableCounts.l1 k x0 x4 x5 x6 x9 (x10 ++ [rd x4 x11]) (wrap64 (x11 + 1)) x285000 x285001 x285002 x285003 x291000 x291001 x291002 x291003) else (none))) else (none)) else (if x9 = 0 then (humuslaw11_TableCounts.j9 k x0 x10 x5 x9 x285000 x285001 x285002 x285003 x291000 x291001 x291002 x291003) else (humuslaw11_TableCounts.j9 k x0 x4 x5 x9 x285000 x285001 x285002 x285003 x291000 x291001 x291002 x291003))
end
def humuslaw11_TableCounts.f (k : Nat) (l0 : List (S32)) : Option (Bool):=(table_First.f).bind fun bt278 => (humuslaw11_TableCounts.j0 k l0 (([] : List Int)) 0 bt278.1 bt278.2.1 bt278.2.2.1 bt278.2.2.2)
set_option maxHeartbeats 100000000 in
set_option maxRecDepth 100000 in
theorem humuslaw11_TableCounts.calls (k : Nat) (A0 : Option Addr) (c0 : Nat) (l0 : List (S32)) (r : Bool) (w : World) (hr0 : Kd.C k32 w A0 l0.length l0) (hc0 : l0.length ≤ c0) (h : humuslaw11_TableCounts.f k l0 = some r) :
  Calls Try.prog 12 #[.slice A0 l0.length c0] w fun e w' => e = .returned (.bool r) ∧ Below w.heap.size w w':=by
 have hu69:=Try.underlying69
 have HR0:=Aside0.mk hr0
 have HC0:=Aside0.mk hc0
 clear hr0 hc0
 have HB:=Aside0.mk (Below.refl w.heap.size w)
 have H : ((table_First.f).bind fun bt278 => (humuslaw11_TableCounts.j0 k l0 (([] : List Int)) 0 bt278.1 bt278.2.1 bt278.2.2.1 bt278.2.2.2)) = some r:=h
 clear h
 replace H:=Option.bind_eq_some_iff.mp H
 obtain ⟨⟨t278,t279,t280,t281⟩,A20,H⟩:=H
 replace H : (humuslaw11_TableCounts.j0 k l0 (([] : List Int)) 0 t278 t279 t280 t281) = some r:=H
 have A2:=Aside0.mk A20
 clear A20
 obtain ⟨y285,hy285⟩ : ∃ y_ : List Int,y_ = (([] : List Int)):=⟨_,rfl⟩
 replace H : (humuslaw11_TableCounts.j0 k l0 y285 0 t278 t279 t280 t281) = some r:=by first | (rw [hy285];with_reducible exact H) | (have H2_:=(Option.bind_some _ _).symm.trans H;rw [hy285];with_reducible exact H2_) | (have H2_:=(Option.bind_some _ _).symm.trans H;with_reducible exact H2_) | with_reducible exact H | (rw [hy285];exact H) | exact H
 have Ny285:=Aside0.mk hy285
 clear hy285
 have HC3:=Aside0.mk H
 clear H
 go_enter Try.func12,Try.ntmps12
 go_upto_region 3 with (first | ((with_reducible refine gate_callee (f:=36) rfl ?_);refine goesL_ (some 13) rfl rfl Try.func36 (by kernel_rfl) rfl #[] rfl (by (try simp only [List.map_toArray,List.map_cons,List.map_nil]);first | done | rfl | (simp only [List.length_drop,List.length_take];rfl)) ?_;(with_reducible refine (table_First.calls  t278 t279 t280 t281 _ A2.out).mono ?_);rintro e w4 ⟨v282,rfl,ho0,hb⟩;refine ⟨_,rfl,?_⟩;have n0_:=Aside0.mk (Kd.R_lower ho0 (below_size (by repeat (first | (with_reducible first | exact HB.out | apply below_alloc | apply pw_below_drewN | apply below_drew1) | exact HB.out))));have n1_:=Aside0.mk (below_step (by repeat (first | (with_reducible first | exact HB.out | apply below_alloc | apply pw_below_drewN | apply below_drew1) | exact HB.out)) hb);clear HB;have HO283:=n0_;have HB:=n1_;clear n0_ n1_;(try clear hb);(try clear hb2);(try clear hk);(try clear hi);(try clear ho0)) | ((with_reducible refine gate_dst (N:=3) rfl ?_);refine box_event ?hg (N:=3) ?hd (cs:=#[.int .i64 0,.int .i64 0,.int .i64 0,.slice none 0 0]) (t:=69) ?hr ?_;(case hd => rfl);(case hg => rfl);(case hr => first | (go_simp;done) | (go_simp;rfl));intro gb284 hg w5 hbox hb;have n0_:=Aside0.mk (Kd.R_below (by (with_reducible repeat (first | apply Kd.R_alloc | apply Kd.R_drewN | apply Kd.R_drew));exact HO283.out) hb);have n1_:=Aside0.mk (below_step (by repeat (first | (with_reducible first | exact HB.out | apply below_alloc | apply pw_below_drewN | apply below_drew1) | exact HB.out)) hb);have n2_:=Aside0.mk (hbox);have n3_:=Aside0.mk ((by rw [hg];exact (below_size (by repeat (first | (with_reducible first | exact HB.out | apply below_alloc | apply pw_below_drewN | apply below_drew1) | exact HB.out))) : w.heap.size ≤ gb284));have n4_:=Aside0.mk ((by rw [hg];exact (below_size (by repeat (first | (with_reducible first | exact HB.out | apply below_alloc | apply pw_below_drewN | apply below_drew1) | exact HB.out))) : w.heap.size ≤ gb284));clear HO283;clear HB;have HO283:=n0_;have HB:=n1_;have BK284:=n2_;have GW284:=n3_;have GE284:=n4_;clear n0_ n1_ n2_ n3_ n4_;clear hb hbox hg;obtain ⟨hcz6_0,hcz6_1,hcz6_2,hcz6_3⟩:=blkc_4 BK284.out;obtain ⟨hfz6_0,hfz6_1,hfz6_2,hfz6_3⟩:=blkz_4 BK284.out;obtain ⟨Ao7,co7,eo7⟩:=Kd.R_slice HO283.out;subst eo7) | ((with_reducible refine gate_dst (N:=14) rfl ?_);refine Kd.R_lit (Kd.int .i64) _ 3 ?hg (N:=14) ?hd (xs:=([] : List Int)) (inner:=[]) (ok:=fun _ => True) (okp:=fun _ => True) ?hr ?hp (fun _ hk => hk) trivial (Below.refl _ _) (Nat.le_refl _) (by simp) ?_;(case hd => rfl);(case hg => rfl);(case hr => first | (go_simp;done) | (go_simp;rfl));(case hp => exact (Reps.none _ _));intro v286 w8 ho9 hb hg_ hnew_;clear hg_ hnew_;(first | rw [← Ny285.out] at ho9 | (simp only [Int.reduceToNat] at ho9;rw [← Ny285.out] at ho9));have n0_:=Aside0.mk (Kd.R_below (by (with_reducible repeat (first | apply Kd.R_alloc | apply Kd.R_drewN | apply Kd.R_drew));exact (Kd.R_mono (Kd.R_far (p:=⟨gb284,3,none⟩) (Kd.R_far (p:=⟨gb284,2,none⟩) (Kd.R_far (p:=⟨gb284,1,none⟩) (Kd.R_far (p:=⟨gb284,0,none⟩) (Kd.R_types HO283.out BK284.out (by decide)) (fun _ hk => hk.2) (.int .i64 t278)) (fun _ hk => hk.2) (.int .i64 t279)) (fun _ hk => hk.2) (.int .i64 t280)) (fun _ hk => hk.2) (.slice Ao7 t281.length co7)) (fun _ h_ => h_.1))) hb);have n1_:=Aside0.mk (Kd.R_lower ho9 (below_size (by repeat (first | (with_reducible first | exact HB.out | apply below_alloc | apply pw_below_drewN | apply below_drew1 | refine below_set ?_ GE284.out) | exact HB.out))));have n2_:=Aside0.mk (blk_below (g:=gb284) (o:=.cells #[.int .i64 t278,.int .i64 t279,.int .i64 t280,.slice Ao7 t281.length co7] 69 (0,0)) (by (with_reducible repeat (first | refine blk_drewN ?_ _ | refine blk_drew ?_ | refine blk_alloc ?_ _));apply blkf_4_0_3;(with_reducible repeat (first | refine blk_drewN ?_ _ | refine blk_drew ?_ | refine blk_alloc ?_ _));exact BK284.out) hb);have n3_:=Aside0.mk (below_step (by repeat (first | (with_reducible first | exact HB.out | apply below_alloc | apply pw_below_drewN | apply below_drew1 | refine below_set ?_ GE284.out) | exact HB.out)) hb);clear HO283;clear BK284;clear HB;have HO283:=n0_;have HO287:=n1_;have BK284:=n2_;have HB:=n3_;clear n0_ n1_ n2_ n3_;clear hb ho9))
 (try simp only [Act.put,List.setIfInBounds_toArray,List.set_cons_zero,List.set_cons_succ])
 go_cut [5] (fun v5 wc => ∃ (kq : Nat) (x5_2 : Int),v5 = .int .i64 x5_2 ∧ Aside0 (humuslaw11_TableCounts.j0 kq l0 y285 x5_2 t278 t279 t280 t281 = some r) ∧ Aside0 (kq ≤ k) ∧ Aside0 (Kd.R (Kd.int .i64) 3 wc w.heap.size (fun _ => True) v286 y285) ∧ Aside0 (Kd.R k112 112 wc w.heap.size (fun _ => True) (.slice Ao7 t281.length co7) t281) ∧ Aside0 (wc.heap[gb284]? = some (.cells #[.int .i64 t278,.int .i64 t279,.int .i64 t280,(.slice Ao7 t281.length co7)] 69 (0,0))) ∧ Aside0 (Below w.heap.size w wc))
 case first =>
  have H:=HC3.out
  clear HC3
  have H':=Aside0.mk H
  clear H
  go_wp2
  go_meet
  case rel => exact ⟨_,(0),(by first | rfl | (simp;done) | (simp [*];done)),H',⟨by first | omega | exact Nat.le_refl _⟩,⟨by (with_reducible repeat (first | apply Kd.R_alloc | apply Kd.R_drewN | apply Kd.R_drew));exact HO287.out⟩,⟨by (with_reducible repeat (first | apply Kd.R_alloc | apply Kd.R_drewN | apply Kd.R_drew));exact HO283.out⟩,⟨by (with_reducible repeat (first | refine blk_drewN ?_ _ | refine blk_drew ?_ | refine blk_alloc ?_ _));exact BK284.out⟩,⟨by repeat (first | (with_reducible first | exact HB.out | apply below_alloc | apply pw_below_drewN | apply below_drew1 | refine below_set ?_ GE284.out) | exact HB.out)⟩⟩
 case rest =>
  clear HC3
  try clear c1
  try clear p2
  try clear c3
  try clear hcz6_0
  try clear hcz6_1
  try clear hcz6_2
  try clear hcz6_3
  try clear hfz6_0
  try clear hfz6_1
  try clear hfz6_2
  try clear hfz6_3
  obtain ⟨kq,x5_2,rfl,HA,HJ2,HO_4,HO_285003,BK284,HB⟩:=hcut
  cases kq with
  | zero => exact absurd HA.out (by simp [humuslaw11_TableCounts.j0])
  | succ kj2 =>
   have H:=HA.out
   clear HA
   simp only [humuslaw11_TableCounts.j0] at H
   have H':=Aside0.mk H
   clear H
   go_wp2
   go_loopg [4,5] kj2 (fun kq v4 v5 w' => ∃ (x4_2 : List Int) (x5_2 : Int) (x285000_2 : Int) (x285001_2 : Int) (x285002_2 : Int) (x285003_2 : List (S112)) (u285003 : Value),v5 = .int .i64 x5_2 ∧ Aside0 (humuslaw11_TableCounts.l0 kq l0 x4_2 x5_2 x285000_2 x285001_2 x285002_2 x285003_2 = some r) ∧ Aside0 (kq ≤ kj2) ∧ Aside0 (Kd.R (Kd.int .i64) 3 w' w.heap.size (fun _ => True) v4 x4_2) ∧ Aside0 (Kd.R k112 112 w' w.heap.size (fun _ => True) u285003 x285003_2) ∧ Aside0 (w'.heap[gb284]? = some (.cells #[.int .i64 x285000_2,.int .i64 x285001_2,.int .i64 x285002_2,u285003] 69 (0,0))) ∧ Aside0 (Below w.heap.size w w'))
   case atStart => exact ⟨(y285),(x5_2),(t278),(t279),(t280),(t281),(.slice Ao7 t281.length co7),(by first | rfl | (simp;done) | (simp [*];done)),H',⟨Nat.le_refl _⟩,⟨by (with_reducible repeat (first | apply Kd.R_alloc | apply Kd.R_drewN | apply Kd.R_drew));exact HO_4.out⟩,⟨by (with_reducible repeat (first | apply Kd.R_alloc | apply Kd.R_drewN | apply Kd.R_drew));exact HO_285003.out⟩,⟨by (with_reducible repeat (first | refine blk_drewN ?_ _ | refine blk_drew ?_ | refine blk_alloc ?_ _));exact BK284.out⟩,⟨by repeat (first | (with_reducible first | exact HB.out | apply below_alloc | apply pw_below_drewN | apply below_drew1 | refine below_set ?_ GE284.out) | exact HB.out)⟩⟩
   case round =>
    clear H'
    try clear c1
    try clear p2
    try clear c3
    try clear hcz6_0
    try clear hcz6_1
    try clear hcz6_2
    try clear hcz6_3
    try clear hfz6_0
    try clear hfz6_1
    try clear hfz6_2
    try clear hfz6_3
    try clear p2
    obtain ⟨x4_2,x5_2,x285000_2,x285001_2,x285002_2,x285003_2,u285003,rfl,HA,HK2,HO_4,HO_285003,BK284,HB⟩:=hrel
    cases gk with
    | zero => exact absurd HA.out (by simp [humuslaw11_TableCounts.l0])
    | succ k2 =>
     have H:=HA.out
     clear HA
     simp only [humuslaw11_TableCounts.l0] at H
     have HC10:=Aside0.mk H
     clear H
     go_upto_region 4 with (fail)
     go_cut [22] (fun v22 wc => ∃ (kq : Nat) (x22_9 : Bool),v22 = .bool x22_9 ∧ Aside0 (humuslaw11_TableCounts.j2 kq l0 x4_2 x5_2 x22_9 x285000_2 x285001_2 x285002_2 x285003_2 = some r) ∧ Aside0 (kq ≤ k2) ∧ Aside0 (Kd.R (Kd.int .i64) 3 wc w.heap.size (fun _ => True) u4 x4_2) ∧ Aside0 (Kd.R k112 112 wc w.heap.size (fun _ => True) u285003 x285003_2) ∧ Aside0 (wc.heap[gb284]? = some (.cells #[.int .i64 x285000_2,.int .i64 x285001_2,.int .i64 x285002_2,u285003] 69 (0,0))) ∧ Aside0 (Below w.heap.size w wc))
     case first =>
      have H:=HC10.out
      clear HC10
      by_cases c11 : x5_2 < (l0.length : Int)
      ·rw [if_pos c11] at H
       have c11b0 : decide (x5_2 < (l0.length : Int)) = true:=decide_eq_true c11
       clear c11
       (first | rw [c11b0] | (simp only [i64_w,i32_w];rw [c11b0]) | skip)
       have H':=Aside0.mk H
       clear H
       go_wp2
       go_meet
       case rel => exact ⟨_,(decide (x5_2 < 100)),(by first | rfl | (simp;done) | (simp [*];done)),H',⟨by have:=HJ2.out;have:=HK2.out;first | omega | exact Nat.le_refl _⟩,⟨by (with_reducible repeat (first | apply Kd.R_alloc | apply Kd.R_drewN | apply Kd.R_drew));exact HO_4.out⟩,⟨by (with_reducible repeat (first | apply Kd.R_alloc | apply Kd.R_drewN | apply Kd.R_drew));exact HO_285003.out⟩,⟨by (with_reducible repeat (first | refine blk_drewN ?_ _ | refine blk_drew ?_ | refine blk_alloc ?_ _));exact BK284.out⟩,⟨by repeat (first | (with_reducible first | exact HB.out | apply below_alloc | apply pw_below_drewN | apply below_drew1 | refine below_set ?_ GE284.out) | exact HB.out)⟩⟩
      ·rw [if_neg c11] at H
       have c11b0 : decide (x5_2 < (l0.length : Int)) = false:=decide_eq_false c11
       clear c11
       (first | rw [c11b0] | (simp only [i64_w,i32_w];rw [c11b0]) | skip)
       have H':=Aside0.mk H
       clear H
       go_wp2
       go_meet
       case rel => exact ⟨_,(false),(by first | rfl | (simp;done) | (simp [*];done)),H',⟨by have:=HJ2.out;have:=HK2.out;first | omega | exact Nat.le_refl _⟩,⟨by (with_reducible repeat (first | apply Kd.R_alloc | apply Kd.R_drewN | apply Kd.R_drew));exact HO_4.out⟩,⟨by (with_reducible repeat (first | apply Kd.R_alloc | apply Kd.R_drewN | apply Kd.R_drew));exact HO_285003.out⟩,⟨by (with_reducible repeat (first | refine blk_drewN ?_ _ | refine blk_drew ?_ | refine blk_alloc ?_ _));exact BK284.out⟩,⟨by repeat (first | (with_reducible first | exact HB.out | apply below_alloc | apply pw_below_drewN | apply below_drew1 | refine below_set ?_ GE284.out) | exact HB.out)⟩⟩
     case rest =>
      clear HC10
      try clear c1
      try clear p2
      try clear c3
      try clear c11
      try clear c11b0
      try clear hcz6_0
      try clear hcz6_1
      try clear hcz6_2
      try clear hcz6_3
      try clear hfz6_0
      try clear hfz6_1
      try clear hfz6_2
      try clear hfz6_3
      try clear p2
      obtain ⟨kq,x22_9,rfl,HA,HJ9,HO_4,HO_285003,BK284,HB⟩:=hcut
      cases kq with
      | zero => exact absurd HA.out (by simp [humuslaw11_TableCounts.j2])
      | succ kj9 =>
       have H:=HA.out
       clear HA
       simp only [humuslaw11_TableCounts.j2] at H
       by_cases c12 : x22_9 = true
       ·subst c12
        have H1 : (if 0 ≤ x5_2 then (if x5_2 < (l0.length : Int) then (humuslaw11_TableCounts.j3 kj9 l0 x4_2 x5_2 (wrap64 (1 + (wrap64 (Int.tmod ((rd_T32 l0 x5_2).f1) 20)))) x285000_2 x285001_2 x285002_2 x285003_2) else (none)) else (none)) = some r:=by rw [if_pos rfl] at H;exact H
        clear H
        have H:=H1
        clear H1
        have HC13:=Aside0.mk H
        clear H
        go_upto_region 6 with (fail)
        go_cut [6] (fun v6 wc => ∃ (kq : Nat) (x6_12 : Int),v6 = .int .i64 x6_12 ∧ Aside0 (humuslaw11_TableCounts.j3 kq l0 x4_2 x5_2 x6_12 x285000_2 x285001_2 x285002_2 x285003_2 = some r) ∧ Aside0 (kq ≤ kj9) ∧ Aside0 (Kd.R (Kd.int .i64) 3 wc w.heap.size (fun _ => True) u4 x4_2) ∧ Aside0 (Kd.R k112 112 wc w.heap.size (fun _ => True) u285003 x285003_2) ∧ Aside0 (wc.heap[gb284]? = some (.cells #[.int .i64 x285000_2,.int .i64 x285001_2,.int .i64 x285002_2,u285003] 69 (0,0))) ∧ Aside0 (Below w.heap.size w wc))
        case first =>
         have H:=HC13.out
         clear HC13
         by_cases c14 : 0 ≤ x5_2
         ·rw [if_pos c14] at H
          have c14b0 : decide (0 ≤ x5_2) = true:=decide_eq_true c14
          clear c14
          (first | rw [c14b0] | (simp only [i64_w,i32_w];rw [c14b0]) | skip)
          by_cases c15 : x5_2 < (l0.length : Int)
          ·rw [if_pos c15] at H
           have c15b0 : decide (x5_2 < (l0.length : Int)) = true:=decide_eq_true c15
           clear c15
           have H':=Aside0.mk H
           clear H
           have p289 : 0 ≤ (x5_2 : Int):=of_decide_eq_true (by first | (with_reducible assumption) | assumption)
           have q289 : x5_2 < (l0.length : Int):=of_decide_eq_true (by first | (with_reducible assumption) | assumption)
           obtain ⟨ad289,e289,hx289_0,hx289_1⟩:=at_T32 HR0.out x5_2 p289 q289
           cases e289
           replace hx289_0:=(HB.out.cell (World.block_lt_of_cell? w _ hx289_0)).trans hx289_0
           replace hx289_1:=(HB.out.cell (World.block_lt_of_cell? w _ hx289_1)).trans hx289_1
           replace p289:=eq_true p289
           replace q289:=eq_true q289
           go_wp2
           go_meet
           case rel => exact ⟨_,(wrap64 (1 + (wrap64 (Int.tmod ((rd_T32 l0 x5_2).f1) 20)))),(by first | rfl | (simp;done) | (simp [*];done)),H',⟨by have:=HJ2.out;have:=HK2.out;have:=HJ9.out;first | omega | exact Nat.le_refl _⟩,⟨by (with_reducible repeat (first | apply Kd.R_alloc | apply Kd.R_drewN | apply Kd.R_drew));exact HO_4.out⟩,⟨by (with_reducible repeat (first | apply Kd.R_alloc | apply Kd.R_drewN | apply Kd.R_drew));exact HO_285003.out⟩,⟨by (with_reducible repeat (first | refine blk_drewN ?_ _ | refine blk_drew ?_ | refine blk_alloc ?_ _));exact BK284.out⟩,⟨by repeat (first | (with_reducible first | exact HB.out | apply below_alloc | apply pw_below_drewN | apply below_drew1 | refine below_set ?_ GE284.out) | exact HB.out)⟩⟩
          ·rw [if_neg c15] at H
           exact absurd H (by simp)
         ·rw [if_neg c14] at H
          exact absurd H (by simp)
        case rest =>
         clear HC13
         try clear c1
         try clear p2
         try clear q2
         try clear hx2
         try clear c3
         try clear p6
         try clear c11
         try clear c11b0
         try clear c12
         try clear c14
         try clear c14b0
         try clear c15
         try clear c15b0
         try clear hcz6_0
         try clear hcz6_1
         try clear hcz6_2
         try clear hcz6_3
         try clear hfz6_0
         try clear hfz6_1
         try clear hfz6_2
         try clear hfz6_3
         try clear hx289_0
         try clear hx289_1
         try clear p2
         try clear p289
         try clear q289
         obtain ⟨kq,x6_12,rfl,HA,HJ12,HO_4,HO_285003,BK284,HB⟩:=hcut
         cases kq with
         | zero => exact absurd HA.out (by simp [humuslaw11_TableCounts.j3])
         | succ kj12 =>
          have H:=HA.out
          clear HA
          simp only [humuslaw11_TableCounts.j3] at H
          by_cases c16 : 0 ≤ x5_2
          ·rw [if_pos c16] at H
           have c16b0 : decide (0 ≤ x5_2) = true:=decide_eq_true c16
           clear c16
           by_cases c17 : x5_2 < (l0.length : Int)
           ·rw [if_pos c17] at H
            have c17b0 : decide (x5_2 < (l0.length : Int)) = true:=decide_eq_true c17
            clear c17
            have HC18:=Aside0.mk H
            clear H
            obtain ⟨hcz19_0,hcz19_1,hcz19_2,hcz19_3⟩:=blkc_4 BK284.out
            obtain ⟨hfz19_0,hfz19_1,hfz19_2,hfz19_3⟩:=blkz_4 BK284.out
            go_upto_block 2 with (first | ((with_reducible refine gate_dst (N:=7) rfl ?_);refine box_event ?hg (N:=7) ?hd (cs:=#[.int .i64 0,.int .i64 0,.int .i64 0,.slice none 0 0]) (t:=69) ?hr ?_;(case hd => rfl);(case hg => rfl);(case hr => first | (go_simp;done) | (go_simp;rfl));intro gb290 hg w20 hbox hb;have n0_:=Aside0.mk (Kd.R_below (by (with_reducible repeat (first | apply Kd.R_alloc | apply Kd.R_drewN | apply Kd.R_drew));exact HO_4.out) hb);have n1_:=Aside0.mk (Kd.R_below (by (with_reducible repeat (first | apply Kd.R_alloc | apply Kd.R_drewN | apply Kd.R_drew));exact HO_285003.out) hb);have n2_:=Aside0.mk (blk_below (g:=gb284) (o:=.cells #[.int .i64 x285000_2,.int .i64 x285001_2,.int .i64 x285002_2,u285003] 69 (0,0)) (by (with_reducible repeat (first | refine blk_drewN ?_ _ | refine blk_drew ?_ | refine blk_alloc ?_ _));exact BK284.out) hb);have n3_:=Aside0.mk (below_step (by repeat (first | (with_reducible first | exact HB.out | apply below_alloc | apply pw_below_drewN | apply below_drew1 | refine below_set ?_ GE284.out) | exact HB.out)) hb);have n4_:=Aside0.mk (hbox);have n5_:=Aside0.mk ((by rw [hg];exact (below_size (by repeat (first | (with_reducible first | exact HB.out | apply below_alloc | apply pw_below_drewN | apply below_drew1 | refine below_set ?_ GE284.out) | exact HB.out))) : w.heap.size ≤ gb290));have n6_:=Aside0.mk ((by rw [hg];exact (below_size (by repeat (first | (with_reducible first | exact HB.out | apply below_alloc | apply pw_below_drewN | apply below_drew1 | refine below_set ?_ GE284.out) | exact HB.out))) : w.heap.size ≤ gb290));have n7_:=Aside0.mk ((by rw [hg];exact Nat.ne_of_lt (blk_lt (g:=gb284) (o:=.cells #[.int .i64 x285000_2,.int .i64 x285001_2,.int .i64 x285002_2,u285003] 69 (0,0)) (by (with_reducible repeat (first | refine blk_drewN ?_ _ | refine blk_drew ?_ | refine blk_alloc ?_ _));exact BK284.out)) : gb284 ≠ gb290));have n8_:=Aside0.mk ((by rw [hg];exact Nat.ne_of_gt (blk_lt (g:=gb284) (o:=.cells #[.int .i64 x285000_2,.int .i64 x285001_2,.int .i64 x285002_2,u285003] 69 (0,0)) (by (with_reducible repeat (first | refine blk_drewN ?_ _ | refine blk_drew ?_ | refine blk_alloc ?_ _));exact BK284.out)) : gb290 ≠ gb284));clear HO_4;clear HO_285003;clear BK284;clear HB;have HO_4:=n0_;have HO_285003:=n1_;have BK284:=n2_;have HB:=n3_;have BK290:=n4_;have GW290:=n5_;have GE290:=n6_;have NB284_290:=n7_;have NB290_284:=n8_;clear n0_ n1_ n2_ n3_ n4_ n5_ n6_ n7_ n8_;clear hb hbox hg;have hnb21:=NB290_284.out;have hnc21:=NB284_290.out;obtain ⟨hcz22_0,hcz22_1,hcz22_2,hcz22_3⟩:=blkc_4 BK290.out;obtain ⟨hfz22_0,hfz22_1,hfz22_2,hfz22_3⟩:=blkz_4 BK290.out;obtain ⟨Ao23,co23,eo23⟩:=Kd.R_slice HO_285003.out;subst eo23;have p291 : 0 ≤ (x5_2 : Int):=of_decide_eq_true (by first | (with_reducible assumption) | assumption);have q291 : x5_2 < (l0.length : Int):=of_decide_eq_true (by first | (with_reducible assumption) | assumption);obtain ⟨ad291,e291,hx291_0,hx291_1⟩:=at_T32 HR0.out x5_2 p291 q291;cases e291;have hn291_0 : ad291.block ≠ gb290:=Nat.ne_of_lt (Nat.lt_of_lt_of_le (by have:=World.block_lt_of_cell? _ _ hx291_0;first | rwa [add_block] at this | exact this) GW290.out);have hn291_1 : ad291.block ≠ gb290:=Nat.ne_of_lt (Nat.lt_of_lt_of_le (by have:=World.block_lt_of_cell? _ _ hx291_0;first | rwa [add_block] at this | exact this) GW290.out);have hn291_2 : ad291.block ≠ gb290:=Nat.ne_of_lt (Nat.lt_of_lt_of_le (by have:=World.block_lt_of_cell? _ _ hx291_0;first | rwa [add_block] at this | exact this) GW290.out);have hn291_3 : ad291.block ≠ gb290:=Nat.ne_of_lt (Nat.lt_of_lt_of_le (by have:=World.block_lt_of_cell? _ _ hx291_0;first | rwa [add_block] at this | exact this) GW290.out);replace hx291_0:=(HB.out.cell (World.block_lt_of_cell? w _ hx291_0)).trans hx291_0;replace hx291_1:=(HB.out.cell (World.block_lt_of_cell? w _ hx291_1)).trans hx291_1;replace hx291_0:=(cell_far (p:=⟨gb290,0,none⟩) (by first | (rw [add_block];exact hn291_0) | (show (Addr.add _ _).block ≠ _;rw [add_block];exact hn291_0) | exact hn291_0) (.int .i64 x285000_2)).trans hx291_0;replace hx291_1:=(cell_far (p:=⟨gb290,0,none⟩) (by first | (rw [add_block];exact hn291_0) | (show (Addr.add _ _).block ≠ _;rw [add_block];exact hn291_0) | exact hn291_0) (.int .i64 x285000_2)).trans hx291_1;replace hx291_0:=(cell_far (p:=⟨gb290,1,none⟩) (by first | (rw [add_block];exact hn291_1) | (show (Addr.add _ _).block ≠ _;rw [add_block];exact hn291_1) | exact hn291_1) (.int .i64 x285001_2)).trans hx291_0;replace hx291_1:=(cell_far (p:=⟨gb290,1,none⟩) (by first | (rw [add_block];exact hn291_1) | (show (Addr.add _ _).block ≠ _;rw [add_block];exact hn291_1) | exact hn291_1) (.int .i64 x285001_2)).trans hx291_1;replace hx291_0:=(cell_far (p:=⟨gb290,2,none⟩) (by first | (rw [add_block];exact hn291_2) | (show (Addr.add _ _).block ≠ _;rw [add_block];exact hn291_2) | exact hn291_2) (.int .i64 x285002_2)).trans hx291_0;replace hx291_1:=(cell_far (p:=⟨gb290,2,none⟩) (by first | (rw [add_block];exact hn291_2) | (show (Addr.add _ _).block ≠ _;rw [add_block];exact hn291_2) | exact hn291_2) (.int .i64 x285002_2)).trans hx291_1;replace hx291_0:=(cell_far (p:=⟨gb290,3,none⟩) (by first | (rw [add_block];exact hn291_3) | (show (Addr.add _ _).block ≠ _;rw [add_block];exact hn291_3) | exact hn291_3) (.slice Ao23 x285003_2.length co23)).trans hx291_0;replace hx291_1:=(cell_far (p:=⟨gb290,3,none⟩) (by first | (rw [add_block];exact hn291_3) | (show (Addr.add _ _).block ≠ _;rw [add_block];exact hn291_3) | exact hn291_3) (.slice Ao23 x285003_2.length co23)).trans hx291_1;clear hn291_0;clear hn291_1;clear hn291_2;clear hn291_3;replace p291:=eq_true p291;replace q291:=eq_true q291))
            (try simp only [Act.put,List.setIfInBounds_toArray,List.set_cons_zero,List.set_cons_succ])
            go_cut [4,9] (fun v4 v9 wc => ∃ (kq : Nat) (x4_17 : List Int) (x9_17 : Int) (x291000_17 : Int) (x291001_17 : Int) (x291002_17 : Int) (x291003_17 : List (S112)) (u291003 : Value),v9 = .int .i64 x9_17 ∧ Aside0 (humuslaw11_TableCounts.j9 kq l0 x4_17 x5_2 x9_17 x285000_2 x285001_2 x285002_2 x285003_2 x291000_17 x291001_17 x291002_17 x291003_17 = some r) ∧ Aside0 (kq ≤ kj12) ∧ Aside0 (Kd.R (Kd.int .i64) 3 wc w.heap.size (fun _ => True) v4 x4_17) ∧ Aside0 (Kd.R k112 112 wc w.heap.size (fun k_ => some k_ ≠ (u291003 : Value).ownBlock) (.slice Ao23 x285003_2.length co23) x285003_2) ∧ Aside0 (Kd.R k112 112 wc w.heap.size (fun k_ => some k_ ≠ ((.slice Ao23 x285003_2.length co23) : Value).ownBlock) u291003 x291003_17) ∧ Aside0 (wc.heap[gb284]? = some (.cells #[.int .i64 x285000_2,.int .i64 x285001_2,.int .i64 x285002_2,(.slice Ao23 x285003_2.length co23)] 69 (0,0))) ∧ Aside0 (wc.heap[gb290]? = some (.cells #[.int .i64 x291000_17,.int .i64 x291001_17,.int .i64 x291002_17,u291003] 69 (0,0))) ∧ Aside0 (Below w.heap.size w wc))
            case first =>
             have H:=HC18.out
             clear HC18
             by_cases c24 : (Int.tmod ((rd_T32 l0 x5_2).f0) 4) = 0
             ·rw [if_pos c24] at H
              have c24b0 : ((Int.tmod ((rd_T32 l0 x5_2).f0) 4) == 0) = true:=beq_iff_eq.mpr c24
              have c24b1 : ((Int.tmod ((rd_T32 l0 x5_2).f0) 4) != 0) = false:=bne_eq_false_iff_eq.mpr c24
              clear c24
              (first | rw [c24b0] | (simp only [i64_w,i32_w];rw [c24b0]) | skip)
              replace H:=Option.bind_eq_some_iff.mp H
              obtain ⟨⟨t292,t293,t294,t295,t298,t299⟩,A250,H⟩:=H
              replace H : (humuslaw11_TableCounts.j9 kj12 l0 x4_2 x5_2 t299 x285000_2 x285001_2 x285002_2 x285003_2 t292 t293 t294 t295) = some r:=H
              have A25:=Aside0.mk A250
              clear A250
              have H':=Aside0.mk H
              clear H
              have hnb26:=NB284_290.out
              have hnc26:=NB290_284.out
              obtain ⟨hcz27_0,hcz27_1,hcz27_2,hcz27_3⟩:=blkc_4 BK284.out
              obtain ⟨hfz27_0,hfz27_1,hfz27_2,hfz27_3⟩:=blkz_4 BK284.out
              go_wp2_with (first | ((with_reducible refine gate_callee (f:=37) rfl ?_);refine goesL_ (some 74) rfl rfl Try.func37 (by kernel_rfl) rfl #[.agg #[.int .i64 x285000_2,.int .i64 x285001_2,.int .i64 x285002_2,.slice Ao23 x285003_2.length co23],.int .i64 x6_12] rfl (by (try simp only [List.map_toArray,List.map_cons,List.map_nil]);first | done | rfl | (simp only [List.length_drop,List.length_take];rfl)) ?_;(with_reducible refine (table_Enter.calls kj12 x285000_2 x285001_2 x285002_2 _ _ x285003_2 x6_12 t292 t293 t294 t295 t298 t299 _ ?side1 ?side2 A25.out).mono ?_);(case side1 => refine (Kd.R_reads' (e:=112) (base:=w.heap.size) (ok:=fun k_ => True) (n:=x285003_2.length) (c:=co23) ?_).2.2;exact (by (with_reducible repeat (first | apply Kd.R_alloc | apply Kd.R_drewN | apply Kd.R_drew));exact (Kd.R_mono (Kd.R_far (p:=⟨gb290,3,none⟩) (Kd.R_far (p:=⟨gb290,2,none⟩) (Kd.R_far (p:=⟨gb290,1,none⟩) (Kd.R_far (p:=⟨gb290,0,none⟩) (Kd.R_types HO_285003.out BK290.out (by decide)) (fun _ hk => hk.2) (.int .i64 x285000_2)) (fun _ hk => hk.2) (.int .i64 x285001_2)) (fun _ hk => hk.2) (.int .i64 x285002_2)) (fun _ hk => hk.2) (.slice Ao23 x285003_2.length co23)) (fun _ h_ => h_.1))));(case side2 => exact (Kd.R_reads' HO_285003.out).2.1);rintro e w28 ⟨v296,rfl,ho0,hb⟩;refine ⟨_,rfl,?_⟩;have n0_:=Aside0.mk (Kd.R_below (by (with_reducible repeat (first | apply Kd.R_alloc | apply Kd.R_drewN | apply Kd.R_drew));exact (Kd.R_mono (Kd.R_far (p:=⟨gb290,3,none⟩) (Kd.R_far (p:=⟨gb290,2,none⟩) (Kd.R_far (p:=⟨gb290,1,none⟩) (Kd.R_far (p:=⟨gb290,0,none⟩) (Kd.R_types HO_4.out BK290.out (by decide)) (fun _ hk => hk.2) (.int .i64 x285000_2)) (fun _ hk => hk.2) (.int .i64 x285001_2)) (fun _ hk => hk.2) (.int .i64 x285002_2)) (fun _ hk => hk.2) (.slice Ao23 x285003_2.length co23)) (fun _ h_ => h_.1))) hb);have n1_:=Aside0.mk (Kd.R_elder' (by (with_reducible repeat (first | apply Kd.R_alloc | apply Kd.R_drewN | apply Kd.R_drew));exact (Kd.R_mono (Kd.R_far (p:=⟨gb290,3,none⟩) (Kd.R_far (p:=⟨gb290,2,none⟩) (Kd.R_far (p:=⟨gb290,1,none⟩) (Kd.R_far (p:=⟨gb290,0,none⟩) (Kd.R_types HO_285003.out BK290.out (by decide)) (fun _ hk => hk.2) (.int .i64 x285000_2)) (fun _ hk => hk.2) (.int .i64 x285001_2)) (fun _ hk => hk.2) (.int .i64 x285002_2)) (fun _ hk => hk.2) (.slice Ao23 x285003_2.length co23)) (fun _ h_ => h_.1))) (Kd.R_base ho0) hb);have n2_:=Aside0.mk (Kd.R_lower (Kd.R_new' ho0 (Kd.R_lt (by (with_reducible repeat (first | apply Kd.R_alloc | apply Kd.R_drewN | apply Kd.R_drew));exact (Kd.R_mono (Kd.R_far (p:=⟨gb290,3,none⟩) (Kd.R_far (p:=⟨gb290,2,none⟩) (Kd.R_far (p:=⟨gb290,1,none⟩) (Kd.R_far (p:=⟨gb290,0,none⟩) (Kd.R_types HO_285003.out BK290.out (by decide)) (fun _ hk => hk.2) (.int .i64 x285000_2)) (fun _ hk => hk.2) (.int .i64 x285001_2)) (fun _ hk => hk.2) (.int .i64 x285002_2)) (fun _ hk => hk.2) (.slice Ao23 x285003_2.length co23)) (fun _ h_ => h_.1))))) (below_size (by repeat (first | (with_reducible first | exact HB.out | apply below_alloc | apply pw_below_drewN | apply below_drew1 | refine below_set ?_ GE284.out | refine below_set ?_ GE290.out) | exact HB.out))));have n3_:=Aside0.mk (blk_below (g:=gb284) (o:=.cells #[.int .i64 x285000_2,.int .i64 x285001_2,.int .i64 x285002_2,.slice Ao23 x285003_2.length co23] 69 (0,0)) (by (with_reducible repeat (first | refine blk_drewN ?_ _ | refine blk_drew ?_ | refine blk_alloc ?_ _));refine blk_far ?_ NB284_290.out _;(with_reducible repeat (first | refine blk_drewN ?_ _ | refine blk_drew ?_ | refine blk_alloc ?_ _));refine blk_far ?_ NB284_290.out _;(with_reducible repeat (first | refine blk_drewN ?_ _ | refine blk_drew ?_ | refine blk_alloc ?_ _));refine blk_far ?_ NB284_290.out _;(with_reducible repeat (first | refine blk_drewN ?_ _ | refine blk_drew ?_ | refine blk_alloc ?_ _));refine blk_far ?_ NB284_290.out _;(with_reducible repeat (first | refine blk_drewN ?_ _ | refine blk_drew ?_ | refine blk_alloc ?_ _));exact BK284.out) hb);have n4_:=Aside0.mk (blk_below (g:=gb290) (o:=.cells #[.int .i64 x285000_2,.int .i64 x285001_2,.int .i64 x285002_2,.slice Ao23 x285003_2.length co23] 69 (0,0)) (by (with_reducible repeat (first | refine blk_drewN ?_ _ | refine blk_drew ?_ | refine blk_alloc ?_ _));apply blkf_4_0_3;(with_reducible repeat (first | refine blk_drewN ?_ _ | refine blk_drew ?_ | refine blk_alloc ?_ _));exact BK290.out) hb);have n5_:=Aside0.mk (below_step (by repeat (first | (with_reducible first | exact HB.out | apply below_alloc | apply pw_below_drewN | apply below_drew1 | refine below_set ?_ GE284.out | refine below_set ?_ GE290.out) | exact HB.out)) hb);clear HO_4;clear HO_285003;clear BK284;clear BK290;clear HB;have HO_4:=n0_;have HO_285003:=n1_;have HO297:=n2_;have BK284:=n3_;have BK290:=n4_;have HB:=n5_;clear n0_ n1_ n2_ n3_ n4_ n5_;(try clear hb);(try clear hb2);(try clear hk);(try clear hi);(try clear ho0);obtain ⟨hcz29_0,hcz29_1,hcz29_2,hcz29_3⟩:=blkc_4 BK290.out;obtain ⟨hfz29_0,hfz29_1,hfz29_2,hfz29_3⟩:=blkz_4 BK290.out;obtain ⟨Ao30,co30,eo30⟩:=Kd.R_slice HO297.out;subst eo30))
              go_meet
              case rel => exact ⟨_,(x4_2),(t299),(t292),(t293),(t294),(t295),(.slice Ao30 t295.length co30),(by first | rfl | (simp;done) | (simp [*];done)),H',⟨by have:=HJ2.out;have:=HK2.out;have:=HJ9.out;have:=HJ12.out;first | omega | exact Nat.le_refl _⟩,⟨by (with_reducible repeat (first | apply Kd.R_alloc | apply Kd.R_drewN | apply Kd.R_drew));exact Kd.R_mono (Kd.R_far (p:=⟨gb290,3,none⟩) (Kd.R_far (p:=⟨gb290,2,none⟩) (Kd.R_far (p:=⟨gb290,1,none⟩) (Kd.R_far (p:=⟨gb290,0,none⟩) (Kd.R_types HO_4.out BK290.out (by decide)) (fun _ hk => hk.2) (.int .i64 t292)) (fun _ hk => hk.2) (.int .i64 t293)) (fun _ hk => hk.2) (.int .i64 t294)) (fun _ hk => hk.2) (.slice Ao30 t295.length co30)) (fun _ hk => trivial)⟩,⟨by (with_reducible repeat (first | apply Kd.R_alloc | apply Kd.R_drewN | apply Kd.R_drew));exact Kd.R_mono (Kd.R_far (p:=⟨gb290,3,none⟩) (Kd.R_far (p:=⟨gb290,2,none⟩) (Kd.R_far (p:=⟨gb290,1,none⟩) (Kd.R_far (p:=⟨gb290,0,none⟩) (Kd.R_types HO_285003.out BK290.out (by decide)) (fun _ hk => hk.2) (.int .i64 t292)) (fun _ hk => hk.2) (.int .i64 t293)) (fun _ hk => hk.2) (.int .i64 t294)) (fun _ hk => hk.2) (.slice Ao30 t295.length co30)) (fun _ hk => hk.1.2)⟩,⟨by (with_reducible repeat (first | apply Kd.R_alloc | apply Kd.R_drewN | apply Kd.R_drew));exact Kd.R_mono (Kd.R_far (p:=⟨gb290,3,none⟩) (Kd.R_far (p:=⟨gb290,2,none⟩) (Kd.R_far (p:=⟨gb290,1,none⟩) (Kd.R_far (p:=⟨gb290,0,none⟩) (Kd.R_types HO297.out BK290.out (by decide)) (fun _ hk => hk.2) (.int .i64 t292)) (fun _ hk => hk.2) (.int .i64 t293)) (fun _ hk => hk.2) (.int .i64 t294)) (fun _ hk => hk.2) (.slice Ao30 t295.length co30)) (fun _ hk => hk.1.2)⟩,⟨by (with_reducible repeat (first | refine blk_drewN ?_ _ | refine blk_drew ?_ | refine blk_alloc ?_ _));refine blk_far ?_ NB284_290.out _;(with_reducible repeat (first | refine blk_drewN ?_ _ | refine blk_drew ?_ | refine blk_alloc ?_ _));refine blk_far ?_ NB284_290.out _;(with_reducible repeat (first | refine blk_drewN ?_ _ | refine blk_drew ?_ | refine blk_alloc ?_ _));refine blk_far ?_ NB284_290.out _;(with_reducible repeat (first | refine blk_drewN ?_ _ | refine blk_drew ?_ | refine blk_alloc ?_ _));refine blk_far ?_ NB284_290.out _;(with_reducible repeat (first | refine blk_drewN ?_ _ | refine blk_drew ?_ | refine blk_alloc ?_ _));exact BK284.out⟩,⟨by (with_reducible repeat (first | refine blk_drewN ?_ _ | refine blk_drew ?_ | refine blk_alloc ?_ _));apply blkf_4_0_3;(with_reducible repeat (first | refine blk_drewN ?_ _ | refine blk_drew ?_ | refine blk_alloc ?_ _));exact BK290.out⟩,⟨by repeat (first | (with_reducible first | exact HB.out | apply below_alloc | apply pw_below_drewN | apply below_drew1 | refine below_set ?_ GE284.out | refine below_set ?_ GE290.out) | exact HB.out)⟩⟩
             ·rw [if_neg c24] at H
              have c24b0 : ((Int.tmod ((rd_T32 l0 x5_2).f0) 4) == 0) = false:=beq_eq_false_iff_ne.mpr c24
              have c24b1 : ((Int.tmod ((rd_T32 l0 x5_2).f0) 4) != 0) = true:=bne_iff_ne.mpr c24
              (first | rw [c24b0] | (simp only [i64_w,i32_w];rw [c24b0]) | skip)
              have HC31:=Aside0.mk H
              clear H
              go_upto_region 20 with (fail)
              go_cut [78] (fun v78 wc => ∃ (kq : Nat) (x78_30 : Bool),v78 = .bool x78_30 ∧ Aside0 (humuslaw11_TableCounts.j4 kq l0 x4_2 x5_2 x6_12 (Int.tmod ((rd_T32 l0 x5_2).f0) 4) x78_30 x285000_2 x285001_2 x285002_2 x285003_2 = some r) ∧ Aside0 (kq ≤ kj12) ∧ Aside0 (Kd.R (Kd.int .i64) 3 wc w.heap.size (fun _ => True) u4 x4_2) ∧ Aside0 (Kd.R k112 112 wc w.heap.size (fun _ => True) (.slice Ao23 x285003_2.length co23) x285003_2) ∧ Aside0 (Kd.R k112 112 wc w.heap.size (fun _ => True) (.slice Ao23 x285003_2.length co23) x285003_2) ∧ Aside0 (wc.heap[gb284]? = some (.cells #[.int .i64 x285000_2,.int .i64 x285001_2,.int .i64 x285002_2,(.slice Ao23 x285003_2.length co23)] 69 (0,0))) ∧ Aside0 (wc.heap[gb290]? = some (.cells #[.int .i64 x285000_2,.int .i64 x285001_2,.int .i64 x285002_2,(.slice Ao23 x285003_2.length co23)] 69 (0,0))) ∧ Aside0 (Below w.heap.size w wc))
              case first =>
               have H:=HC31.out
               clear HC31
               have H':=Aside0.mk H
               clear H
               go_wp2
               go_meet
               case rel => exact ⟨_,(((Int.tmod ((rd_T32 l0 x5_2).f0) 4) == 1)),(by first | rfl | (simp;done) | (simp [*];done)),H',⟨by have:=HJ2.out;have:=HK2.out;have:=HJ9.out;have:=HJ12.out;first | omega | exact Nat.le_refl _⟩,⟨by (with_reducible repeat (first | apply Kd.R_alloc | apply Kd.R_drewN | apply Kd.R_drew));exact Kd.R_mono (Kd.R_far (p:=⟨gb290,3,none⟩) (Kd.R_far (p:=⟨gb290,2,none⟩) (Kd.R_far (p:=⟨gb290,1,none⟩) (Kd.R_far (p:=⟨gb290,0,none⟩) (Kd.R_types HO_4.out BK290.out (by decide)) (fun _ hk => hk.2) (.int .i64 x285000_2)) (fun _ hk => hk.2) (.int .i64 x285001_2)) (fun _ hk => hk.2) (.int .i64 x285002_2)) (fun _ hk => hk.2) (.slice Ao23 x285003_2.length co23)) (fun _ hk => trivial)⟩,⟨by (with_reducible repeat (first | apply Kd.R_alloc | apply Kd.R_drewN | apply Kd.R_drew));exact Kd.R_mono (Kd.R_far (p:=⟨gb290,3,none⟩) (Kd.R_far (p:=⟨gb290,2,none⟩) (Kd.R_far (p:=⟨gb290,1,none⟩) (Kd.R_far (p:=⟨gb290,0,none⟩) (Kd.R_types HO_285003.out BK290.out (by decide)) (fun _ hk => hk.2) (.int .i64 x285000_2)) (fun _ hk => hk.2) (.int .i64 x285001_2)) (fun _ hk => hk.2) (.int .i64 x285002_2)) (fun _ hk => hk.2) (.slice Ao23 x285003_2.length co23)) (fun _ hk => trivial)⟩,⟨by (with_reducible repeat (first | apply Kd.R_alloc | apply Kd.R_drewN | apply Kd.R_drew));exact Kd.R_mono (Kd.R_far (p:=⟨gb290,3,none⟩) (Kd.R_far (p:=⟨gb290,2,none⟩) (Kd.R_far (p:=⟨gb290,1,none⟩) (Kd.R_far (p:=⟨gb290,0,none⟩) (Kd.R_types HO_285003.out BK290.out (by decide)) (fun _ hk => hk.2) (.int .i64 x285000_2)) (fun _ hk => hk.2) (.int .i64 x285001_2)) (fun _ hk => hk.2) (.int .i64 x285002_2)) (fun _ hk => hk.2) (.slice Ao23 x285003_2.length co23)) (fun _ hk => trivial)⟩,⟨by (with_reducible repeat (first | refine blk_drewN ?_ _ | refine blk_drew ?_ | refine blk_alloc ?_ _));refine blk_far ?_ NB284_290.out _;(with_reducible repeat (first | refine blk_drewN ?_ _ | refine blk_drew ?_ | refine blk_alloc ?_ _));refine blk_far ?_ NB284_290.out _;(with_reducible repeat (first | refine blk_drewN ?_ _ | refine blk_drew ?_ | refine blk_alloc ?_ _));refine blk_far ?_ NB284_290.out _;(with_reducible repeat (first | refine blk_drewN ?_ _ | refine blk_drew ?_ | refine blk_alloc ?_ _));refine blk_far ?_ NB284_290.out _;(with_reducible repeat (first | refine blk_drewN ?_ _ | refine blk_drew ?_ | refine blk_alloc ?_ _));exact BK284.out⟩,⟨by (with_reducible repeat (first | refine blk_drewN ?_ _ | refine blk_drew ?_ | refine blk_alloc ?_ _));apply blkf_4_0_3;(with_reducible repeat (first | refine blk_drewN ?_ _ | refine blk_drew ?_ | refine blk_alloc ?_ _));exact BK290.out⟩,⟨by repeat (first | (with_reducible first | exact HB.out | apply below_alloc | apply pw_below_drewN | apply below_drew1 | refine below_set ?_ GE284.out | refine below_set ?_ GE290.out) | exact HB.out)⟩⟩
              case rest =>
               clear HC31
               try clear c1
               try clear c2
               try clear p2
               try clear q2
               try clear hx2
               try clear c3
               try clear p6
               try clear c11
               try clear c11b0
               try clear c12
               try clear c14
               try clear c14b0
               try clear c15
               try clear c15b0
               try clear c16
               try clear c16b0
               try clear c17
               try clear c17b0
               try clear c21
               try clear c24
               try clear c24b0
               try clear c24b1
               try clear c26
               try clear p28
               try clear q28
               try clear hx28
               try clear p29
               try clear q29
               try clear hx29
               try clear hcz19_0
               try clear hcz19_1
               try clear hcz19_2
               try clear hcz19_3
               try clear hcz22_0
               try clear hcz22_1
               try clear hcz22_2
               try clear hcz22_3
               try clear hcz27_0
               try clear hcz27_1
               try clear hcz27_2
               try clear hcz27_3
               try clear hcz29_0
               try clear hcz29_1
               try clear hcz29_2
               try clear hcz29_3
               try clear hcz6_0
               try clear hcz6_1
               try clear hcz6_2
               try clear hcz6_3
               try clear hfz19_0
               try clear hfz19_1
               try clear hfz19_2
               try clear hfz19_3
               try clear hfz22_0
               try clear hfz22_1
               try clear hfz22_2
               try clear hfz22_3
               try clear hfz27_0
               try clear hfz27_1
               try clear hfz27_2
               try clear hfz27_3
               try clear hfz29_0
               try clear hfz29_1
               try clear hfz29_2
               try clear hfz29_3
               try clear hfz6_0
               try clear hfz6_1
               try clear hfz6_2
               try clear hfz6_3
               try clear hx289_0
               try clear hx289_1
               try clear hx291_0
               try clear hx291_1
               try clear p2
               try clear p289
               try clear p291
               try clear p6
               try clear q2
               try clear q289
               try clear q291
               obtain ⟨kq,x78_30,rfl,HA,HJ30,HO_4,HO_285003,HO_291003,BK284,BK290,HB⟩:=hcut
               cases kq with
               | zero => exact absurd HA.out (by simp [humuslaw11_TableCounts.j4])
               | succ kj30 =>
                have H:=HA.out
                clear HA
                simp only [humuslaw11_TableCounts.j4] at H
                by_cases c32 : x78_30 = true
                ·subst c32
                 have H1 : ((table_Write.f kj30 x285000_2 x285001_2 x285002_2 x285003_2 x6_12 7).bind fun bt300 => (humuslaw11_TableCounts.j9 kj30 l0 x4_2 x5_2 bt300.2.2.2.2 x285000_2 x285001_2 x285002_2 x285003_2 bt300.1 bt300.2.1 bt300.2.2.1 bt300.2.2.2.1)) = some r:=by rw [if_pos rfl] at H;exact H
                 clear H
                 have H:=H1
                 clear H1
                 replace H:=Option.bind_eq_some_iff.mp H
                 obtain ⟨⟨t300,t301,t302,t303,t306⟩,A330,H⟩:=H
                 replace H : (humuslaw11_TableCounts.j9 kj30 l0 x4_2 x5_2 t306 x285000_2 x285001_2 x285002_2 x285003_2 t300 t301 t302 t303) = some r:=H
                 have A33:=Aside0.mk A330
                 clear A330
                 have H':=Aside0.mk H
                 clear H
                 have hnb34:=NB284_290.out
                 have hnc34:=NB290_284.out
                 obtain ⟨hcz35_0,hcz35_1,hcz35_2,hcz35_3⟩:=blkc_4 BK284.out
                 obtain ⟨hfz35_0,hfz35_1,hfz35_2,hfz35_3⟩:=blkz_4 BK284.out
                 go_wp2_with (first | ((with_reducible refine gate_callee (f:=40) rfl ?_);refine goesL_ (some 83) rfl rfl Try.func40 (by kernel_rfl) rfl #[.agg #[.int .i64 x285000_2,.int .i64 x285001_2,.int .i64 x285002_2,.slice Ao23 x285003_2.length co23],.int .i64 x6_12,.int .i64 7] rfl (by (try simp only [List.map_toArray,List.map_cons,List.map_nil]);first | done | rfl | (simp only [List.length_drop,List.length_take];rfl)) ?_;(with_reducible refine (table_Write.calls kj30 x285000_2 x285001_2 x285002_2 _ _ x285003_2 x6_12 7 t300 t301 t302 t303 t306 _ ?side1 ?side2 A33.out).mono ?_);(case side1 => repeat (first | exact (Kd.R_reads' HO_285003.out).2.2 | (with_reducible refine Kd.C_alloc ?_ _) | (with_reducible refine Kd.C_drewN ?_ _) | (with_reducible refine Kd.C_drew ?_)));(case side2 => exact (Kd.R_reads' HO_285003.out).2.1);rintro e w36 ⟨v304,rfl,ho0,hb⟩;refine ⟨_,rfl,?_⟩;have n0_:=Aside0.mk (Kd.R_below (by (with_reducible repeat (first | apply Kd.R_alloc | apply Kd.R_drewN | apply Kd.R_drew));exact HO_4.out) hb);have n1_:=Aside0.mk (Kd.R_elder' (by (with_reducible repeat (first | apply Kd.R_alloc | apply Kd.R_drewN | apply Kd.R_drew));exact HO_285003.out) (Kd.R_base ho0) hb);have n2_:=Aside0.mk (Kd.R_elder' (by (with_reducible repeat (first | apply Kd.R_alloc | apply Kd.R_drewN | apply Kd.R_drew));exact HO_291003.out) (Kd.R_base ho0) hb);have n3_:=Aside0.mk (Kd.R_lower (Kd.R_new' (Kd.R_new' ho0 (Kd.R_lt (by (with_reducible repeat (first | apply Kd.R_alloc | apply Kd.R_drewN | apply Kd.R_drew));exact HO_285003.out))) (Kd.R_lt (by (with_reducible repeat (first | apply Kd.R_alloc | apply Kd.R_drewN | apply Kd.R_drew));exact HO_291003.out))) (below_size (by repeat (first | (with_reducible first | exact HB.out | apply below_alloc | apply pw_below_drewN | apply below_drew1 | refine below_set ?_ GE284.out | refine below_set ?_ GE290.out) | exact HB.out))));have n4_:=Aside0.mk (blk_below (g:=gb284) (o:=.cells #[.int .i64 x285000_2,.int .i64 x285001_2,.int .i64 x285002_2,.slice Ao23 x285003_2.length co23] 69 (0,0)) (by (with_reducible repeat (first | refine blk_drewN ?_ _ | refine blk_drew ?_ | refine blk_alloc ?_ _));exact BK284.out) hb);have n5_:=Aside0.mk (blk_below (g:=gb290) (o:=.cells #[.int .i64 x285000_2,.int .i64 x285001_2,.int .i64 x285002_2,.slice Ao23 x285003_2.length co23] 69 (0,0)) (by (with_reducible repeat (first | refine blk_drewN ?_ _ | refine blk_drew ?_ | refine blk_alloc ?_ _));exact BK290.out) hb);have n6_:=Aside0.mk (below_step (by repeat (first | (with_reducible first | exact HB.out | apply below_alloc | apply pw_below_drewN | apply below_drew1 | refine below_set ?_ GE284.out | refine below_set ?_ GE290.out) | exact HB.out)) hb);clear HO_4;clear HO_285003;clear HO_291003;clear BK284;clear BK290;clear HB;have HO_4:=n0_;have HO_285003:=n1_;have HO_291003:=n2_;have HO305:=n3_;have BK284:=n4_;have BK290:=n5_;have HB:=n6_;clear n0_ n1_ n2_ n3_ n4_ n5_ n6_;(try clear hb);(try clear hb2);(try clear hk);(try clear hi);(try clear ho0);obtain ⟨hcz37_0,hcz37_1,hcz37_2,hcz37_3⟩:=blkc_4 BK290.out;obtain ⟨hfz37_0,hfz37_1,hfz37_2,hfz37_3⟩:=blkz_4 BK290.out;obtain ⟨Ao38,co38,eo38⟩:=Kd.R_slice HO305.out;subst eo38))
                 go_meet
                 case rel => exact ⟨_,(x4_2),(t306),(t300),(t301),(t302),(t303),(.slice Ao38 t303.length co38),(by first | rfl | (simp;done) | (simp [*];done)),H',⟨by have:=HJ2.out;have:=HK2.out;have:=HJ9.out;have:=HJ12.out;have:=HJ30.out;first | omega | exact Nat.le_refl _⟩,⟨by (with_reducible repeat (first | apply Kd.R_alloc | apply Kd.R_drewN | apply Kd.R_drew));exact Kd.R_mono (Kd.R_far (p:=⟨gb290,3,none⟩) (Kd.R_far (p:=⟨gb290,2,none⟩) (Kd.R_far (p:=⟨gb290,1,none⟩) (Kd.R_far (p:=⟨gb290,0,none⟩) (Kd.R_types HO_4.out BK290.out (by decide)) (fun _ hk => hk.2) (.int .i64 t300)) (fun _ hk => hk.2) (.int .i64 t301)) (fun _ hk => hk.2) (.int .i64 t302)) (fun _ hk => hk.2) (.slice Ao38 t303.length co38)) (fun _ hk => trivial)⟩,⟨by (with_reducible repeat (first | apply Kd.R_alloc | apply Kd.R_drewN | apply Kd.R_drew));exact Kd.R_mono (Kd.R_far (p:=⟨gb290,3,none⟩) (Kd.R_far (p:=⟨gb290,2,none⟩) (Kd.R_far (p:=⟨gb290,1,none⟩) (Kd.R_far (p:=⟨gb290,0,none⟩) (Kd.R_types HO_285003.out BK290.out (by decide)) (fun _ hk => hk.2) (.int .i64 t300)) (fun _ hk => hk.2) (.int .i64 t301)) (fun _ hk => hk.2) (.int .i64 t302)) (fun _ hk => hk.2) (.slice Ao38 t303.length co38)) (fun _ hk => hk.1.2)⟩,⟨by (with_reducible repeat (first | apply Kd.R_alloc | apply Kd.R_drewN | apply Kd.R_drew));exact Kd.R_mono (Kd.R_far (p:=⟨gb290,3,none⟩) (Kd.R_far (p:=⟨gb290,2,none⟩) (Kd.R_far (p:=⟨gb290,1,none⟩) (Kd.R_far (p:=⟨gb290,0,none⟩) (Kd.R_types HO305.out BK290.out (by decide)) (fun _ hk => hk.2) (.int .i64 t300)) (fun _ hk => hk.2) (.int .i64 t301)) (fun _ hk => hk.2) (.int .i64 t302)) (fun _ hk => hk.2) (.slice Ao38 t303.length co38)) (fun _ hk => hk.1.1.2)⟩,⟨by (with_reducible repeat (first | refine blk_drewN ?_ _ | refine blk_drew ?_ | refine blk_alloc ?_ _));refine blk_far ?_ NB284_290.out _;(with_reducible repeat (first | refine blk_drewN ?_ _ | refine blk_drew ?_ | refine blk_alloc ?_ _));refine blk_far ?_ NB284_290.out _;(with_reducible repeat (first | refine blk_drewN ?_ _ | refine blk_drew ?_ | refine blk_alloc ?_ _));refine blk_far ?_ NB284_290.out _;(with_reducible repeat (first | refine blk_drewN ?_ _ | refine blk_drew ?_ | refine blk_alloc ?_ _));refine blk_far ?_ NB284_290.out _;(with_reducible repeat (first | refine blk_drewN ?_ _ | refine blk_drew ?_ | refine blk_alloc ?_ _));exact BK284.out⟩,⟨by (with_reducible repeat (first | refine blk_drewN ?_ _ | refine blk_drew ?_ | refine blk_alloc ?_ _));apply blkf_4_0_3;(with_reducible repeat (first | refine blk_drewN ?_ _ | refine blk_drew ?_ | refine blk_alloc ?_ _));exact BK290.out⟩,⟨by repeat (first | (with_reducible first | exact HB.out | apply below_alloc | apply pw_below_drewN | apply below_drew1 | refine below_set ?_ GE284.out | refine below_set ?_ GE290.out) | exact HB.out)⟩⟩
                ·replace c32:=Bool.eq_false_iff.mpr c32
                 subst c32
                 have H1 : (humuslaw11_TableCounts.j5 kj30 l0 x4_2 x5_2 x6_12 ((Int.tmod ((rd_T32 l0 x5_2).f0) 4) == 2) x285000_2 x285001_2 x285002_2 x285003_2) = some r:=by rw [if_neg (show ¬ (false = true) by decide)] at H;exact H
                 clear H
                 have H:=H1
                 clear H1
                 have HC39:=Aside0.mk H
                 clear H
                 go_upto_region 22 with (fail)
                 go_cut [86] (fun v86 wc => ∃ (kq : Nat) (x86_38 : Bool),v86 = .bool x86_38 ∧ Aside0 (humuslaw11_TableCounts.j5 kq l0 x4_2 x5_2 x6_12 x86_38 x285000_2 x285001_2 x285002_2 x285003_2 = some r) ∧ Aside0 (kq ≤ kj30) ∧ Aside0 (Kd.R (Kd.int .i64) 3 wc w.heap.size (fun _ => True) u4 x4_2) ∧ Aside0 (Kd.R k112 112 wc w.heap.size (fun _ => True) (.slice Ao23 x285003_2.length co23) x285003_2) ∧ Aside0 (Kd.R k112 112 wc w.heap.size (fun _ => True) (.slice Ao23 x285003_2.length co23) x285003_2) ∧ Aside0 (wc.heap[gb284]? = some (.cells #[.int .i64 x285000_2,.int .i64 x285001_2,.int .i64 x285002_2,(.slice Ao23 x285003_2.length co23)] 69 (0,0))) ∧ Aside0 (wc.heap[gb290]? = some (.cells #[.int .i64 x285000_2,.int .i64 x285001_2,.int .i64 x285002_2,(.slice Ao23 x285003_2.length co23)] 69 (0,0))) ∧ Aside0 (Below w.heap.size w wc))
                 case first =>
                  have H:=HC39.out
                  clear HC39
                  have H':=Aside0.mk H
                  clear H
                  go_wp2
                  go_meet
                  case rel => exact ⟨_,(((Int.tmod ((rd_T32 l0 x5_2).f0) 4) == 2)),(by first | rfl | (simp;done) | (simp [*];done)),H',⟨by have:=HJ2.out;have:=HK2.out;have:=HJ9.out;have:=HJ12.out;have:=HJ30.out;first | omega | exact Nat.le_refl _⟩,⟨by (with_reducible repeat (first | apply Kd.R_alloc | apply Kd.R_drewN | apply Kd.R_drew));exact HO_4.out⟩,⟨by (with_reducible repeat (first | apply Kd.R_alloc | apply Kd.R_drewN | apply Kd.R_drew));exact HO_285003.out⟩,⟨by (with_reducible repeat (first | apply Kd.R_alloc | apply Kd.R_drewN | apply Kd.R_drew));exact HO_291003.out⟩,⟨by (with_reducible repeat (first | refine blk_drewN ?_ _ | refine blk_drew ?_ | refine blk_alloc ?_ _));exact BK284.out⟩,⟨by (with_reducible repeat (first | refine blk_drewN ?_ _ | refine blk_drew ?_ | refine blk_alloc ?_ _));exact BK290.out⟩,⟨by repeat (first | (with_reducible first | exact HB.out | apply below_alloc | apply pw_below_drewN | apply below_drew1 | refine below_set ?_ GE284.out | refine below_set ?_ GE290.out) | exact HB.out)⟩⟩
                 case rest =>
                  clear HC39
                  try clear c1
                  try clear c2
                  try clear p2
                  try clear q2
                  try clear hx2
                  try clear c3
                  try clear c4
                  try clear p6
                  try clear c11
                  try clear c11b0
                  try clear c12
                  try clear c14
                  try clear c14b0
                  try clear c15
                  try clear c15b0
                  try clear c16
                  try clear c16b0
                  try clear c17
                  try clear c17b0
                  try clear c21
                  try clear c24
                  try clear c24b0
                  try clear c24b1
                  try clear c26
                  try clear p28
                  try clear q28
                  try clear hx28
                  try clear p29
                  try clear q29
                  try clear hx29
                  try clear c32
                  try clear c34
                  try clear c36
                  try clear c37
                  try clear hcz19_0
                  try clear hcz19_1
                  try clear hcz19_2
                  try clear hcz19_3
                  try clear hcz22_0
                  try clear hcz22_1
                  try clear hcz22_2
                  try clear hcz22_3
                  try clear hcz27_0
                  try clear hcz27_1
                  try clear hcz27_2
                  try clear hcz27_3
                  try clear hcz29_0
                  try clear hcz29_1
                  try clear hcz29_2
                  try clear hcz29_3
                  try clear hcz35_0
                  try clear hcz35_1
                  try clear hcz35_2
                  try clear hcz35_3
                  try clear hcz37_0
                  try clear hcz37_1
                  try clear hcz37_2
                  try clear hcz37_3
                  try clear hcz6_0
                  try clear hcz6_1
                  try clear hcz6_2
                  try clear hcz6_3
                  try clear hfz19_0
                  try clear hfz19_1
                  try clear hfz19_2
                  try clear hfz19_3
                  try clear hfz22_0
                  try clear hfz22_1
                  try clear hfz22_2
                  try clear hfz22_3
                  try clear hfz27_0
                  try clear hfz27_1
                  try clear hfz27_2
                  try clear hfz27_3
                  try clear hfz29_0
                  try clear hfz29_1
                  try clear hfz29_2
                  try clear hfz29_3
                  try clear hfz35_0
                  try clear hfz35_1
                  try clear hfz35_2
                  try clear hfz35_3
                  try clear hfz37_0
                  try clear hfz37_1
                  try clear hfz37_2
                  try clear hfz37_3
                  try clear hfz6_0
                  try clear hfz6_1
                  try clear hfz6_2
                  try clear hfz6_3
                  try clear hx289_0
                  try clear hx289_1
                  try clear hx291_0
                  try clear hx291_1
                  try clear p2
                  try clear p28
                  try clear p289
                  try clear p29
                  try clear p291
                  try clear p6
                  try clear q2
                  try clear q28
                  try clear q289
                  try clear q29
                  try clear q291
                  obtain ⟨kq,x86_38,rfl,HA,HJ38,HO_4,HO_285003,HO_291003,BK284,BK290,HB⟩:=hcut
                  cases kq with
                  | zero => exact absurd HA.out (by simp [humuslaw11_TableCounts.j5])
                  | succ kj38 =>
                   have H:=HA.out
                   clear HA
                   simp only [humuslaw11_TableCounts.j5] at H
                   by_cases c40 : x86_38 = true
                   ·subst c40
                    have H1 : ((table_Commit.f kj38 x285000_2 x285001_2 x285002_2 x285003_2 x6_12).bind fun bt307 => (humuslaw11_TableCounts.j6 kj38 l0 x4_2 x5_2 x6_12 bt307.2.2.2.2.1 bt307.2.2.2.2.2 (bt307.2.2.2.2.2 == 0) x285000_2 x285001_2 x285002_2 x285003_2 bt307.1 bt307.2.1 bt307.2.2.1 bt307.2.2.2.1)) = some r:=by rw [if_pos rfl] at H;exact H
                    clear H
                    have H:=H1
                    clear H1
                    replace H:=Option.bind_eq_some_iff.mp H
                    obtain ⟨⟨t307,t308,t309,t310,t313,t314⟩,A410,H⟩:=H
                    replace H : (humuslaw11_TableCounts.j6 kj38 l0 x4_2 x5_2 x6_12 t313 t314 (t314 == 0) x285000_2 x285001_2 x285002_2 x285003_2 t307 t308 t309 t310) = some r:=H
                    have A41:=Aside0.mk A410
                    clear A410
                    have HC42:=Aside0.mk H
                    clear H
                    have hnb43:=NB284_290.out
                    have hnc43:=NB290_284.out
                    obtain ⟨hcz44_0,hcz44_1,hcz44_2,hcz44_3⟩:=blkc_4 BK284.out
                    obtain ⟨hfz44_0,hfz44_1,hfz44_2,hfz44_3⟩:=blkz_4 BK284.out
                    go_upto_region 24 with (first | ((with_reducible refine gate_callee (f:=41) rfl ?_);refine goesL_ (some 91) rfl rfl Try.func41 (by kernel_rfl) rfl #[.agg #[.int .i64 x285000_2,.int .i64 x285001_2,.int .i64 x285002_2,.slice Ao23 x285003_2.length co23],.int .i64 x6_12] rfl (by (try simp only [List.map_toArray,List.map_cons,List.map_nil]);first | done | rfl | (simp only [List.length_drop,List.length_take];rfl)) ?_;(with_reducible refine (table_Commit.calls kj38 x285000_2 x285001_2 x285002_2 _ _ x285003_2 x6_12 t307 t308 t309 t310 t313 t314 _ ?side1 ?side2 A41.out).mono ?_);(case side1 => repeat (first | exact (Kd.R_reads' HO_285003.out).2.2 | (with_reducible refine Kd.C_alloc ?_ _) | (with_reducible refine Kd.C_drewN ?_ _) | (with_reducible refine Kd.C_drew ?_)));(case side2 => exact (Kd.R_reads' HO_285003.out).2.1);rintro e w45 ⟨v311,rfl,ho0,hb⟩;refine ⟨_,rfl,?_⟩;have n0_:=Aside0.mk (Kd.R_below (by (with_reducible repeat (first | apply Kd.R_alloc | apply Kd.R_drewN | apply Kd.R_drew));exact HO_4.out) hb);have n1_:=Aside0.mk (Kd.R_elder' (by (with_reducible repeat (first | apply Kd.R_alloc | apply Kd.R_drewN | apply Kd.R_drew));exact HO_285003.out) (Kd.R_base ho0) hb);have n2_:=Aside0.mk (Kd.R_elder' (by (with_reducible repeat (first | apply Kd.R_alloc | apply Kd.R_drewN | apply Kd.R_drew));exact HO_291003.out) (Kd.R_base ho0) hb);have n3_:=Aside0.mk (Kd.R_lower (Kd.R_new' (Kd.R_new' ho0 (Kd.R_lt (by (with_reducible repeat (first | apply Kd.R_alloc | apply Kd.R_drewN | apply Kd.R_drew));exact HO_285003.out))) (Kd.R_lt (by (with_reducible repeat (first | apply Kd.R_alloc | apply Kd.R_drewN | apply Kd.R_drew));exact HO_291003.out))) (below_size (by repeat (first | (with_reducible first | exact HB.out | apply below_alloc | apply pw_below_drewN | apply below_drew1 | refine below_set ?_ GE284.out | refine below_set ?_ GE290.out) | exact HB.out))));have n4_:=Aside0.mk (blk_below (g:=gb284) (o:=.cells #[.int .i64 x285000_2,.int .i64 x285001_2,.int .i64 x285002_2,.slice Ao23 x285003_2.length co23] 69 (0,0)) (by (with_reducible repeat (first | refine blk_drewN ?_ _ | refine blk_drew ?_ | refine blk_alloc ?_ _));exact BK284.out) hb);have n5_:=Aside0.mk (blk_below (g:=gb290) (o:=.cells #[.int .i64 x285000_2,.int .i64 x285001_2,.int .i64 x285002_2,.slice Ao23 x285003_2.length co23] 69 (0,0)) (by (with_reducible repeat (first | refine blk_drewN ?_ _ | refine blk_drew ?_ | refine blk_alloc ?_ _));exact BK290.out) hb);have n6_:=Aside0.mk (below_step (by repeat (first | (with_reducible first | exact HB.out | apply below_alloc | apply pw_below_drewN | apply below_drew1 | refine below_set ?_ GE284.out | refine below_set ?_ GE290.out) | exact HB.out)) hb);clear HO_4;clear HO_285003;clear HO_291003;clear BK284;clear BK290;clear HB;have HO_4:=n0_;have HO_285003:=n1_;have HO_291003:=n2_;have HO312:=n3_;have BK284:=n4_;have BK290:=n5_;have HB:=n6_;clear n0_ n1_ n2_ n3_ n4_ n5_ n6_;(try clear hb);(try clear hb2);(try clear hk);(try clear hi);(try clear ho0);obtain ⟨hcz46_0,hcz46_1,hcz46_2,hcz46_3⟩:=blkc_4 BK290.out;obtain ⟨hfz46_0,hfz46_1,hfz46_2,hfz46_3⟩:=blkz_4 BK290.out;obtain ⟨Ao47,co47,eo47⟩:=Kd.R_slice HO312.out;subst eo47))
                    (try simp only [Act.put,List.setIfInBounds_toArray,List.set_cons_zero,List.set_cons_succ])
                    go_cut [96] (fun v96 wc => ∃ (kq : Nat) (x96_41 : Bool),v96 = .bool x96_41 ∧ Aside0 (humuslaw11_TableCounts.j6 kq l0 x4_2 x5_2 x6_12 t313 t314 x96_41 x285000_2 x285001_2 x285002_2 x285003_2 t307 t308 t309 t310 = some r) ∧ Aside0 (kq ≤ kj38) ∧ Aside0 (Kd.R (Kd.int .i64) 3 wc w.heap.size (fun _ => True) u4 x4_2) ∧ Aside0 (Kd.R k112 112 wc w.heap.size (fun k_ => some k_ ≠ ((.slice Ao47 t310.length co47) : Value).ownBlock) (.slice Ao23 x285003_2.length co23) x285003_2) ∧ Aside0 (Kd.R k112 112 wc w.heap.size (fun k_ => some k_ ≠ ((.slice Ao23 x285003_2.length co23) : Value).ownBlock) (.slice Ao47 t310.length co47) t310) ∧ Aside0 (wc.heap[gb284]? = some (.cells #[.int .i64 x285000_2,.int .i64 x285001_2,.int .i64 x285002_2,(.slice Ao23 x285003_2.length co23)] 69 (0,0))) ∧ Aside0 (wc.heap[gb290]? = some (.cells #[.int .i64 t307,.int .i64 t308,.int .i64 t309,(.slice Ao47 t310.length co47)] 69 (0,0))) ∧ Aside0 (Below w.heap.size w wc))
                    case first =>
                     have H:=HC42.out
                     clear HC42
                     have H':=Aside0.mk H
                     clear H
                     go_wp2
                     go_meet
                     case rel => exact ⟨_,((t314 == 0)),(by first | rfl | (simp;done) | (simp [*];done)),H',⟨by have:=HJ2.out;have:=HK2.out;have:=HJ9.out;have:=HJ12.out;have:=HJ30.out;have:=HJ38.out;first | omega | exact Nat.le_refl _⟩,⟨by (with_reducible repeat (first | apply Kd.R_alloc | apply Kd.R_drewN | apply Kd.R_drew));exact Kd.R_mono (Kd.R_far (p:=⟨gb290,3,none⟩) (Kd.R_far (p:=⟨gb290,2,none⟩) (Kd.R_far (p:=⟨gb290,1,none⟩) (Kd.R_far (p:=⟨gb290,0,none⟩) (Kd.R_types HO_4.out BK290.out (by decide)) (fun _ hk => hk.2) (.int .i64 t307)) (fun _ hk => hk.2) (.int .i64 t308)) (fun _ hk => hk.2) (.int .i64 t309)) (fun _ hk => hk.2) (.slice Ao47 t310.length co47)) (fun _ hk => trivial)⟩,⟨by (with_reducible repeat (first | apply Kd.R_alloc | apply Kd.R_drewN | apply Kd.R_drew));exact Kd.R_mono (Kd.R_far (p:=⟨gb290,3,none⟩) (Kd.R_far (p:=⟨gb290,2,none⟩) (Kd.R_far (p:=⟨gb290,1,none⟩) (Kd.R_far (p:=⟨gb290,0,none⟩) (Kd.R_types HO_285003.out BK290.out (by decide)) (fun _ hk => hk.2) (.int .i64 t307)) (fun _ hk => hk.2) (.int .i64 t308)) (fun _ hk => hk.2) (.int .i64 t309)) (fun _ hk => hk.2) (.slice Ao47 t310.length co47)) (fun _ hk => hk.1.2)⟩,⟨by (with_reducible repeat (first | apply Kd.R_alloc | apply Kd.R_drewN | apply Kd.R_drew));exact Kd.R_mono (Kd.R_far (p:=⟨gb290,3,none⟩) (Kd.R_far (p:=⟨gb290,2,none⟩) (Kd.R_far (p:=⟨gb290,1,none⟩) (Kd.R_far (p:=⟨gb290,0,none⟩) (Kd.R_types HO312.out BK290.out (by decide)) (fun _ hk => hk.2) (.int .i64 t307)) (fun _ hk => hk.2) (.int .i64 t308)) (fun _ hk => hk.2) (.int .i64 t309)) (fun _ hk => hk.2) (.slice Ao47 t310.length co47)) (fun _ hk => hk.1.1.2)⟩,⟨by (with_reducible repeat (first | refine blk_drewN ?_ _ | refine blk_drew ?_ | refine blk_alloc ?_ _));refine blk_far ?_ NB284_290.out _;(with_reducible repeat (first | refine blk_drewN ?_ _ | refine blk_drew ?_ | refine blk_alloc ?_ _));refine blk_far ?_ NB284_290.out _;(with_reducible repeat (first | refine blk_drewN ?_ _ | refine blk_drew ?_ | refine blk_alloc ?_ _));refine blk_far ?_ NB284_290.out _;(with_reducible repeat (first | refine blk_drewN ?_ _ | refine blk_drew ?_ | refine blk_alloc ?_ _));refine blk_far ?_ NB284_290.out _;(with_reducible repeat (first | refine blk_drewN ?_ _ | refine blk_drew ?_ | refine blk_alloc ?_ _));exact BK284.out⟩,⟨by (with_reducible repeat (first | refine blk_drewN ?_ _ | refine blk_drew ?_ | refine blk_alloc ?_ _));apply blkf_4_0_3;(with_reducible repeat (first | refine blk_drewN ?_ _ | refine blk_drew ?_ | refine blk_alloc ?_ _));exact BK290.out⟩,⟨by repeat (first | (with_reducible first | exact HB.out | apply below_alloc | apply pw_below_drewN | apply below_drew1 | refine below_set ?_ GE284.out | refine below_set ?_ GE290.out) | exact HB.out)⟩⟩
                    case rest =>
                     clear HC42
                     try clear c1
                     try clear c2
                     try clear p2
                     try clear q2
                     try clear hx2
                     try clear c3
                     try clear c4
                     try clear p6
                     try clear c11
                     try clear c11b0
                     try clear c12
                     try clear c14
                     try clear c14b0
                     try clear c15
                     try clear c15b0
                     try clear c16
                     try clear c16b0
                     try clear c17
                     try clear c17b0
                     try clear c21
                     try clear c24
                     try clear c24b0
                     try clear c24b1
                     try clear c26
                     try clear p28
                     try clear q28
                     try clear hx28
                     try clear p29
                     try clear q29
                     try clear hx29
                     try clear c32
                     try clear c34
                     try clear c36
                     try clear c37
                     try clear c40
                     try clear c41
                     try clear c43
                     try clear hcz19_0
                     try clear hcz19_1
                     try clear hcz19_2
                     try clear hcz19_3
                     try clear hcz22_0
                     try clear hcz22_1
                     try clear hcz22_2
                     try clear hcz22_3
                     try clear hcz27_0
                     try clear hcz27_1
                     try clear hcz27_2
                     try clear hcz27_3
                     try clear hcz29_0
                     try clear hcz29_1
                     try clear hcz29_2
                     try clear hcz29_3
                     try clear hcz35_0
                     try clear hcz35_1
                     try clear hcz35_2
                     try clear hcz35_3
                     try clear hcz37_0
                     try clear hcz37_1
                     try clear hcz37_2
                     try clear hcz37_3
                     try clear hcz44_0
                     try clear hcz44_1
                     try clear hcz44_2
                     try clear hcz44_3
                     try clear hcz46_0
                     try clear hcz46_1
                     try clear hcz46_2
                     try clear hcz46_3
                     try clear hcz6_0
                     try clear hcz6_1
                     try clear hcz6_2
                     try clear hcz6_3
                     try clear hfz19_0
                     try clear hfz19_1
                     try clear hfz19_2
                     try clear hfz19_3
                     try clear hfz22_0
                     try clear hfz22_1
                     try clear hfz22_2
                     try clear hfz22_3
                     try clear hfz27_0
                     try clear hfz27_1
                     try clear hfz27_2
                     try clear hfz27_3
                     try clear hfz29_0
                     try clear hfz29_1
                     try clear hfz29_2
                     try clear hfz29_3
                     try clear hfz35_0
                     try clear hfz35_1
                     try clear hfz35_2
                     try clear hfz35_3
                     try clear hfz37_0
                     try clear hfz37_1
                     try clear hfz37_2
                     try clear hfz37_3
                     try clear hfz44_0
                     try clear hfz44_1
                     try clear hfz44_2
                     try clear hfz44_3
                     try clear hfz46_0
                     try clear hfz46_1
                     try clear hfz46_2
                     try clear hfz46_3
                     try clear hfz6_0
                     try clear hfz6_1
                     try clear hfz6_2
                     try clear hfz6_3
                     try clear hx289_0
                     try clear hx289_1
                     try clear hx291_0
                     try clear hx291_1
                     try clear p2
                     try clear p28
                     try clear p289
                     try clear p29
                     try clear p291
                     try clear p6
                     try clear q2
                     try clear q28
                     try clear q289
                     try clear q29
                     try clear q291
                     obtain ⟨kq,x96_41,rfl,HA,HJ41,HO_4,HO_285003,HO_291003,BK284,BK290,HB⟩:=hcut
                     cases kq with
                     | zero => exact absurd HA.out (by simp [humuslaw11_TableCounts.j6])
                     | succ kj41 =>
                      have H:=HA.out
                      clear HA
                      simp only [humuslaw11_TableCounts.j6] at H
                      by_cases c48 : x96_41 = true
                      ·subst c48
                       have H1 : (if t313 = (wrap64 (x285002_2 + 1)) then (if x4_2.length < 17592186044416 then (humuslaw11_TableCounts.j9 kj41 l0 (x4_2 ++ [x6_12]) x5_2 t314 x285000_2 x285001_2 x285002_2 x285003_2 t307 t308 t309 t310) else (none)) else (none)) = some r:=by rw [if_pos rfl] at H;exact H
                       clear H
                       have H:=H1
                       clear H1
                       by_cases c49 : t313 = (wrap64 (x285002_2 + 1))
                       ·rw [if_pos c49] at H
                        have c49b0 : (t313 == (wrap64 (x285002_2 + 1))) = true:=beq_iff_eq.mpr c49
                        have c49b1 : (t313 != (wrap64 (x285002_2 + 1))) = false:=bne_eq_false_iff_eq.mpr c49
                        clear c49
                        by_cases c50 : x4_2.length < 17592186044416
                        ·rw [if_pos c50] at H
                         have LMc50:=Aside0.mk c50
                         clear c50
                         obtain ⟨y315,hy315⟩ : ∃ y_ : List Int,y_ = (x4_2 ++ [x6_12]):=⟨_,rfl⟩
                         replace H : (humuslaw11_TableCounts.j9 kj41 l0 y315 x5_2 t314 x285000_2 x285001_2 x285002_2 x285003_2 t307 t308 t309 t310) = some r:=by first | (rw [hy315];with_reducible exact H) | (have H2_:=(Option.bind_some _ _).symm.trans H;rw [hy315];with_reducible exact H2_) | (have H2_:=(Option.bind_some _ _).symm.trans H;with_reducible exact H2_) | with_reducible exact H | (rw [hy315];exact H) | exact H
                         have Ny315:=Aside0.mk hy315
                         clear hy315
                         have H':=Aside0.mk H
                         clear H
                         have hnb51:=NB284_290.out
                         have hnc51:=NB290_284.out
                         obtain ⟨hcz52_0,hcz52_1,hcz52_2,hcz52_3⟩:=blkc_4 BK284.out
                         obtain ⟨hfz52_0,hfz52_1,hfz52_2,hfz52_3⟩:=blkz_4 BK284.out
                         go_wp2_with (first | ((with_reducible refine gate_builtin (b:=.append) (xs:=#[.tmp 102,.tmp 104]) rfl ?_);at_builtin;refine Kd.R_append (Kd.int .i64) (w0:=w) w.heap.size rfl (.tmp 102) (.tmp 104) 24 3 (.int .i64 0) 8 rfl Try.underlying24 info3 rfl (by decide) (by omega) u4 x4_2 x6_12 [.int .i64 x6_12] (fun _ => True) (fun _ => False) rfl rfl ?aP (fun _ hk => hk.elim) ?aF ?aO ?aB ?aS ?aL ?_;(case aP => exact rfl);(case aB => exact (by repeat (first | (with_reducible first | exact HB.out | apply below_alloc | apply pw_below_drewN | apply below_drew1 | refine below_set ?_ GE284.out | refine below_set ?_ GE290.out) | exact HB.out)));(case aF => exact (fun _ _ => trivial));(case aO => exact (by (with_reducible repeat (first | apply Kd.R_alloc | apply Kd.R_drewN | apply Kd.R_drew));exact HO_4.out));(case aS => exact (below_size (by repeat (first | (with_reducible first | exact HB.out | apply below_alloc | apply pw_below_drewN | apply below_drew1 | refine below_set ?_ GE284.out | refine below_set ?_ GE290.out) | exact HB.out))));(case aL => have:=LMc50.out;omega);intro v316 w53 ho hb hg hat;rw [← Ny315.out] at ho;have n0_:=Aside0.mk (Kd.R_over' (by (with_reducible repeat (first | apply Kd.R_alloc | apply Kd.R_drewN | apply Kd.R_drew));exact HO_285003.out) (Kd.R_typed (by (with_reducible repeat (first | apply Kd.R_alloc | apply Kd.R_drewN | apply Kd.R_drew));exact HO_4.out)) (by decide) hg);have n1_:=Aside0.mk (Kd.R_over' (by (with_reducible repeat (first | apply Kd.R_alloc | apply Kd.R_drewN | apply Kd.R_drew));exact HO_291003.out) (Kd.R_typed (by (with_reducible repeat (first | apply Kd.R_alloc | apply Kd.R_drewN | apply Kd.R_drew));exact HO_4.out)) (by decide) hg);have n2_:=Aside0.mk (blk_grown (g:=gb284) (o:=.cells #[.int .i64 x285000_2,.int .i64 x285001_2,.int .i64 x285002_2,.slice Ao23 x285003_2.length co23] 69 (0,0)) (by (with_reducible repeat (first | refine blk_drewN ?_ _ | refine blk_drew ?_ | refine blk_alloc ?_ _));exact BK284.out) hg (Kd.R_ne HO_4.out BK284.out (by decide)));have n3_:=Aside0.mk (blk_grown (g:=gb290) (o:=.cells #[.int .i64 t307,.int .i64 t308,.int .i64 t309,.slice Ao47 t310.length co47] 69 (0,0)) (by (with_reducible repeat (first | refine blk_drewN ?_ _ | refine blk_drew ?_ | refine blk_alloc ?_ _));exact BK290.out) hg (Kd.R_ne HO_4.out BK290.out (by decide)));have n4_:=Aside0.mk (hb);have n5_:=Aside0.mk (ho);clear HO_285003;clear HO_291003;clear BK284;clear BK290;clear HB;clear HO_4;have HO_285003:=n0_;have HO_291003:=n1_;have BK284:=n2_;have BK290:=n3_;have HB:=n4_;have HO317:=n5_;clear n0_ n1_ n2_ n3_ n4_ n5_;clear ho hb hg hat))
                         go_meet
                         case rel => exact ⟨_,(y315),(t314),(t307),(t308),(t309),(t310),(.slice Ao47 t310.length co47),(by first | rfl | (simp;done) | (simp [*];done)),H',⟨by have:=HJ2.out;have:=HK2.out;have:=HJ9.out;have:=HJ12.out;have:=HJ30.out;have:=HJ38.out;have:=HJ41.out;first | omega | exact Nat.le_refl _⟩,⟨by (with_reducible repeat (first | apply Kd.R_alloc | apply Kd.R_drewN | apply Kd.R_drew));exact HO317.out⟩,⟨by (with_reducible repeat (first | apply Kd.R_alloc | apply Kd.R_drewN | apply Kd.R_drew));exact HO_285003.out⟩,⟨by (with_reducible repeat (first | apply Kd.R_alloc | apply Kd.R_drewN | apply Kd.R_drew));exact HO_291003.out⟩,⟨by (with_reducible repeat (first | refine blk_drewN ?_ _ | refine blk_drew ?_ | refine blk_alloc ?_ _));exact BK284.out⟩,⟨by (with_reducible repeat (first | refine blk_drewN ?_ _ | refine blk_drew ?_ | refine blk_alloc ?_ _));exact BK290.out⟩,⟨by repeat (first | (with_reducible first | exact HB.out | apply below_alloc | apply pw_below_drewN | apply below_drew1 | refine below_set ?_ GE284.out | refine below_set ?_ GE290.out) | exact HB.out)⟩⟩
                        ·rw [if_neg c50] at H
                         exact absurd H (by simp)
                       ·rw [if_neg c49] at H
                        exact absurd H (by simp)
                      ·replace c48:=Bool.eq_false_iff.mpr c48
                       subst c48
                       have H1 : (humuslaw11_TableCounts.j9 kj41 l0 x4_2 x5_2 t314 x285000_2 x285001_2 x285002_2 x285003_2 t307 t308 t309 t310) = some r:=by rw [if_neg (show ¬ (false = true) by decide)] at H;exact H
                       clear H
                       have H:=H1
                       clear H1
                       have H':=Aside0.mk H
                       clear H
                       go_wp2
                       go_meet
                       case rel => exact ⟨_,(x4_2),(t314),(t307),(t308),(t309),(t310),(.slice Ao47 t310.length co47),(by first | rfl | (simp;done) | (simp [*];done)),H',⟨by have:=HJ2.out;have:=HK2.out;have:=HJ9.out;have:=HJ12.out;have:=HJ30.out;have:=HJ38.out;have:=HJ41.out;first | omega | exact Nat.le_refl _⟩,⟨by (with_reducible repeat (first | apply Kd.R_alloc | apply Kd.R_drewN | apply Kd.R_drew));exact HO_4.out⟩,⟨by (with_reducible repeat (first | apply Kd.R_alloc | apply Kd.R_drewN | apply Kd.R_drew));exact HO_285003.out⟩,⟨by (with_reducible repeat (first | apply Kd.R_alloc | apply Kd.R_drewN | apply Kd.R_drew));exact HO_291003.out⟩,⟨by (with_reducible repeat (first | refine blk_drewN ?_ _ | refine blk_drew ?_ | refine blk_alloc ?_ _));exact BK284.out⟩,⟨by (with_reducible repeat (first | refine blk_drewN ?_ _ | refine blk_drew ?_ | refine blk_alloc ?_ _));exact BK290.out⟩,⟨by repeat (first | (with_reducible first | exact HB.out | apply below_alloc | apply pw_below_drewN | apply below_drew1 | refine below_set ?_ GE284.out | refine below_set ?_ GE290.out) | exact HB.out)⟩⟩
                   ·replace c40:=Bool.eq_false_iff.mpr c40
                    subst c40
                    have H1 : ((table_Leave.f kj38 x285000_2 x285001_2 x285002_2 x285003_2 x6_12).bind fun bt318 => (humuslaw11_TableCounts.j7 kj38 l0 x4_2 x5_2 x6_12 bt318.2.2.2.2 (([] : List Int)) 0 x285000_2 x285001_2 x285002_2 x285003_2 bt318.1 bt318.2.1 bt318.2.2.1 bt318.2.2.2.1)) = some r:=by rw [if_neg (show ¬ (false = true) by decide)] at H;exact H
                    clear H
                    have H:=H1
                    clear H1
                    replace H:=Option.bind_eq_some_iff.mp H
                    obtain ⟨⟨t318,t319,t320,t321,t324⟩,A540,H⟩:=H
                    replace H : (humuslaw11_TableCounts.j7 kj38 l0 x4_2 x5_2 x6_12 t324 (([] : List Int)) 0 x285000_2 x285001_2 x285002_2 x285003_2 t318 t319 t320 t321) = some r:=H
                    have A54:=Aside0.mk A540
                    clear A540
                    obtain ⟨y325,hy325⟩ : ∃ y_ : List Int,y_ = (([] : List Int)):=⟨_,rfl⟩
                    replace H : (humuslaw11_TableCounts.j7 kj38 l0 x4_2 x5_2 x6_12 t324 y325 0 x285000_2 x285001_2 x285002_2 x285003_2 t318 t319 t320 t321) = some r:=by first | (rw [hy325];with_reducible exact H) | (have H2_:=(Option.bind_some _ _).symm.trans H;rw [hy325];with_reducible exact H2_) | (have H2_:=(Option.bind_some _ _).symm.trans H;with_reducible exact H2_) | with_reducible exact H | (rw [hy325];exact H) | exact H
                    have Ny325:=Aside0.mk hy325
                    clear hy325
                    have HC55:=Aside0.mk H
                    clear H
                    have hnb56:=NB284_290.out
                    have hnc56:=NB290_284.out
                    obtain ⟨hcz57_0,hcz57_1,hcz57_2,hcz57_3⟩:=blkc_4 BK284.out
                    obtain ⟨hfz57_0,hfz57_1,hfz57_2,hfz57_3⟩:=blkz_4 BK284.out
                    go_upto_region 11 with (first | ((with_reducible refine gate_callee (f:=38) rfl ?_);refine goesL_ (some 43) rfl rfl Try.func38 (by kernel_rfl) rfl #[.agg #[.int .i64 x285000_2,.int .i64 x285001_2,.int .i64 x285002_2,.slice Ao23 x285003_2.length co23],.int .i64 x6_12] rfl (by (try simp only [List.map_toArray,List.map_cons,List.map_nil]);first | done | rfl | (simp only [List.length_drop,List.length_take];rfl)) ?_;(with_reducible refine (table_Leave.calls kj38 x285000_2 x285001_2 x285002_2 _ _ x285003_2 x6_12 t318 t319 t320 t321 t324 _ ?side1 ?side2 A54.out).mono ?_);(case side1 => repeat (first | exact (Kd.R_reads' HO_285003.out).2.2 | (with_reducible refine Kd.C_alloc ?_ _) | (with_reducible refine Kd.C_drewN ?_ _) | (with_reducible refine Kd.C_drew ?_)));(case side2 => exact (Kd.R_reads' HO_285003.out).2.1);rintro e w58 ⟨v322,rfl,ho0,hb⟩;refine ⟨_,rfl,?_⟩;have n0_:=Aside0.mk (Kd.R_below (by (with_reducible repeat (first | apply Kd.R_alloc | apply Kd.R_drewN | apply Kd.R_drew));exact HO_4.out) hb);have n1_:=Aside0.mk (Kd.R_elder' (by (with_reducible repeat (first | apply Kd.R_alloc | apply Kd.R_drewN | apply Kd.R_drew));exact HO_285003.out) (Kd.R_base ho0) hb);have n2_:=Aside0.mk (Kd.R_elder' (by (with_reducible repeat (first | apply Kd.R_alloc | apply Kd.R_drewN | apply Kd.R_drew));exact HO_291003.out) (Kd.R_base ho0) hb);have n3_:=Aside0.mk (Kd.R_lower (Kd.R_new' (Kd.R_new' ho0 (Kd.R_lt (by (with_reducible repeat (first | apply Kd.R_alloc | apply Kd.R_drewN | apply Kd.R_drew));exact HO_285003.out))) (Kd.R_lt (by (with_reducible repeat (first | apply Kd.R_alloc | apply Kd.R_drewN | apply Kd.R_drew));exact HO_291003.out))) (below_size (by repeat (first | (with_reducible first | exact HB.out | apply below_alloc | apply pw_below_drewN | apply below_drew1 | refine below_set ?_ GE284.out | refine below_set ?_ GE290.out) | exact HB.out))));have n4_:=Aside0.mk (blk_below (g:=gb284) (o:=.cells #[.int .i64 x285000_2,.int .i64 x285001_2,.int .i64 x285002_2,.slice Ao23 x285003_2.length co23] 69 (0,0)) (by (with_reducible repeat (first | refine blk_drewN ?_ _ | refine blk_drew ?_ | refine blk_alloc ?_ _));exact BK284.out) hb);have n5_:=Aside0.mk (blk_below (g:=gb290) (o:=.cells #[.int .i64 x285000_2,.int .i64 x285001_2,.int .i64 x285002_2,.slice Ao23 x285003_2.length co23] 69 (0,0)) (by (with_reducible repeat (first | refine blk_drewN ?_ _ | refine blk_drew ?_ | refine blk_alloc ?_ _));exact BK290.out) hb);have n6_:=Aside0.mk (below_step (by repeat (first | (with_reducible first | exact HB.out | apply below_alloc | apply pw_below_drewN | apply below_drew1 | refine below_set ?_ GE284.out | refine below_set ?_ GE290.out) | exact HB.out)) hb);clear HO_4;clear HO_285003;clear HO_291003;clear BK284;clear BK290;clear HB;have HO_4:=n0_;have HO_285003:=n1_;have HO_291003:=n2_;have HO323:=n3_;have BK284:=n4_;have BK290:=n5_;have HB:=n6_;clear n0_ n1_ n2_ n3_ n4_ n5_ n6_;(try clear hb);(try clear hb2);(try clear hk);(try clear hi);(try clear ho0);obtain ⟨hcz59_0,hcz59_1,hcz59_2,hcz59_3⟩:=blkc_4 BK290.out;obtain ⟨hfz59_0,hfz59_1,hfz59_2,hfz59_3⟩:=blkz_4 BK290.out;obtain ⟨Ao60,co60,eo60⟩:=Kd.R_slice HO323.out;subst eo60) | ((with_reducible refine gate_dst (N:=46) rfl ?_);refine Kd.R_lit (Kd.int .i64) _ 3 ?hg (N:=46) ?hd (xs:=([] : List Int)) (inner:=[]) (ok:=fun _ => True) (okp:=fun _ => True) ?hr ?hp (fun _ hk => hk) trivial (Below.refl _ _) (Nat.le_refl _) (by simp) ?_;(case hd => rfl);(case hg => rfl);(case hr => first | (go_simp;done) | (go_simp;rfl));(case hp => exact (Reps.none _ _));intro v326 w61 ho62 hb hg_ hnew_;clear hg_ hnew_;(first | rw [← Ny325.out] at ho62 | (simp only [Int.reduceToNat] at ho62;rw [← Ny325.out] at ho62));have n0_:=Aside0.mk (Kd.R_elder' (by (with_reducible repeat (first | apply Kd.R_alloc | apply Kd.R_drewN | apply Kd.R_drew));exact (Kd.R_mono (Kd.R_far (p:=⟨gb290,3,none⟩) (Kd.R_far (p:=⟨gb290,2,none⟩) (Kd.R_far (p:=⟨gb290,1,none⟩) (Kd.R_far (p:=⟨gb290,0,none⟩) (Kd.R_types HO_4.out BK290.out (by decide)) (fun _ hk => hk.2) (.int .i64 t318)) (fun _ hk => hk.2) (.int .i64 t319)) (fun _ hk => hk.2) (.int .i64 t320)) (fun _ hk => hk.2) (.slice Ao60 t321.length co60)) (fun _ h_ => h_.1))) (Kd.R_base ho62) hb);have n1_:=Aside0.mk (Kd.R_below (by (with_reducible repeat (first | apply Kd.R_alloc | apply Kd.R_drewN | apply Kd.R_drew));exact (Kd.R_mono (Kd.R_far (p:=⟨gb290,3,none⟩) (Kd.R_far (p:=⟨gb290,2,none⟩) (Kd.R_far (p:=⟨gb290,1,none⟩) (Kd.R_far (p:=⟨gb290,0,none⟩) (Kd.R_types HO_285003.out BK290.out (by decide)) (fun _ hk => hk.2) (.int .i64 t318)) (fun _ hk => hk.2) (.int .i64 t319)) (fun _ hk => hk.2) (.int .i64 t320)) (fun _ hk => hk.2) (.slice Ao60 t321.length co60)) (fun _ h_ => h_.1))) hb);have n2_:=Aside0.mk (Kd.R_below (by (with_reducible repeat (first | apply Kd.R_alloc | apply Kd.R_drewN | apply Kd.R_drew));exact (Kd.R_mono (Kd.R_far (p:=⟨gb290,3,none⟩) (Kd.R_far (p:=⟨gb290,2,none⟩) (Kd.R_far (p:=⟨gb290,1,none⟩) (Kd.R_far (p:=⟨gb290,0,none⟩) (Kd.R_types HO_291003.out BK290.out (by decide)) (fun _ hk => hk.2) (.int .i64 t318)) (fun _ hk => hk.2) (.int .i64 t319)) (fun _ hk => hk.2) (.int .i64 t320)) (fun _ hk => hk.2) (.slice Ao60 t321.length co60)) (fun _ h_ => h_.1))) hb);have n3_:=Aside0.mk (Kd.R_below (by (with_reducible repeat (first | apply Kd.R_alloc | apply Kd.R_drewN | apply Kd.R_drew));exact (Kd.R_mono (Kd.R_far (p:=⟨gb290,3,none⟩) (Kd.R_far (p:=⟨gb290,2,none⟩) (Kd.R_far (p:=⟨gb290,1,none⟩) (Kd.R_far (p:=⟨gb290,0,none⟩) (Kd.R_types HO323.out BK290.out (by decide)) (fun _ hk => hk.2) (.int .i64 t318)) (fun _ hk => hk.2) (.int .i64 t319)) (fun _ hk => hk.2) (.int .i64 t320)) (fun _ hk => hk.2) (.slice Ao60 t321.length co60)) (fun _ h_ => h_.1))) hb);have n4_:=Aside0.mk (Kd.R_lower (Kd.R_new' ho62 (Kd.R_lt (by (with_reducible repeat (first | apply Kd.R_alloc | apply Kd.R_drewN | apply Kd.R_drew));exact (Kd.R_mono (Kd.R_far (p:=⟨gb290,3,none⟩) (Kd.R_far (p:=⟨gb290,2,none⟩) (Kd.R_far (p:=⟨gb290,1,none⟩) (Kd.R_far (p:=⟨gb290,0,none⟩) (Kd.R_types HO_4.out BK290.out (by decide)) (fun _ hk => hk.2) (.int .i64 t318)) (fun _ hk => hk.2) (.int .i64 t319)) (fun _ hk => hk.2) (.int .i64 t320)) (fun _ hk => hk.2) (.slice Ao60 t321.length co60)) (fun _ h_ => h_.1))))) (below_size (by repeat (first | (with_reducible first | exact HB.out | apply below_alloc | apply pw_below_drewN | apply below_drew1 | refine below_set ?_ GE284.out | refine below_set ?_ GE290.out) | exact HB.out))));have n5_:=Aside0.mk (blk_below (g:=gb284) (o:=.cells #[.int .i64 x285000_2,.int .i64 x285001_2,.int .i64 x285002_2,.slice Ao23 x285003_2.length co23] 69 (0,0)) (by (with_reducible repeat (first | refine blk_drewN ?_ _ | refine blk_drew ?_ | refine blk_alloc ?_ _));refine blk_far ?_ NB284_290.out _;(with_reducible repeat (first | refine blk_drewN ?_ _ | refine blk_drew ?_ | refine blk_alloc ?_ _));refine blk_far ?_ NB284_290.out _;(with_reducible repeat (first | refine blk_drewN ?_ _ | refine blk_drew ?_ | refine blk_alloc ?_ _));refine blk_far ?_ NB284_290.out _;(with_reducible repeat (first | refine blk_drewN ?_ _ | refine blk_drew ?_ | refine blk_alloc ?_ _));refine blk_far ?_ NB284_290.out _;(with_reducible repeat (first | refine blk_drewN ?_ _ | refine blk_drew ?_ | refine blk_alloc ?_ _));exact BK284.out) hb);have n6_:=Aside0.mk (blk_below (g:=gb290) (o:=.cells #[.int .i64 t318,.int .i64 t319,.int .i64 t320,.slice Ao60 t321.length co60] 69 (0,0)) (by (with_reducible repeat (first | refine blk_drewN ?_ _ | refine blk_drew ?_ | refine blk_alloc ?_ _));apply blkf_4_0_3;(with_reducible repeat (first | refine blk_drewN ?_ _ | refine blk_drew ?_ | refine blk_alloc ?_ _));exact BK290.out) hb);have n7_:=Aside0.mk (below_step (by repeat (first | (with_reducible first | exact HB.out | apply below_alloc | apply pw_below_drewN | apply below_drew1 | refine below_set ?_ GE284.out | refine below_set ?_ GE290.out) | exact HB.out)) hb);clear HO_4;clear HO_285003;clear HO_291003;clear HO323;clear BK284;clear BK290;clear HB;have HO_4:=n0_;have HO_285003:=n1_;have HO_291003:=n2_;have HO323:=n3_;have HO327:=n4_;have BK284:=n5_;have BK290:=n6_;have HB:=n7_;clear n0_ n1_ n2_ n3_ n4_ n5_ n6_ n7_;clear hb ho62))
                    (try simp only [Act.put,List.setIfInBounds_toArray,List.set_cons_zero,List.set_cons_succ])
                    go_cut [11] (fun v11 wc => ∃ (kq : Nat) (x11_54 : Int),v11 = .int .i64 x11_54 ∧ Aside0 (humuslaw11_TableCounts.j7 kq l0 x4_2 x5_2 x6_12 t324 y325 x11_54 x285000_2 x285001_2 x285002_2 x285003_2 t318 t319 t320 t321 = some r) ∧ Aside0 (kq ≤ kj38) ∧ Aside0 (Kd.R (Kd.int .i64) 3 wc w.heap.size (fun k_ => some k_ ≠ (v326 : Value).ownBlock) u4 x4_2) ∧ Aside0 (Kd.R (Kd.int .i64) 3 wc w.heap.size (fun k_ => some k_ ≠ (u4 : Value).ownBlock) v326 y325) ∧ Aside0 (Kd.R k112 112 wc w.heap.size (fun k_ => some k_ ≠ ((.slice Ao60 t321.length co60) : Value).ownBlock) (.slice Ao23 x285003_2.length co23) x285003_2) ∧ Aside0 (Kd.R k112 112 wc w.heap.size (fun k_ => some k_ ≠ ((.slice Ao23 x285003_2.length co23) : Value).ownBlock) (.slice Ao60 t321.length co60) t321) ∧ Aside0 (wc.heap[gb284]? = some (.cells #[.int .i64 x285000_2,.int .i64 x285001_2,.int .i64 x285002_2,(.slice Ao23 x285003_2.length co23)] 69 (0,0))) ∧ Aside0 (wc.heap[gb290]? = some (.cells #[.int .i64 t318,.int .i64 t319,.int .i64 t320,(.slice Ao60 t321.length co60)] 69 (0,0))) ∧ Aside0 (Below w.heap.size w wc))
                    case first =>
                     have H:=HC55.out
                     clear HC55
                     have H':=Aside0.mk H
                     clear H
                     go_wp2
                     go_meet
                     case rel => exact ⟨_,(0),(by first | rfl | (simp;done) | (simp [*];done)),H',⟨by have:=HJ2.out;have:=HK2.out;have:=HJ9.out;have:=HJ12.out;have:=HJ30.out;have:=HJ38.out;first | omega | exact Nat.le_refl _⟩,⟨by (with_reducible repeat (first | apply Kd.R_alloc | apply Kd.R_drewN | apply Kd.R_drew));exact Kd.R_mono HO_4.out (fun _ hk => hk.2)⟩,⟨by (with_reducible repeat (first | apply Kd.R_alloc | apply Kd.R_drewN | apply Kd.R_drew));exact Kd.R_mono HO327.out (fun _ hk => hk.2)⟩,⟨by (with_reducible repeat (first | apply Kd.R_alloc | apply Kd.R_drewN | apply Kd.R_drew));exact Kd.R_mono HO_285003.out (fun _ hk => hk.2)⟩,⟨by (with_reducible repeat (first | apply Kd.R_alloc | apply Kd.R_drewN | apply Kd.R_drew));exact Kd.R_mono HO323.out (fun _ hk => hk.1.2)⟩,⟨by (with_reducible repeat (first | refine blk_drewN ?_ _ | refine blk_drew ?_ | refine blk_alloc ?_ _));exact BK284.out⟩,⟨by (with_reducible repeat (first | refine blk_drewN ?_ _ | refine blk_drew ?_ | refine blk_alloc ?_ _));exact BK290.out⟩,⟨by repeat (first | (with_reducible first | exact HB.out | apply below_alloc | apply pw_below_drewN | apply below_drew1 | refine below_set ?_ GE284.out | refine below_set ?_ GE290.out) | exact HB.out)⟩⟩
                    case rest =>
                     clear HC55
                     try clear c1
                     try clear c2
                     try clear p2
                     try clear q2
                     try clear hx2
                     try clear c3
                     try clear c4
                     try clear c5
                     try clear p6
                     try clear c11
                     try clear c11b0
                     try clear c12
                     try clear c14
                     try clear c14b0
                     try clear c15
                     try clear c15b0
                     try clear c16
                     try clear c16b0
                     try clear c17
                     try clear c17b0
                     try clear c21
                     try clear c24
                     try clear c24b0
                     try clear c24b1
                     try clear c26
                     try clear p28
                     try clear q28
                     try clear hx28
                     try clear p29
                     try clear q29
                     try clear hx29
                     try clear c32
                     try clear c34
                     try clear c36
                     try clear c37
                     try clear c38
                     try clear c40
                     try clear c41
                     try clear c43
                     try clear c48
                     try clear c49
                     try clear c49b0
                     try clear c49b1
                     try clear c50
                     try clear c51
                     try clear c56
                     try clear hcz19_0
                     try clear hcz19_1
                     try clear hcz19_2
                     try clear hcz19_3
                     try clear hcz22_0
                     try clear hcz22_1
                     try clear hcz22_2
                     try clear hcz22_3
                     try clear hcz27_0
                     try clear hcz27_1
                     try clear hcz27_2
                     try clear hcz27_3
                     try clear hcz29_0
                     try clear hcz29_1
                     try clear hcz29_2
                     try clear hcz29_3
                     try clear hcz35_0
                     try clear hcz35_1
                     try clear hcz35_2
                     try clear hcz35_3
                     try clear hcz37_0
                     try clear hcz37_1
                     try clear hcz37_2
                     try clear hcz37_3
                     try clear hcz44_0
                     try clear hcz44_1
                     try clear hcz44_2
                     try clear hcz44_3
                     try clear hcz46_0
                     try clear hcz46_1
                     try clear hcz46_2
                     try clear hcz46_3
                     try clear hcz52_0
                     try clear hcz52_1
                     try clear hcz52_2
                     try clear hcz52_3
                     try clear hcz57_0
                     try clear hcz57_1
                     try clear hcz57_2
                     try clear hcz57_3
                     try clear hcz59_0
                     try clear hcz59_1
                     try clear hcz59_2
                     try clear hcz59_3
                     try clear hcz6_0
                     try clear hcz6_1
                     try clear hcz6_2
                     try clear hcz6_3
                     try clear hfz19_0
                     try clear hfz19_1
                     try clear hfz19_2
                     try clear hfz19_3
                     try clear hfz22_0
                     try clear hfz22_1
                     try clear hfz22_2
                     try clear hfz22_3
                     try clear hfz27_0
                     try clear hfz27_1
                     try clear hfz27_2
                     try clear hfz27_3
                     try clear hfz29_0
                     try clear hfz29_1
                     try clear hfz29_2
                     try clear hfz29_3
                     try clear hfz35_0
                     try clear hfz35_1
                     try clear hfz35_2
                     try clear hfz35_3
                     try clear hfz37_0
                     try clear hfz37_1
                     try clear hfz37_2
                     try clear hfz37_3
                     try clear hfz44_0
                     try clear hfz44_1
                     try clear hfz44_2
                     try clear hfz44_3
                     try clear hfz46_0
                     try clear hfz46_1
                     try clear hfz46_2
                     try clear hfz46_3
                     try clear hfz52_0
                     try clear hfz52_1
                     try clear hfz52_2
                     try clear hfz52_3
                     try clear hfz57_0
                     try clear hfz57_1
                     try clear hfz57_2
                     try clear hfz57_3
                     try clear hfz59_0
                     try clear hfz59_1
                     try clear hfz59_2
                     try clear hfz59_3
                     try clear hfz6_0
                     try clear hfz6_1
                     try clear hfz6_2
                     try clear hfz6_3
                     try clear hx289_0
                     try clear hx289_1
                     try clear hx291_0
                     try clear hx291_1
                     try clear p2
                     try clear p28
                     try clear p289
                     try clear p29
                     try clear p291
                     try clear p6
                     try clear q2
                     try clear q28
                     try clear q289
                     try clear q29
                     try clear q291
                     obtain ⟨kq,x11_54,rfl,HA,HJ54,HO_4,HO_10,HO_285003,HO_291003,BK284,BK290,HB⟩:=hcut
                     cases kq with
                     | zero => exact absurd HA.out (by simp [humuslaw11_TableCounts.j7])
                     | succ kj54 =>
                      have H:=HA.out
                      clear HA
                      simp only [humuslaw11_TableCounts.j7] at H
                      have H':=Aside0.mk H
                      clear H
                      go_wp2
                      go_loopg [10,11] kj54 (fun kq v10 v11 w' => ∃ (x10_8 : List Int) (x11_8 : Int),v11 = .int .i64 x11_8 ∧ Aside0 (humuslaw11_TableCounts.l1 kq l0 x4_2 x5_2 x6_12 t324 x10_8 x11_8 x285000_2 x285001_2 x285002_2 x285003_2 t318 t319 t320 t321 = some r) ∧ Aside0 (kq ≤ kj54) ∧ Aside0 (Kd.R (Kd.int .i64) 3 w' w.heap.size (fun k_ => some k_ ≠ (v10 : Value).ownBlock) u4 x4_2) ∧ Aside0 (Kd.R (Kd.int .i64) 3 w' w.heap.size (fun k_ => some k_ ≠ (u4 : Value).ownBlock) v10 x10_8) ∧ Aside0 (Kd.R k112 112 w' w.heap.size (fun k_ => some k_ ≠ ((.slice Ao60 t321.length co60) : Value).ownBlock) (.slice Ao23 x285003_2.length co23) x285003_2) ∧ Aside0 (Kd.R k112 112 w' w.heap.size (fun k_ => some k_ ≠ ((.slice Ao23 x285003_2.length co23) : Value).ownBlock) (.slice Ao60 t321.length co60) t321) ∧ Aside0 (w'.heap[gb284]? = some (.cells #[.int .i64 x285000_2,.int .i64 x285001_2,.int .i64 x285002_2,(.slice Ao23 x285003_2.length co23)] 69 (0,0))) ∧ Aside0 (w'.heap[gb290]? = some (.cells #[.int .i64 t318,.int .i64 t319,.int .i64 t320,(.slice Ao60 t321.length co60)] 69 (0,0))) ∧ Aside0 (Below w.heap.size w w'))
                      case atStart => exact ⟨(y325),(x11_54),(by first | rfl | (simp;done) | (simp [*];done)),H',⟨Nat.le_refl _⟩,⟨by (with_reducible repeat (first | apply Kd.R_alloc | apply Kd.R_drewN | apply Kd.R_drew));exact HO_4.out⟩,⟨by (with_reducible repeat (first | apply Kd.R_alloc | apply Kd.R_drewN | apply Kd.R_drew));exact HO_10.out⟩,⟨by (with_reducible repeat (first | apply Kd.R_alloc | apply Kd.R_drewN | apply Kd.R_drew));exact HO_285003.out⟩,⟨by (with_reducible repeat (first | apply Kd.R_alloc | apply Kd.R_drewN | apply Kd.R_drew));exact HO_291003.out⟩,⟨by (with_reducible repeat (first | refine blk_drewN ?_ _ | refine blk_drew ?_ | refine blk_alloc ?_ _));exact BK284.out⟩,⟨by (with_reducible repeat (first | refine blk_drewN ?_ _ | refine blk_drew ?_ | refine blk_alloc ?_ _));exact BK290.out⟩,⟨by repeat (first | (with_reducible first | exact HB.out | apply below_alloc | apply pw_below_drewN | apply below_drew1 | refine below_set ?_ GE284.out | refine below_set ?_ GE290.out) | exact HB.out)⟩⟩
                      case round =>
                       clear H'
                       try clear c1
                       try clear c2
                       try clear p2
                       try clear q2
                       try clear hx2
                       try clear c3
                       try clear c4
                       try clear c5
                       try clear p6
                       try clear c11
                       try clear c11b0
                       try clear c12
                       try clear c14
                       try clear c14b0
                       try clear c15
                       try clear c15b0
                       try clear c16
                       try clear c16b0
                       try clear c17
                       try clear c17b0
                       try clear c21
                       try clear c24
                       try clear c24b0
                       try clear c24b1
                       try clear c26
                       try clear p28
                       try clear q28
                       try clear hx28
                       try clear p29
                       try clear q29
                       try clear hx29
                       try clear c32
                       try clear c34
                       try clear c36
                       try clear c37
                       try clear c38
                       try clear c40
                       try clear c41
                       try clear c43
                       try clear c48
                       try clear c49
                       try clear c49b0
                       try clear c49b1
                       try clear c50
                       try clear c51
                       try clear c56
                       try clear hcz19_0
                       try clear hcz19_1
                       try clear hcz19_2
                       try clear hcz19_3
                       try clear hcz22_0
                       try clear hcz22_1
                       try clear hcz22_2
                       try clear hcz22_3
                       try clear hcz27_0
                       try clear hcz27_1
                       try clear hcz27_2
                       try clear hcz27_3
                       try clear hcz29_0
                       try clear hcz29_1
                       try clear hcz29_2
                       try clear hcz29_3
                       try clear hcz35_0
                       try clear hcz35_1
                       try clear hcz35_2
                       try clear hcz35_3
                       try clear hcz37_0
                       try clear hcz37_1
                       try clear hcz37_2
                       try clear hcz37_3
                       try clear hcz44_0
                       try clear hcz44_1
                       try clear hcz44_2
                       try clear hcz44_3
                       try clear hcz46_0
                       try clear hcz46_1
                       try clear hcz46_2
                       try clear hcz46_3
                       try clear hcz52_0
                       try clear hcz52_1
                       try clear hcz52_2
                       try clear hcz52_3
                       try clear hcz57_0
                       try clear hcz57_1
                       try clear hcz57_2
                       try clear hcz57_3
                       try clear hcz59_0
                       try clear hcz59_1
                       try clear hcz59_2
                       try clear hcz59_3
                       try clear hcz6_0
                       try clear hcz6_1
                       try clear hcz6_2
                       try clear hcz6_3
                       try clear hfz19_0
                       try clear hfz19_1
                       try clear hfz19_2
                       try clear hfz19_3
                       try clear hfz22_0
                       try clear hfz22_1
                       try clear hfz22_2
                       try clear hfz22_3
                       try clear hfz27_0
                       try clear hfz27_1
                       try clear hfz27_2
                       try clear hfz27_3
                       try clear hfz29_0
                       try clear hfz29_1
                       try clear hfz29_2
                       try clear hfz29_3
                       try clear hfz35_0
                       try clear hfz35_1
                       try clear hfz35_2
                       try clear hfz35_3
                       try clear hfz37_0
                       try clear hfz37_1
                       try clear hfz37_2
                       try clear hfz37_3
                       try clear hfz44_0
                       try clear hfz44_1
                       try clear hfz44_2
                       try clear hfz44_3
                       try clear hfz46_0
                       try clear hfz46_1
                       try clear hfz46_2
                       try clear hfz46_3
                       try clear hfz52_0
                       try clear hfz52_1
                       try clear hfz52_2
                       try clear hfz52_3
                       try clear hfz57_0
                       try clear hfz57_1
                       try clear hfz57_2
                       try clear hfz57_3
                       try clear hfz59_0
                       try clear hfz59_1
                       try clear hfz59_2
                       try clear hfz59_3
                       try clear hfz6_0
                       try clear hfz6_1
                       try clear hfz6_2
                       try clear hfz6_3
                       try clear hx289_0
                       try clear hx289_1
                       try clear hx291_0
                       try clear hx291_1
                       try clear p2
                       try clear p28
                       try clear p289
                       try clear p29
                       try clear p291
                       try clear p6
                       try clear q2
                       try clear q28
                       try clear q289
                       try clear q29
                       try clear q291
                       obtain ⟨x10_8,x11_8,rfl,HA,HK8,HO_4,HO_10,HO_285003,HO_291003,BK284,BK290,HB⟩:=hrel
                       cases gk with
                       | zero => exact absurd HA.out (by simp [humuslaw11_TableCounts.l1])
                       | succ k8 =>
                        have H:=HA.out
                        clear HA
                        simp only [humuslaw11_TableCounts.l1] at H
                        by_cases c63 : x11_8 < (x4_2.length : Int)
                        ·rw [if_pos c63] at H
                         have c63b0 : decide (x11_8 < (x4_2.length : Int)) = true:=decide_eq_true c63
                         clear c63
                         by_cases c64 : 0 ≤ x11_8
                         ·rw [if_pos c64] at H
                          have c64b0 : decide (0 ≤ x11_8) = true:=decide_eq_true c64
                          clear c64
                          by_cases c65 : (rd x4_2 x11_8) = x6_12
                          ·rw [if_pos c65] at H
                           have c65b0 : ((rd x4_2 x11_8) == x6_12) = true:=beq_iff_eq.mpr c65
                           have c65b1 : ((rd x4_2 x11_8) != x6_12) = false:=bne_eq_false_iff_eq.mpr c65
                           clear c65
                           have H':=Aside0.mk H
                           clear H
                           obtain ⟨Ao66,co66,eo66⟩:=Kd.R_slice HO_4.out
                           subst eo66
                           have p328 : 0 ≤ (x11_8 : Int):=of_decide_eq_true (by first | (with_reducible assumption) | assumption)
                           have q328 : x11_8 < (x4_2.length : Int):=of_decide_eq_true (by first | (with_reducible assumption) | assumption)
                           obtain ⟨ad328,e328,hx328_0⟩:=Kd.at_int (Kd.R_reads' HO_4.out).2.2 x11_8 p328 q328
                           cases e328
                           replace p328:=eq_true p328
                           replace q328:=eq_true q328
                           go_wp2
                           go_roundg k8
                           case measure => have:=HJ2.out;have:=HK2.out;have:=HJ9.out;have:=HJ12.out;have:=HJ30.out;have:=HJ38.out;have:=HJ54.out;have:=HK8.out;omega
                           case rel => exact ⟨(x10_8),(wrap64 (x11_8 + 1)),(by first | rfl | (simp;done) | (simp [*];done)),H',⟨by have:=HJ2.out;have:=HK2.out;have:=HJ9.out;have:=HJ12.out;have:=HJ30.out;have:=HJ38.out;have:=HJ54.out;have:=HK8.out;omega⟩,⟨by (with_reducible repeat (first | apply Kd.R_alloc | apply Kd.R_drewN | apply Kd.R_drew));exact HO_4.out⟩,⟨by (with_reducible repeat (first | apply Kd.R_alloc | apply Kd.R_drewN | apply Kd.R_drew));exact HO_10.out⟩,⟨by (with_reducible repeat (first | apply Kd.R_alloc | apply Kd.R_drewN | apply Kd.R_drew));exact HO_285003.out⟩,⟨by (with_reducible repeat (first | apply Kd.R_alloc | apply Kd.R_drewN | apply Kd.R_drew));exact HO_291003.out⟩,⟨by (with_reducible repeat (first | refine blk_drewN ?_ _ | refine blk_drew ?_ | refine blk_alloc ?_ _));exact BK284.out⟩,⟨by (with_reducible repeat (first | refine blk_drewN ?_ _ | refine blk_drew ?_ | refine blk_alloc ?_ _));exact BK290.out⟩,⟨by repeat (first | (with_reducible first | exact HB.out | apply below_alloc | apply pw_below_drewN | apply below_drew1 | refine below_set ?_ GE284.out | refine below_set ?_ GE290.out) | exact HB.out)⟩⟩
                          ·rw [if_neg c65] at H
                           have c65b0 : ((rd x4_2 x11_8) == x6_12) = false:=beq_eq_false_iff_ne.mpr c65
                           have c65b1 : ((rd x4_2 x11_8) != x6_12) = true:=bne_iff_ne.mpr c65
                           by_cases c67 : x10_8.length < 17592186044416
                           ·rw [if_pos c67] at H
                            have LMc67:=Aside0.mk c67
                            clear c67
                            obtain ⟨y330,hy330⟩ : ∃ y_ : List Int,y_ = (x10_8 ++ [rd x4_2 x11_8]):=⟨_,rfl⟩
                            replace H : (humuslaw11_TableCounts.l1 k8 l0 x4_2 x5_2 x6_12 t324 y330 (wrap64 (x11_8 + 1)) x285000_2 x285001_2 x285002_2 x285003_2 t318 t319 t320 t321) = some r:=by first | (rw [hy330];with_reducible exact H) | (have H2_:=(Option.bind_some _ _).symm.trans H;rw [hy330];with_reducible exact H2_) | (have H2_:=(Option.bind_some _ _).symm.trans H;with_reducible exact H2_) | with_reducible exact H | (rw [hy330];exact H) | exact H
                            have Ny330:=Aside0.mk hy330
                            clear hy330
                            have H':=Aside0.mk H
                            clear H
                            obtain ⟨Ao68,co68,eo68⟩:=Kd.R_slice HO_4.out
                            subst eo68
                            have p328 : 0 ≤ (x11_8 : Int):=of_decide_eq_true (by first | (with_reducible assumption) | assumption)
                            have q328 : x11_8 < (x4_2.length : Int):=of_decide_eq_true (by first | (with_reducible assumption) | assumption)
                            obtain ⟨ad328,e328,hx328_0⟩:=Kd.at_int (Kd.R_reads' HO_4.out).2.2 x11_8 p328 q328
                            cases e328
                            replace p328:=eq_true p328
                            replace q328:=eq_true q328
                            have p329 : 0 ≤ (x11_8 : Int):=of_decide_eq_true (by first | (with_reducible assumption) | assumption)
                            have q329 : x11_8 < (x4_2.length : Int):=of_decide_eq_true (by first | (with_reducible assumption) | assumption)
                            obtain ⟨ad329,e329,hx329_0⟩:=Kd.at_int (Kd.R_reads' HO_4.out).2.2 x11_8 p329 q329
                            obtain rfl : ad328 = ad329:=(by injection e329)
                            replace p329:=eq_true p329
                            replace q329:=eq_true q329
                            go_wp2_with (first | ((with_reducible refine gate_builtin (b:=.append) (xs:=#[.tmp 59,.tmp 64]) rfl ?_);at_builtin;refine Kd.R_append (Kd.int .i64) (w0:=w) w.heap.size rfl (.tmp 59) (.tmp 64) 24 3 (.int .i64 0) 8 rfl Try.underlying24 info3 rfl (by decide) (by omega) u10 x10_8 (rd x4_2 x11_8) [.int .i64 (rd x4_2 x11_8)] (fun k_ => some k_ ≠ (.slice (some ad328) x4_2.length co68 : Value).ownBlock) (fun _ => False) rfl rfl ?aP (fun _ hk => hk.elim) ?aF ?aO ?aB ?aS ?aL ?_;(case aP => exact rfl);(case aB => exact (by repeat (first | (with_reducible first | exact HB.out | apply below_alloc | apply pw_below_drewN | apply below_drew1 | refine below_set ?_ GE284.out | refine below_set ?_ GE290.out) | exact HB.out)));(case aF => exact (fun k_ hk => Kd.fresh' (Kd.R_lt (by (with_reducible repeat (first | apply Kd.R_alloc | apply Kd.R_drewN | apply Kd.R_drew));exact HO_4.out)) k_ hk));(case aO => exact (by (with_reducible repeat (first | apply Kd.R_alloc | apply Kd.R_drewN | apply Kd.R_drew));exact HO_10.out));(case aS => exact (below_size (by repeat (first | (with_reducible first | exact HB.out | apply below_alloc | apply pw_below_drewN | apply below_drew1 | refine below_set ?_ GE284.out | refine below_set ?_ GE290.out) | exact HB.out))));(case aL => have:=LMc67.out;omega);intro v331 w69 ho hb hg hat;rw [← Ny330.out] at ho;have n0_:=Aside0.mk (Kd.R_after (ok:=(fun _ => True)) (by (with_reducible repeat (first | apply Kd.R_alloc | apply Kd.R_drewN | apply Kd.R_drew));exact Kd.R_mono HO_4.out (fun _ hk => ⟨trivial,hk⟩)) hg hat);have n1_:=Aside0.mk (Kd.R_over' (by (with_reducible repeat (first | apply Kd.R_alloc | apply Kd.R_drewN | apply Kd.R_drew));exact HO_285003.out) (Kd.R_typed (by (with_reducible repeat (first | apply Kd.R_alloc | apply Kd.R_drewN | apply Kd.R_drew));exact HO_10.out)) (by decide) hg);have n2_:=Aside0.mk (Kd.R_over' (by (with_reducible repeat (first | apply Kd.R_alloc | apply Kd.R_drewN | apply Kd.R_drew));exact HO_291003.out) (Kd.R_typed (by (with_reducible repeat (first | apply Kd.R_alloc | apply Kd.R_drewN | apply Kd.R_drew));exact HO_10.out)) (by decide) hg);have n3_:=Aside0.mk (blk_grown (g:=gb284) (o:=.cells #[.int .i64 x285000_2,.int .i64 x285001_2,.int .i64 x285002_2,.slice Ao23 x285003_2.length co23] 69 (0,0)) (by (with_reducible repeat (first | refine blk_drewN ?_ _ | refine blk_drew ?_ | refine blk_alloc ?_ _));exact BK284.out) hg (Kd.R_ne HO_10.out BK284.out (by decide)));have n4_:=Aside0.mk (blk_grown (g:=gb290) (o:=.cells #[.int .i64 t318,.int .i64 t319,.int .i64 t320,.slice Ao60 t321.length co60] 69 (0,0)) (by (with_reducible repeat (first | refine blk_drewN ?_ _ | refine blk_drew ?_ | refine blk_alloc ?_ _));exact BK290.out) hg (Kd.R_ne HO_10.out BK290.out (by decide)));have n5_:=Aside0.mk (hb);have n6_:=Aside0.mk (ho);clear HO_4;clear HO_285003;clear HO_291003;clear BK284;clear BK290;clear HB;clear HO_10;have HO_4:=n0_;have HO_285003:=n1_;have HO_291003:=n2_;have BK284:=n3_;have BK290:=n4_;have HB:=n5_;have HO332:=n6_;clear n0_ n1_ n2_ n3_ n4_ n5_ n6_;clear ho hb hg hat))
                            go_roundg k8
                            case measure => have:=HJ2.out;have:=HK2.out;have:=HJ9.out;have:=HJ12.out;have:=HJ30.out;have:=HJ38.out;have:=HJ54.out;have:=HK8.out;omega
                            case rel => exact ⟨(y330),(wrap64 (x11_8 + 1)),(by first | rfl | (simp;done) | (simp [*];done)),H',⟨by have:=HJ2.out;have:=HK2.out;have:=HJ9.out;have:=HJ12.out;have:=HJ30.out;have:=HJ38.out;have:=HJ54.out;have:=HK8.out;omega⟩,⟨by (with_reducible repeat (first | apply Kd.R_alloc | apply Kd.R_drewN | apply Kd.R_drew));exact Kd.R_mono HO_4.out (fun _ hk => hk.2)⟩,⟨by (with_reducible repeat (first | apply Kd.R_alloc | apply Kd.R_drewN | apply Kd.R_drew));exact HO332.out⟩,⟨by (with_reducible repeat (first | apply Kd.R_alloc | apply Kd.R_drewN | apply Kd.R_drew));exact HO_285003.out⟩,⟨by (with_reducible repeat (first | apply Kd.R_alloc | apply Kd.R_drewN | apply Kd.R_drew));exact HO_291003.out⟩,⟨by (with_reducible repeat (first | refine blk_drewN ?_ _ | refine blk_drew ?_ | refine blk_alloc ?_ _));exact BK284.out⟩,⟨by (with_reducible repeat (first | refine blk_drewN ?_ _ | refine blk_drew ?_ | refine blk_alloc ?_ _));exact BK290.out⟩,⟨by repeat (first | (with_reducible first | exact HB.out | apply below_alloc | apply pw_below_drewN | apply below_drew1 | refine below_set ?_ GE284.out | refine below_set ?_ GE290.out) | exact HB.out)⟩⟩
                           ·rw [if_neg c67] at H
                            exact absurd H (by simp)
                         ·rw [if_neg c64] at H
                          exact absurd H (by simp)
                        ·rw [if_neg c63] at H
                         have c63b0 : decide (x11_8 < (x4_2.length : Int)) = false:=decide_eq_false c63
                         clear c63
                         by_cases c70 : t324 = 0
                         ·rw [if_pos c70] at H
                          have c70b0 : (t324 == 0) = true:=beq_iff_eq.mpr c70
                          have c70b1 : (t324 != 0) = false:=bne_eq_false_iff_eq.mpr c70
                          clear c70
                          have H':=Aside0.mk H
                          clear H
                          obtain ⟨Ao71,co71,eo71⟩:=Kd.R_slice HO_4.out
                          subst eo71
                          go_wp2
                          go_meet
                          case rel => exact ⟨_,(x10_8),(t324),(t318),(t319),(t320),(t321),(.slice Ao60 t321.length co60),(by first | rfl | (simp;done) | (simp [*];done)),H',⟨by have:=HJ2.out;have:=HK2.out;have:=HJ9.out;have:=HJ12.out;have:=HJ30.out;have:=HJ38.out;have:=HJ54.out;have:=HK8.out;first | omega | exact Nat.le_refl _⟩,⟨by (with_reducible repeat (first | apply Kd.R_alloc | apply Kd.R_drewN | apply Kd.R_drew));exact Kd.R_mono HO_10.out (fun _ hk => trivial)⟩,⟨by (with_reducible repeat (first | apply Kd.R_alloc | apply Kd.R_drewN | apply Kd.R_drew));exact HO_285003.out⟩,⟨by (with_reducible repeat (first | apply Kd.R_alloc | apply Kd.R_drewN | apply Kd.R_drew));exact HO_291003.out⟩,⟨by (with_reducible repeat (first | refine blk_drewN ?_ _ | refine blk_drew ?_ | refine blk_alloc ?_ _));exact BK284.out⟩,⟨by (with_reducible repeat (first | refine blk_drewN ?_ _ | refine blk_drew ?_ | refine blk_alloc ?_ _));exact BK290.out⟩,⟨by repeat (first | (with_reducible first | exact HB.out | apply below_alloc | apply pw_below_drewN | apply below_drew1 | refine below_set ?_ GE284.out | refine below_set ?_ GE290.out) | exact HB.out)⟩⟩
                         ·rw [if_neg c70] at H
                          have c70b0 : (t324 == 0) = false:=beq_eq_false_iff_ne.mpr c70
                          have c70b1 : (t324 != 0) = true:=bne_iff_ne.mpr c70
                          have H':=Aside0.mk H
                          clear H
                          obtain ⟨Ao72,co72,eo72⟩:=Kd.R_slice HO_4.out
                          subst eo72
                          go_wp2
                          go_meet
                          case rel => exact ⟨_,(x4_2),(t324),(t318),(t319),(t320),(t321),(.slice Ao60 t321.length co60),(by first | rfl | (simp;done) | (simp [*];done)),H',⟨by have:=HJ2.out;have:=HK2.out;have:=HJ9.out;have:=HJ12.out;have:=HJ30.out;have:=HJ38.out;have:=HJ54.out;have:=HK8.out;first | omega | exact Nat.le_refl _⟩,⟨by (with_reducible repeat (first | apply Kd.R_alloc | apply Kd.R_drewN | apply Kd.R_drew));exact Kd.R_mono HO_4.out (fun _ hk => trivial)⟩,⟨by (with_reducible repeat (first | apply Kd.R_alloc | apply Kd.R_drewN | apply Kd.R_drew));exact HO_285003.out⟩,⟨by (with_reducible repeat (first | apply Kd.R_alloc | apply Kd.R_drewN | apply Kd.R_drew));exact HO_291003.out⟩,⟨by (with_reducible repeat (first | refine blk_drewN ?_ _ | refine blk_drew ?_ | refine blk_alloc ?_ _));exact BK284.out⟩,⟨by (with_reducible repeat (first | refine blk_drewN ?_ _ | refine blk_drew ?_ | refine blk_alloc ?_ _));exact BK290.out⟩,⟨by repeat (first | (with_reducible first | exact HB.out | apply below_alloc | apply pw_below_drewN | apply below_drew1 | refine below_set ?_ GE284.out | refine below_set ?_ GE290.out) | exact HB.out)⟩⟩
            case rest =>
             clear HC18
             try clear c1
             try clear c2
             try clear p2
             try clear q2
             try clear hx2
             try clear c3
             try clear p3
             try clear q3
             try clear hx3
             try clear c4
             try clear c5
             try clear c6
             try clear p6
             try clear c7
             try clear c11
             try clear c11b0
             try clear c12
             try clear c14
             try clear c14b0
             try clear c15
             try clear c15b0
             try clear c16
             try clear c16b0
             try clear c17
             try clear c17b0
             try clear c21
             try clear c24
             try clear c24b0
             try clear c24b1
             try clear c26
             try clear p28
             try clear q28
             try clear hx28
             try clear p29
             try clear q29
             try clear hx29
             try clear c32
             try clear p32
             try clear q32
             try clear hx32
             try clear c34
             try clear c36
             try clear c37
             try clear c38
             try clear c40
             try clear c41
             try clear c43
             try clear c48
             try clear c49
             try clear c49b0
             try clear c49b1
             try clear c50
             try clear c51
             try clear c56
             try clear c63
             try clear c63b0
             try clear c64
             try clear c64b0
             try clear p64
             try clear c65
             try clear c65b0
             try clear c65b1
             try clear c67
             try clear c70
             try clear c70b0
             try clear c70b1
             try clear hcz19_0
             try clear hcz19_1
             try clear hcz19_2
             try clear hcz19_3
             try clear hcz22_0
             try clear hcz22_1
             try clear hcz22_2
             try clear hcz22_3
             try clear hcz27_0
             try clear hcz27_1
             try clear hcz27_2
             try clear hcz27_3
             try clear hcz29_0
             try clear hcz29_1
             try clear hcz29_2
             try clear hcz29_3
             try clear hcz35_0
             try clear hcz35_1
             try clear hcz35_2
             try clear hcz35_3
             try clear hcz37_0
             try clear hcz37_1
             try clear hcz37_2
             try clear hcz37_3
             try clear hcz44_0
             try clear hcz44_1
             try clear hcz44_2
             try clear hcz44_3
             try clear hcz46_0
             try clear hcz46_1
             try clear hcz46_2
             try clear hcz46_3
             try clear hcz52_0
             try clear hcz52_1
             try clear hcz52_2
             try clear hcz52_3
             try clear hcz57_0
             try clear hcz57_1
             try clear hcz57_2
             try clear hcz57_3
             try clear hcz59_0
             try clear hcz59_1
             try clear hcz59_2
             try clear hcz59_3
             try clear hcz6_0
             try clear hcz6_1
             try clear hcz6_2
             try clear hcz6_3
             try clear hfz19_0
             try clear hfz19_1
             try clear hfz19_2
             try clear hfz19_3
             try clear hfz22_0
             try clear hfz22_1
             try clear hfz22_2
             try clear hfz22_3
             try clear hfz27_0
             try clear hfz27_1
             try clear hfz27_2
             try clear hfz27_3
             try clear hfz29_0
             try clear hfz29_1
             try clear hfz29_2
             try clear hfz29_3
             try clear hfz35_0
             try clear hfz35_1
             try clear hfz35_2
             try clear hfz35_3
             try clear hfz37_0
             try clear hfz37_1
             try clear hfz37_2
             try clear hfz37_3
             try clear hfz44_0
             try clear hfz44_1
             try clear hfz44_2
             try clear hfz44_3
             try clear hfz46_0
             try clear hfz46_1
             try clear hfz46_2
             try clear hfz46_3
             try clear hfz52_0
             try clear hfz52_1
             try clear hfz52_2
             try clear hfz52_3
             try clear hfz57_0
             try clear hfz57_1
             try clear hfz57_2
             try clear hfz57_3
             try clear hfz59_0
             try clear hfz59_1
             try clear hfz59_2
             try clear hfz59_3
             try clear hfz6_0
             try clear hfz6_1
             try clear hfz6_2
             try clear hfz6_3
             try clear hx289_0
             try clear hx289_1
             try clear hx291_0
             try clear hx291_1
             try clear hx328_0
             try clear hx329_0
             try clear p2
             try clear p28
             try clear p289
             try clear p29
             try clear p291
             try clear p328
             try clear p329
             try clear p6
             try clear q2
             try clear q28
             try clear q289
             try clear q29
             try clear q291
             try clear q328
             try clear q329
             obtain ⟨kq,x4_17,x9_17,x291000_17,x291001_17,x291002_17,x291003_17,u291003,rfl,HA,HJ17,HO_4,HO_285003,HO_291003,BK284,BK290,HB⟩:=hcut
             cases kq with
             | zero => exact absurd HA.out (by simp [humuslaw11_TableCounts.j9])
             | succ kj17 =>
              have H:=HA.out
              clear HA
              simp only [humuslaw11_TableCounts.j9] at H
              have HC73:=Aside0.mk H
              clear H
              go_upto_region 28 with (fail)
              go_cut [113] (fun v113 wc => ∃ (kq : Nat) (x113_72 : Bool),v113 = .bool x113_72 ∧ Aside0 (humuslaw11_TableCounts.j10 kq l0 x4_17 x5_2 x113_72 x291000_17 x291001_17 x291002_17 x291003_17 = some r) ∧ Aside0 (kq ≤ kj17) ∧ Aside0 (Kd.R (Kd.int .i64) 3 wc w.heap.size (fun _ => True) u4 x4_17) ∧ Aside0 (Kd.R k112 112 wc w.heap.size (fun k_ => some k_ ≠ (u291003 : Value).ownBlock) (.slice Ao23 x285003_2.length co23) x285003_2) ∧ Aside0 (Kd.R k112 112 wc w.heap.size (fun k_ => some k_ ≠ ((.slice Ao23 x285003_2.length co23) : Value).ownBlock) u291003 x291003_17) ∧ Aside0 (wc.heap[gb284]? = some (.cells #[.int .i64 x285000_2,.int .i64 x285001_2,.int .i64 x285002_2,(.slice Ao23 x285003_2.length co23)] 69 (0,0))) ∧ Aside0 (wc.heap[gb290]? = some (.cells #[.int .i64 x291000_17,.int .i64 x291001_17,.int .i64 x291002_17,u291003] 69 (0,0))) ∧ Aside0 (Below w.heap.size w wc))
              case first =>
               have H:=HC73.out
               clear HC73
               by_cases c74 : x9_17 = 0
               ·rw [if_pos c74] at H
                have c74b0 : (x9_17 == 0) = true:=beq_iff_eq.mpr c74
                have c74b1 : (x9_17 != 0) = false:=bne_eq_false_iff_eq.mpr c74
                clear c74
                (first | rw [c74b0] | (simp only [i64_w,i32_w];rw [c74b0]) | skip)
                have H':=Aside0.mk H
                clear H
                go_wp2
                go_meet
                case rel => exact ⟨_,(false),(by first | rfl | (simp;done) | (simp [*];done)),H',⟨by have:=HJ2.out;have:=HK2.out;have:=HJ9.out;have:=HJ12.out;have:=HJ17.out;first | omega | exact Nat.le_refl _⟩,⟨by (with_reducible repeat (first | apply Kd.R_alloc | apply Kd.R_drewN | apply Kd.R_drew));exact HO_4.out⟩,⟨by (with_reducible repeat (first | apply Kd.R_alloc | apply Kd.R_drewN | apply Kd.R_drew));exact HO_285003.out⟩,⟨by (with_reducible repeat (first | apply Kd.R_alloc | apply Kd.R_drewN | apply Kd.R_drew));exact HO_291003.out⟩,⟨by (with_reducible repeat (first | refine blk_drewN ?_ _ | refine blk_drew ?_ | refine blk_alloc ?_ _));exact BK284.out⟩,⟨by (with_reducible repeat (first | refine blk_drewN ?_ _ | refine blk_drew ?_ | refine blk_alloc ?_ _));exact BK290.out⟩,⟨by repeat (first | (with_reducible first | exact HB.out | apply below_alloc | apply pw_below_drewN | apply below_drew1 | refine below_set ?_ GE284.out | refine below_set ?_ GE290.out) | exact HB.out)⟩⟩
               ·rw [if_neg c74] at H
                have c74b0 : (x9_17 == 0) = false:=beq_eq_false_iff_ne.mpr c74
                have c74b1 : (x9_17 != 0) = true:=bne_iff_ne.mpr c74
                (first | rw [c74b0] | (simp only [i64_w,i32_w];rw [c74b0]) | skip)
                replace H:=Option.bind_eq_some_iff.mp H
                obtain ⟨t333,A750,H⟩:=H
                replace H : (humuslaw11_TableCounts.j10 kj17 l0 x4_17 x5_2 (!t333) x291000_17 x291001_17 x291002_17 x291003_17) = some r:=H
                have A75:=Aside0.mk A750
                clear A750
                have H':=Aside0.mk H
                clear H
                have hnb76:=NB290_284.out
                have hnc76:=NB284_290.out
                obtain ⟨hcz77_0,hcz77_1,hcz77_2,hcz77_3⟩:=blkc_4 BK290.out
                obtain ⟨hfz77_0,hfz77_1,hfz77_2,hfz77_3⟩:=blkz_4 BK290.out
                obtain ⟨hcz78_0,hcz78_1,hcz78_2,hcz78_3⟩:=blkc_4 BK284.out
                obtain ⟨hfz78_0,hfz78_1,hfz78_2,hfz78_3⟩:=blkz_4 BK284.out
                obtain ⟨Ao79,co79,eo79⟩:=Kd.R_slice HO_291003.out
                subst eo79
                go_wp2_with (first | (go_at_call 42;(with_reducible refine (humusref11_Same.calls kj17 x291000_17 x291001_17 x291002_17 _ _ x291003_17 x285000_2 x285001_2 x285002_2 _ _ x285003_2 t333 _ ?side1 ?side2 ?side3 ?side4 A75.out).mono ?_);(case side1 => repeat (first | exact (Kd.R_reads' HO_291003.out).2.2 | (with_reducible refine Kd.C_alloc ?_ _) | (with_reducible refine Kd.C_drewN ?_ _) | (with_reducible refine Kd.C_drew ?_)));(case side2 => exact (Kd.R_reads' HO_291003.out).2.1);(case side3 => repeat (first | exact (Kd.R_reads' HO_285003.out).2.2 | (with_reducible refine Kd.C_alloc ?_ _) | (with_reducible refine Kd.C_drewN ?_ _) | (with_reducible refine Kd.C_drew ?_)));(case side4 => exact (Kd.R_reads' HO_285003.out).2.1);rintro e w80 ⟨rfl,hb⟩;have n0_:=Aside0.mk (Kd.R_below (by (with_reducible repeat (first | apply Kd.R_alloc | apply Kd.R_drewN | apply Kd.R_drew));exact HO_4.out) hb);have n1_:=Aside0.mk (Kd.R_below (by (with_reducible repeat (first | apply Kd.R_alloc | apply Kd.R_drewN | apply Kd.R_drew));exact HO_285003.out) hb);have n2_:=Aside0.mk (Kd.R_below (by (with_reducible repeat (first | apply Kd.R_alloc | apply Kd.R_drewN | apply Kd.R_drew));exact HO_291003.out) hb);have n3_:=Aside0.mk (blk_below (g:=gb284) (o:=.cells #[.int .i64 x285000_2,.int .i64 x285001_2,.int .i64 x285002_2,.slice Ao23 x285003_2.length co23] 69 (0,0)) (by (with_reducible repeat (first | refine blk_drewN ?_ _ | refine blk_drew ?_ | refine blk_alloc ?_ _));exact BK284.out) hb);have n4_:=Aside0.mk (blk_below (g:=gb290) (o:=.cells #[.int .i64 x291000_17,.int .i64 x291001_17,.int .i64 x291002_17,.slice Ao79 x291003_17.length co79] 69 (0,0)) (by (with_reducible repeat (first | refine blk_drewN ?_ _ | refine blk_drew ?_ | refine blk_alloc ?_ _));exact BK290.out) hb);have n5_:=Aside0.mk (below_step (by repeat (first | (with_reducible first | exact HB.out | apply below_alloc | apply pw_below_drewN | apply below_drew1 | refine below_set ?_ GE284.out | refine below_set ?_ GE290.out) | exact HB.out)) hb);clear HO_4;clear HO_285003;clear HO_291003;clear BK284;clear BK290;clear HB;have HO_4:=n0_;have HO_285003:=n1_;have HO_291003:=n2_;have BK284:=n3_;have BK290:=n4_;have HB:=n5_;clear n0_ n1_ n2_ n3_ n4_ n5_;(try clear hb);(try clear hb2);(try clear hk);(try clear hi)))
                go_meet
                case rel => exact ⟨_,(!t333),(by first | rfl | (simp;done) | (simp [*];done)),H',⟨by have:=HJ2.out;have:=HK2.out;have:=HJ9.out;have:=HJ12.out;have:=HJ17.out;first | omega | exact Nat.le_refl _⟩,⟨by (with_reducible repeat (first | apply Kd.R_alloc | apply Kd.R_drewN | apply Kd.R_drew));exact HO_4.out⟩,⟨by (with_reducible repeat (first | apply Kd.R_alloc | apply Kd.R_drewN | apply Kd.R_drew));exact HO_285003.out⟩,⟨by (with_reducible repeat (first | apply Kd.R_alloc | apply Kd.R_drewN | apply Kd.R_drew));exact HO_291003.out⟩,⟨by (with_reducible repeat (first | refine blk_drewN ?_ _ | refine blk_drew ?_ | refine blk_alloc ?_ _));exact BK284.out⟩,⟨by (with_reducible repeat (first | refine blk_drewN ?_ _ | refine blk_drew ?_ | refine blk_alloc ?_ _));exact BK290.out⟩,⟨by repeat (first | (with_reducible first | exact HB.out | apply below_alloc | apply pw_below_drewN | apply below_drew1 | refine below_set ?_ GE284.out | refine below_set ?_ GE290.out) | exact HB.out)⟩⟩
              case rest =>
               clear HC73
               try clear c1
               try clear c2
               try clear p2
               try clear q2
               try clear hx2
               try clear c3
               try clear p3
               try clear q3
               try clear hx3
               try clear c4
               try clear c5
               try clear c6
               try clear p6
               try clear c7
               try clear c11
               try clear c11b0
               try clear c12
               try clear c14
               try clear c14b0
               try clear c15
               try clear c15b0
               try clear c16
               try clear c16b0
               try clear c17
               try clear c17b0
               try clear c21
               try clear c24
               try clear c24b0
               try clear c24b1
               try clear c26
               try clear p28
               try clear q28
               try clear hx28
               try clear p29
               try clear q29
               try clear hx29
               try clear c32
               try clear p32
               try clear q32
               try clear hx32
               try clear c34
               try clear c36
               try clear c37
               try clear c38
               try clear c40
               try clear c41
               try clear c43
               try clear c48
               try clear c49
               try clear c49b0
               try clear c49b1
               try clear c50
               try clear c51
               try clear c56
               try clear c63
               try clear c63b0
               try clear c64
               try clear c64b0
               try clear p64
               try clear c65
               try clear c65b0
               try clear c65b1
               try clear c67
               try clear c70
               try clear c70b0
               try clear c70b1
               try clear c74
               try clear c74b0
               try clear c74b1
               try clear c76
               try clear hcz19_0
               try clear hcz19_1
               try clear hcz19_2
               try clear hcz19_3
               try clear hcz22_0
               try clear hcz22_1
               try clear hcz22_2
               try clear hcz22_3
               try clear hcz27_0
               try clear hcz27_1
               try clear hcz27_2
               try clear hcz27_3
               try clear hcz29_0
               try clear hcz29_1
               try clear hcz29_2
               try clear hcz29_3
               try clear hcz35_0
               try clear hcz35_1
               try clear hcz35_2
               try clear hcz35_3
               try clear hcz37_0
               try clear hcz37_1
               try clear hcz37_2
               try clear hcz37_3
               try clear hcz44_0
               try clear hcz44_1
               try clear hcz44_2
               try clear hcz44_3
               try clear hcz46_0
               try clear hcz46_1
               try clear hcz46_2
               try clear hcz46_3
               try clear hcz52_0
               try clear hcz52_1
               try clear hcz52_2
               try clear hcz52_3
               try clear hcz57_0
               try clear hcz57_1
               try clear hcz57_2
               try clear hcz57_3
               try clear hcz59_0
               try clear hcz59_1
               try clear hcz59_2
               try clear hcz59_3
               try clear hcz6_0
               try clear hcz6_1
               try clear hcz6_2
               try clear hcz6_3
               try clear hcz77_0
               try clear hcz77_1
               try clear hcz77_2
               try clear hcz77_3
               try clear hcz78_0
               try clear hcz78_1
               try clear hcz78_2
               try clear hcz78_3
               try clear hfz19_0
               try clear hfz19_1
               try clear hfz19_2
               try clear hfz19_3
               try clear hfz22_0
               try clear hfz22_1
               try clear hfz22_2
               try clear hfz22_3
               try clear hfz27_0
               try clear hfz27_1
               try clear hfz27_2
               try clear hfz27_3
               try clear hfz29_0
               try clear hfz29_1
               try clear hfz29_2
               try clear hfz29_3
               try clear hfz35_0
               try clear hfz35_1
               try clear hfz35_2
               try clear hfz35_3
               try clear hfz37_0
               try clear hfz37_1
               try clear hfz37_2
               try clear hfz37_3
               try clear hfz44_0
               try clear hfz44_1
               try clear hfz44_2
               try clear hfz44_3
               try clear hfz46_0
               try clear hfz46_1
               try clear hfz46_2
               try clear hfz46_3
               try clear hfz52_0
               try clear hfz52_1
               try clear hfz52_2
               try clear hfz52_3
               try clear hfz57_0
               try clear hfz57_1
               try clear hfz57_2
               try clear hfz57_3
               try clear hfz59_0
               try clear hfz59_1
               try clear hfz59_2
               try clear hfz59_3
               try clear hfz6_0
               try clear hfz6_1
               try clear hfz6_2
               try clear hfz6_3
               try clear hfz77_0
               try clear hfz77_1
               try clear hfz77_2
               try clear hfz77_3
               try clear hfz78_0
               try clear hfz78_1
               try clear hfz78_2
               try clear hfz78_3
               try clear hx289_0
               try clear hx289_1
               try clear hx291_0
               try clear hx291_1
               try clear hx328_0
               try clear hx329_0
               try clear p2
               try clear p28
               try clear p289
               try clear p29
               try clear p291
               try clear p3
               try clear p32
               try clear p328
               try clear p329
               try clear p6
               try clear p64
               try clear q2
               try clear q28
               try clear q289
               try clear q29
               try clear q291
               try clear q3
               try clear q32
               try clear q328
               try clear q329
               obtain ⟨kq,x113_72,rfl,HA,HJ72,HO_4,HO_285003,HO_291003,BK284,BK290,HB⟩:=hcut
               cases kq with
               | zero => exact absurd HA.out (by simp [humuslaw11_TableCounts.j10])
               | succ kj72 =>
                have H:=HA.out
                clear HA
                simp only [humuslaw11_TableCounts.j10] at H
                by_cases c81 : x113_72 = true
                ·subst c81
                 have H1 : (none) = some r:=by rw [if_pos rfl] at H;exact H
                 clear H
                 have H:=H1
                 clear H1
                 exact absurd H (by simp)
                ·replace c81:=Bool.eq_false_iff.mpr c81
                 subst c81
                 have H1 : (if (x4_17.length : Int) > 0 then (if 0 < (x4_17.length : Int) then ((table_Eldest.f kj72 x291000_17 x291001_17 x291002_17 x291003_17).bind fun t335 => (if t335 = (rd x4_17 0) then (humuslaw11_TableCounts.j12 kj72 l0 x4_17 (wrap64 (x5_2 + 1)) x291000_17 x291001_17 x291002_17 x291003_17) else (none))) else (none)) else ((table_Eldest.f kj72 x291000_17 x291001_17 x291002_17 x291003_17).bind fun t336 => (if t336 = 0 then (humuslaw11_TableCounts.j13 kj72 l0 x4_17 (wrap64 (x5_2 + 1)) x291000_17 x291001_17 x291002_17 x291003_17) else (none)))) = some r:=by rw [if_neg (show ¬ (false = true) by decide)] at H;exact H
                 clear H
                 have H:=H1
                 clear H1
                 by_cases c82 : (x4_17.length : Int) > 0
                 ·rw [if_pos c82] at H
                  have c82b0 : decide (0 < (x4_17.length : Int)) = true:=decide_eq_true c82
                  have c82b1 : decide (0 < x4_17.length) = true:=decide_eq_true (by omega)
                  clear c82
                  by_cases c83 : 0 < (x4_17.length : Int)
                  ·rw [if_pos c83] at H
                   have c83b0 : decide (0 < (x4_17.length : Int)) = true:=decide_eq_true c83
                   have c83b1 : decide (0 < x4_17.length) = true:=decide_eq_true (by omega)
                   clear c83
                   replace H:=Option.bind_eq_some_iff.mp H
                   obtain ⟨t335,A840,H⟩:=H
                   replace H : (if t335 = (rd x4_17 0) then (humuslaw11_TableCounts.j12 kj72 l0 x4_17 (wrap64 (x5_2 + 1)) x291000_17 x291001_17 x291002_17 x291003_17) else (none)) = some r:=H
                   have A84:=Aside0.mk A840
                   clear A840
                   by_cases c85 : t335 = (rd x4_17 0)
                   ·rw [if_pos c85] at H
                    have c85b0 : (t335 == (rd x4_17 0)) = true:=beq_iff_eq.mpr c85
                    have c85b1 : (t335 != (rd x4_17 0)) = false:=bne_eq_false_iff_eq.mpr c85
                    clear c85
                    have HC86:=Aside0.mk H
                    clear H
                    have hnb87:=NB290_284.out
                    have hnc87:=NB284_290.out
                    obtain ⟨hcz88_0,hcz88_1,hcz88_2,hcz88_3⟩:=blkc_4 BK290.out
                    obtain ⟨hfz88_0,hfz88_1,hfz88_2,hfz88_3⟩:=blkz_4 BK290.out
                    obtain ⟨hcz89_0,hcz89_1,hcz89_2,hcz89_3⟩:=blkc_4 BK284.out
                    obtain ⟨hfz89_0,hfz89_1,hfz89_2,hfz89_3⟩:=blkz_4 BK284.out
                    obtain ⟨Ao90,co90,eo90⟩:=Kd.R_slice HO_291003.out
                    subst eo90
                    obtain ⟨Ao91,co91,eo91⟩:=Kd.R_slice HO_4.out
                    subst eo91
                    have p334 : 0 ≤ (0 : Int):=(by omega)
                    have q334 : 0 < (x4_17.length : Int):=of_decide_eq_true (by first | (with_reducible assumption) | assumption)
                    obtain ⟨ad334,e334,hx334_0⟩:=Kd.at_int (Kd.R_reads' HO_4.out).2.2 0 p334 q334
                    cases e334
                    have qi334 : (0 < x4_17.length) = True:=eq_true (by omega)
                    (try rw [show ((0 : Int)).toNat = 0 from rfl] at hx334_0)
                    (try rw [Addr.add_zero'] at hx334_0)
                    have hn334_0 : ad334.block ≠ gb284:=Kd.own_blk (Kd.R_ne HO_4.out BK284.out (by decide))
                    have hn334_1 : ad334.block ≠ gb284:=Kd.own_blk (Kd.R_ne HO_4.out BK284.out (by decide))
                    have hn334_2 : ad334.block ≠ gb284:=Kd.own_blk (Kd.R_ne HO_4.out BK284.out (by decide))
                    have hn334_3 : ad334.block ≠ gb284:=Kd.own_blk (Kd.R_ne HO_4.out BK284.out (by decide))
                    replace hx334_0:=(cell_far (p:=⟨gb284,0,none⟩) (by first | (rw [add_block];exact hn334_0) | (show (Addr.add _ _).block ≠ _;rw [add_block];exact hn334_0) | exact hn334_0) (.int .i64 x291000_17)).trans hx334_0
                    replace hx334_0:=(cell_far (p:=⟨gb284,1,none⟩) (by first | (rw [add_block];exact hn334_1) | (show (Addr.add _ _).block ≠ _;rw [add_block];exact hn334_1) | exact hn334_1) (.int .i64 x291001_17)).trans hx334_0
                    replace hx334_0:=(cell_far (p:=⟨gb284,2,none⟩) (by first | (rw [add_block];exact hn334_2) | (show (Addr.add _ _).block ≠ _;rw [add_block];exact hn334_2) | exact hn334_2) (.int .i64 x291002_17)).trans hx334_0
                    replace hx334_0:=(cell_far (p:=⟨gb284,3,none⟩) (by first | (rw [add_block];exact hn334_3) | (show (Addr.add _ _).block ≠ _;rw [add_block];exact hn334_3) | exact hn334_3) (.slice Ao90 x291003_17.length co90)).trans hx334_0
                    clear hn334_0
                    clear hn334_1
                    clear hn334_2
                    clear hn334_3
                    replace p334:=eq_true p334
                    replace q334:=eq_true q334
                    go_upto_region 5 with (first | ((with_reducible refine gate_callee (f:=43) rfl ?_);refine goesL_ (some 122) rfl rfl Try.func43 (by kernel_rfl) rfl #[.agg #[.int .i64 x291000_17,.int .i64 x291001_17,.int .i64 x291002_17,.slice Ao90 x291003_17.length co90]] rfl (by (try simp only [List.map_toArray,List.map_cons,List.map_nil]);first | done | rfl | (simp only [List.length_drop,List.length_take];rfl)) ?_;(with_reducible refine (table_Eldest.calls kj72 x291000_17 x291001_17 x291002_17 _ _ x291003_17 t335 _ ?side1 ?side2 A84.out).mono ?_);(case side1 => refine (Kd.R_reads' (e:=112) (base:=w.heap.size) (ok:=fun k_ => some k_ ≠ (.slice Ao23 x285003_2.length co23 : Value).ownBlock) (n:=x291003_17.length) (c:=co90) ?_).2.2;exact (by (with_reducible repeat (first | apply Kd.R_alloc | apply Kd.R_drewN | apply Kd.R_drew));exact (Kd.R_mono (Kd.R_far (p:=⟨gb284,3,none⟩) (Kd.R_far (p:=⟨gb284,2,none⟩) (Kd.R_far (p:=⟨gb284,1,none⟩) (Kd.R_far (p:=⟨gb284,0,none⟩) (Kd.R_types HO_291003.out BK284.out (by decide)) (fun _ hk => hk.2) (.int .i64 x291000_17)) (fun _ hk => hk.2) (.int .i64 x291001_17)) (fun _ hk => hk.2) (.int .i64 x291002_17)) (fun _ hk => hk.2) (.slice Ao90 x291003_17.length co90)) (fun _ h_ => h_.1))));(case side2 => exact (Kd.R_reads' HO_291003.out).2.1);rintro e w92 ⟨rfl,hb⟩;refine ⟨_,rfl,?_⟩;have n0_:=Aside0.mk (Kd.R_below (by (with_reducible repeat (first | apply Kd.R_alloc | apply Kd.R_drewN | apply Kd.R_drew));exact (Kd.R_mono (Kd.R_far (p:=⟨gb284,3,none⟩) (Kd.R_far (p:=⟨gb284,2,none⟩) (Kd.R_far (p:=⟨gb284,1,none⟩) (Kd.R_far (p:=⟨gb284,0,none⟩) (Kd.R_types HO_4.out BK284.out (by decide)) (fun _ hk => hk.2) (.int .i64 x291000_17)) (fun _ hk => hk.2) (.int .i64 x291001_17)) (fun _ hk => hk.2) (.int .i64 x291002_17)) (fun _ hk => hk.2) (.slice Ao90 x291003_17.length co90)) (fun _ h_ => h_.1))) hb);have n1_:=Aside0.mk (Kd.R_below (by (with_reducible repeat (first | apply Kd.R_alloc | apply Kd.R_drewN | apply Kd.R_drew));exact (Kd.R_mono (Kd.R_far (p:=⟨gb284,3,none⟩) (Kd.R_far (p:=⟨gb284,2,none⟩) (Kd.R_far (p:=⟨gb284,1,none⟩) (Kd.R_far (p:=⟨gb284,0,none⟩) (Kd.R_types HO_285003.out BK284.out (by decide)) (fun _ hk => hk.2) (.int .i64 x291000_17)) (fun _ hk => hk.2) (.int .i64 x291001_17)) (fun _ hk => hk.2) (.int .i64 x291002_17)) (fun _ hk => hk.2) (.slice Ao90 x291003_17.length co90)) (fun _ h_ => h_.1))) hb);have n2_:=Aside0.mk (Kd.R_below (by (with_reducible repeat (first | apply Kd.R_alloc | apply Kd.R_drewN | apply Kd.R_drew));exact (Kd.R_mono (Kd.R_far (p:=⟨gb284,3,none⟩) (Kd.R_far (p:=⟨gb284,2,none⟩) (Kd.R_far (p:=⟨gb284,1,none⟩) (Kd.R_far (p:=⟨gb284,0,none⟩) (Kd.R_types HO_291003.out BK284.out (by decide)) (fun _ hk => hk.2) (.int .i64 x291000_17)) (fun _ hk => hk.2) (.int .i64 x291001_17)) (fun _ hk => hk.2) (.int .i64 x291002_17)) (fun _ hk => hk.2) (.slice Ao90 x291003_17.length co90)) (fun _ h_ => h_.1))) hb);have n3_:=Aside0.mk (blk_below (g:=gb284) (o:=.cells #[.int .i64 x291000_17,.int .i64 x291001_17,.int .i64 x291002_17,.slice Ao90 x291003_17.length co90] 69 (0,0)) (by (with_reducible repeat (first | refine blk_drewN ?_ _ | refine blk_drew ?_ | refine blk_alloc ?_ _));apply blkf_4_0_3;(with_reducible repeat (first | refine blk_drewN ?_ _ | refine blk_drew ?_ | refine blk_alloc ?_ _));exact BK284.out) hb);have n4_:=Aside0.mk (blk_below (g:=gb290) (o:=.cells #[.int .i64 x291000_17,.int .i64 x291001_17,.int .i64 x291002_17,.slice Ao90 x291003_17.length co90] 69 (0,0)) (by (with_reducible repeat (first | refine blk_drewN ?_ _ | refine blk_drew ?_ | refine blk_alloc ?_ _));refine blk_far ?_ NB290_284.out _;(with_reducible repeat (first | refine blk_drewN ?_ _ | refine blk_drew ?_ | refine blk_alloc ?_ _));refine blk_far ?_ NB290_284.out _;(with_reducible repeat (first | refine blk_drewN ?_ _ | refine blk_drew ?_ | refine blk_alloc ?_ _));refine blk_far ?_ NB290_284.out _;(with_reducible repeat (first | refine blk_drewN ?_ _ | refine blk_drew ?_ | refine blk_alloc ?_ _));refine blk_far ?_ NB290_284.out _;(with_reducible repeat (first | refine blk_drewN ?_ _ | refine blk_drew ?_ | refine blk_alloc ?_ _));exact BK290.out) hb);have n5_:=Aside0.mk (below_step (by repeat (first | (with_reducible first | exact HB.out | apply below_alloc | apply pw_below_drewN | apply below_drew1 | refine below_set ?_ GE284.out | refine below_set ?_ GE290.out) | exact HB.out)) hb);clear HO_4;clear HO_285003;clear HO_291003;clear BK284;clear BK290;clear HB;have HO_4:=n0_;have HO_285003:=n1_;have HO_291003:=n2_;have BK284:=n3_;have BK290:=n4_;have HB:=n5_;clear n0_ n1_ n2_ n3_ n4_ n5_;(try clear hb);(try clear hb2);(try clear hk);(try clear hi)))
                    (try simp only [Act.put,List.setIfInBounds_toArray,List.set_cons_zero,List.set_cons_succ])
                    go_cut [5] (fun v5 wc => ∃ (kq : Nat) (x5_85 : Int),v5 = .int .i64 x5_85 ∧ Aside0 (humuslaw11_TableCounts.j12 kq l0 x4_17 x5_85 x291000_17 x291001_17 x291002_17 x291003_17 = some r) ∧ Aside0 (kq ≤ kj72) ∧ Aside0 (Kd.R (Kd.int .i64) 3 wc w.heap.size (fun _ => True) (.slice (some ad334) x4_17.length co91) x4_17) ∧ Aside0 (Kd.R k112 112 wc w.heap.size (fun _ => True) (.slice Ao90 x291003_17.length co90) x291003_17) ∧ Aside0 (Kd.R k112 112 wc w.heap.size (fun _ => True) (.slice Ao90 x291003_17.length co90) x291003_17) ∧ Aside0 (wc.heap[gb284]? = some (.cells #[.int .i64 x291000_17,.int .i64 x291001_17,.int .i64 x291002_17,(.slice Ao90 x291003_17.length co90)] 69 (0,0))) ∧ Aside0 (wc.heap[gb290]? = some (.cells #[.int .i64 x291000_17,.int .i64 x291001_17,.int .i64 x291002_17,(.slice Ao90 x291003_17.length co90)] 69 (0,0))) ∧ Aside0 (Below w.heap.size w wc))
                    case first =>
                     have H:=HC86.out
                     clear HC86
                     have H':=Aside0.mk H
                     clear H
                     go_wp2
                     go_meet
                     case rel => exact ⟨_,(wrap64 (x5_2 + 1)),(by first | rfl | (simp;done) | (simp [*];done)),H',⟨by have:=HJ2.out;have:=HK2.out;have:=HJ9.out;have:=HJ12.out;have:=HJ17.out;have:=HJ72.out;first | omega | exact Nat.le_refl _⟩,⟨by (with_reducible repeat (first | apply Kd.R_alloc | apply Kd.R_drewN | apply Kd.R_drew));exact HO_4.out⟩,⟨by (with_reducible repeat (first | apply Kd.R_alloc | apply Kd.R_drewN | apply Kd.R_drew));exact Kd.R_mono HO_291003.out (fun _ hk => trivial)⟩,⟨by (with_reducible repeat (first | apply Kd.R_alloc | apply Kd.R_drewN | apply Kd.R_drew));exact Kd.R_mono HO_291003.out (fun _ hk => trivial)⟩,⟨by (with_reducible repeat (first | refine blk_drewN ?_ _ | refine blk_drew ?_ | refine blk_alloc ?_ _));exact BK284.out⟩,⟨by (with_reducible repeat (first | refine blk_drewN ?_ _ | refine blk_drew ?_ | refine blk_alloc ?_ _));exact BK290.out⟩,⟨by repeat (first | (with_reducible first | exact HB.out | apply below_alloc | apply pw_below_drewN | apply below_drew1 | refine below_set ?_ GE284.out | refine below_set ?_ GE290.out) | exact HB.out)⟩⟩
                    case rest =>
                     clear HC86
                     try clear c1
                     try clear c2
                     try clear p2
                     try clear q2
                     try clear hx2
                     try clear c3
                     try clear p3
                     try clear q3
                     try clear hx3
                     try clear qi3
                     try clear c4
                     try clear c5
                     try clear c6
                     try clear p6
                     try clear c7
                     try clear c8
                     try clear c11
                     try clear c11b0
                     try clear c12
                     try clear c14
                     try clear c14b0
                     try clear c15
                     try clear c15b0
                     try clear c16
                     try clear c16b0
                     try clear c17
                     try clear c17b0
                     try clear c21
                     try clear c24
                     try clear c24b0
                     try clear c24b1
                     try clear c26
                     try clear p28
                     try clear q28
                     try clear hx28
                     try clear p29
                     try clear q29
                     try clear hx29
                     try clear c32
                     try clear p32
                     try clear q32
                     try clear hx32
                     try clear p33
                     try clear q33
                     try clear hx33
                     try clear qi33
                     try clear c34
                     try clear c36
                     try clear c37
                     try clear c38
                     try clear c40
                     try clear c41
                     try clear c43
                     try clear c48
                     try clear c49
                     try clear c49b0
                     try clear c49b1
                     try clear c50
                     try clear c51
                     try clear c56
                     try clear c63
                     try clear c63b0
                     try clear c64
                     try clear c64b0
                     try clear p64
                     try clear c65
                     try clear c65b0
                     try clear c65b1
                     try clear c67
                     try clear c70
                     try clear c70b0
                     try clear c70b1
                     try clear c74
                     try clear c74b0
                     try clear c74b1
                     try clear c76
                     try clear c81
                     try clear c82
                     try clear c82b0
                     try clear c82b1
                     try clear c83
                     try clear c83b0
                     try clear c83b1
                     try clear c85
                     try clear c85b0
                     try clear c85b1
                     try clear c87
                     try clear hcz19_0
                     try clear hcz19_1
                     try clear hcz19_2
                     try clear hcz19_3
                     try clear hcz22_0
                     try clear hcz22_1
                     try clear hcz22_2
                     try clear hcz22_3
                     try clear hcz27_0
                     try clear hcz27_1
                     try clear hcz27_2
                     try clear hcz27_3
                     try clear hcz29_0
                     try clear hcz29_1
                     try clear hcz29_2
                     try clear hcz29_3
                     try clear hcz35_0
                     try clear hcz35_1
                     try clear hcz35_2
                     try clear hcz35_3
                     try clear hcz37_0
                     try clear hcz37_1
                     try clear hcz37_2
                     try clear hcz37_3
                     try clear hcz44_0
                     try clear hcz44_1
                     try clear hcz44_2
                     try clear hcz44_3
                     try clear hcz46_0
                     try clear hcz46_1
                     try clear hcz46_2
                     try clear hcz46_3
                     try clear hcz52_0
                     try clear hcz52_1
                     try clear hcz52_2
                     try clear hcz52_3
                     try clear hcz57_0
                     try clear hcz57_1
                     try clear hcz57_2
                     try clear hcz57_3
                     try clear hcz59_0
                     try clear hcz59_1
                     try clear hcz59_2
                     try clear hcz59_3
                     try clear hcz6_0
                     try clear hcz6_1
                     try clear hcz6_2
                     try clear hcz6_3
                     try clear hcz77_0
                     try clear hcz77_1
                     try clear hcz77_2
                     try clear hcz77_3
                     try clear hcz78_0
                     try clear hcz78_1
                     try clear hcz78_2
                     try clear hcz78_3
                     try clear hcz88_0
                     try clear hcz88_1
                     try clear hcz88_2
                     try clear hcz88_3
                     try clear hcz89_0
                     try clear hcz89_1
                     try clear hcz89_2
                     try clear hcz89_3
                     try clear hfz19_0
                     try clear hfz19_1
                     try clear hfz19_2
                     try clear hfz19_3
                     try clear hfz22_0
                     try clear hfz22_1
                     try clear hfz22_2
                     try clear hfz22_3
                     try clear hfz27_0
                     try clear hfz27_1
                     try clear hfz27_2
                     try clear hfz27_3
                     try clear hfz29_0
                     try clear hfz29_1
                     try clear hfz29_2
                     try clear hfz29_3
                     try clear hfz35_0
                     try clear hfz35_1
                     try clear hfz35_2
                     try clear hfz35_3
                     try clear hfz37_0
                     try clear hfz37_1
                     try clear hfz37_2
                     try clear hfz37_3
                     try clear hfz44_0
                     try clear hfz44_1
                     try clear hfz44_2
                     try clear hfz44_3
                     try clear hfz46_0
                     try clear hfz46_1
                     try clear hfz46_2
                     try clear hfz46_3
                     try clear hfz52_0
                     try clear hfz52_1
                     try clear hfz52_2
                     try clear hfz52_3
                     try clear hfz57_0
                     try clear hfz57_1
                     try clear hfz57_2
                     try clear hfz57_3
                     try clear hfz59_0
                     try clear hfz59_1
                     try clear hfz59_2
                     try clear hfz59_3
                     try clear hfz6_0
                     try clear hfz6_1
                     try clear hfz6_2
                     try clear hfz6_3
                     try clear hfz77_0
                     try clear hfz77_1
                     try clear hfz77_2
                     try clear hfz77_3
                     try clear hfz78_0
                     try clear hfz78_1
                     try clear hfz78_2
                     try clear hfz78_3
                     try clear hfz88_0
                     try clear hfz88_1
                     try clear hfz88_2
                     try clear hfz88_3
                     try clear hfz89_0
                     try clear hfz89_1
                     try clear hfz89_2
                     try clear hfz89_3
                     try clear hx289_0
                     try clear hx289_1
                     try clear hx291_0
                     try clear hx291_1
                     try clear hx328_0
                     try clear hx329_0
                     try clear hx334_0
                     try clear p2
                     try clear p28
                     try clear p289
                     try clear p29
                     try clear p291
                     try clear p3
                     try clear p32
                     try clear p328
                     try clear p329
                     try clear p334
                     try clear p6
                     try clear p64
                     try clear q2
                     try clear q28
                     try clear q289
                     try clear q29
                     try clear q291
                     try clear q3
                     try clear q32
                     try clear q328
                     try clear q329
                     try clear q334
                     obtain ⟨kq,x5_85,rfl,HA,HJ85,HO_4,HO_285003,HO_291003,BK284,BK290,HB⟩:=hcut
                     cases kq with
                     | zero => exact absurd HA.out (by simp [humuslaw11_TableCounts.j12])
                     | succ kj85 =>
                      have H:=HA.out
                      clear HA
                      simp only [humuslaw11_TableCounts.j12] at H
                      have H':=Aside0.mk H
                      clear H
                      go_wp2
                      go_roundg kj85
                      case measure => have:=HJ2.out;have:=HK2.out;have:=HJ9.out;have:=HJ12.out;have:=HJ17.out;have:=HJ72.out;have:=HJ85.out;omega
                      case rel => exact ⟨(x4_17),(x5_85),(x291000_17),(x291001_17),(x291002_17),(x291003_17),(.slice Ao90 x291003_17.length co90),(by first | rfl | (simp;done) | (simp [*];done)),H',⟨by have:=HJ2.out;have:=HK2.out;have:=HJ9.out;have:=HJ12.out;have:=HJ17.out;have:=HJ72.out;have:=HJ85.out;omega⟩,⟨by (with_reducible repeat (first | apply Kd.R_alloc | apply Kd.R_drewN | apply Kd.R_drew));exact HO_4.out⟩,⟨by (with_reducible repeat (first | apply Kd.R_alloc | apply Kd.R_drewN | apply Kd.R_drew));exact HO_285003.out⟩,⟨by (with_reducible repeat (first | refine blk_drewN ?_ _ | refine blk_drew ?_ | refine blk_alloc ?_ _));exact BK284.out⟩,⟨by repeat (first | (with_reducible first | exact HB.out | apply below_alloc | apply pw_below_drewN | apply below_drew1 | refine below_set ?_ GE284.out | refine below_set ?_ GE290.out) | exact HB.out)⟩⟩
                   ·rw [if_neg c85] at H
                    exact absurd H (by simp)
                  ·rw [if_neg c83] at H
                   exact absurd H (by simp)
                 ·rw [if_neg c82] at H
                  have c82b0 : decide (0 < (x4_17.length : Int)) = false:=decide_eq_false c82
                  have c82b1 : decide (0 < x4_17.length) = false:=decide_eq_false (by omega)
                  clear c82
                  replace H:=Option.bind_eq_some_iff.mp H
                  obtain ⟨t336,A930,H⟩:=H
                  replace H : (if t336 = 0 then (humuslaw11_TableCounts.j13 kj72 l0 x4_17 (wrap64 (x5_2 + 1)) x291000_17 x291001_17 x291002_17 x291003_17) else (none)) = some r:=H
                  have A93:=Aside0.mk A930
                  clear A930
                  by_cases c94 : t336 = 0
                  ·rw [if_pos c94] at H
                   have c94b0 : (t336 == 0) = true:=beq_iff_eq.mpr c94
                   have c94b1 : (t336 != 0) = false:=bne_eq_false_iff_eq.mpr c94
                   clear c94
                   have HC95:=Aside0.mk H
                   clear H
                   have hnb96:=NB290_284.out
                   have hnc96:=NB284_290.out
                   obtain ⟨hcz97_0,hcz97_1,hcz97_2,hcz97_3⟩:=blkc_4 BK290.out
                   obtain ⟨hfz97_0,hfz97_1,hfz97_2,hfz97_3⟩:=blkz_4 BK290.out
                   obtain ⟨hcz98_0,hcz98_1,hcz98_2,hcz98_3⟩:=blkc_4 BK284.out
                   obtain ⟨hfz98_0,hfz98_1,hfz98_2,hfz98_3⟩:=blkz_4 BK284.out
                   obtain ⟨Ao99,co99,eo99⟩:=Kd.R_slice HO_291003.out
                   subst eo99
                   obtain ⟨Ao100,co100,eo100⟩:=Kd.R_slice HO_4.out
                   subst eo100
                   go_upto_region 5 with (first | ((with_reducible refine gate_callee (f:=43) rfl ?_);refine goesL_ (some 122) rfl rfl Try.func43 (by kernel_rfl) rfl #[.agg #[.int .i64 x291000_17,.int .i64 x291001_17,.int .i64 x291002_17,.slice Ao99 x291003_17.length co99]] rfl (by (try simp only [List.map_toArray,List.map_cons,List.map_nil]);first | done | rfl | (simp only [List.length_drop,List.length_take];rfl)) ?_;(with_reducible refine (table_Eldest.calls kj72 x291000_17 x291001_17 x291002_17 _ _ x291003_17 t336 _ ?side1 ?side2 A93.out).mono ?_);(case side1 => refine (Kd.R_reads' (e:=112) (base:=w.heap.size) (ok:=fun k_ => some k_ ≠ (.slice Ao23 x285003_2.length co23 : Value).ownBlock) (n:=x291003_17.length) (c:=co99) ?_).2.2;exact (by (with_reducible repeat (first | apply Kd.R_alloc | apply Kd.R_drewN | apply Kd.R_drew));exact (Kd.R_mono (Kd.R_far (p:=⟨gb284,3,none⟩) (Kd.R_far (p:=⟨gb284,2,none⟩) (Kd.R_far (p:=⟨gb284,1,none⟩) (Kd.R_far (p:=⟨gb284,0,none⟩) (Kd.R_types HO_291003.out BK284.out (by decide)) (fun _ hk => hk.2) (.int .i64 x291000_17)) (fun _ hk => hk.2) (.int .i64 x291001_17)) (fun _ hk => hk.2) (.int .i64 x291002_17)) (fun _ hk => hk.2) (.slice Ao99 x291003_17.length co99)) (fun _ h_ => h_.1))));(case side2 => exact (Kd.R_reads' HO_291003.out).2.1);rintro e w101 ⟨rfl,hb⟩;refine ⟨_,rfl,?_⟩;have n0_:=Aside0.mk (Kd.R_below (by (with_reducible repeat (first | apply Kd.R_alloc | apply Kd.R_drewN | apply Kd.R_drew));exact (Kd.R_mono (Kd.R_far (p:=⟨gb284,3,none⟩) (Kd.R_far (p:=⟨gb284,2,none⟩) (Kd.R_far (p:=⟨gb284,1,none⟩) (Kd.R_far (p:=⟨gb284,0,none⟩) (Kd.R_types HO_4.out BK284.out (by decide)) (fun _ hk => hk.2) (.int .i64 x291000_17)) (fun _ hk => hk.2) (.int .i64 x291001_17)) (fun _ hk => hk.2) (.int .i64 x291002_17)) (fun _ hk => hk.2) (.slice Ao99 x291003_17.length co99)) (fun _ h_ => h_.1))) hb);have n1_:=Aside0.mk (Kd.R_below (by (with_reducible repeat (first | apply Kd.R_alloc | apply Kd.R_drewN | apply Kd.R_drew));exact (Kd.R_mono (Kd.R_far (p:=⟨gb284,3,none⟩) (Kd.R_far (p:=⟨gb284,2,none⟩) (Kd.R_far (p:=⟨gb284,1,none⟩) (Kd.R_far (p:=⟨gb284,0,none⟩) (Kd.R_types HO_285003.out BK284.out (by decide)) (fun _ hk => hk.2) (.int .i64 x291000_17)) (fun _ hk => hk.2) (.int .i64 x291001_17)) (fun _ hk => hk.2) (.int .i64 x291002_17)) (fun _ hk => hk.2) (.slice Ao99 x291003_17.length co99)) (fun _ h_ => h_.1))) hb);have n2_:=Aside0.mk (Kd.R_below (by (with_reducible repeat (first | apply Kd.R_alloc | apply Kd.R_drewN | apply Kd.R_drew));exact (Kd.R_mono (Kd.R_far (p:=⟨gb284,3,none⟩) (Kd.R_far (p:=⟨gb284,2,none⟩) (Kd.R_far (p:=⟨gb284,1,none⟩) (Kd.R_far (p:=⟨gb284,0,none⟩) (Kd.R_types HO_291003.out BK284.out (by decide)) (fun _ hk => hk.2) (.int .i64 x291000_17)) (fun _ hk => hk.2) (.int .i64 x291001_17)) (fun _ hk => hk.2) (.int .i64 x291002_17)) (fun _ hk => hk.2) (.slice Ao99 x291003_17.length co99)) (fun _ h_ => h_.1))) hb);have n3_:=Aside0.mk (blk_below (g:=gb284) (o:=.cells #[.int .i64 x291000_17,.int .i64 x291001_17,.int .i64 x291002_17,.slice Ao99 x291003_17.length co99] 69 (0,0)) (by (with_reducible repeat (first | refine blk_drewN ?_ _ | refine blk_drew ?_ | refine blk_alloc ?_ _));apply blkf_4_0_3;(with_reducible repeat (first | refine blk_drewN ?_ _ | refine blk_drew ?_ | refine blk_alloc ?_ _));exact BK284.out) hb);have n4_:=Aside0.mk (blk_below (g:=gb290) (o:=.cells #[.int .i64 x291000_17,.int .i64 x291001_17,.int .i64 x291002_17,.slice Ao99 x291003_17.length co99] 69 (0,0)) (by (with_reducible repeat (first | refine blk_drewN ?_ _ | refine blk_drew ?_ | refine blk_alloc ?_ _));refine blk_far ?_ NB290_284.out _;(with_reducible repeat (first | refine blk_drewN ?_ _ | refine blk_drew ?_ | refine blk_alloc ?_ _));refine blk_far ?_ NB290_284.out _;(with_reducible repeat (first | refine blk_drewN ?_ _ | refine blk_drew ?_ | refine blk_alloc ?_ _));refine blk_far ?_ NB290_284.out _;(with_reducible repeat (first | refine blk_drewN ?_ _ | refine blk_drew ?_ | refine blk_alloc ?_ _));refine blk_far ?_ NB290_284.out _;(with_reducible repeat (first | refine blk_drewN ?_ _ | refine blk_drew ?_ | refine blk_alloc ?_ _));exact BK290.out) hb);have n5_:=Aside0.mk (below_step (by repeat (first | (with_reducible first | exact HB.out | apply below_alloc | apply pw_below_drewN | apply below_drew1 | refine below_set ?_ GE284.out | refine below_set ?_ GE290.out) | exact HB.out)) hb);clear HO_4;clear HO_285003;clear HO_291003;clear BK284;clear BK290;clear HB;have HO_4:=n0_;have HO_285003:=n1_;have HO_291003:=n2_;have BK284:=n3_;have BK290:=n4_;have HB:=n5_;clear n0_ n1_ n2_ n3_ n4_ n5_;(try clear hb);(try clear hb2);(try clear hk);(try clear hi)))
                   (try simp only [Act.put,List.setIfInBounds_toArray,List.set_cons_zero,List.set_cons_succ])
                   go_cut [5] (fun v5 wc => ∃ (kq : Nat) (x5_94 : Int),v5 = .int .i64 x5_94 ∧ Aside0 (humuslaw11_TableCounts.j13 kq l0 x4_17 x5_94 x291000_17 x291001_17 x291002_17 x291003_17 = some r) ∧ Aside0 (kq ≤ kj72) ∧ Aside0 (Kd.R (Kd.int .i64) 3 wc w.heap.size (fun _ => True) (.slice Ao100 x4_17.length co100) x4_17) ∧ Aside0 (Kd.R k112 112 wc w.heap.size (fun _ => True) (.slice Ao99 x291003_17.length co99) x291003_17) ∧ Aside0 (Kd.R k112 112 wc w.heap.size (fun _ => True) (.slice Ao99 x291003_17.length co99) x291003_17) ∧ Aside0 (wc.heap[gb284]? = some (.cells #[.int .i64 x291000_17,.int .i64 x291001_17,.int .i64 x291002_17,(.slice Ao99 x291003_17.length co99)] 69 (0,0))) ∧ Aside0 (wc.heap[gb290]? = some (.cells #[.int .i64 x291000_17,.int .i64 x291001_17,.int .i64 x291002_17,(.slice Ao99 x291003_17.length co99)] 69 (0,0))) ∧ Aside0 (Below w.heap.size w wc))
                   case first =>
                    have H:=HC95.out
                    clear HC95
                    have H':=Aside0.mk H
                    clear H
                    go_wp2
                    go_meet
                    case rel => exact ⟨_,(wrap64 (x5_2 + 1)),(by first | rfl | (simp;done) | (simp [*];done)),H',⟨by have:=HJ2.out;have:=HK2.out;have:=HJ9.out;have:=HJ12.out;have:=HJ17.out;have:=HJ72.out;first | omega | exact Nat.le_refl _⟩,⟨by (with_reducible repeat (first | apply Kd.R_alloc | apply Kd.R_drewN | apply Kd.R_drew));exact HO_4.out⟩,⟨by (with_reducible repeat (first | apply Kd.R_alloc | apply Kd.R_drewN | apply Kd.R_drew));exact Kd.R_mono HO_291003.out (fun _ hk => trivial)⟩,⟨by (with_reducible repeat (first | apply Kd.R_alloc | apply Kd.R_drewN | apply Kd.R_drew));exact Kd.R_mono HO_291003.out (fun _ hk => trivial)⟩,⟨by (with_reducible repeat (first | refine blk_drewN ?_ _ | refine blk_drew ?_ | refine blk_alloc ?_ _));exact BK284.out⟩,⟨by (with_reducible repeat (first | refine blk_drewN ?_ _ | refine blk_drew ?_ | refine blk_alloc ?_ _));exact BK290.out⟩,⟨by repeat (first | (with_reducible first | exact HB.out | apply below_alloc | apply pw_below_drewN | apply below_drew1 | refine below_set ?_ GE284.out | refine below_set ?_ GE290.out) | exact HB.out)⟩⟩
                   case rest =>
                    clear HC95
                    try clear c1
                    try clear c2
                    try clear p2
                    try clear q2
                    try clear hx2
                    try clear c3
                    try clear p3
                    try clear q3
                    try clear hx3
                    try clear qi3
                    try clear c4
                    try clear c5
                    try clear c6
                    try clear p6
                    try clear c7
                    try clear c8
                    try clear c9
                    try clear c11
                    try clear c11b0
                    try clear c12
                    try clear c14
                    try clear c14b0
                    try clear c15
                    try clear c15b0
                    try clear c16
                    try clear c16b0
                    try clear c17
                    try clear c17b0
                    try clear c21
                    try clear c24
                    try clear c24b0
                    try clear c24b1
                    try clear c26
                    try clear p28
                    try clear q28
                    try clear hx28
                    try clear p29
                    try clear q29
                    try clear hx29
                    try clear c32
                    try clear p32
                    try clear q32
                    try clear hx32
                    try clear p33
                    try clear q33
                    try clear hx33
                    try clear qi33
                    try clear c34
                    try clear c36
                    try clear c37
                    try clear c38
                    try clear c40
                    try clear c41
                    try clear c43
                    try clear c48
                    try clear c49
                    try clear c49b0
                    try clear c49b1
                    try clear c50
                    try clear c51
                    try clear c56
                    try clear c63
                    try clear c63b0
                    try clear c64
                    try clear c64b0
                    try clear p64
                    try clear c65
                    try clear c65b0
                    try clear c65b1
                    try clear c67
                    try clear c70
                    try clear c70b0
                    try clear c70b1
                    try clear c74
                    try clear c74b0
                    try clear c74b1
                    try clear c76
                    try clear c81
                    try clear c82
                    try clear c82b0
                    try clear c82b1
                    try clear c83
                    try clear c83b0
                    try clear c83b1
                    try clear c85
                    try clear c85b0
                    try clear c85b1
                    try clear c87
                    try clear c94
                    try clear c94b0
                    try clear c94b1
                    try clear c96
                    try clear hcz19_0
                    try clear hcz19_1
                    try clear hcz19_2
                    try clear hcz19_3
                    try clear hcz22_0
                    try clear hcz22_1
                    try clear hcz22_2
                    try clear hcz22_3
                    try clear hcz27_0
                    try clear hcz27_1
                    try clear hcz27_2
                    try clear hcz27_3
                    try clear hcz29_0
                    try clear hcz29_1
                    try clear hcz29_2
                    try clear hcz29_3
                    try clear hcz35_0
                    try clear hcz35_1
                    try clear hcz35_2
                    try clear hcz35_3
                    try clear hcz37_0
                    try clear hcz37_1
                    try clear hcz37_2
                    try clear hcz37_3
                    try clear hcz44_0
                    try clear hcz44_1
                    try clear hcz44_2
                    try clear hcz44_3
                    try clear hcz46_0
                    try clear hcz46_1
                    try clear hcz46_2
                    try clear hcz46_3
                    try clear hcz52_0
                    try clear hcz52_1
                    try clear hcz52_2
                    try clear hcz52_3
                    try clear hcz57_0
                    try clear hcz57_1
                    try clear hcz57_2
                    try clear hcz57_3
                    try clear hcz59_0
                    try clear hcz59_1
                    try clear hcz59_2
                    try clear hcz59_3
                    try clear hcz6_0
                    try clear hcz6_1
                    try clear hcz6_2
                    try clear hcz6_3
                    try clear hcz77_0
                    try clear hcz77_1
                    try clear hcz77_2
                    try clear hcz77_3
                    try clear hcz78_0
                    try clear hcz78_1
                    try clear hcz78_2
                    try clear hcz78_3
                    try clear hcz88_0
                    try clear hcz88_1
                    try clear hcz88_2
                    try clear hcz88_3
                    try clear hcz89_0
                    try clear hcz89_1
                    try clear hcz89_2
                    try clear hcz89_3
                    try clear hcz97_0
                    try clear hcz97_1
                    try clear hcz97_2
                    try clear hcz97_3
                    try clear hcz98_0
                    try clear hcz98_1
                    try clear hcz98_2
                    try clear hcz98_3
                    try clear hfz19_0
                    try clear hfz19_1
                    try clear hfz19_2
                    try clear hfz19_3
                    try clear hfz22_0
                    try clear hfz22_1
                    try clear hfz22_2
                    try clear hfz22_3
                    try clear hfz27_0
                    try clear hfz27_1
                    try clear hfz27_2
                    try clear hfz27_3
                    try clear hfz29_0
                    try clear hfz29_1
                    try clear hfz29_2
                    try clear hfz29_3
                    try clear hfz35_0
                    try clear hfz35_1
                    try clear hfz35_2
                    try clear hfz35_3
                    try clear hfz37_0
                    try clear hfz37_1
                    try clear hfz37_2
                    try clear hfz37_3
                    try clear hfz44_0
                    try clear hfz44_1
                    try clear hfz44_2
                    try clear hfz44_3
                    try clear hfz46_0
                    try clear hfz46_1
                    try clear hfz46_2
                    try clear hfz46_3
                    try clear hfz52_0
                    try clear hfz52_1
                    try clear hfz52_2
                    try clear hfz52_3
                    try clear hfz57_0
                    try clear hfz57_1
                    try clear hfz57_2
                    try clear hfz57_3
                    try clear hfz59_0
                    try clear hfz59_1
                    try clear hfz59_2
                    try clear hfz59_3
                    try clear hfz6_0
                    try clear hfz6_1
                    try clear hfz6_2
                    try clear hfz6_3
                    try clear hfz77_0
                    try clear hfz77_1
                    try clear hfz77_2
                    try clear hfz77_3
                    try clear hfz78_0
                    try clear hfz78_1
                    try clear hfz78_2
                    try clear hfz78_3
                    try clear hfz88_0
                    try clear hfz88_1
                    try clear hfz88_2
                    try clear hfz88_3
                    try clear hfz89_0
                    try clear hfz89_1
                    try clear hfz89_2
                    try clear hfz89_3
                    try clear hfz97_0
                    try clear hfz97_1
                    try clear hfz97_2
                    try clear hfz97_3
                    try clear hfz98_0
                    try clear hfz98_1
                    try clear hfz98_2
                    try clear hfz98_3
                    try clear hx289_0
                    try clear hx289_1
                    try clear hx291_0
                    try clear hx291_1
                    try clear hx328_0
                    try clear hx329_0
                    try clear hx334_0
                    try clear p2
                    try clear p28
                    try clear p289
                    try clear p29
                    try clear p291
                    try clear p3
                    try clear p32
                    try clear p328
                    try clear p329
                    try clear p33
                    try clear p334
                    try clear p6
                    try clear p64
                    try clear q2
                    try clear q28
                    try clear q289
                    try clear q29
                    try clear q291
                    try clear q3
                    try clear q32
                    try clear q328
                    try clear q329
                    try clear q33
                    try clear q334
                    obtain ⟨kq,x5_94,rfl,HA,HJ94,HO_4,HO_285003,HO_291003,BK284,BK290,HB⟩:=hcut
                    cases kq with
                    | zero => exact absurd HA.out (by simp [humuslaw11_TableCounts.j13])
                    | succ kj94 =>
                     have H:=HA.out
                     clear HA
                     simp only [humuslaw11_TableCounts.j13] at H
                     have H':=Aside0.mk H
                     clear H
                     go_wp2
                     go_roundg kj94
                     case measure => have:=HJ2.out;have:=HK2.out;have:=HJ9.out;have:=HJ12.out;have:=HJ17.out;have:=HJ72.out;have:=HJ94.out;omega
                     case rel => exact ⟨(x4_17),(x5_94),(x291000_17),(x291001_17),(x291002_17),(x291003_17),(.slice Ao99 x291003_17.length co99),(by first | rfl | (simp;done) | (simp [*];done)),H',⟨by have:=HJ2.out;have:=HK2.out;have:=HJ9.out;have:=HJ12.out;have:=HJ17.out;have:=HJ72.out;have:=HJ94.out;omega⟩,⟨by (with_reducible repeat (first | apply Kd.R_alloc | apply Kd.R_drewN | apply Kd.R_drew));exact HO_4.out⟩,⟨by (with_reducible repeat (first | apply Kd.R_alloc | apply Kd.R_drewN | apply Kd.R_drew));exact HO_285003.out⟩,⟨by (with_reducible repeat (first | refine blk_drewN ?_ _ | refine blk_drew ?_ | refine blk_alloc ?_ _));exact BK284.out⟩,⟨by repeat (first | (with_reducible first | exact HB.out | apply below_alloc | apply pw_below_drewN | apply below_drew1 | refine below_set ?_ GE284.out | refine below_set ?_ GE290.out) | exact HB.out)⟩⟩
                  ·rw [if_neg c94] at H
                   exact absurd H (by simp)
           ·rw [if_neg c17] at H
            exact absurd H (by simp)
          ·rw [if_neg c16] at H
           exact absurd H (by simp)
       ·replace c12:=Bool.eq_false_iff.mpr c12
        subst c12
        have H1 : ((humuslaw11_awake.f kj9).bind fun t288 => (some t288)) = some r:=by rw [if_neg (show ¬ (false = true) by decide)] at H;exact H
        clear H
        have H:=H1
        clear H1
        replace H:=Option.bind_eq_some_iff.mp H
        obtain ⟨t288,A1020,H⟩:=H
        replace H : (some t288) = some r:=H
        have A102:=Aside0.mk A1020
        clear A1020
        obtain rfl:=Option.some.inj H
        go_wp2_with (first | ((with_reducible refine gate_callee (f:=39) rfl ?_);refine goesL_ (some 125) rfl rfl Try.func39 (by kernel_rfl) rfl #[] rfl (by (try simp only [List.map_toArray,List.map_cons,List.map_nil]);first | done | rfl | (simp only [List.length_drop,List.length_take];rfl)) ?_;(with_reducible refine (humuslaw11_awake.calls kj9  t288 _ A102.out).mono ?_);rintro e w103 ⟨rfl,hb⟩;refine ⟨_,rfl,?_⟩;have n0_:=Aside0.mk (Kd.R_below (by (with_reducible repeat (first | apply Kd.R_alloc | apply Kd.R_drewN | apply Kd.R_drew));exact HO_4.out) hb);have n1_:=Aside0.mk (Kd.R_below (by (with_reducible repeat (first | apply Kd.R_alloc | apply Kd.R_drewN | apply Kd.R_drew));exact HO_285003.out) hb);have n2_:=Aside0.mk (blk_below (g:=gb284) (o:=.cells #[.int .i64 x285000_2,.int .i64 x285001_2,.int .i64 x285002_2,u285003] 69 (0,0)) (by (with_reducible repeat (first | refine blk_drewN ?_ _ | refine blk_drew ?_ | refine blk_alloc ?_ _));exact BK284.out) hb);have n3_:=Aside0.mk (below_step (by repeat (first | (with_reducible first | exact HB.out | apply below_alloc | apply pw_below_drewN | apply below_drew1 | refine below_set ?_ GE284.out) | exact HB.out)) hb);clear HO_4;clear HO_285003;clear BK284;clear HB;have HO_4:=n0_;have HO_285003:=n1_;have BK284:=n2_;have HB:=n3_;clear n0_ n1_ n2_ n3_;(try clear hb);(try clear hb2);(try clear hk);(try clear hi)))
        go_ret
        exact ⟨by first | rfl | (simp [errW_none,errW_some] <;> rfl) | (simp [*,errW_none,errW_some] <;> rfl),by repeat (first | (with_reducible first | exact HB.out | apply below_alloc | apply pw_below_drewN | apply below_drew1 | refine below_set ?_ GE284.out) | exact HB.out)⟩
end Go.Proofs.Ytbmcbhpkefjhbaa.P
set_option linter.unusedVariables false
set_option linter.unusedSimpArgs false
namespace Go.Proofs.Ytbmcbhpkefjhbaa.P
open Go.RowKit Go.Proofs.Ytbmcbhpkefjhbaa Go.Proofs.Ytbmcbhpkefjhbaa.Mem Go.Proofs.YtbmcbhpkefjhbaaW.PrintWords Go.Proofs.YtbmcbhpkefjhbaaW.PrintLast Go.Proofs.YtbmcbhpkefjhbaaW.PrintMore
theorem awake11c_at : humuslaw11_awake.f 60 = some true := by kernel_rfl
theorem awake11c_ev : ∀ {k : Nat}, 60 ≤ k → humuslaw11_awake.f k = some true := by
  intro k hk
  obtain ⟨d, rfl⟩ : ∃ d, k = 60 + d := ⟨k - 60, by omega⟩
  clear hk
  induction d with
  | zero => exact awake11c_at
  | succ d ih => exact humuslaw11_awake.mono (60 + d) _ ih
structure InvC (x4 : List Int) (nt nn cm : Int) (l : List Ent) : Prop where
  good : Good nt nn cm l
  done : ∃ P, Done l P ∧ x4 = P.map Prod.snd
theorem j10_ev {k : Nat} (hk : 60 ≤ k) {x0 : List S32} {x4 : List Int} {x5 nt nn cm : Int} {l : List Ent} (h : InvC x4 nt nn cm l) : humuslaw11_TableCounts.j10 (k + 2) x0 x4 x5 false nt nn cm l = humuslaw11_TableCounts.l0 k x0 x4 (wrap64 (x5 + 1)) nt nn cm l := by
  obtain ⟨g, P, hd, rfl⟩ := h
  obtain ⟨r, hr, he⟩ := Eldest_ev (k := k + 1) (by omega) g
  have hh := hd.eld he
  rw [humuslaw11_TableCounts.j10, if_neg (by decide)]
  cases P with
  | nil =>
    rw [if_neg (by decide), hr, Option.bind_some, if_pos (show r = 0 from hh), humuslaw11_TableCounts.j13]
  | cons p P =>
    rw [if_pos (by simp only [List.map_cons, List.length_cons]; omega), if_pos (by simp only [List.map_cons, List.length_cons]; omega), hr, Option.bind_some, if_pos (show r = rd (List.map Prod.snd (p :: P)) 0 from hh), humuslaw11_TableCounts.j12]
theorem j9_ok {k : Nat} (hk : 60 ≤ k) {x0 : List S32} {x4 : List Int} {x5 nt nn cm nt' nn' cm' : Int} {l l' : List Ent} (h : InvC x4 nt nn cm l) : humuslaw11_TableCounts.j9 (k + 3) x0 x4 x5 0 nt' nn' cm' l' nt nn cm l = humuslaw11_TableCounts.l0 k x0 x4 (wrap64 (x5 + 1)) nt nn cm l := by
  rw [humuslaw11_TableCounts.j9, if_pos rfl, j10_ev hk h]
theorem j9_er {k : Nat} (hk : 60 ≤ k) {x0 : List S32} {x4 : List Int} {x5 e nt nn cm : Int} {l : List Ent} (he : e ≠ 0) (h : InvC x4 nt nn cm l) : humuslaw11_TableCounts.j9 (k + 3) x0 x4 x5 e nt nn cm l nt nn cm l = humuslaw11_TableCounts.l0 k x0 x4 (wrap64 (x5 + 1)) nt nn cm l := by
  have := h.good.len
  rw [humuslaw11_TableCounts.j9, if_neg he, same11_refl (by omega) (by omega), Option.bind_some, Bool.not_true, j10_ev hk h]
theorem InvC.enter {x4 : List Int} {nt nn cm : Int} {l : List Ent} (h : InvC x4 nt nn cm l) {tx : Int} {i : Nat} (h1 : 1 ≤ tx) (h2 : tx ≤ 2147483646) (hn : findT l tx = none) (hz : l.findIdx? isZ = some i) : InvC x4 (mx nt (tx + 1)) nn cm (l.set i ⟨tx, 1, 0, 0⟩) := by
  obtain ⟨g, P, hd, he⟩ := h
  have hi := findZ_some hz
  have hm : nt ≤ mx nt (tx + 1) ∧ tx + 1 ≤ mx nt (tx + 1) ∧ mx nt (tx + 1) ≤ 2147483647 := by
    have := g.nt2
    unfold mx; split <;> omega
  refine ⟨g.set hm.1 hm.2.2 g.nn1 g.nn2 (Int.le_refl _) g.cm2 (Or.inr (Or.inl ⟨rfl, rfl, h1, by show tx ≤ _; omega, by show (0 : Int) ≤ 0; omega, by show (0 : Int) ≤ 65535; omega⟩)) (fun j x hj hx => ⟨fun _ => findT_none h1 hn x (List.mem_of_getElem? hx), fun hp => absurd hp (by show ¬ ((0 : Int) < 0); omega)⟩), P, hd.set hi (by show (0 : Int) ≠ 2; omega) (by show (1 : Int) ≠ 2; omega), he⟩
theorem InvC.write {x4 : List Int} {nt nn cm : Int} {l : List Ent} (h : InvC x4 nt nn cm l) {tx c : Int} {i : Nat} (hf : findT l tx = some i) (h1 : (rd_T112 l (i : Int)).f1 = 1) (h2 : nn ≠ 2147483647) (h3 : 0 ≤ c) (h4 : c ≤ 65535) : InvC x4 nt (nn + 1) cm (l.set i ⟨(rd_T112 l (i : Int)).f0, (rd_T112 l (i : Int)).f1, c, (rd_T112 l (i : Int)).f3⟩) := by
  obtain ⟨g, P, hd, he⟩ := h
  have hm := rdE_at (findT_lt hf)
  have hok := g.ent _ (List.mem_of_getElem? hm)
  generalize rd_T112 l (i : Int) = e at hm hok h1 ⊢
  have n1 := g.nn1
  have n2 := g.nn2
  rcases hok with rfl | ⟨a1, a2, a3, a4, a5, a6⟩ | ⟨a1, _⟩
  · exact absurd h1 (by decide)
  · refine ⟨g.set (Int.le_refl _) g.nt2 (by omega) (by omega) (Int.le_refl _) g.cm2 (Or.inr (Or.inl ⟨a1, a2, a3, a4, h3, h4⟩)) (fun j x hj hx => g.dis i j e x hm hx (fun q => hj q.symm)), P, hd.set hm (by omega) (by show e.f1 ≠ 2; omega), he⟩
  · omega
theorem InvC.commit {x4 : List Int} {nt nn cm : Int} {l : List Ent} (h : InvC x4 nt nn cm l) {tx : Int} {i : Nat} (hf : findT l tx = some i) (h1 : (rd_T112 l (i : Int)).f1 = 1) (h2 : cm ≠ 2147483647) : InvC (x4 ++ [tx]) nt nn (cm + 1) (l.set i ⟨(rd_T112 l (i : Int)).f0, 2, (rd_T112 l (i : Int)).f2, cm + 1⟩) := by
  obtain ⟨g, P, hd, he⟩ := h
  have hm := rdE_at (findT_lt hf)
  have hok := g.ent _ (List.mem_of_getElem? hm)
  obtain ⟨t1, y, hy, hy0⟩ := findT_some hf
  have hye := hy.symm.trans hm
  injection hye with hye
  rw [hye] at hy0
  clear hy hye y
  generalize rd_T112 l (i : Int) = e at hm hok h1 hy0 ⊢
  have n1 := g.cm1
  have n2 := g.cm2
  rcases hok with rfl | ⟨a1, a2, a3, a4, a5, a6⟩ | ⟨a1, _⟩
  · exact absurd h1 (by decide)
  · refine ⟨g.set (Int.le_refl _) g.nt2 g.nn1 g.nn2 (by omega) (by omega) (Or.inr (Or.inr ⟨rfl, by show 1 ≤ cm + 1; omega, Int.le_refl _, a3, a4, a5, a6⟩)) (fun j x hj hx => ⟨(g.dis i j e x hm hx (fun q => hj q.symm)).1, fun _ => ?_⟩), P ++ [(cm + 1, e.f0)], hd.commit g hm (by omega) rfl rfl, ?_⟩
    · rcases g.ent x (List.mem_of_getElem? hx) with rfl | ⟨_, q, _⟩ | ⟨_, _, q, _⟩
      · show (0 : Int) ≠ cm + 1; omega
      · show x.f3 ≠ cm + 1; omega
      · show x.f3 ≠ cm + 1; omega
    · rw [he, List.map_append, ← hy0]; rfl
  · omega
theorem InvC.leave {x4 : List Int} {nt nn cm : Int} {l : List Ent} (h : InvC x4 nt nn cm l) {tx : Int} {i : Nat} (hf : findT l tx = some i) : InvC (x4.filter (· != tx)) nt nn cm (l.set i ⟨0, 0, 0, 0⟩) := by
  obtain ⟨g, P, hd, he⟩ := h
  obtain ⟨t1, e, hm, hy0⟩ := findT_some hf
  refine ⟨g.set (Int.le_refl _) g.nt2 g.nn1 g.nn2 (Int.le_refl _) g.cm2 (Or.inl rfl) (fun j x hj hx => ⟨fun hp => absurd hp (by show ¬ ((0 : Int) < 0); omega), fun hp => absurd hp (by show ¬ ((0 : Int) < 0); omega)⟩), P.filter (fun p => p.2 != e.f0), hd.leave g hm (by omega), ?_⟩
  rw [he, List.filter_map, hy0]; rfl
theorem filt_step {l : List Int} {i : Nat} (h : i < l.length) (t : Int) : (l.drop i).filter (· != t) = (if l[i] = t then [] else [l[i]]) ++ (l.drop (i + 1)).filter (· != t) := by
  rw [List.drop_eq_getElem_cons h, List.filter_cons]
  by_cases hh : l[i] = t
  · rw [if_pos hh, if_neg (by rw [bne_iff_ne]; exact fun q => q hh)]; rfl
  · rw [if_neg hh, if_pos (by rw [bne_iff_ne]; exact hh)]; rfl
theorem l1_ev {x0 : List S32} {x4 : List Int} (hl : x4.length ≤ 1000000) {x5 x6 x9 nt nn cm nt' nn' cm' : Int} {l l' : List Ent} : ∀ (n i k : Nat) (x10 : List Int), n = x4.length - i → i ≤ x4.length → x10.length ≤ i →
    humuslaw11_TableCounts.l1 (k + n + 1) x0 x4 x5 x6 x9 x10 (i : Int) nt nn cm l nt' nn' cm' l' = humuslaw11_TableCounts.j9 k x0 (if x9 = 0 then x10 ++ (x4.drop i).filter (· != x6) else x4) x5 x9 nt nn cm l nt' nn' cm' l' := by
  intro n
  induction n with
  | zero =>
    intro i k x10 hn hi hx
    rw [humuslaw11_TableCounts.l1, if_neg (by omega)]
    have : x4.drop i = [] := List.drop_eq_nil_of_le (by omega)
    rw [this]
    by_cases h0 : x9 = 0
    · rw [if_pos h0, if_pos h0, List.filter_nil, List.append_nil]
    · rw [if_neg h0, if_neg h0]
  | succ n ih =>
    intro i k x10 hn hi hx
    have hlt : i < x4.length := by omega
    have hw : wrap64 ((i : Int) + 1) = ((i + 1 : Nat) : Int) := by unfold wrap64; omega
    have hr : rd x4 (i : Int) = x4[i] := by
      unfold rd
      rw [Int.toNat_natCast, List.getD_eq_getElem?_getD, List.getElem?_eq_getElem hlt]; rfl
    rw [show k + (n + 1) + 1 = (k + n + 1) + 1 by omega, humuslaw11_TableCounts.l1, if_pos (by omega), if_pos (by omega), hr, hw, filt_step hlt x6]
    by_cases hh : x4[i] = x6
    · rw [if_pos hh, if_pos hh, ih (i + 1) k x10 (by omega) (by omega) (by omega), List.nil_append]
    · rw [if_neg hh, if_neg hh, if_pos (by omega), ih (i + 1) k (x10 ++ [x4[i]]) (by omega) (by omega) (by rw [List.length_append, List.length_singleton]; omega), List.append_assoc]
theorem counts_round {x0 : List S32} (h0 : ∀ x ∈ x0, good_pr8 x) (hl0 : x0.length ≤ maxLen) {k i : Nat} (hk : 400 ≤ k) (hi : i < x0.length) (hi2 : i < 100) {x4 : List Int} {nt nn cm : Int} {l : List Ent} (h : InvC x4 nt nn cm l) (hx : x4.length ≤ i) :
    ∃ k' x4' nt' nn' cm' l', k ≤ k' + 120 ∧ InvC x4' nt' nn' cm' l' ∧ x4'.length ≤ i + 1 ∧ humuslaw11_TableCounts.l0 k x0 x4 (i : Int) nt nn cm l = humuslaw11_TableCounts.l0 k' x0 x4' ((i + 1 : Nat) : Int) nt' nn' cm' l' := by
  have hw : wrap64 ((i : Int) + 1) = ((i + 1 : Nat) : Int) := by unfold wrap64; omega
  have hg : 0 ≤ (rd_T32 x0 (i : Int)).f1 ∧ (rd_T32 x0 (i : Int)).f1 ≤ 255 := by
    have : rd_T32 x0 (i : Int) ∈ x0 := by
      unfold rd_T32
      rw [Int.toNat_natCast, List.getD_eq_getElem?_getD, List.getElem?_eq_getElem hi]; exact List.getElem_mem hi
    have hh := (h0 _ this).2
    simp [Lit.wf] at hh
    rw [show IntKind.u8.min = 0 from rfl, show IntKind.u8.max = 255 from rfl] at hh
    omega
  obtain ⟨k, rfl⟩ : ∃ m, k = m + 3 := ⟨k - 3, by omega⟩
  rw [humuslaw11_TableCounts.l0, if_pos (by omega), humuslaw11_TableCounts.j2, if_pos (by rw [decide_eq_true_eq]; omega), if_pos (by omega), if_pos (by omega), humuslaw11_TableCounts.j3, if_pos (by omega), if_pos (by omega)]
  obtain ⟨tx, htx, t1, t2⟩ : ∃ tx, wrap64 (1 + wrap64 (Int.tmod (rd_T32 x0 (i : Int)).f1 20)) = tx ∧ 1 ≤ tx ∧ tx ≤ 20 := by
    refine ⟨_, rfl, ?_, ?_⟩
    · rw [Int.tmod_eq_emod_of_nonneg hg.1]; unfold wrap64; omega
    · rw [Int.tmod_eq_emod_of_nonneg hg.1]; unfold wrap64; omega
  rw [htx]
  generalize Int.tmod (rd_T32 x0 (i : Int)).f0 4 = op
  have gd := h.good
  by_cases o0 : op = 0
  · rw [if_pos o0, Enter_ev (by omega) gd, Option.bind_some]
    obtain ⟨k, rfl⟩ : ∃ m, k = m + 3 := ⟨k - 3, by omega⟩
    unfold enterT
    rw [if_pos (show 1 ≤ tx ∧ tx ≤ 2147483646 from ⟨t1, by omega⟩)]
    cases hf : findT l tx with
    | some j => exact ⟨k, x4, nt, nn, cm, l, by omega, h, by omega, by rw [← hw]; exact j9_er (by omega) (by show (2 : Int) ≠ 0; omega) h⟩
    | none =>
      cases hz : l.findIdx? isZ with
      | none => exact ⟨k, x4, nt, nn, cm, l, by omega, h, by omega, by rw [← hw]; exact j9_er (by omega) (by show (12 : Int) ≠ 0; omega) h⟩
      | some j => exact ⟨k, x4, _, nn, cm, _, by omega, h.enter t1 (by omega) hf hz, by omega, by rw [← hw]; exact j9_ok (by omega) (h.enter t1 (by omega) hf hz)⟩
  · rw [if_neg o0]
    obtain ⟨k, rfl⟩ : ∃ m, k = m + 1 := ⟨k - 1, by omega⟩
    rw [humuslaw11_TableCounts.j4]
    by_cases o1 : (op == 1) = true
    · rw [if_pos o1, Write_ev (by omega) gd, Option.bind_some]
      obtain ⟨k, rfl⟩ : ∃ m, k = m + 3 := ⟨k - 3, by omega⟩
      unfold writeT
      cases hf : findT l tx with
      | none => exact ⟨k, x4, nt, nn, cm, l, by omega, h, by omega, by rw [← hw]; exact j9_er (by omega) (by show (3 : Int) ≠ 0; omega) h⟩
      | some j =>
        simp only
        by_cases hc : (rd_T112 l (j : Int)).f1 = 1 ∧ nn ≠ 2147483647
        · rw [if_pos hc, if_pos (by omega)]
          have hI := h.write hf hc.1 hc.2 (c := 7) (by omega) (by omega)
          exact ⟨k, x4, _, _, cm, _, by omega, hI, by omega, by rw [← hw]; exact j9_ok (by omega) hI⟩
        · rw [if_neg hc]
          exact ⟨k, x4, nt, nn, cm, l, by omega, h, by omega, by rw [← hw]; exact j9_er (by omega) (by show (2 : Int) ≠ 0; omega) h⟩
    · rw [if_neg o1]
      obtain ⟨k, rfl⟩ : ∃ m, k = m + 1 := ⟨k - 1, by omega⟩
      rw [humuslaw11_TableCounts.j5]
      by_cases o2 : (op == 2) = true
      · rw [if_pos o2, Commit_ev (by omega) gd, Option.bind_some]
        obtain ⟨k, rfl⟩ : ∃ m, k = m + 4 := ⟨k - 4, by omega⟩
        rw [humuslaw11_TableCounts.j6]
        unfold commitT
        cases hf : findT l tx with
        | none => exact ⟨k, x4, nt, nn, cm, l, by omega, h, by omega, by rw [← hw]; exact (if_neg (by show ¬ ((3 : Int) == 0) = true; decide)).trans (j9_er (by omega) (by show (3 : Int) ≠ 0; omega) h)⟩
        | some j =>
          simp only
          by_cases hc : (rd_T112 l (j : Int)).f1 = 1 ∧ cm ≠ 2147483647
          · rw [if_pos hc]
            have hI := h.commit hf hc.1 hc.2
            have c1 := gd.cm1
            have c2 := gd.cm2
            have hwc : wrap64 (cm + 1) = cm + 1 := by unfold wrap64; omega
            rw [hwc]
            simp only [BEq.rfl, if_true]
            rw [if_pos (by omega)]
            exact ⟨k, x4 ++ [tx], _, _, _, _, by omega, hI, by rw [List.length_append, List.length_singleton]; omega, by rw [← hw]; exact j9_ok (by omega) hI⟩
          · rw [if_neg hc]
            exact ⟨k, x4, nt, nn, cm, l, by omega, h, by omega, by rw [← hw]; exact (if_neg (by show ¬ ((2 : Int) == 0) = true; decide)).trans (j9_er (by omega) (by show (2 : Int) ≠ 0; omega) h)⟩
      · rw [if_neg o2, Leave_ev (by omega) gd, Option.bind_some]
        obtain ⟨k, rfl⟩ : ∃ m, k = ((m + 3) + x4.length + 1) + 1 := ⟨k - x4.length - 5, by omega⟩
        rw [humuslaw11_TableCounts.j7]
        have he := @l1_ev x0 x4 (by omega)
        unfold leaveT
        cases hf : findT l tx with
        | none =>
          refine ⟨k, x4, nt, nn, cm, l, by omega, h, by omega, ?_⟩
          rw [← hw]
          have := @he (i : Int) tx 3 nt nn cm nt nn cm l l x4.length 0 (k + 3) [] (by omega) (by omega) (Nat.le_refl _)
          exact this.trans (by rw [if_neg (by decide)]; exact j9_er (by omega) (by decide) h)
        | some j =>
          have hI := h.leave hf
          refine ⟨k, _, nt, nn, cm, _, by omega, hI, Nat.le_trans (List.length_filter_le _ _) (by omega), ?_⟩
          rw [← hw]
          have := @he (i : Int) tx 0 nt nn cm nt nn cm l (l.set j ⟨0, 0, 0, 0⟩) x4.length 0 (k + 3) [] (by omega) (by omega) (Nat.le_refl _)
          exact this.trans (by rw [if_pos rfl, List.drop_zero, List.nil_append]; exact j9_ok (by omega) hI)
theorem counts_end {x0 : List S32} {k i : Nat} (hk : 100 ≤ k) (hi : x0.length ≤ i ∨ 100 ≤ i) {x4 : List Int} {nt nn cm : Int} {l : List Ent} : humuslaw11_TableCounts.l0 k x0 x4 (i : Int) nt nn cm l = some true := by
  obtain ⟨k, rfl⟩ : ∃ m, k = m + 2 := ⟨k - 2, by omega⟩
  rw [humuslaw11_TableCounts.l0]
  by_cases h : (i : Int) < (x0.length : Int)
  · rw [if_pos h, humuslaw11_TableCounts.j2, if_neg (by rw [decide_eq_true_eq]; omega), awake11c_ev (by omega), Option.bind_some]
  · rw [if_neg h, humuslaw11_TableCounts.j2, if_neg (by decide), awake11c_ev (by omega), Option.bind_some]
theorem counts_l0 {x0 : List S32} (h0 : ∀ x ∈ x0, good_pr8 x) (hl0 : x0.length ≤ maxLen) : ∀ (n i k : Nat) (x4 : List Int) (nt nn cm : Int) (l : List Ent), n = 100 - i → i ≤ 100 → 120 * n + 400 ≤ k → InvC x4 nt nn cm l → x4.length ≤ i → humuslaw11_TableCounts.l0 k x0 x4 (i : Int) nt nn cm l = some true := by
  intro n
  induction n with
  | zero =>
    intro i k x4 nt nn cm l hn hi hk h hx
    exact counts_end (by omega) (Or.inr (by omega))
  | succ n ih =>
    intro i k x4 nt nn cm l hn hi hk h hx
    by_cases hlt : i < x0.length
    · obtain ⟨k', x4', nt', nn', cm', l', hk', hI, hx', he⟩ := counts_round (k := k) h0 hl0 (by omega) hlt (by omega) h hx
      rw [he]
      exact ih (i + 1) k' x4' nt' nn' cm' l' (by omega) (by omega) (by omega) hI hx'
    · exact counts_end (by omega) (Or.inl (by omega))
theorem TableCounts_f {x0 : List S32} (h0 : ∀ x ∈ x0, good_pr8 x) (hl0 : x0.length ≤ maxLen) : humuslaw11_TableCounts.f 20000 x0 = some true := by
  unfold humuslaw11_TableCounts.f table_First.f
  rw [if_pos (by decide), Option.bind_some, humuslaw11_TableCounts.j0]
  refine counts_l0 h0 hl0 100 0 19999 [] 1 1 0 _ rfl (by omega) (by omega) ⟨?_, [], ⟨List.Pairwise.nil, fun c t => ⟨fun h => absurd h List.not_mem_nil, ?_⟩⟩, rfl⟩ (Nat.le_refl _)
  · refine ⟨by decide, by decide, by decide, by decide, by decide, by decide, by rw [List.length_replicate], fun e he => Or.inl (List.eq_of_mem_replicate he), fun i j e x he hx hne => ?_⟩
    have h1 : e = ⟨0, 0, 0, 0⟩ := List.eq_of_mem_replicate (List.mem_of_getElem? he)
    subst h1
    exact ⟨fun hp => absurd hp (by show ¬ ((0 : Int) < 0); omega), fun hp => absurd hp (by show ¬ ((0 : Int) < 0); omega)⟩
  · rintro ⟨e, he, h1, _⟩
    have : e = ⟨0, 0, 0, 0⟩ := List.eq_of_mem_replicate he
    subst this
    exact absurd h1 (by show ¬ ((0 : Int) = 2); omega)
theorem TableCounts_walk {w : World} (x : List S32) (A : Option Addr) (c : Nat) (h1 : x.length ≤ c) (h2 : Kd.C k32 w A x.length x) (h3 : ∀ z ∈ x, good_pr8 z) (h4 : x.length ≤ maxLen) : Calls Try.prog 12 #[.slice A x.length c] w fun e w' => e = .returned (.bool true) ∧ Below w.heap.size w w' :=
  humuslaw11_TableCounts.calls 20000 A c x true w h2 h1 (TableCounts_f h3 h4)
end Go.Proofs.Ytbmcbhpkefjhbaa.P
