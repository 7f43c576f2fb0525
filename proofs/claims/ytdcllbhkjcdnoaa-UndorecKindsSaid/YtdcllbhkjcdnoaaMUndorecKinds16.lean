/- Put together by wip/prune.py out of this claim's texts. -/
import Derived.Test.YtdcllbhkjcdnoaaMUndorecKinds5
import Derived.Test.YtdcllbhkjcdnoaaMUndorecKinds7
import Derived.Test.YtdcllbhkjcdnoaaMUndorecKinds10
import Derived.Test.YtdcllbhkjcdnoaaMUndorecKinds13
import Derived.Test.YtdcllbhkjcdnoaaMUndorecKinds15
namespace Go.Proofs.Ytdcllbhkjcdnoaa.P
open Go.RowKit Go.Proofs.YtdcllbhkjcdnoaaW.PrintWords Go.Proofs.YtdcllbhkjcdnoaaW.PrintLast Go.Proofs.YtdcllbhkjcdnoaaW.PrintMore
attribute [local go_sem] max2_int min2_int max_two min_two max_three min_three max_four min_four   -- for this text's walks alone
attribute [local go_sem] run_store_float
set_option linter.unusedVariables false
set_option linter.unusedSimpArgs false
mutual
def undorec_Decode.j0 : Nat → List (S86) → Bool → Option (Int × Int × Int × Int × Int × Int × Nat × Bool × List Nat × Int × Int × Int × Int)
 | 0,_,_ => none
 | k + 1,x4,x24 => if x24 = true then (some (0,0,0,0,0,0,0,false,([] : List Nat),0,0,0,4)) else (if 0 < (x4.length : Int) then (if 1 < (x4.length : Int) then (if 2 < (x4.length : Int) then (if 3 < (x4.length : Int) then (if 4 < (x4.length : Int) then (if 5 < (x4.length : Int) then (if 6 < (x4.length : Int) then (undorec_Decode.j1 k x4 (((rd_T86 x4 6).f3).toList != ([] : List UInt8)) ((rd_T86 x4 1).f1) ((rd_T86 x4 2).f1) ((rd_T86 x4 3).f1) ((rd_T86 x4 0).f1) ((rd_T86 x4 4).f1) ((rd_T86 x4 5).f1) 0 false 0 0 0) else (none)) else (none)) else (none)) else (none)) else (none)) else (none)) else (none))
def undorec_Decode.j1 : Nat → List (S86) → Bool → Int → Int → Int → Int → Int → Int → Nat → Bool → Int → Int → Int → Option (Int × Int × Int × Int × Int × Int × Nat × Bool × List Nat × Int × Int × Int × Int)
 | 0,_,_,_,_,_,_,_,_,_,_,_,_,_ => none
 | k + 1,x4,x55,x481000,x481001,x481002,x481003,x481004,x481005,x481006,x481007,x481009,x481010,x481011 => if x55 = true then (if 6 < (x4.length : Int) then ((row_Decode_b.f k ((rd_T86 x4 6).f3)).bind fun bt483 => (if bt483.2.2.2.2.2.2 = 0 then (undorec_Decode.j2 k x4 (x481003 != 2) x481000 x481001 x481002 x481003 x481004 x481005 x481006 x481007 x481009 x481010 x481011 bt483.1 bt483.2.1 bt483.2.2.1 bt483.2.2.2.1 bt483.2.2.2.2.1 bt483.2.2.2.2.2.1) else (undorec_Decode.j2 k x4 true x481000 x481001 x481002 x481003 x481004 x481005 x481006 x481007 x481009 x481010 x481011 bt483.1 bt483.2.1 bt483.2.2.1 bt483.2.2.2.1 bt483.2.2.2.2.1 bt483.2.2.2.2.2.1))) else (none)) else ((undorec_Check.f k x481000 x481001 x481002 x481003 x481004 x481005 x481006 x481007 ([] : List Nat) x481009 x481010 x481011).bind fun t495 => (if t495 = 0 then (if 6 < (x4.length : Int) then (undorec_Decode.j4 k ((((rd_T86 x4 6).f3).toList == ([] : List UInt8)) != (x481003 == 1)) x481000 x481001 x481002 x481003 x481004 x481005 x481006 x481007 x481009 x481010 x481011) else (none)) else (undorec_Decode.j4 k true x481000 x481001 x481002 x481003 x481004 x481005 x481006 x481007 x481009 x481010 x481011)))
def undorec_Decode.j2 : Nat → List (S86) → Bool → Int → Int → Int → Int → Int → Int → Nat → Bool → Int → Int → Int → Nat → Bool → List Nat → Int → Int → Int → Option (Int × Int × Int × Int × Int × Int × Nat × Bool × List Nat × Int × Int × Int × Int)
 | 0,_,_,_,_,_,_,_,_,_,_,_,_,_,_,_,_,_,_,_ => none
 | k + 1,x4,x71,x481000,x481001,x481002,x481003,x481004,x481005,x481006,x481007,x481009,x481010,x481011,x493000,x493001,x493002,x493003,x493004,x493005 => if x71 = true then (some (0,0,0,0,0,0,0,false,([] : List Nat),0,0,0,4)) else ((undorec_Check.f k x481000 x481001 x481002 x481003 x481004 x481005 x493000 x493001 x493002 x493003 x493004 x493005).bind fun t493 => (if t493 = 0 then (if 6 < (x4.length : Int) then (undorec_Decode.j3 k ((((rd_T86 x4 6).f3).toList == ([] : List UInt8)) != (x481003 == 1)) x481000 x481001 x481002 x481003 x481004 x481005 x493000 x493001 x493002 x493003 x493004 x493005) else (none)) else (undorec_Decode.j3 k true x481000 x481001 x481002 x481003 x481004 x481005 x493000 x493001 x493002 x493003 x493004 x493005)))
def undorec_Decode.j3 : Nat → Bool → Int → Int → Int → Int → Int → Int → Nat → Bool → List Nat → Int → Int → Int → Option (Int × Int × Int × Int × Int × Int × Nat × Bool × List Nat × Int × Int × Int × Int)
 | 0,_,_,_,_,_,_,_,_,_,_,_,_,_ => none
 | k + 1,x88,x481000,x481001,x481002,x481003,x481004,x481005,x481006,x481007,x481008,x481009,x481010,x481011 => if x88 = true then (some (0,0,0,0,0,0,0,false,([] : List Nat),0,0,0,4)) else (some (x481000,x481001,x481002,x481003,x481004,x481005,x481006,x481007,x481008,x481009,x481010,x481011,0))
def undorec_Decode.j4 : Nat → Bool → Int → Int → Int → Int → Int → Int → Nat → Bool → Int → Int → Int → Option (Int × Int × Int × Int × Int × Int × Nat × Bool × List Nat × Int × Int × Int × Int)
 | 0,_,_,_,_,_,_,_,_,_,_,_,_ => none
 | k + 1,x88,x481000,x481001,x481002,x481003,x481004,x481005,x481006,x481007,x481009,x481010,x481011 => if x88 = true then (some (0,0,0,0,0,0,0,false,([] : List Nat),0,0,0,4)) else (some (x481000,x481001,x481002,x481003,x481004,x481005,x481006,x481007,([] : List Nat),x481009,x481010,x481011,0))
end
def undorec_Decode.f (k : Nat) (l0 : List Int) : Option (Int × Int × Int × Int × Int × Int × Nat × Bool × List Nat × Int × Int × Int × Int):=(undorec_parts.f).bind fun t466 => ((pack_Take.f l0 t466).bind fun bt469 => (if bt469.2.2 = 0 then (undorec_Decode.j0 k bt469.1 (bt469.2.1 != (l0.length : Int))) else (undorec_Decode.j0 k bt469.1 true)))
def undorec_Decode.T4 : Bool × List (List Nat × List Nat):=(true,[([],[]),([0],[0]),([1],[1]),([2],[2]),([],[]),([4],[4]),([5],[5]),([6],[6]),([],[]),([8],[8]),([9],[9]),([10],[10]),([],[]),([12],[12]),([13],[13]),([14],[14]),([],[]),([16],[16]),([17],[17]),([18],[18]),([],[]),([20],[20]),([21],[21]),([22],[22]),([3,7,11,15,19,23],[3,7,11,15,19,23]),([],[]),([25,24,0,1,2,3,4,5,6,7,8,9,10,11,12,13,14,15,16,17,18,19,20,21,22,23,24,25],[24,25])])
def undorec_Decode.B4 : List Nat:=[0,1,3,7,0,16,48,112,0,256,768,1792,0,4096,12288,28672,0,65536,196608,458752,0,1048576,3145728,7340032,16777215,0,67108863]
theorem undorec_Decode.tab4 : rtab .any (opsOf Try.f49 4) = undorec_Decode.T4:=by kernel_rfl
theorem undorec_Decode.bits4 : waitsOk undorec_Decode.T4.2 undorec_Decode.B4 = true:=by kernel_rfl
def undorec_Decode.T10 : Bool × List (List Nat × List Nat):=(true,[([],[]),([0],[0]),([1],[1]),([2,1],[2]),([3],[3]),([4,3],[3,4]),([5,3],[3,5]),([6,3],[3,6]),([7,3],[3,7]),([3],[3]),([9,3],[3,9]),([10,3],[3,10]),([8,11,3],[3,8,11]),([3,12],[3,12])])
def undorec_Decode.B10 : List Nat:=[0,1,3,7,15,31,63,127,255,15,527,1551,4095,8191]
theorem undorec_Decode.tab10 : rtab .any (opsOf Try.f49 10) = undorec_Decode.T10:=by kernel_rfl
theorem undorec_Decode.bits10 : waitsOk undorec_Decode.T10.2 undorec_Decode.B10 = true:=by kernel_rfl
set_option maxHeartbeats 8000000 in
set_option maxRecDepth 100000 in
theorem undorec_Decode.calls (k : Nat) (A0 : Option Addr) (c0 : Nat) (l0 : List Int) (r1 : Int) (r2 : Int) (r3 : Int) (r4 : Int) (r5 : Int) (r6 : Int) (r7 : Nat) (r8 : Bool) (r9 : List Nat) (r10 : Int) (r11 : Int) (r12 : Int) (r13 : Int) (w : World) (hr0 : Kd.C (Kd.int .u8) w A0 l0.length l0) (hc0 : l0.length ≤ c0) (h : undorec_Decode.f k l0 = some (r1,r2,r3,r4,r5,r6,r7,r8,r9,r10,r11,r12,r13)) :
  Calls Try.prog 49 #[.slice A0 l0.length c0] w fun e w' => ∃ v8_ : Value,e = .returned (.tuple #[.agg #[.int .i64 r1,.int .i64 r2,.int .i64 r3,.int .i64 r4,.int .i64 r5,.int .i64 r6,.float .f64 r7,.bool r8,v8_,.int .i64 r10,.int .i64 r11,.int .i64 r12],.int .i64 r13]) ∧ Kd.R Kd.f64 25 w' w.heap.size (fun _ => True) v8_ r9 ∧ Below w.heap.size w w':=by
 have hu32:=Try.underlying32
 have hu30:=Try.underlying30
 have HR0:=Aside0.mk hr0
 have HC0:=Aside0.mk hc0
 clear hr0 hc0
 have HB:=Aside0.mk (Below.refl w.heap.size w)
 have H : ((undorec_parts.f).bind fun t466 => ((pack_Take.f l0 t466).bind fun bt469 => (if bt469.2.2 = 0 then (undorec_Decode.j0 k bt469.1 (bt469.2.1 != (l0.length : Int))) else (undorec_Decode.j0 k bt469.1 true)))) = some (r1,r2,r3,r4,r5,r6,r7,r8,r9,r10,r11,r12,r13):=h
 clear h
 replace H:=Option.bind_eq_some_iff.mp H
 obtain ⟨t466,A20,H⟩:=H
 replace H : ((pack_Take.f l0 t466).bind fun bt469 => (if bt469.2.2 = 0 then (undorec_Decode.j0 k bt469.1 (bt469.2.1 != (l0.length : Int))) else (undorec_Decode.j0 k bt469.1 true))) = some (r1,r2,r3,r4,r5,r6,r7,r8,r9,r10,r11,r12,r13):=H
 have A2:=Aside0.mk A20
 clear A20
 replace H:=Option.bind_eq_some_iff.mp H
 obtain ⟨⟨t469,t470,t471⟩,A30,H⟩:=H
 replace H : (if t471 = 0 then (undorec_Decode.j0 k t469 (t470 != (l0.length : Int))) else (undorec_Decode.j0 k t469 true)) = some (r1,r2,r3,r4,r5,r6,r7,r8,r9,r10,r11,r12,r13):=H
 have A3:=Aside0.mk A30
 clear A30
 have HC4:=Aside0.mk H
 clear H
 go_enter Try.func49,Try.ntmps49
 go_upto_region 2 with (first | ((with_reducible refine gate_dst (N:=2) rfl ?_);(try (refine gate_guard (by rfl) ?_;dsimp only));refine box_event ?hg (N:=2) ?hd (cs:=#[.int .i64 0,.int .i64 0,.int .i64 0,.int .i64 0,.int .i64 0,.int .i64 0,.float .f64 0,.bool false,.slice none 0 0,.int .i64 0,.int .i64 0,.int .i64 0]) (t:=32) ?hr ?_;(case hd => rfl);(case hg => rfl);(case hr => first | (go_simp;done) | (go_simp;rfl));intro gb465 hg w5 hbox hb;have n0_:=Aside0.mk (below_step (by repeat (first | (with_reducible first | exact HB.out | apply below_alloc | apply pw_below_drewN | apply below_drew1) | exact HB.out)) hb);have n1_:=Aside0.mk (hbox);have n2_:=Aside0.mk ((by rw [hg];exact (below_size (by repeat (first | (with_reducible first | exact HB.out | apply below_alloc | apply pw_below_drewN | apply below_drew1) | exact HB.out))) : w.heap.size ≤ gb465));have n3_:=Aside0.mk ((by rw [hg];exact (below_size (by repeat (first | (with_reducible first | exact HB.out | apply below_alloc | apply pw_below_drewN | apply below_drew1) | exact HB.out))) : w.heap.size ≤ gb465));clear HB;have HB:=n0_;have BK465:=n1_;have GW465:=n2_;have GE465:=n3_;clear n0_ n1_ n2_ n3_;clear hb hbox hg) | ((with_reducible refine gate_callee (f:=82) rfl ?_);refine goesL_ (some 12) rfl rfl Try.func82 (by kernel_rfl) rfl #[] rfl (by (try simp only [List.map_toArray,List.map_cons,List.map_nil]);first | done | rfl | (simp only [List.length_drop,List.length_take];rfl)) ?_;(with_reducible refine (undorec_parts.calls  t466 _ A2.out).mono ?_);rintro e w6 ⟨v467,rfl,ho0,hb⟩;refine ⟨_,rfl,?_⟩;have n0_:=Aside0.mk (Kd.R_lower ho0 (below_size (by repeat (first | (with_reducible first | exact HB.out | apply below_alloc | apply pw_below_drewN | apply below_drew1 | refine below_set ?_ GE465.out) | exact HB.out))));have n1_:=Aside0.mk (blk_below (g:=gb465) (o:=.cells #[.int .i64 0,.int .i64 0,.int .i64 0,.int .i64 0,.int .i64 0,.int .i64 0,.float .f64 0,.bool false,.slice none 0 0,.int .i64 0,.int .i64 0,.int .i64 0] 32 (0,0)) (by (with_reducible repeat (first | refine blk_drewN ?_ _ | refine blk_drew ?_ | refine blk_alloc ?_ _));exact BK465.out) hb);have n2_:=Aside0.mk (below_step (by repeat (first | (with_reducible first | exact HB.out | apply below_alloc | apply pw_below_drewN | apply below_drew1 | refine below_set ?_ GE465.out) | exact HB.out)) hb);clear BK465;clear HB;have HO468:=n0_;have BK465:=n1_;have HB:=n2_;clear n0_ n1_ n2_;(try clear hb);(try clear hb2);(try clear hk);(try clear hi);(try clear ho0);obtain ⟨Ao7,co7,eo7⟩:=Kd.R_slice HO468.out;subst eo7) | ((with_reducible refine gate_callee (f:=73) rfl ?_);refine goesL_ (some 13) rfl rfl Try.func73 (by kernel_rfl) rfl #[.slice A0 l0.length c0,.slice Ao7 t466.length co7] rfl (by (try simp only [List.map_toArray,List.map_cons,List.map_nil]);first | done | rfl | (simp only [List.length_drop,List.length_take];rfl)) ?_;(with_reducible refine (pack_Take.calls _ _ l0 _ _ t466 t469 t470 t471 _ ?side1 ?side2 ?side3 ?side4 A3.out).mono ?_);(case side1 => repeat (first | exact (Kd.C_below HR0.out HB.out) | (with_reducible refine Kd.C_alloc ?_ _) | (with_reducible refine Kd.C_drewN ?_ _) | (with_reducible refine Kd.C_drew ?_)));(case side2 => exact HC0.out);(case side3 => repeat (first | exact (Kd.R_reads' HO468.out).2.2 | (with_reducible refine Kd.C_alloc ?_ _) | (with_reducible refine Kd.C_drewN ?_ _) | (with_reducible refine Kd.C_drew ?_)));(case side4 => exact (Kd.R_reads' HO468.out).2.1);rintro e w8 ⟨v472,rfl,ho0,hb⟩;refine ⟨_,rfl,?_⟩;have n0_:=Aside0.mk (Kd.R_below (by (with_reducible repeat (first | apply Kd.R_alloc | apply Kd.R_drewN | apply Kd.R_drew));exact HO468.out) hb);have n1_:=Aside0.mk (Kd.R_lower ho0 (below_size (by repeat (first | (with_reducible first | exact HB.out | apply below_alloc | apply pw_below_drewN | apply below_drew1 | refine below_set ?_ GE465.out) | exact HB.out))));have n2_:=Aside0.mk (blk_below (g:=gb465) (o:=.cells #[.int .i64 0,.int .i64 0,.int .i64 0,.int .i64 0,.int .i64 0,.int .i64 0,.float .f64 0,.bool false,.slice none 0 0,.int .i64 0,.int .i64 0,.int .i64 0] 32 (0,0)) (by (with_reducible repeat (first | refine blk_drewN ?_ _ | refine blk_drew ?_ | refine blk_alloc ?_ _));exact BK465.out) hb);have n3_:=Aside0.mk (below_step (by repeat (first | (with_reducible first | exact HB.out | apply below_alloc | apply pw_below_drewN | apply below_drew1 | refine below_set ?_ GE465.out) | exact HB.out)) hb);clear HO468;clear BK465;clear HB;have HO468:=n0_;have HO473:=n1_;have BK465:=n2_;have HB:=n3_;clear n0_ n1_ n2_ n3_;(try clear hb);(try clear hb2);(try clear hk);(try clear hi);(try clear ho0)))
 (try simp only [Act.put,List.setIfInBounds_toArray,List.set_cons_zero,List.set_cons_succ])
 go_cut [24] (fun v24 wc => ∃ (kq : Nat) (x24_3 : Bool),v24 = .bool x24_3 ∧ Aside0 (undorec_Decode.j0 kq t469 x24_3 = some (r1,r2,r3,r4,r5,r6,r7,r8,r9,r10,r11,r12,r13)) ∧ Aside0 (kq ≤ k) ∧ Aside0 (Kd.R k86 86 wc w.heap.size (fun _ => True) v472 t469) ∧ Aside0 (wc.heap[gb465]? = some (.cells #[.int .i64 0,.int .i64 0,.int .i64 0,.int .i64 0,.int .i64 0,.int .i64 0,.float .f64 0,.bool false,(.slice none 0 0),.int .i64 0,.int .i64 0,.int .i64 0] 32 (0,0))) ∧ Aside0 (Below w.heap.size w wc))
 case first =>
  have H:=HC4.out
  clear HC4
  by_cases c9 : t471 = 0
  ·rw [if_pos c9] at H
   have c9b0 : (t471 == 0) = true:=beq_iff_eq.mpr c9
   have c9b1 : (t471 != 0) = false:=bne_eq_false_iff_eq.mpr c9
   clear c9
   (first | rw [c9b0] | (simp only [i64_w,i32_w];rw [c9b0]) | skip)
   have H':=Aside0.mk H
   clear H
   go_wp2
   go_meet
   case rel => exact ⟨_,((t470 != (l0.length : Int))),(by first | rfl | (simp;done) | (simp [*];done) | (simp [bne,str_nil];done)),H',⟨by first | omega | exact Nat.le_refl _⟩,⟨by (with_reducible repeat (first | apply Kd.R_alloc | apply Kd.R_drewN | apply Kd.R_drew));exact HO473.out⟩,⟨by (with_reducible repeat (first | refine blk_drewN ?_ _ | refine blk_drew ?_ | refine blk_alloc ?_ _));exact BK465.out⟩,⟨by repeat (first | (with_reducible first | exact HB.out | apply below_alloc | apply pw_below_drewN | apply below_drew1 | refine below_set ?_ GE465.out) | exact HB.out)⟩⟩
  ·rw [if_neg c9] at H
   have c9b0 : (t471 == 0) = false:=beq_eq_false_iff_ne.mpr c9
   have c9b1 : (t471 != 0) = true:=bne_iff_ne.mpr c9
   (first | rw [c9b0] | (simp only [i64_w,i32_w];rw [c9b0]) | skip)
   have H':=Aside0.mk H
   clear H
   go_wp2
   go_meet
   case rel => exact ⟨_,(true),(by first | rfl | (simp;done) | (simp [*];done) | (simp [bne,str_nil];done)),H',⟨by first | omega | exact Nat.le_refl _⟩,⟨by (with_reducible repeat (first | apply Kd.R_alloc | apply Kd.R_drewN | apply Kd.R_drew));exact HO473.out⟩,⟨by (with_reducible repeat (first | refine blk_drewN ?_ _ | refine blk_drew ?_ | refine blk_alloc ?_ _));exact BK465.out⟩,⟨by repeat (first | (with_reducible first | exact HB.out | apply below_alloc | apply pw_below_drewN | apply below_drew1 | refine below_set ?_ GE465.out) | exact HB.out)⟩⟩
 case rest =>
  clear HC4
  try clear p2
  try clear c4
  try clear c7
  try clear c8
  try clear c9
  try clear c9b0
  try clear c9b1
  obtain ⟨kq,x24_3,rfl,HA,HJ3,HO_4,BK465,HB⟩:=hcut
  cases kq with
  | zero => exact absurd HA.out (by simp [undorec_Decode.j0])
  | succ kj3 =>
   have H:=HA.out
   clear HA
   simp only [undorec_Decode.j0] at H
   by_cases c10 : x24_3 = true
   ·subst c10
    have H1 : (some (0,0,0,0,0,0,0,false,([] : List Nat),0,0,0,4)) = some (r1,r2,r3,r4,r5,r6,r7,r8,r9,r10,r11,r12,r13):=by rw [if_pos rfl] at H;exact H
    clear H
    have H:=H1
    clear H1
    simp only [Option.some.injEq,Prod.mk.injEq] at H
    obtain ⟨rfl,rfl,rfl,rfl,rfl,rfl,rfl,rfl,rfl,rfl,rfl,rfl,rfl⟩:=H
    obtain ⟨hcz11_0,hcz11_1,hcz11_2,hcz11_3,hcz11_4,hcz11_5,hcz11_6,hcz11_7,hcz11_8,hcz11_9,hcz11_10,hcz11_11⟩:=blkc_12 BK465.out
    obtain ⟨hfz11_0,hfz11_1,hfz11_2,hfz11_3,hfz11_4,hfz11_5,hfz11_6,hfz11_7,hfz11_8,hfz11_9,hfz11_10,hfz11_11⟩:=blkz_12 BK465.out
    go_wp2
    refine bodyPost_ret (results_ct rfl _ _ gb465 32 #[.int .i64 0,.int .i64 0,.int .i64 0,.int .i64 0,.int .i64 0,.int .i64 0,.float .f64 0,.bool false,.slice none 0 0,.int .i64 0,.int .i64 0,.int .i64 0] (0,0) _ rfl (by (with_reducible repeat (first | refine blk_drewN ?_ _ | refine blk_drew ?_ | refine blk_alloc ?_ _));apply blkf_12_0_11;(with_reducible repeat (first | refine blk_drewN ?_ _ | refine blk_drew ?_ | refine blk_alloc ?_ _));exact BK465.out) Try.underlying32 rfl (by kernel_rfl)) rfl ?_
    exact ⟨_,by first | rfl | (simp [errW_none,errW_some] <;> rfl) | (simp [*,errW_none,errW_some] <;> rfl),by first | exact Kd.R_nil _ _ _ _ _ | exact Kd.N_nil _ _ _ _ _ | exact Kd.V_nil _ _ _ _ _ | exact Kd.Q_nil _ _ _ _ _ | exact Kd.S_nil _ _ _ _ _,by repeat (first | (with_reducible first | exact HB.out | apply below_alloc | apply pw_below_drewN | apply below_drew1 | refine below_set ?_ GE465.out) | exact HB.out)⟩
   ·replace c10:=Bool.eq_false_iff.mpr c10
    subst c10
    have H1 : (if 0 < (t469.length : Int) then (if 1 < (t469.length : Int) then (if 2 < (t469.length : Int) then (if 3 < (t469.length : Int) then (if 4 < (t469.length : Int) then (if 5 < (t469.length : Int) then (if 6 < (t469.length : Int) then (undorec_Decode.j1 kj3 t469 (((rd_T86 t469 6).f3).toList != ([] : List UInt8)) ((rd_T86 t469 1).f1) ((rd_T86 t469 2).f1) ((rd_T86 t469 3).f1) ((rd_T86 t469 0).f1) ((rd_T86 t469 4).f1) ((rd_T86 t469 5).f1) 0 false 0 0 0) else (none)) else (none)) else (none)) else (none)) else (none)) else (none)) else (none)) = some (r1,r2,r3,r4,r5,r6,r7,r8,r9,r10,r11,r12,r13):=by rw [if_neg (show ¬ (false = true) by decide)] at H;exact H
    clear H
    have H:=H1
    clear H1
    by_cases c12 : 0 < (t469.length : Int)
    ·rw [if_pos c12] at H
     have c12b0 : decide (0 < (t469.length : Int)) = true:=decide_eq_true c12
     have c12b1 : decide (0 < t469.length) = true:=decide_eq_true (by omega)
     clear c12
     by_cases c13 : 1 < (t469.length : Int)
     ·rw [if_pos c13] at H
      have c13b0 : decide (1 < (t469.length : Int)) = true:=decide_eq_true c13
      have c13b1 : decide (1 < t469.length) = true:=decide_eq_true (by omega)
      clear c13
      by_cases c14 : 2 < (t469.length : Int)
      ·rw [if_pos c14] at H
       have c14b0 : decide (2 < (t469.length : Int)) = true:=decide_eq_true c14
       have c14b1 : decide (2 < t469.length) = true:=decide_eq_true (by omega)
       clear c14
       by_cases c15 : 3 < (t469.length : Int)
       ·rw [if_pos c15] at H
        have c15b0 : decide (3 < (t469.length : Int)) = true:=decide_eq_true c15
        have c15b1 : decide (3 < t469.length) = true:=decide_eq_true (by omega)
        clear c15
        by_cases c16 : 4 < (t469.length : Int)
        ·rw [if_pos c16] at H
         have c16b0 : decide (4 < (t469.length : Int)) = true:=decide_eq_true c16
         have c16b1 : decide (4 < t469.length) = true:=decide_eq_true (by omega)
         clear c16
         by_cases c17 : 5 < (t469.length : Int)
         ·rw [if_pos c17] at H
          have c17b0 : decide (5 < (t469.length : Int)) = true:=decide_eq_true c17
          have c17b1 : decide (5 < t469.length) = true:=decide_eq_true (by omega)
          clear c17
          have HC18:=Aside0.mk H
          clear H
          try go_wp2
          have n0_:=Aside0.mk (Kd.R_drew HO_4.out)
          have n1_:=Aside0.mk (blk_drew BK465.out)
          have n2_:=Aside0.mk (below_drew1 HB.out)
          clear HO_4
          clear BK465
          clear HB
          have HO_4:=n0_
          have BK465:=n1_
          have HB:=n2_
          clear n0_ n1_ n2_
          obtain ⟨Ao20,co20,eo20⟩:=Kd.R_slice HO_4.out
          (first | subst eo20 | (injection eo20 with f1_ f2_ f3_;have f4_:=f1_.symm;have f5_:=f3_.symm;clear f1_ f2_ f3_;subst f4_;subst f5_))
          have p474 : 0 ≤ (0 : Int):=(by omega)
          have q474 : 0 < (t469.length : Int):=of_decide_eq_true (by first | (with_reducible assumption) | assumption)
          obtain ⟨ad474,e474,hx474_0,hx474_1,hx474_2,hx474_3⟩:=at_T86 (Kd.R_reads' HO_4.out).2.2 0 p474 q474
          cases e474
          have qi474 : (0 < t469.length) = True:=eq_true (by omega)
          (try rw [show ((0 : Int)).toNat = 0 from rfl] at hx474_0)
          (try rw [show 0 * 4 = 0 from rfl] at hx474_0)
          (try rw [Addr.add_zero'] at hx474_0)
          (try rw [show ((0 : Int)).toNat = 0 from rfl] at hx474_1)
          (try rw [show 0 * 4 = 0 from rfl] at hx474_1)
          (try rw [Addr.add_zero'] at hx474_1)
          (try rw [show ((0 : Int)).toNat = 0 from rfl] at hx474_2)
          (try rw [show 0 * 4 = 0 from rfl] at hx474_2)
          (try rw [Addr.add_zero'] at hx474_2)
          (try rw [show ((0 : Int)).toNat = 0 from rfl] at hx474_3)
          (try rw [show 0 * 4 = 0 from rfl] at hx474_3)
          (try rw [Addr.add_zero'] at hx474_3)
          replace p474:=eq_true p474
          replace q474:=eq_true q474
          have p475 : 0 ≤ (1 : Int):=(by omega)
          have q475 : 1 < (t469.length : Int):=of_decide_eq_true (by first | (with_reducible assumption) | assumption)
          obtain ⟨ad475,e475,hx475_0,hx475_1,hx475_2,hx475_3⟩:=at_T86 (Kd.R_reads' HO_4.out).2.2 1 p475 q475
          obtain rfl : ad474 = ad475:=(by injection e475)
          (try simp only [show (1 : Int).toNat = 1 from rfl,Nat.reduceMul,Nat.reduceEqDiff,Go.Addr.add,↓reduceIte] at hx475_0)
          (try simp only [show (1 : Int).toNat = 1 from rfl,Nat.reduceMul,Nat.reduceEqDiff,Go.Addr.add,↓reduceIte] at hx475_1)
          (try simp only [show (1 : Int).toNat = 1 from rfl,Nat.reduceMul,Nat.reduceEqDiff,Go.Addr.add,↓reduceIte] at hx475_2)
          (try simp only [show (1 : Int).toNat = 1 from rfl,Nat.reduceMul,Nat.reduceEqDiff,Go.Addr.add,↓reduceIte] at hx475_3)
          have qi475 : (1 < t469.length) = True:=eq_true (by omega)
          (try rw [show ((1 : Int)).toNat = 1 from rfl] at hx475_0)
          (try rw [show 1 * 4 = 4 from rfl] at hx475_0)
          (try rw [show ((1 : Int)).toNat = 1 from rfl] at hx475_1)
          (try rw [show 1 * 4 = 4 from rfl] at hx475_1)
          (try rw [show ((1 : Int)).toNat = 1 from rfl] at hx475_2)
          (try rw [show 1 * 4 = 4 from rfl] at hx475_2)
          (try rw [show ((1 : Int)).toNat = 1 from rfl] at hx475_3)
          (try rw [show 1 * 4 = 4 from rfl] at hx475_3)
          replace p475:=eq_true p475
          replace q475:=eq_true q475
          have p476 : 0 ≤ (2 : Int):=(by omega)
          have q476 : 2 < (t469.length : Int):=of_decide_eq_true (by first | (with_reducible assumption) | assumption)
          obtain ⟨ad476,e476,hx476_0,hx476_1,hx476_2,hx476_3⟩:=at_T86 (Kd.R_reads' HO_4.out).2.2 2 p476 q476
          obtain rfl : ad474 = ad476:=(by injection e476)
          (try simp only [show (2 : Int).toNat = 2 from rfl,Nat.reduceMul,Nat.reduceEqDiff,Go.Addr.add,↓reduceIte] at hx476_0)
          (try simp only [show (2 : Int).toNat = 2 from rfl,Nat.reduceMul,Nat.reduceEqDiff,Go.Addr.add,↓reduceIte] at hx476_1)
          (try simp only [show (2 : Int).toNat = 2 from rfl,Nat.reduceMul,Nat.reduceEqDiff,Go.Addr.add,↓reduceIte] at hx476_2)
          (try simp only [show (2 : Int).toNat = 2 from rfl,Nat.reduceMul,Nat.reduceEqDiff,Go.Addr.add,↓reduceIte] at hx476_3)
          have qi476 : (2 < t469.length) = True:=eq_true (by omega)
          (try rw [show ((2 : Int)).toNat = 2 from rfl] at hx476_0)
          (try rw [show 2 * 4 = 8 from rfl] at hx476_0)
          (try rw [show ((2 : Int)).toNat = 2 from rfl] at hx476_1)
          (try rw [show 2 * 4 = 8 from rfl] at hx476_1)
          (try rw [show ((2 : Int)).toNat = 2 from rfl] at hx476_2)
          (try rw [show 2 * 4 = 8 from rfl] at hx476_2)
          (try rw [show ((2 : Int)).toNat = 2 from rfl] at hx476_3)
          (try rw [show 2 * 4 = 8 from rfl] at hx476_3)
          replace p476:=eq_true p476
          replace q476:=eq_true q476
          have p477 : 0 ≤ (3 : Int):=(by omega)
          have q477 : 3 < (t469.length : Int):=of_decide_eq_true (by first | (with_reducible assumption) | assumption)
          obtain ⟨ad477,e477,hx477_0,hx477_1,hx477_2,hx477_3⟩:=at_T86 (Kd.R_reads' HO_4.out).2.2 3 p477 q477
          obtain rfl : ad474 = ad477:=(by injection e477)
          (try simp only [show (3 : Int).toNat = 3 from rfl,Nat.reduceMul,Nat.reduceEqDiff,Go.Addr.add,↓reduceIte] at hx477_0)
          (try simp only [show (3 : Int).toNat = 3 from rfl,Nat.reduceMul,Nat.reduceEqDiff,Go.Addr.add,↓reduceIte] at hx477_1)
          (try simp only [show (3 : Int).toNat = 3 from rfl,Nat.reduceMul,Nat.reduceEqDiff,Go.Addr.add,↓reduceIte] at hx477_2)
          (try simp only [show (3 : Int).toNat = 3 from rfl,Nat.reduceMul,Nat.reduceEqDiff,Go.Addr.add,↓reduceIte] at hx477_3)
          have qi477 : (3 < t469.length) = True:=eq_true (by omega)
          (try rw [show ((3 : Int)).toNat = 3 from rfl] at hx477_0)
          (try rw [show 3 * 4 = 12 from rfl] at hx477_0)
          (try rw [show ((3 : Int)).toNat = 3 from rfl] at hx477_1)
          (try rw [show 3 * 4 = 12 from rfl] at hx477_1)
          (try rw [show ((3 : Int)).toNat = 3 from rfl] at hx477_2)
          (try rw [show 3 * 4 = 12 from rfl] at hx477_2)
          (try rw [show ((3 : Int)).toNat = 3 from rfl] at hx477_3)
          (try rw [show 3 * 4 = 12 from rfl] at hx477_3)
          replace p477:=eq_true p477
          replace q477:=eq_true q477
          have p478 : 0 ≤ (4 : Int):=(by omega)
          have q478 : 4 < (t469.length : Int):=of_decide_eq_true (by first | (with_reducible assumption) | assumption)
          obtain ⟨ad478,e478,hx478_0,hx478_1,hx478_2,hx478_3⟩:=at_T86 (Kd.R_reads' HO_4.out).2.2 4 p478 q478
          obtain rfl : ad474 = ad478:=(by injection e478)
          (try simp only [show (4 : Int).toNat = 4 from rfl,Nat.reduceMul,Nat.reduceEqDiff,Go.Addr.add,↓reduceIte] at hx478_0)
          (try simp only [show (4 : Int).toNat = 4 from rfl,Nat.reduceMul,Nat.reduceEqDiff,Go.Addr.add,↓reduceIte] at hx478_1)
          (try simp only [show (4 : Int).toNat = 4 from rfl,Nat.reduceMul,Nat.reduceEqDiff,Go.Addr.add,↓reduceIte] at hx478_2)
          (try simp only [show (4 : Int).toNat = 4 from rfl,Nat.reduceMul,Nat.reduceEqDiff,Go.Addr.add,↓reduceIte] at hx478_3)
          have qi478 : (4 < t469.length) = True:=eq_true (by omega)
          (try rw [show ((4 : Int)).toNat = 4 from rfl] at hx478_0)
          (try rw [show 4 * 4 = 16 from rfl] at hx478_0)
          (try rw [show ((4 : Int)).toNat = 4 from rfl] at hx478_1)
          (try rw [show 4 * 4 = 16 from rfl] at hx478_1)
          (try rw [show ((4 : Int)).toNat = 4 from rfl] at hx478_2)
          (try rw [show 4 * 4 = 16 from rfl] at hx478_2)
          (try rw [show ((4 : Int)).toNat = 4 from rfl] at hx478_3)
          (try rw [show 4 * 4 = 16 from rfl] at hx478_3)
          replace p478:=eq_true p478
          replace q478:=eq_true q478
          have p479 : 0 ≤ (5 : Int):=(by omega)
          have q479 : 5 < (t469.length : Int):=of_decide_eq_true (by first | (with_reducible assumption) | assumption)
          obtain ⟨ad479,e479,hx479_0,hx479_1,hx479_2,hx479_3⟩:=at_T86 (Kd.R_reads' HO_4.out).2.2 5 p479 q479
          obtain rfl : ad474 = ad479:=(by injection e479)
          (try simp only [show (5 : Int).toNat = 5 from rfl,Nat.reduceMul,Nat.reduceEqDiff,Go.Addr.add,↓reduceIte] at hx479_0)
          (try simp only [show (5 : Int).toNat = 5 from rfl,Nat.reduceMul,Nat.reduceEqDiff,Go.Addr.add,↓reduceIte] at hx479_1)
          (try simp only [show (5 : Int).toNat = 5 from rfl,Nat.reduceMul,Nat.reduceEqDiff,Go.Addr.add,↓reduceIte] at hx479_2)
          (try simp only [show (5 : Int).toNat = 5 from rfl,Nat.reduceMul,Nat.reduceEqDiff,Go.Addr.add,↓reduceIte] at hx479_3)
          have qi479 : (5 < t469.length) = True:=eq_true (by omega)
          (try rw [show ((5 : Int)).toNat = 5 from rfl] at hx479_0)
          (try rw [show 5 * 4 = 20 from rfl] at hx479_0)
          (try rw [show ((5 : Int)).toNat = 5 from rfl] at hx479_1)
          (try rw [show 5 * 4 = 20 from rfl] at hx479_1)
          (try rw [show ((5 : Int)).toNat = 5 from rfl] at hx479_2)
          (try rw [show 5 * 4 = 20 from rfl] at hx479_2)
          (try rw [show ((5 : Int)).toNat = 5 from rfl] at hx479_3)
          (try rw [show 5 * 4 = 20 from rfl] at hx479_3)
          replace p479:=eq_true p479
          replace q479:=eq_true q479
          refine start_ (n:=27) (S:=fun w' => w'.cell? ad474 = some (.int .i64 ((rd_T86 t469 0).f0)) ∧ w'.cell? ⟨ad474.block,ad474.off + 1,none⟩ = some (.int .i64 ((rd_T86 t469 0).f1)) ∧ w'.cell? ⟨ad474.block,ad474.off + 2,none⟩ = some (.float .f64 ((rd_T86 t469 0).f2)) ∧ w'.cell? ⟨ad474.block,ad474.off + 3,none⟩ = some (.string ((rd_T86 t469 0).f3)) ∧ w'.cell? ⟨ad474.block,ad474.off + 4,none⟩ = some (.int .i64 ((rd_T86 t469 1).f0)) ∧ w'.cell? ⟨ad474.block,ad474.off + 4 + 1,none⟩ = some (.int .i64 ((rd_T86 t469 1).f1)) ∧ w'.cell? ⟨ad474.block,ad474.off + 4 + 2,none⟩ = some (.float .f64 ((rd_T86 t469 1).f2)) ∧ w'.cell? ⟨ad474.block,ad474.off + 4 + 3,none⟩ = some (.string ((rd_T86 t469 1).f3)) ∧ w'.cell? ⟨ad474.block,ad474.off + 8,none⟩ = some (.int .i64 ((rd_T86 t469 2).f0)) ∧ w'.cell? ⟨ad474.block,ad474.off + 8 + 1,none⟩ = some (.int .i64 ((rd_T86 t469 2).f1)) ∧ w'.cell? ⟨ad474.block,ad474.off + 8 + 2,none⟩ = some (.float .f64 ((rd_T86 t469 2).f2)) ∧ w'.cell? ⟨ad474.block,ad474.off + 8 + 3,none⟩ = some (.string ((rd_T86 t469 2).f3)) ∧ w'.cell? ⟨ad474.block,ad474.off + 12,none⟩ = some (.int .i64 ((rd_T86 t469 3).f0)) ∧ w'.cell? ⟨ad474.block,ad474.off + 12 + 1,none⟩ = some (.int .i64 ((rd_T86 t469 3).f1)) ∧ w'.cell? ⟨ad474.block,ad474.off + 12 + 2,none⟩ = some (.float .f64 ((rd_T86 t469 3).f2)) ∧ w'.cell? ⟨ad474.block,ad474.off + 12 + 3,none⟩ = some (.string ((rd_T86 t469 3).f3)) ∧ w'.cell? ⟨ad474.block,ad474.off + 16,none⟩ = some (.int .i64 ((rd_T86 t469 4).f0)) ∧ w'.cell? ⟨ad474.block,ad474.off + 16 + 1,none⟩ = some (.int .i64 ((rd_T86 t469 4).f1)) ∧ w'.cell? ⟨ad474.block,ad474.off + 16 + 2,none⟩ = some (.float .f64 ((rd_T86 t469 4).f2)) ∧ w'.cell? ⟨ad474.block,ad474.off + 16 + 3,none⟩ = some (.string ((rd_T86 t469 4).f3)) ∧ w'.cell? ⟨ad474.block,ad474.off + 20,none⟩ = some (.int .i64 ((rd_T86 t469 5).f0)) ∧ w'.cell? ⟨ad474.block,ad474.off + 20 + 1,none⟩ = some (.int .i64 ((rd_T86 t469 5).f1)) ∧ w'.cell? ⟨ad474.block,ad474.off + 20 + 2,none⟩ = some (.float .f64 ((rd_T86 t469 5).f2)) ∧ w'.cell? ⟨ad474.block,ad474.off + 20 + 3,none⟩ = some (.string ((rd_T86 t469 5).f3))) (ds:=[26]) #[ff,ff,ff,ff,ff,ff,ff,ff,ff,ff,ff,ff,ff,ff,ff,ff,ff,ff,ff,ff,ff,ff,ff,ff,ff,ff,ff] (by kernel_rfl) rfl rfl ⟨hx474_0,hx474_1,hx474_2,hx474_3,hx475_0,hx475_1,hx475_2,hx475_3,hx476_0,hx476_1,hx476_2,hx476_3,hx477_0,hx477_1,hx477_2,hx477_3,hx478_0,hx478_1,hx478_2,hx478_3,hx479_0,hx479_1,hx479_2,hx479_3⟩ (fun hHeld => ?_);refine with_tabW undorec_Decode.tab4 undorec_Decode.bits4 (fun HT_ HW_ => ?_)
          generalize wc.drew = w19 at HO_4 BK465 HB hx474_0 hx474_1 hx474_2 hx474_3 hx475_0 hx475_1 hx475_2 hx475_3 hx476_0 hx476_1 hx476_2 hx476_3 hx477_0 hx477_1 hx477_2 hx477_3 hx478_0 hx478_1 hx478_2 hx478_3 hx479_0 hx479_1 hx479_2 hx479_3 hHeld ⊢
          refine pure_ (i:=0) (N:=some 26) (v:=?_) (a':=?_) #[tt,ff,ff,ff,ff,ff,ff,ff,ff,ff,ff,ff,ff,ff,ff,ff,ff,ff,ff,ff,ff,ff,ff,ff,ff,ff,ff] rfl rfl (any_of HT_.out (by kernel_rfl)) (fun _ _ _ h => h) (Or.inl ⟨by rfl,?_⟩) ?_ ?_
          rotate_left
          ·intro w'
           go_simp
           with_reducible rfl
          rotate_left
          ·simp only [Act.put,q1_,q2_,q3_,i64_w,i32_w]
           rfl
          refine pure_ (i:=1) (N:=some 27) (v:=?_) (a':=?_) #[tt,tt,ff,ff,ff,ff,ff,ff,ff,ff,ff,ff,ff,ff,ff,ff,ff,ff,ff,ff,ff,ff,ff,ff,ff,ff,ff] rfl rfl (any_of HT_.out (by kernel_rfl)) (fun _ _ _ h => h) (Or.inl ⟨by rfl,?_⟩) ?_ ?_
          rotate_left
          ·intro w'
           go_simp
           with_reducible rfl
          rotate_left
          ·simp only [Act.put,q1_,q2_,q3_,i64_w,i32_w]
           rfl
          refine pure_ (i:=2) (N:=some 28) (v:=?_) (a':=?_) #[tt,tt,tt,ff,ff,ff,ff,ff,ff,ff,ff,ff,ff,ff,ff,ff,ff,ff,ff,ff,ff,ff,ff,ff,ff,ff,ff] rfl rfl (any_of HT_.out (by kernel_rfl)) (fun _ _ _ h => h) (Or.inl ⟨by rfl,?_⟩) ?_ ?_
          rotate_left
          ·intro w'
           go_simp
           with_reducible rfl
          rotate_left
          ·simp only [Act.put,q1_,q2_,q3_,i64_w,i32_w]
           rfl
          refine pure_ (i:=4) (N:=some 30) (v:=?_) (a':=?_) #[tt,tt,tt,ff,tt,ff,ff,ff,ff,ff,ff,ff,ff,ff,ff,ff,ff,ff,ff,ff,ff,ff,ff,ff,ff,ff,ff] rfl rfl (any_of HT_.out (by kernel_rfl)) (fun _ _ _ h => h) (Or.inl ⟨by rfl,?_⟩) ?_ ?_
          rotate_left
          ·intro w'
           go_simp
           with_reducible rfl
          rotate_left
          ·simp only [Act.put,q1_,q2_,q3_,i64_w,i32_w]
           rfl
          refine pure_ (i:=5) (N:=some 31) (v:=?_) (a':=?_) #[tt,tt,tt,ff,tt,tt,ff,ff,ff,ff,ff,ff,ff,ff,ff,ff,ff,ff,ff,ff,ff,ff,ff,ff,ff,ff,ff] rfl rfl (any_of HT_.out (by kernel_rfl)) (fun _ _ _ h => h) (Or.inl ⟨by rfl,?_⟩) ?_ ?_
          rotate_left
          ·intro w'
           go_simp
           with_reducible rfl
          rotate_left
          ·simp only [Act.put,q1_,q2_,q3_,i64_w,i32_w]
           rfl
          refine pure_ (i:=6) (N:=some 32) (v:=?_) (a':=?_) #[tt,tt,tt,ff,tt,tt,tt,ff,ff,ff,ff,ff,ff,ff,ff,ff,ff,ff,ff,ff,ff,ff,ff,ff,ff,ff,ff] rfl rfl (any_of HT_.out (by kernel_rfl)) (fun _ _ _ h => h) (Or.inl ⟨by rfl,?_⟩) ?_ ?_
          rotate_left
          ·intro w'
           go_simp
           with_reducible rfl
          rotate_left
          ·simp only [Act.put,q1_,q2_,q3_,i64_w,i32_w]
           rfl
          refine pure_ (i:=8) (N:=some 34) (v:=?_) (a':=?_) #[tt,tt,tt,ff,tt,tt,tt,ff,tt,ff,ff,ff,ff,ff,ff,ff,ff,ff,ff,ff,ff,ff,ff,ff,ff,ff,ff] rfl rfl (any_of HT_.out (by kernel_rfl)) (fun _ _ _ h => h) (Or.inl ⟨by rfl,?_⟩) ?_ ?_
          rotate_left
          ·intro w'
           go_simp
           with_reducible rfl
          rotate_left
          ·simp only [Act.put,q1_,q2_,q3_,i64_w,i32_w]
           rfl
          refine pure_ (i:=9) (N:=some 35) (v:=?_) (a':=?_) #[tt,tt,tt,ff,tt,tt,tt,ff,tt,tt,ff,ff,ff,ff,ff,ff,ff,ff,ff,ff,ff,ff,ff,ff,ff,ff,ff] rfl rfl (any_of HT_.out (by kernel_rfl)) (fun _ _ _ h => h) (Or.inl ⟨by rfl,?_⟩) ?_ ?_
          rotate_left
          ·intro w'
           go_simp
           with_reducible rfl
          rotate_left
          ·simp only [Act.put,q1_,q2_,q3_,i64_w,i32_w]
           rfl
          refine pure_ (i:=10) (N:=some 36) (v:=?_) (a':=?_) #[tt,tt,tt,ff,tt,tt,tt,ff,tt,tt,tt,ff,ff,ff,ff,ff,ff,ff,ff,ff,ff,ff,ff,ff,ff,ff,ff] rfl rfl (any_of HT_.out (by kernel_rfl)) (fun _ _ _ h => h) (Or.inl ⟨by rfl,?_⟩) ?_ ?_
          rotate_left
          ·intro w'
           go_simp
           with_reducible rfl
          rotate_left
          ·simp only [Act.put,q1_,q2_,q3_,i64_w,i32_w]
           rfl
          refine pure_ (i:=12) (N:=some 38) (v:=?_) (a':=?_) #[tt,tt,tt,ff,tt,tt,tt,ff,tt,tt,tt,ff,tt,ff,ff,ff,ff,ff,ff,ff,ff,ff,ff,ff,ff,ff,ff] rfl rfl (any_of HT_.out (by kernel_rfl)) (fun _ _ _ h => h) (Or.inl ⟨by rfl,?_⟩) ?_ ?_
          rotate_left
          ·intro w'
           go_simp
           with_reducible rfl
          rotate_left
          ·simp only [Act.put,q1_,q2_,q3_,i64_w,i32_w]
           rfl
          refine pure_ (i:=13) (N:=some 39) (v:=?_) (a':=?_) #[tt,tt,tt,ff,tt,tt,tt,ff,tt,tt,tt,ff,tt,tt,ff,ff,ff,ff,ff,ff,ff,ff,ff,ff,ff,ff,ff] rfl rfl (any_of HT_.out (by kernel_rfl)) (fun _ _ _ h => h) (Or.inl ⟨by rfl,?_⟩) ?_ ?_
          rotate_left
          ·intro w'
           go_simp
           with_reducible rfl
          rotate_left
          ·simp only [Act.put,q1_,q2_,q3_,i64_w,i32_w]
           rfl
          refine pure_ (i:=14) (N:=some 40) (v:=?_) (a':=?_) #[tt,tt,tt,ff,tt,tt,tt,ff,tt,tt,tt,ff,tt,tt,tt,ff,ff,ff,ff,ff,ff,ff,ff,ff,ff,ff,ff] rfl rfl (any_of HT_.out (by kernel_rfl)) (fun _ _ _ h => h) (Or.inl ⟨by rfl,?_⟩) ?_ ?_
          rotate_left
          ·intro w'
           go_simp
           with_reducible rfl
          rotate_left
          ·simp only [Act.put,q1_,q2_,q3_,i64_w,i32_w]
           rfl
          refine pure_ (i:=16) (N:=some 42) (v:=?_) (a':=?_) #[tt,tt,tt,ff,tt,tt,tt,ff,tt,tt,tt,ff,tt,tt,tt,ff,tt,ff,ff,ff,ff,ff,ff,ff,ff,ff,ff] rfl rfl (any_of HT_.out (by kernel_rfl)) (fun _ _ _ h => h) (Or.inl ⟨by rfl,?_⟩) ?_ ?_
          rotate_left
          ·intro w'
           go_simp
           with_reducible rfl
          rotate_left
          ·simp only [Act.put,q1_,q2_,q3_,i64_w,i32_w]
           rfl
          refine pure_ (i:=17) (N:=some 43) (v:=?_) (a':=?_) #[tt,tt,tt,ff,tt,tt,tt,ff,tt,tt,tt,ff,tt,tt,tt,ff,tt,tt,ff,ff,ff,ff,ff,ff,ff,ff,ff] rfl rfl (any_of HT_.out (by kernel_rfl)) (fun _ _ _ h => h) (Or.inl ⟨by rfl,?_⟩) ?_ ?_
          rotate_left
          ·intro w'
           go_simp
           with_reducible rfl
          rotate_left
          ·simp only [Act.put,q1_,q2_,q3_,i64_w,i32_w]
           rfl
          refine pure_ (i:=18) (N:=some 44) (v:=?_) (a':=?_) #[tt,tt,tt,ff,tt,tt,tt,ff,tt,tt,tt,ff,tt,tt,tt,ff,tt,tt,tt,ff,ff,ff,ff,ff,ff,ff,ff] rfl rfl (any_of HT_.out (by kernel_rfl)) (fun _ _ _ h => h) (Or.inl ⟨by rfl,?_⟩) ?_ ?_
          rotate_left
          ·intro w'
           go_simp
           with_reducible rfl
          rotate_left
          ·simp only [Act.put,q1_,q2_,q3_,i64_w,i32_w]
           rfl
          refine pure_ (i:=20) (N:=some 46) (v:=?_) (a':=?_) #[tt,tt,tt,ff,tt,tt,tt,ff,tt,tt,tt,ff,tt,tt,tt,ff,tt,tt,tt,ff,tt,ff,ff,ff,ff,ff,ff] rfl rfl (any_of HT_.out (by kernel_rfl)) (fun _ _ _ h => h) (Or.inl ⟨by rfl,?_⟩) ?_ ?_
          rotate_left
          ·intro w'
           go_simp
           with_reducible rfl
          rotate_left
          ·simp only [Act.put,q1_,q2_,q3_,i64_w,i32_w]
           rfl
          refine pure_ (i:=21) (N:=some 47) (v:=?_) (a':=?_) #[tt,tt,tt,ff,tt,tt,tt,ff,tt,tt,tt,ff,tt,tt,tt,ff,tt,tt,tt,ff,tt,tt,ff,ff,ff,ff,ff] rfl rfl (any_of HT_.out (by kernel_rfl)) (fun _ _ _ h => h) (Or.inl ⟨by rfl,?_⟩) ?_ ?_
          rotate_left
          ·intro w'
           go_simp
           with_reducible rfl
          rotate_left
          ·simp only [Act.put,q1_,q2_,q3_,i64_w,i32_w]
           rfl
          refine pure_ (i:=22) (N:=some 48) (v:=?_) (a':=?_) #[tt,tt,tt,ff,tt,tt,tt,ff,tt,tt,tt,ff,tt,tt,tt,ff,tt,tt,tt,ff,tt,tt,tt,ff,ff,ff,ff] rfl rfl (any_of HT_.out (by kernel_rfl)) (fun _ _ _ h => h) (Or.inl ⟨by rfl,?_⟩) ?_ ?_
          rotate_left
          ·intro w'
           go_simp
           with_reducible rfl
          rotate_left
          ·simp only [Act.put,q1_,q2_,q3_,i64_w,i32_w]
           rfl
          refine take_ (i:=3) (N:=some 29) (v:=?_) (a':=?_) #[tt,tt,tt,tt,tt,tt,tt,ff,tt,tt,tt,ff,tt,tt,tt,ff,tt,tt,tt,ff,tt,tt,tt,ff,ff,ff,ff] rfl rfl (take_ofW HT_.out HW_.out (by kernel_rfl)) (fun _ _ _ h => h) (Or.inl ⟨by rfl,?_⟩) hHeld ?_ ?_
          rotate_left
          ·rintro w' ⟨s0,s1,s2,s3,s4,s5,s6,s7,s8,s9,s10,s11,s12,s13,s14,s15,s16,s17,s18,s19,s20,s21,s22,s23⟩
           go_simp
           with_reducible rfl
          rotate_left
          ·simp only [Act.put,q1_,q2_,q3_,i64_w,i32_w]
           rfl
          refine take_ (i:=7) (N:=some 33) (v:=?_) (a':=?_) #[tt,tt,tt,tt,tt,tt,tt,tt,tt,tt,tt,ff,tt,tt,tt,ff,tt,tt,tt,ff,tt,tt,tt,ff,ff,ff,ff] rfl rfl (take_ofW HT_.out HW_.out (by kernel_rfl)) (fun _ _ _ h => h) (Or.inl ⟨by rfl,?_⟩) hHeld ?_ ?_
          rotate_left
          ·rintro w' ⟨s0,s1,s2,s3,s4,s5,s6,s7,s8,s9,s10,s11,s12,s13,s14,s15,s16,s17,s18,s19,s20,s21,s22,s23⟩
           go_simp
           with_reducible rfl
          rotate_left
          ·simp only [Act.put,q1_,q2_,q3_,i64_w,i32_w]
           rfl
          refine take_ (i:=11) (N:=some 37) (v:=?_) (a':=?_) #[tt,tt,tt,tt,tt,tt,tt,tt,tt,tt,tt,tt,tt,tt,tt,ff,tt,tt,tt,ff,tt,tt,tt,ff,ff,ff,ff] rfl rfl (take_ofW HT_.out HW_.out (by kernel_rfl)) (fun _ _ _ h => h) (Or.inl ⟨by rfl,?_⟩) hHeld ?_ ?_
          rotate_left
          ·rintro w' ⟨s0,s1,s2,s3,s4,s5,s6,s7,s8,s9,s10,s11,s12,s13,s14,s15,s16,s17,s18,s19,s20,s21,s22,s23⟩
           go_simp
           with_reducible rfl
          rotate_left
          ·simp only [Act.put,q1_,q2_,q3_,i64_w,i32_w]
           rfl
          refine take_ (i:=15) (N:=some 41) (v:=?_) (a':=?_) #[tt,tt,tt,tt,tt,tt,tt,tt,tt,tt,tt,tt,tt,tt,tt,tt,tt,tt,tt,ff,tt,tt,tt,ff,ff,ff,ff] rfl rfl (take_ofW HT_.out HW_.out (by kernel_rfl)) (fun _ _ _ h => h) (Or.inl ⟨by rfl,?_⟩) hHeld ?_ ?_
          rotate_left
          ·rintro w' ⟨s0,s1,s2,s3,s4,s5,s6,s7,s8,s9,s10,s11,s12,s13,s14,s15,s16,s17,s18,s19,s20,s21,s22,s23⟩
           go_simp
           with_reducible rfl
          rotate_left
          ·simp only [Act.put,q1_,q2_,q3_,i64_w,i32_w]
           rfl
          refine take_ (i:=19) (N:=some 45) (v:=?_) (a':=?_) #[tt,tt,tt,tt,tt,tt,tt,tt,tt,tt,tt,tt,tt,tt,tt,tt,tt,tt,tt,tt,tt,tt,tt,ff,ff,ff,ff] rfl rfl (take_ofW HT_.out HW_.out (by kernel_rfl)) (fun _ _ _ h => h) (Or.inl ⟨by rfl,?_⟩) hHeld ?_ ?_
          rotate_left
          ·rintro w' ⟨s0,s1,s2,s3,s4,s5,s6,s7,s8,s9,s10,s11,s12,s13,s14,s15,s16,s17,s18,s19,s20,s21,s22,s23⟩
           go_simp
           with_reducible rfl
          rotate_left
          ·simp only [Act.put,q1_,q2_,q3_,i64_w,i32_w]
           rfl
          refine take_ (i:=23) (N:=some 49) (v:=?_) (a':=?_) #[tt,tt,tt,tt,tt,tt,tt,tt,tt,tt,tt,tt,tt,tt,tt,tt,tt,tt,tt,tt,tt,tt,tt,tt,ff,ff,ff] rfl rfl (take_ofW HT_.out HW_.out (by kernel_rfl)) (fun _ _ _ h => h) (Or.inl ⟨by rfl,?_⟩) hHeld ?_ ?_
          rotate_left
          ·rintro w' ⟨s0,s1,s2,s3,s4,s5,s6,s7,s8,s9,s10,s11,s12,s13,s14,s15,s16,s17,s18,s19,s20,s21,s22,s23⟩
           go_simp
           with_reducible rfl
          rotate_left
          ·simp only [Act.put,q1_,q2_,q3_,i64_w,i32_w]
           rfl
          refine pure_ (i:=24) (N:=some 50) (v:=?_) (a':=?_) #[tt,tt,tt,tt,tt,tt,tt,tt,tt,tt,tt,tt,tt,tt,tt,tt,tt,tt,tt,tt,tt,tt,tt,tt,tt,ff,ff] rfl rfl (any_of HT_.out (by kernel_rfl)) (fun _ _ _ h => h) (Or.inl ⟨by rfl,?_⟩) ?_ ?_
          rotate_left
          ·intro w'
           go_simp
           with_reducible rfl
          rotate_left
          ·simp only [Act.put,q1_,q2_,q3_,i64_w,i32_w]
           rfl
          refine one_ (i:=25) (N:=some 7) #[tt,tt,tt,tt,tt,tt,tt,tt,tt,tt,tt,tt,tt,tt,tt,tt,tt,tt,tt,tt,tt,tt,tt,tt,tt,tt,ff] rfl rfl (one_of HT_.out (by kernel_rfl)) (by decide) (fun K hK => ?_)
          refine box_step ?hg (N:=7) ?hd (cs:=#[.int .i64 0,.int .i64 0,.int .i64 0,.int .i64 0,.int .i64 0,.int .i64 0,.float .f64 0,.bool false,.slice none 0 0,.int .i64 0,.int .i64 0,.int .i64 0]) (t:=32) ?hr ?_;(case hd => rfl);(case hg => rfl);(case hr => first | (go_simp;done) | (go_simp;rfl))
          intro gb480 hg w21 hbox hb
          have HS0_:=(hb.cell (World.block_lt_of_cell? _ _ (hHeld.1))).trans (hHeld.1)
          have HS1_:=(hb.cell (World.block_lt_of_cell? _ _ (hHeld.2.1))).trans (hHeld.2.1)
          have HS2_:=(hb.cell (World.block_lt_of_cell? _ _ (hHeld.2.2.1))).trans (hHeld.2.2.1)
          have HS3_:=(hb.cell (World.block_lt_of_cell? _ _ (hHeld.2.2.2.1))).trans (hHeld.2.2.2.1)
          have HS4_:=(hb.cell (World.block_lt_of_cell? _ _ (hHeld.2.2.2.2.1))).trans (hHeld.2.2.2.2.1)
          have HS5_:=(hb.cell (World.block_lt_of_cell? _ _ (hHeld.2.2.2.2.2.1))).trans (hHeld.2.2.2.2.2.1)
          have HS6_:=(hb.cell (World.block_lt_of_cell? _ _ (hHeld.2.2.2.2.2.2.1))).trans (hHeld.2.2.2.2.2.2.1)
          have HS7_:=(hb.cell (World.block_lt_of_cell? _ _ (hHeld.2.2.2.2.2.2.2.1))).trans (hHeld.2.2.2.2.2.2.2.1)
          have HS8_:=(hb.cell (World.block_lt_of_cell? _ _ (hHeld.2.2.2.2.2.2.2.2.1))).trans (hHeld.2.2.2.2.2.2.2.2.1)
          have HS9_:=(hb.cell (World.block_lt_of_cell? _ _ (hHeld.2.2.2.2.2.2.2.2.2.1))).trans (hHeld.2.2.2.2.2.2.2.2.2.1)
          have HS10_:=(hb.cell (World.block_lt_of_cell? _ _ (hHeld.2.2.2.2.2.2.2.2.2.2.1))).trans (hHeld.2.2.2.2.2.2.2.2.2.2.1)
          have HS11_:=(hb.cell (World.block_lt_of_cell? _ _ (hHeld.2.2.2.2.2.2.2.2.2.2.2.1))).trans (hHeld.2.2.2.2.2.2.2.2.2.2.2.1)
          have HS12_:=(hb.cell (World.block_lt_of_cell? _ _ (hHeld.2.2.2.2.2.2.2.2.2.2.2.2.1))).trans (hHeld.2.2.2.2.2.2.2.2.2.2.2.2.1)
          have HS13_:=(hb.cell (World.block_lt_of_cell? _ _ (hHeld.2.2.2.2.2.2.2.2.2.2.2.2.2.1))).trans (hHeld.2.2.2.2.2.2.2.2.2.2.2.2.2.1)
          have HS14_:=(hb.cell (World.block_lt_of_cell? _ _ (hHeld.2.2.2.2.2.2.2.2.2.2.2.2.2.2.1))).trans (hHeld.2.2.2.2.2.2.2.2.2.2.2.2.2.2.1)
          have HS15_:=(hb.cell (World.block_lt_of_cell? _ _ (hHeld.2.2.2.2.2.2.2.2.2.2.2.2.2.2.2.1))).trans (hHeld.2.2.2.2.2.2.2.2.2.2.2.2.2.2.2.1)
          have HS16_:=(hb.cell (World.block_lt_of_cell? _ _ (hHeld.2.2.2.2.2.2.2.2.2.2.2.2.2.2.2.2.1))).trans (hHeld.2.2.2.2.2.2.2.2.2.2.2.2.2.2.2.2.1)
          have HS17_:=(hb.cell (World.block_lt_of_cell? _ _ (hHeld.2.2.2.2.2.2.2.2.2.2.2.2.2.2.2.2.2.1))).trans (hHeld.2.2.2.2.2.2.2.2.2.2.2.2.2.2.2.2.2.1)
          have HS18_:=(hb.cell (World.block_lt_of_cell? _ _ (hHeld.2.2.2.2.2.2.2.2.2.2.2.2.2.2.2.2.2.2.1))).trans (hHeld.2.2.2.2.2.2.2.2.2.2.2.2.2.2.2.2.2.2.1)
          have HS19_:=(hb.cell (World.block_lt_of_cell? _ _ (hHeld.2.2.2.2.2.2.2.2.2.2.2.2.2.2.2.2.2.2.2.1))).trans (hHeld.2.2.2.2.2.2.2.2.2.2.2.2.2.2.2.2.2.2.2.1)
          have HS20_:=(hb.cell (World.block_lt_of_cell? _ _ (hHeld.2.2.2.2.2.2.2.2.2.2.2.2.2.2.2.2.2.2.2.2.1))).trans (hHeld.2.2.2.2.2.2.2.2.2.2.2.2.2.2.2.2.2.2.2.2.1)
          have HS21_:=(hb.cell (World.block_lt_of_cell? _ _ (hHeld.2.2.2.2.2.2.2.2.2.2.2.2.2.2.2.2.2.2.2.2.2.1))).trans (hHeld.2.2.2.2.2.2.2.2.2.2.2.2.2.2.2.2.2.2.2.2.2.1)
          have HS22_:=(hb.cell (World.block_lt_of_cell? _ _ (hHeld.2.2.2.2.2.2.2.2.2.2.2.2.2.2.2.2.2.2.2.2.2.2.1))).trans (hHeld.2.2.2.2.2.2.2.2.2.2.2.2.2.2.2.2.2.2.2.2.2.2.1)
          have HS23_:=(hb.cell (World.block_lt_of_cell? _ _ (hHeld.2.2.2.2.2.2.2.2.2.2.2.2.2.2.2.2.2.2.2.2.2.2.2))).trans (hHeld.2.2.2.2.2.2.2.2.2.2.2.2.2.2.2.2.2.2.2.2.2.2.2)
          have n0_:=Aside0.mk (Kd.R_below (by (with_reducible repeat (first | apply Kd.R_alloc | apply Kd.R_drewN | apply Kd.R_drew));exact HO_4.out) hb)
          have n1_:=Aside0.mk (blk_below (g:=gb465) (o:=.cells #[.int .i64 0,.int .i64 0,.int .i64 0,.int .i64 0,.int .i64 0,.int .i64 0,.float .f64 0,.bool false,.slice none 0 0,.int .i64 0,.int .i64 0,.int .i64 0] 32 (0,0)) (by (with_reducible repeat (first | refine blk_drewN ?_ _ | refine blk_drew ?_ | refine blk_alloc ?_ _));exact BK465.out) hb)
          have n2_:=Aside0.mk (below_step (by repeat (first | (with_reducible first | exact HB.out | apply below_alloc | apply pw_below_drewN | apply below_drew1 | refine below_set ?_ GE465.out) | exact HB.out)) hb)
          have n3_:=Aside0.mk (hbox)
          have n4_:=Aside0.mk ((by rw [hg];exact (below_size (by repeat (first | (with_reducible first | exact HB.out | apply below_alloc | apply pw_below_drewN | apply below_drew1 | refine below_set ?_ GE465.out) | exact HB.out))) : w.heap.size ≤ gb480))
          have n5_:=Aside0.mk ((by rw [hg];exact (below_size (by repeat (first | (with_reducible first | exact HB.out | apply below_alloc | apply pw_below_drewN | apply below_drew1 | refine below_set ?_ GE465.out) | exact HB.out))) : w.heap.size ≤ gb480))
          have n6_:=Aside0.mk ((by rw [hg];exact Nat.ne_of_lt (blk_lt (g:=gb465) (o:=.cells #[.int .i64 0,.int .i64 0,.int .i64 0,.int .i64 0,.int .i64 0,.int .i64 0,.float .f64 0,.bool false,.slice none 0 0,.int .i64 0,.int .i64 0,.int .i64 0] 32 (0,0)) (by (with_reducible repeat (first | refine blk_drewN ?_ _ | refine blk_drew ?_ | refine blk_alloc ?_ _));exact BK465.out)) : gb465 ≠ gb480))
          have n7_:=Aside0.mk ((by rw [hg];exact Nat.ne_of_gt (blk_lt (g:=gb465) (o:=.cells #[.int .i64 0,.int .i64 0,.int .i64 0,.int .i64 0,.int .i64 0,.int .i64 0,.float .f64 0,.bool false,.slice none 0 0,.int .i64 0,.int .i64 0,.int .i64 0] 32 (0,0)) (by (with_reducible repeat (first | refine blk_drewN ?_ _ | refine blk_drew ?_ | refine blk_alloc ?_ _));exact BK465.out)) : gb480 ≠ gb465))
          clear HO_4
          clear BK465
          clear HB
          have HO_4:=n0_
          have BK465:=n1_
          have HB:=n2_
          have BK480:=n3_
          have GW480:=n4_
          have GE480:=n5_
          have NB465_480:=n6_
          have NB480_465:=n7_
          clear n0_ n1_ n2_ n3_ n4_ n5_ n6_ n7_
          clear hb hbox hg
          refine hK.out _ _ ⟨HS0_,HS1_,HS2_,HS3_,HS4_,HS5_,HS6_,HS7_,HS8_,HS9_,HS10_,HS11_,HS12_,HS13_,HS14_,HS15_,HS16_,HS17_,HS18_,HS19_,HS20_,HS21_,HS22_,HS23_⟩ (fun hHeld => ?_)
          clear hK K
          refine norm_ (a':=?_) ?_ ?_
          rotate_left
          ·show Act.put _ (some 7) _ = _
           simp only [Act.put,q1_,q2_,q3_,i64_w,i32_w]
           rfl
          refine last_ (i:=26) (N:=none) #[tt,tt,tt,tt,tt,tt,tt,tt,tt,tt,tt,tt,tt,tt,tt,tt,tt,tt,tt,tt,tt,tt,tt,tt,tt,tt,tt] rfl rfl (one_of HT_.out (by kernel_rfl)) (by decide) (fun K hK => ?_)
          have hs22 : w21.cell? ⟨gb480,0,none⟩ = some (.int .i64 0):=(blk_cell BK480.out 0).trans rfl
          have hfs22:=blk_frozen BK480.out 0
          have hns22_0:=NB465_480.out
          have hms22_0:=NB480_465.out
          have hs23 : w21.cell? ⟨gb480,1,none⟩ = some (.int .i64 0):=(blk_cell BK480.out 1).trans rfl
          have hfs23:=blk_frozen BK480.out 1
          have hns23_0:=NB465_480.out
          have hms23_0:=NB480_465.out
          have hs24 : w21.cell? ⟨gb480,2,none⟩ = some (.int .i64 0):=(blk_cell BK480.out 2).trans rfl
          have hfs24:=blk_frozen BK480.out 2
          have hns24_0:=NB465_480.out
          have hms24_0:=NB480_465.out
          have hs25 : w21.cell? ⟨gb480,3,none⟩ = some (.int .i64 0):=(blk_cell BK480.out 3).trans rfl
          have hfs25:=blk_frozen BK480.out 3
          have hns25_0:=NB465_480.out
          have hms25_0:=NB480_465.out
          have hs26 : w21.cell? ⟨gb480,4,none⟩ = some (.int .i64 0):=(blk_cell BK480.out 4).trans rfl
          have hfs26:=blk_frozen BK480.out 4
          have hns26_0:=NB465_480.out
          have hms26_0:=NB480_465.out
          have hs27 : w21.cell? ⟨gb480,5,none⟩ = some (.int .i64 0):=(blk_cell BK480.out 5).trans rfl
          have hfs27:=blk_frozen BK480.out 5
          have hns27_0:=NB465_480.out
          have hms27_0:=NB480_465.out
          have hs28 : w21.cell? ⟨gb480,6,none⟩ = some (.float .f64 0):=(blk_cell BK480.out 6).trans rfl
          have hfs28:=blk_frozen BK480.out 6
          have hns28_0:=NB465_480.out
          have hms28_0:=NB480_465.out
          have hs29 : w21.cell? ⟨gb480,7,none⟩ = some (.bool false):=(blk_cell BK480.out 7).trans rfl
          have hfs29:=blk_frozen BK480.out 7
          have hns29_0:=NB465_480.out
          have hms29_0:=NB480_465.out
          have hs30 : w21.cell? ⟨gb480,8,none⟩ = some (.slice none 0 0):=(blk_cell BK480.out 8).trans rfl
          have hfs30:=blk_frozen BK480.out 8
          have hns30_0:=NB465_480.out
          have hms30_0:=NB480_465.out
          have hs31 : w21.cell? ⟨gb480,9,none⟩ = some (.int .i64 0):=(blk_cell BK480.out 9).trans rfl
          have hfs31:=blk_frozen BK480.out 9
          have hns31_0:=NB465_480.out
          have hms31_0:=NB480_465.out
          have hs32 : w21.cell? ⟨gb480,10,none⟩ = some (.int .i64 0):=(blk_cell BK480.out 10).trans rfl
          have hfs32:=blk_frozen BK480.out 10
          have hns32_0:=NB465_480.out
          have hms32_0:=NB480_465.out
          have hs33 : w21.cell? ⟨gb480,11,none⟩ = some (.int .i64 0):=(blk_cell BK480.out 11).trans rfl
          have hfs33:=blk_frozen BK480.out 11
          have hns33_0:=NB465_480.out
          have hms33_0:=NB480_465.out
          refine skip_ (w1:=?_) (by rfl) rfl ?_ ?_
          rotate_left
          ·go_simp
           rfl
          refine hK.out _ _ ?_
          clear hK K
          refine done_ (done_of HT_.out (by kernel_rfl)) ?_
          go_upto_region 5 with (fail)
          go_cut [55] (fun v55 wc => ∃ (kq : Nat) (x55_17 : Bool),v55 = .bool x55_17 ∧ Aside0 (undorec_Decode.j1 kq t469 x55_17 ((rd_T86 t469 1).f1) ((rd_T86 t469 2).f1) ((rd_T86 t469 3).f1) ((rd_T86 t469 0).f1) ((rd_T86 t469 4).f1) ((rd_T86 t469 5).f1) 0 false 0 0 0 = some (r1,r2,r3,r4,r5,r6,r7,r8,r9,r10,r11,r12,r13)) ∧ Aside0 (kq ≤ kj3) ∧ Aside0 (Kd.R k86 86 wc w.heap.size (fun _ => True) (.slice (some ad474) t469.length co20) t469) ∧ Aside0 (wc.heap[gb465]? = some (.cells #[.int .i64 0,.int .i64 0,.int .i64 0,.int .i64 0,.int .i64 0,.int .i64 0,.float .f64 0,.bool false,(.slice none 0 0),.int .i64 0,.int .i64 0,.int .i64 0] 32 (0,0))) ∧ Aside0 (wc.heap[gb480]? = some (.cells #[.int .i64 ((rd_T86 t469 1).f1),.int .i64 ((rd_T86 t469 2).f1),.int .i64 ((rd_T86 t469 3).f1),.int .i64 ((rd_T86 t469 0).f1),.int .i64 ((rd_T86 t469 4).f1),.int .i64 ((rd_T86 t469 5).f1),.float .f64 0,.bool false,(.slice none 0 0),.int .i64 0,.int .i64 0,.int .i64 0] 32 (0,0))) ∧ Aside0 (Below w.heap.size w wc))
          case first =>
           have H:=HC18.out
           clear HC18
           by_cases c34 : 6 < (t469.length : Int)
           ·rw [if_pos c34] at H
            have c34b0 : decide (6 < (t469.length : Int)) = true:=decide_eq_true c34
            have c34b1 : decide (6 < t469.length) = true:=decide_eq_true (by omega)
            clear c34
            (first | rw [c34b0] | (simp only [i64_w,i32_w];rw [c34b0]) | skip)
            have H':=Aside0.mk H
            clear H
            have p481 : 0 ≤ (6 : Int):=(by omega)
            have q481 : 6 < (t469.length : Int):=of_decide_eq_true (by first | (with_reducible assumption) | assumption)
            obtain ⟨ad481,e481,hx481_0,hx481_1,hx481_2,hx481_3⟩:=at_T86 (Kd.R_reads' HO_4.out).2.2 6 p481 q481
            obtain rfl : ad474 = ad481:=(by injection e481)
            (try simp only [show (6 : Int).toNat = 6 from rfl,Nat.reduceMul,Nat.reduceEqDiff,Go.Addr.add,↓reduceIte] at hx481_0)
            (try simp only [show (6 : Int).toNat = 6 from rfl,Nat.reduceMul,Nat.reduceEqDiff,Go.Addr.add,↓reduceIte] at hx481_1)
            (try simp only [show (6 : Int).toNat = 6 from rfl,Nat.reduceMul,Nat.reduceEqDiff,Go.Addr.add,↓reduceIte] at hx481_2)
            (try simp only [show (6 : Int).toNat = 6 from rfl,Nat.reduceMul,Nat.reduceEqDiff,Go.Addr.add,↓reduceIte] at hx481_3)
            have qi481 : (6 < t469.length) = True:=eq_true (by omega)
            (try rw [show ((6 : Int)).toNat = 6 from rfl] at hx481_0)
            (try rw [show 6 * 4 = 24 from rfl] at hx481_0)
            (try rw [show ((6 : Int)).toNat = 6 from rfl] at hx481_1)
            (try rw [show 6 * 4 = 24 from rfl] at hx481_1)
            (try rw [show ((6 : Int)).toNat = 6 from rfl] at hx481_2)
            (try rw [show 6 * 4 = 24 from rfl] at hx481_2)
            (try rw [show ((6 : Int)).toNat = 6 from rfl] at hx481_3)
            (try rw [show 6 * 4 = 24 from rfl] at hx481_3)
            have hn481_0 : ad474.block ≠ gb480:=Kd.own_blk (Kd.R_ne HO_4.out BK480.out (by decide))
            have hn481_1 : ad474.block ≠ gb480:=Kd.own_blk (Kd.R_ne HO_4.out BK480.out (by decide))
            have hn481_2 : ad474.block ≠ gb480:=Kd.own_blk (Kd.R_ne HO_4.out BK480.out (by decide))
            have hn481_3 : ad474.block ≠ gb480:=Kd.own_blk (Kd.R_ne HO_4.out BK480.out (by decide))
            have hn481_4 : ad474.block ≠ gb480:=Kd.own_blk (Kd.R_ne HO_4.out BK480.out (by decide))
            have hn481_5 : ad474.block ≠ gb480:=Kd.own_blk (Kd.R_ne HO_4.out BK480.out (by decide))
            have hn481_6 : ad474.block ≠ gb480:=Kd.own_blk (Kd.R_ne HO_4.out BK480.out (by decide))
            have hn481_7 : ad474.block ≠ gb480:=Kd.own_blk (Kd.R_ne HO_4.out BK480.out (by decide))
            have hn481_8 : ad474.block ≠ gb480:=Kd.own_blk (Kd.R_ne HO_4.out BK480.out (by decide))
            have hn481_9 : ad474.block ≠ gb480:=Kd.own_blk (Kd.R_ne HO_4.out BK480.out (by decide))
            have hn481_10 : ad474.block ≠ gb480:=Kd.own_blk (Kd.R_ne HO_4.out BK480.out (by decide))
            have hn481_11 : ad474.block ≠ gb480:=Kd.own_blk (Kd.R_ne HO_4.out BK480.out (by decide))
            replace hx481_0:=(cell_far (p:=⟨gb480,0,none⟩) (by first | (rw [add_block];exact hn481_0) | (show (Addr.add _ _).block ≠ _;rw [add_block];exact hn481_0) | exact hn481_0) (.int .i64 ((rd_T86 t469 1).f1))).trans hx481_0
            replace hx481_1:=(cell_far (p:=⟨gb480,0,none⟩) (by first | (rw [add_block];exact hn481_0) | (show (Addr.add _ _).block ≠ _;rw [add_block];exact hn481_0) | exact hn481_0) (.int .i64 ((rd_T86 t469 1).f1))).trans hx481_1
            replace hx481_2:=(cell_far (p:=⟨gb480,0,none⟩) (by first | (rw [add_block];exact hn481_0) | (show (Addr.add _ _).block ≠ _;rw [add_block];exact hn481_0) | exact hn481_0) (.int .i64 ((rd_T86 t469 1).f1))).trans hx481_2
            replace hx481_3:=(cell_far (p:=⟨gb480,0,none⟩) (by first | (rw [add_block];exact hn481_0) | (show (Addr.add _ _).block ≠ _;rw [add_block];exact hn481_0) | exact hn481_0) (.int .i64 ((rd_T86 t469 1).f1))).trans hx481_3
            replace hx481_0:=(cell_far (p:=⟨gb480,1,none⟩) (by first | (rw [add_block];exact hn481_1) | (show (Addr.add _ _).block ≠ _;rw [add_block];exact hn481_1) | exact hn481_1) (.int .i64 ((rd_T86 t469 2).f1))).trans hx481_0
            replace hx481_1:=(cell_far (p:=⟨gb480,1,none⟩) (by first | (rw [add_block];exact hn481_1) | (show (Addr.add _ _).block ≠ _;rw [add_block];exact hn481_1) | exact hn481_1) (.int .i64 ((rd_T86 t469 2).f1))).trans hx481_1
            replace hx481_2:=(cell_far (p:=⟨gb480,1,none⟩) (by first | (rw [add_block];exact hn481_1) | (show (Addr.add _ _).block ≠ _;rw [add_block];exact hn481_1) | exact hn481_1) (.int .i64 ((rd_T86 t469 2).f1))).trans hx481_2
            replace hx481_3:=(cell_far (p:=⟨gb480,1,none⟩) (by first | (rw [add_block];exact hn481_1) | (show (Addr.add _ _).block ≠ _;rw [add_block];exact hn481_1) | exact hn481_1) (.int .i64 ((rd_T86 t469 2).f1))).trans hx481_3
            replace hx481_0:=(cell_far (p:=⟨gb480,2,none⟩) (by first | (rw [add_block];exact hn481_2) | (show (Addr.add _ _).block ≠ _;rw [add_block];exact hn481_2) | exact hn481_2) (.int .i64 ((rd_T86 t469 3).f1))).trans hx481_0
            replace hx481_1:=(cell_far (p:=⟨gb480,2,none⟩) (by first | (rw [add_block];exact hn481_2) | (show (Addr.add _ _).block ≠ _;rw [add_block];exact hn481_2) | exact hn481_2) (.int .i64 ((rd_T86 t469 3).f1))).trans hx481_1
            replace hx481_2:=(cell_far (p:=⟨gb480,2,none⟩) (by first | (rw [add_block];exact hn481_2) | (show (Addr.add _ _).block ≠ _;rw [add_block];exact hn481_2) | exact hn481_2) (.int .i64 ((rd_T86 t469 3).f1))).trans hx481_2
            replace hx481_3:=(cell_far (p:=⟨gb480,2,none⟩) (by first | (rw [add_block];exact hn481_2) | (show (Addr.add _ _).block ≠ _;rw [add_block];exact hn481_2) | exact hn481_2) (.int .i64 ((rd_T86 t469 3).f1))).trans hx481_3
            replace hx481_0:=(cell_far (p:=⟨gb480,3,none⟩) (by first | (rw [add_block];exact hn481_3) | (show (Addr.add _ _).block ≠ _;rw [add_block];exact hn481_3) | exact hn481_3) (.int .i64 ((rd_T86 t469 0).f1))).trans hx481_0
            replace hx481_1:=(cell_far (p:=⟨gb480,3,none⟩) (by first | (rw [add_block];exact hn481_3) | (show (Addr.add _ _).block ≠ _;rw [add_block];exact hn481_3) | exact hn481_3) (.int .i64 ((rd_T86 t469 0).f1))).trans hx481_1
            replace hx481_2:=(cell_far (p:=⟨gb480,3,none⟩) (by first | (rw [add_block];exact hn481_3) | (show (Addr.add _ _).block ≠ _;rw [add_block];exact hn481_3) | exact hn481_3) (.int .i64 ((rd_T86 t469 0).f1))).trans hx481_2
            replace hx481_3:=(cell_far (p:=⟨gb480,3,none⟩) (by first | (rw [add_block];exact hn481_3) | (show (Addr.add _ _).block ≠ _;rw [add_block];exact hn481_3) | exact hn481_3) (.int .i64 ((rd_T86 t469 0).f1))).trans hx481_3
            replace hx481_0:=(cell_far (p:=⟨gb480,4,none⟩) (by first | (rw [add_block];exact hn481_4) | (show (Addr.add _ _).block ≠ _;rw [add_block];exact hn481_4) | exact hn481_4) (.int .i64 ((rd_T86 t469 4).f1))).trans hx481_0
            replace hx481_1:=(cell_far (p:=⟨gb480,4,none⟩) (by first | (rw [add_block];exact hn481_4) | (show (Addr.add _ _).block ≠ _;rw [add_block];exact hn481_4) | exact hn481_4) (.int .i64 ((rd_T86 t469 4).f1))).trans hx481_1
            replace hx481_2:=(cell_far (p:=⟨gb480,4,none⟩) (by first | (rw [add_block];exact hn481_4) | (show (Addr.add _ _).block ≠ _;rw [add_block];exact hn481_4) | exact hn481_4) (.int .i64 ((rd_T86 t469 4).f1))).trans hx481_2
            replace hx481_3:=(cell_far (p:=⟨gb480,4,none⟩) (by first | (rw [add_block];exact hn481_4) | (show (Addr.add _ _).block ≠ _;rw [add_block];exact hn481_4) | exact hn481_4) (.int .i64 ((rd_T86 t469 4).f1))).trans hx481_3
            replace hx481_0:=(cell_far (p:=⟨gb480,5,none⟩) (by first | (rw [add_block];exact hn481_5) | (show (Addr.add _ _).block ≠ _;rw [add_block];exact hn481_5) | exact hn481_5) (.int .i64 ((rd_T86 t469 5).f1))).trans hx481_0
            replace hx481_1:=(cell_far (p:=⟨gb480,5,none⟩) (by first | (rw [add_block];exact hn481_5) | (show (Addr.add _ _).block ≠ _;rw [add_block];exact hn481_5) | exact hn481_5) (.int .i64 ((rd_T86 t469 5).f1))).trans hx481_1
            replace hx481_2:=(cell_far (p:=⟨gb480,5,none⟩) (by first | (rw [add_block];exact hn481_5) | (show (Addr.add _ _).block ≠ _;rw [add_block];exact hn481_5) | exact hn481_5) (.int .i64 ((rd_T86 t469 5).f1))).trans hx481_2
            replace hx481_3:=(cell_far (p:=⟨gb480,5,none⟩) (by first | (rw [add_block];exact hn481_5) | (show (Addr.add _ _).block ≠ _;rw [add_block];exact hn481_5) | exact hn481_5) (.int .i64 ((rd_T86 t469 5).f1))).trans hx481_3
            replace hx481_0:=(cell_far (p:=⟨gb480,6,none⟩) (by first | (rw [add_block];exact hn481_6) | (show (Addr.add _ _).block ≠ _;rw [add_block];exact hn481_6) | exact hn481_6) (.float .f64 0)).trans hx481_0
            replace hx481_1:=(cell_far (p:=⟨gb480,6,none⟩) (by first | (rw [add_block];exact hn481_6) | (show (Addr.add _ _).block ≠ _;rw [add_block];exact hn481_6) | exact hn481_6) (.float .f64 0)).trans hx481_1
            replace hx481_2:=(cell_far (p:=⟨gb480,6,none⟩) (by first | (rw [add_block];exact hn481_6) | (show (Addr.add _ _).block ≠ _;rw [add_block];exact hn481_6) | exact hn481_6) (.float .f64 0)).trans hx481_2
            replace hx481_3:=(cell_far (p:=⟨gb480,6,none⟩) (by first | (rw [add_block];exact hn481_6) | (show (Addr.add _ _).block ≠ _;rw [add_block];exact hn481_6) | exact hn481_6) (.float .f64 0)).trans hx481_3
            replace hx481_0:=(cell_far (p:=⟨gb480,7,none⟩) (by first | (rw [add_block];exact hn481_7) | (show (Addr.add _ _).block ≠ _;rw [add_block];exact hn481_7) | exact hn481_7) (.bool false)).trans hx481_0
            replace hx481_1:=(cell_far (p:=⟨gb480,7,none⟩) (by first | (rw [add_block];exact hn481_7) | (show (Addr.add _ _).block ≠ _;rw [add_block];exact hn481_7) | exact hn481_7) (.bool false)).trans hx481_1
            replace hx481_2:=(cell_far (p:=⟨gb480,7,none⟩) (by first | (rw [add_block];exact hn481_7) | (show (Addr.add _ _).block ≠ _;rw [add_block];exact hn481_7) | exact hn481_7) (.bool false)).trans hx481_2
            replace hx481_3:=(cell_far (p:=⟨gb480,7,none⟩) (by first | (rw [add_block];exact hn481_7) | (show (Addr.add _ _).block ≠ _;rw [add_block];exact hn481_7) | exact hn481_7) (.bool false)).trans hx481_3
            replace hx481_0:=(cell_far (p:=⟨gb480,8,none⟩) (by first | (rw [add_block];exact hn481_8) | (show (Addr.add _ _).block ≠ _;rw [add_block];exact hn481_8) | exact hn481_8) (.slice none 0 0)).trans hx481_0
            replace hx481_1:=(cell_far (p:=⟨gb480,8,none⟩) (by first | (rw [add_block];exact hn481_8) | (show (Addr.add _ _).block ≠ _;rw [add_block];exact hn481_8) | exact hn481_8) (.slice none 0 0)).trans hx481_1
            replace hx481_2:=(cell_far (p:=⟨gb480,8,none⟩) (by first | (rw [add_block];exact hn481_8) | (show (Addr.add _ _).block ≠ _;rw [add_block];exact hn481_8) | exact hn481_8) (.slice none 0 0)).trans hx481_2
            replace hx481_3:=(cell_far (p:=⟨gb480,8,none⟩) (by first | (rw [add_block];exact hn481_8) | (show (Addr.add _ _).block ≠ _;rw [add_block];exact hn481_8) | exact hn481_8) (.slice none 0 0)).trans hx481_3
            replace hx481_0:=(cell_far (p:=⟨gb480,9,none⟩) (by first | (rw [add_block];exact hn481_9) | (show (Addr.add _ _).block ≠ _;rw [add_block];exact hn481_9) | exact hn481_9) (.int .i64 0)).trans hx481_0
            replace hx481_1:=(cell_far (p:=⟨gb480,9,none⟩) (by first | (rw [add_block];exact hn481_9) | (show (Addr.add _ _).block ≠ _;rw [add_block];exact hn481_9) | exact hn481_9) (.int .i64 0)).trans hx481_1
            replace hx481_2:=(cell_far (p:=⟨gb480,9,none⟩) (by first | (rw [add_block];exact hn481_9) | (show (Addr.add _ _).block ≠ _;rw [add_block];exact hn481_9) | exact hn481_9) (.int .i64 0)).trans hx481_2
            replace hx481_3:=(cell_far (p:=⟨gb480,9,none⟩) (by first | (rw [add_block];exact hn481_9) | (show (Addr.add _ _).block ≠ _;rw [add_block];exact hn481_9) | exact hn481_9) (.int .i64 0)).trans hx481_3
            replace hx481_0:=(cell_far (p:=⟨gb480,10,none⟩) (by first | (rw [add_block];exact hn481_10) | (show (Addr.add _ _).block ≠ _;rw [add_block];exact hn481_10) | exact hn481_10) (.int .i64 0)).trans hx481_0
            replace hx481_1:=(cell_far (p:=⟨gb480,10,none⟩) (by first | (rw [add_block];exact hn481_10) | (show (Addr.add _ _).block ≠ _;rw [add_block];exact hn481_10) | exact hn481_10) (.int .i64 0)).trans hx481_1
            replace hx481_2:=(cell_far (p:=⟨gb480,10,none⟩) (by first | (rw [add_block];exact hn481_10) | (show (Addr.add _ _).block ≠ _;rw [add_block];exact hn481_10) | exact hn481_10) (.int .i64 0)).trans hx481_2
            replace hx481_3:=(cell_far (p:=⟨gb480,10,none⟩) (by first | (rw [add_block];exact hn481_10) | (show (Addr.add _ _).block ≠ _;rw [add_block];exact hn481_10) | exact hn481_10) (.int .i64 0)).trans hx481_3
            replace hx481_0:=(cell_far (p:=⟨gb480,11,none⟩) (by first | (rw [add_block];exact hn481_11) | (show (Addr.add _ _).block ≠ _;rw [add_block];exact hn481_11) | exact hn481_11) (.int .i64 0)).trans hx481_0
            replace hx481_1:=(cell_far (p:=⟨gb480,11,none⟩) (by first | (rw [add_block];exact hn481_11) | (show (Addr.add _ _).block ≠ _;rw [add_block];exact hn481_11) | exact hn481_11) (.int .i64 0)).trans hx481_1
            replace hx481_2:=(cell_far (p:=⟨gb480,11,none⟩) (by first | (rw [add_block];exact hn481_11) | (show (Addr.add _ _).block ≠ _;rw [add_block];exact hn481_11) | exact hn481_11) (.int .i64 0)).trans hx481_2
            replace hx481_3:=(cell_far (p:=⟨gb480,11,none⟩) (by first | (rw [add_block];exact hn481_11) | (show (Addr.add _ _).block ≠ _;rw [add_block];exact hn481_11) | exact hn481_11) (.int .i64 0)).trans hx481_3
            clear hn481_0
            clear hn481_1
            clear hn481_2
            clear hn481_3
            clear hn481_4
            clear hn481_5
            clear hn481_6
            clear hn481_7
            clear hn481_8
            clear hn481_9
            clear hn481_10
            clear hn481_11
            replace p481:=eq_true p481
            replace q481:=eq_true q481
            go_wp2
            go_meet
            case rel => exact ⟨_,((((rd_T86 t469 6).f3).toList != ([] : List UInt8))),(by first | rfl | (simp;done) | (simp [*];done) | (simp [bne,str_nil];done)),H',⟨by have:=HJ3.out;first | omega | exact Nat.le_refl _⟩,⟨by (with_reducible repeat (first | apply Kd.R_alloc | apply Kd.R_drewN | apply Kd.R_drew));exact Kd.R_mono (Kd.R_far (p:=⟨gb480,11,none⟩) (Kd.R_far (p:=⟨gb480,10,none⟩) (Kd.R_far (p:=⟨gb480,9,none⟩) (Kd.R_far (p:=⟨gb480,8,none⟩) (Kd.R_far (p:=⟨gb480,7,none⟩) (Kd.R_far (p:=⟨gb480,6,none⟩) (Kd.R_far (p:=⟨gb480,5,none⟩) (Kd.R_far (p:=⟨gb480,4,none⟩) (Kd.R_far (p:=⟨gb480,3,none⟩) (Kd.R_far (p:=⟨gb480,2,none⟩) (Kd.R_far (p:=⟨gb480,1,none⟩) (Kd.R_far (p:=⟨gb480,0,none⟩) (Kd.R_types HO_4.out BK480.out (by decide)) (fun _ hk => hk.2) (.int .i64 ((rd_T86 t469 1).f1))) (fun _ hk => hk.2) (.int .i64 ((rd_T86 t469 2).f1))) (fun _ hk => hk.2) (.int .i64 ((rd_T86 t469 3).f1))) (fun _ hk => hk.2) (.int .i64 ((rd_T86 t469 0).f1))) (fun _ hk => hk.2) (.int .i64 ((rd_T86 t469 4).f1))) (fun _ hk => hk.2) (.int .i64 ((rd_T86 t469 5).f1))) (fun _ hk => hk.2) (.float .f64 0)) (fun _ hk => hk.2) (.bool false)) (fun _ hk => hk.2) (.slice none 0 0)) (fun _ hk => hk.2) (.int .i64 0)) (fun _ hk => hk.2) (.int .i64 0)) (fun _ hk => hk.2) (.int .i64 0)) (fun _ hk => trivial)⟩,⟨by (with_reducible repeat (first | refine blk_drewN ?_ _ | refine blk_drew ?_ | refine blk_alloc ?_ _));refine blk_far ?_ NB465_480.out _;(with_reducible repeat (first | refine blk_drewN ?_ _ | refine blk_drew ?_ | refine blk_alloc ?_ _));refine blk_far ?_ NB465_480.out _;(with_reducible repeat (first | refine blk_drewN ?_ _ | refine blk_drew ?_ | refine blk_alloc ?_ _));refine blk_far ?_ NB465_480.out _;(with_reducible repeat (first | refine blk_drewN ?_ _ | refine blk_drew ?_ | refine blk_alloc ?_ _));refine blk_far ?_ NB465_480.out _;(with_reducible repeat (first | refine blk_drewN ?_ _ | refine blk_drew ?_ | refine blk_alloc ?_ _));refine blk_far ?_ NB465_480.out _;(with_reducible repeat (first | refine blk_drewN ?_ _ | refine blk_drew ?_ | refine blk_alloc ?_ _));refine blk_far ?_ NB465_480.out _;(with_reducible repeat (first | refine blk_drewN ?_ _ | refine blk_drew ?_ | refine blk_alloc ?_ _));refine blk_far ?_ NB465_480.out _;(with_reducible repeat (first | refine blk_drewN ?_ _ | refine blk_drew ?_ | refine blk_alloc ?_ _));refine blk_far ?_ NB465_480.out _;(with_reducible repeat (first | refine blk_drewN ?_ _ | refine blk_drew ?_ | refine blk_alloc ?_ _));refine blk_far ?_ NB465_480.out _;(with_reducible repeat (first | refine blk_drewN ?_ _ | refine blk_drew ?_ | refine blk_alloc ?_ _));refine blk_far ?_ NB465_480.out _;(with_reducible repeat (first | refine blk_drewN ?_ _ | refine blk_drew ?_ | refine blk_alloc ?_ _));refine blk_far ?_ NB465_480.out _;(with_reducible repeat (first | refine blk_drewN ?_ _ | refine blk_drew ?_ | refine blk_alloc ?_ _));refine blk_far ?_ NB465_480.out _;(with_reducible repeat (first | refine blk_drewN ?_ _ | refine blk_drew ?_ | refine blk_alloc ?_ _));exact BK465.out⟩,⟨by (with_reducible repeat (first | refine blk_drewN ?_ _ | refine blk_drew ?_ | refine blk_alloc ?_ _));apply blkf_12_0_11;(with_reducible repeat (first | refine blk_drewN ?_ _ | refine blk_drew ?_ | refine blk_alloc ?_ _));exact BK480.out⟩,⟨by repeat (first | (with_reducible first | exact HB.out | apply below_alloc | apply pw_below_drewN | apply below_drew1 | refine below_set ?_ GE465.out | refine below_set ?_ GE480.out) | exact HB.out)⟩⟩
           ·rw [if_neg c34] at H
            exact absurd H (by simp)
          case rest =>
           clear HC18
           try clear c1
           try clear p2
           try clear c3
           try clear p4
           try clear q4
           try clear hx4
           try clear qi4
           try clear c10
           try clear c12
           try clear c12b0
           try clear c12b1
           try clear c13
           try clear c13b0
           try clear c13b1
           try clear c14
           try clear c14b0
           try clear c14b1
           try clear c15
           try clear c15b0
           try clear c15b1
           try clear c16
           try clear c16b0
           try clear c16b1
           try clear c17
           try clear c17b0
           try clear c17b1
           try clear c34
           try clear c34b0
           try clear c34b1
           try clear hfz11_10
           try clear hfz11_11
           try clear hfz11_4
           try clear hfz11_5
           try clear hfz11_6
           try clear hfz11_7
           try clear hfz11_8
           try clear hfz11_9
           try clear hx474_0
           try clear hx474_1
           try clear hx474_2
           try clear hx474_3
           try clear hx475_0
           try clear hx475_1
           try clear hx475_2
           try clear hx475_3
           try clear hx476_0
           try clear hx476_1
           try clear hx476_2
           try clear hx476_3
           try clear hx477_0
           try clear hx477_1
           try clear hx477_2
           try clear hx477_3
           try clear hx478_0
           try clear hx478_1
           try clear hx478_2
           try clear hx478_3
           try clear hx479_0
           try clear hx479_1
           try clear hx479_2
           try clear hx479_3
           try clear hx481_0
           try clear hx481_1
           try clear hx481_2
           try clear hx481_3
           try clear p474
           try clear p475
           try clear p476
           try clear p477
           try clear p478
           try clear p479
           try clear p481
           try clear q474
           try clear q475
           try clear q476
           try clear q477
           try clear q478
           try clear q479
           try clear q481
           obtain ⟨kq,x55_17,rfl,HA,HJ17,HO_4,BK465,BK480,HB⟩:=hcut
           cases kq with
           | zero => exact absurd HA.out (by simp [undorec_Decode.j1])
           | succ kj17 =>
            have H:=HA.out
            clear HA
            simp only [undorec_Decode.j1] at H
            by_cases c35 : x55_17 = true
            ·subst c35
             have H1 : (if 6 < (t469.length : Int) then ((row_Decode_b.f kj17 ((rd_T86 t469 6).f3)).bind fun bt483 => (if bt483.2.2.2.2.2.2 = 0 then (undorec_Decode.j2 kj17 t469 (((rd_T86 t469 0).f1) != 2) ((rd_T86 t469 1).f1) ((rd_T86 t469 2).f1) ((rd_T86 t469 3).f1) ((rd_T86 t469 0).f1) ((rd_T86 t469 4).f1) ((rd_T86 t469 5).f1) 0 false 0 0 0 bt483.1 bt483.2.1 bt483.2.2.1 bt483.2.2.2.1 bt483.2.2.2.2.1 bt483.2.2.2.2.2.1) else (undorec_Decode.j2 kj17 t469 true ((rd_T86 t469 1).f1) ((rd_T86 t469 2).f1) ((rd_T86 t469 3).f1) ((rd_T86 t469 0).f1) ((rd_T86 t469 4).f1) ((rd_T86 t469 5).f1) 0 false 0 0 0 bt483.1 bt483.2.1 bt483.2.2.1 bt483.2.2.2.1 bt483.2.2.2.2.1 bt483.2.2.2.2.2.1))) else (none)) = some (r1,r2,r3,r4,r5,r6,r7,r8,r9,r10,r11,r12,r13):=by rw [if_pos rfl] at H;exact H
             clear H
             have H:=H1
             clear H1
             by_cases c36 : 6 < (t469.length : Int)
             ·rw [if_pos c36] at H
              have c36b0 : decide (6 < (t469.length : Int)) = true:=decide_eq_true c36
              have c36b1 : decide (6 < t469.length) = true:=decide_eq_true (by omega)
              clear c36
              replace H:=Option.bind_eq_some_iff.mp H
              obtain ⟨⟨t483,t484,t485,t488,t489,t490,t491⟩,A370,H⟩:=H
              replace H : (if t491 = 0 then (undorec_Decode.j2 kj17 t469 (((rd_T86 t469 0).f1) != 2) ((rd_T86 t469 1).f1) ((rd_T86 t469 2).f1) ((rd_T86 t469 3).f1) ((rd_T86 t469 0).f1) ((rd_T86 t469 4).f1) ((rd_T86 t469 5).f1) 0 false 0 0 0 t483 t484 t485 t488 t489 t490) else (undorec_Decode.j2 kj17 t469 true ((rd_T86 t469 1).f1) ((rd_T86 t469 2).f1) ((rd_T86 t469 3).f1) ((rd_T86 t469 0).f1) ((rd_T86 t469 4).f1) ((rd_T86 t469 5).f1) 0 false 0 0 0 t483 t484 t485 t488 t489 t490)) = some (r1,r2,r3,r4,r5,r6,r7,r8,r9,r10,r11,r12,r13):=H
              have A37:=Aside0.mk A370
              clear A370
              have HC38:=Aside0.mk H
              clear H
              have p482 : 0 ≤ (6 : Int):=(by omega)
              have q482 : 6 < (t469.length : Int):=of_decide_eq_true (by first | (with_reducible assumption) | assumption)
              obtain ⟨ad482,e482,hx482_0,hx482_1,hx482_2,hx482_3⟩:=at_T86 (Kd.R_reads' HO_4.out).2.2 6 p482 q482
              obtain rfl : ad474 = ad482:=(by injection e482)
              (try simp only [show (6 : Int).toNat = 6 from rfl,Nat.reduceMul,Nat.reduceEqDiff,Go.Addr.add,↓reduceIte] at hx482_0)
              (try simp only [show (6 : Int).toNat = 6 from rfl,Nat.reduceMul,Nat.reduceEqDiff,Go.Addr.add,↓reduceIte] at hx482_1)
              (try simp only [show (6 : Int).toNat = 6 from rfl,Nat.reduceMul,Nat.reduceEqDiff,Go.Addr.add,↓reduceIte] at hx482_2)
              (try simp only [show (6 : Int).toNat = 6 from rfl,Nat.reduceMul,Nat.reduceEqDiff,Go.Addr.add,↓reduceIte] at hx482_3)
              have qi482 : (6 < t469.length) = True:=eq_true (by omega)
              (try rw [show ((6 : Int)).toNat = 6 from rfl] at hx482_0)
              (try rw [show 6 * 4 = 24 from rfl] at hx482_0)
              (try rw [show ((6 : Int)).toNat = 6 from rfl] at hx482_1)
              (try rw [show 6 * 4 = 24 from rfl] at hx482_1)
              (try rw [show ((6 : Int)).toNat = 6 from rfl] at hx482_2)
              (try rw [show 6 * 4 = 24 from rfl] at hx482_2)
              (try rw [show ((6 : Int)).toNat = 6 from rfl] at hx482_3)
              (try rw [show 6 * 4 = 24 from rfl] at hx482_3)
              replace p482:=eq_true p482
              replace q482:=eq_true q482
              have kb39:=bytes_conv ((rd_T86 t469 6).f3)
              go_upto_region 7 with (first | ((with_reducible refine gate_callee (f:=35) rfl ?_);refine goesL_ (some 62) rfl rfl Try.func35 (by kernel_rfl) rfl #[.slice (some ⟨_, 0, none⟩) _ _] rfl (by (try simp only [List.map_toArray,List.map_cons,List.map_nil]);first | done | rfl | (simp only [List.length_drop,List.length_take];rfl)) ?_;(with_reducible refine (row_Decode_b.calls kj17 ((rd_T86 t469 6).f3) t483 t484 t485 t488 t489 t490 t491 _ A37.out).mono ?_);rintro e w40 ⟨v486,rfl,ho0,hb⟩;refine ⟨_,rfl,?_⟩;have n0_:=Aside0.mk (Kd.R_below (by (with_reducible repeat (first | apply Kd.R_alloc | apply Kd.R_drewN | apply Kd.R_drew));exact HO_4.out) hb);have n1_:=Aside0.mk (Kd.R_lower ho0 (below_size (by repeat (first | (with_reducible first | exact HB.out | apply below_alloc | apply pw_below_drewN | apply below_drew1 | refine below_set ?_ GE465.out | refine below_set ?_ GE480.out) | exact HB.out))));have n2_:=Aside0.mk (blk_below (g:=gb465) (o:=.cells #[.int .i64 0,.int .i64 0,.int .i64 0,.int .i64 0,.int .i64 0,.int .i64 0,.float .f64 0,.bool false,.slice none 0 0,.int .i64 0,.int .i64 0,.int .i64 0] 32 (0,0)) (by (with_reducible repeat (first | refine blk_drewN ?_ _ | refine blk_drew ?_ | refine blk_alloc ?_ _));exact BK465.out) hb);have n3_:=Aside0.mk (blk_below (g:=gb480) (o:=.cells #[.int .i64 ((rd_T86 t469 1).f1),.int .i64 ((rd_T86 t469 2).f1),.int .i64 ((rd_T86 t469 3).f1),.int .i64 ((rd_T86 t469 0).f1),.int .i64 ((rd_T86 t469 4).f1),.int .i64 ((rd_T86 t469 5).f1),.float .f64 0,.bool false,.slice none 0 0,.int .i64 0,.int .i64 0,.int .i64 0] 32 (0,0)) (by (with_reducible repeat (first | refine blk_drewN ?_ _ | refine blk_drew ?_ | refine blk_alloc ?_ _));exact BK480.out) hb);have n4_:=Aside0.mk (below_step (by repeat (first | (with_reducible first | exact HB.out | apply below_alloc | apply pw_below_drewN | apply below_drew1 | refine below_set ?_ GE465.out | refine below_set ?_ GE480.out) | exact HB.out)) hb);clear HO_4;clear BK465;clear BK480;clear HB;have HO_4:=n0_;have HO487:=n1_;have BK465:=n2_;have BK480:=n3_;have HB:=n4_;clear n0_ n1_ n2_ n3_ n4_;(try clear hb);(try clear hb2);(try clear hk);(try clear hi);(try clear ho0)) | ((with_reducible refine gate_dst (N:=8) rfl ?_);(try (refine gate_guard (by rfl) ?_;dsimp only));refine box_event ?hg (N:=8) ?hd (cs:=#[.float .f64 0,.bool false,.slice none 0 0,.int .i64 0,.int .i64 0,.int .i64 0]) (t:=30) ?hr ?_;(case hd => rfl);(case hg => rfl);(case hr => first | (go_simp;done) | (go_simp;rfl));intro gb492 hg w41 hbox hb;have n0_:=Aside0.mk (Kd.R_below (by (with_reducible repeat (first | apply Kd.R_alloc | apply Kd.R_drewN | apply Kd.R_drew));exact HO_4.out) hb);have n1_:=Aside0.mk (Kd.R_below (by (with_reducible repeat (first | apply Kd.R_alloc | apply Kd.R_drewN | apply Kd.R_drew));exact HO487.out) hb);have n2_:=Aside0.mk (blk_below (g:=gb465) (o:=.cells #[.int .i64 0,.int .i64 0,.int .i64 0,.int .i64 0,.int .i64 0,.int .i64 0,.float .f64 0,.bool false,.slice none 0 0,.int .i64 0,.int .i64 0,.int .i64 0] 32 (0,0)) (by (with_reducible repeat (first | refine blk_drewN ?_ _ | refine blk_drew ?_ | refine blk_alloc ?_ _));exact BK465.out) hb);have n3_:=Aside0.mk (blk_below (g:=gb480) (o:=.cells #[.int .i64 ((rd_T86 t469 1).f1),.int .i64 ((rd_T86 t469 2).f1),.int .i64 ((rd_T86 t469 3).f1),.int .i64 ((rd_T86 t469 0).f1),.int .i64 ((rd_T86 t469 4).f1),.int .i64 ((rd_T86 t469 5).f1),.float .f64 0,.bool false,.slice none 0 0,.int .i64 0,.int .i64 0,.int .i64 0] 32 (0,0)) (by (with_reducible repeat (first | refine blk_drewN ?_ _ | refine blk_drew ?_ | refine blk_alloc ?_ _));exact BK480.out) hb);have n4_:=Aside0.mk (below_step (by repeat (first | (with_reducible first | exact HB.out | apply below_alloc | apply pw_below_drewN | apply below_drew1 | refine below_set ?_ GE465.out | refine below_set ?_ GE480.out) | exact HB.out)) hb);have n5_:=Aside0.mk (hbox);have n6_:=Aside0.mk ((by rw [hg];exact (below_size (by repeat (first | (with_reducible first | exact HB.out | apply below_alloc | apply pw_below_drewN | apply below_drew1 | refine below_set ?_ GE465.out | refine below_set ?_ GE480.out) | exact HB.out))) : w.heap.size ≤ gb492));have n7_:=Aside0.mk ((by rw [hg];exact (below_size (by repeat (first | (with_reducible first | exact HB.out | apply below_alloc | apply pw_below_drewN | apply below_drew1 | refine below_set ?_ GE465.out | refine below_set ?_ GE480.out) | exact HB.out))) : w.heap.size ≤ gb492));have n8_:=Aside0.mk ((by rw [hg];exact Nat.ne_of_lt (blk_lt (g:=gb465) (o:=.cells #[.int .i64 0,.int .i64 0,.int .i64 0,.int .i64 0,.int .i64 0,.int .i64 0,.float .f64 0,.bool false,.slice none 0 0,.int .i64 0,.int .i64 0,.int .i64 0] 32 (0,0)) (by (with_reducible repeat (first | refine blk_drewN ?_ _ | refine blk_drew ?_ | refine blk_alloc ?_ _));exact BK465.out)) : gb465 ≠ gb492));have n9_:=Aside0.mk ((by rw [hg];exact Nat.ne_of_gt (blk_lt (g:=gb465) (o:=.cells #[.int .i64 0,.int .i64 0,.int .i64 0,.int .i64 0,.int .i64 0,.int .i64 0,.float .f64 0,.bool false,.slice none 0 0,.int .i64 0,.int .i64 0,.int .i64 0] 32 (0,0)) (by (with_reducible repeat (first | refine blk_drewN ?_ _ | refine blk_drew ?_ | refine blk_alloc ?_ _));exact BK465.out)) : gb492 ≠ gb465));have n10_:=Aside0.mk ((by rw [hg];exact Nat.ne_of_lt (blk_lt (g:=gb480) (o:=.cells #[.int .i64 ((rd_T86 t469 1).f1),.int .i64 ((rd_T86 t469 2).f1),.int .i64 ((rd_T86 t469 3).f1),.int .i64 ((rd_T86 t469 0).f1),.int .i64 ((rd_T86 t469 4).f1),.int .i64 ((rd_T86 t469 5).f1),.float .f64 0,.bool false,.slice none 0 0,.int .i64 0,.int .i64 0,.int .i64 0] 32 (0,0)) (by (with_reducible repeat (first | refine blk_drewN ?_ _ | refine blk_drew ?_ | refine blk_alloc ?_ _));exact BK480.out)) : gb480 ≠ gb492));have n11_:=Aside0.mk ((by rw [hg];exact Nat.ne_of_gt (blk_lt (g:=gb480) (o:=.cells #[.int .i64 ((rd_T86 t469 1).f1),.int .i64 ((rd_T86 t469 2).f1),.int .i64 ((rd_T86 t469 3).f1),.int .i64 ((rd_T86 t469 0).f1),.int .i64 ((rd_T86 t469 4).f1),.int .i64 ((rd_T86 t469 5).f1),.float .f64 0,.bool false,.slice none 0 0,.int .i64 0,.int .i64 0,.int .i64 0] 32 (0,0)) (by (with_reducible repeat (first | refine blk_drewN ?_ _ | refine blk_drew ?_ | refine blk_alloc ?_ _));exact BK480.out)) : gb492 ≠ gb480));clear HO_4;clear HO487;clear BK465;clear BK480;clear HB;have HO_4:=n0_;have HO487:=n1_;have BK465:=n2_;have BK480:=n3_;have HB:=n4_;have BK492:=n5_;have GW492:=n6_;have GE492:=n7_;have NB465_492:=n8_;have NB492_465:=n9_;have NB480_492:=n10_;have NB492_480:=n11_;clear n0_ n1_ n2_ n3_ n4_ n5_ n6_ n7_ n8_ n9_ n10_ n11_;clear hb hbox hg;have hnb42:=NB492_465.out;have hnc42:=NB465_492.out;have hnb43:=NB492_480.out;have hnc43:=NB480_492.out;obtain ⟨hcz44_0,hcz44_1,hcz44_2,hcz44_3,hcz44_4,hcz44_5⟩:=blkc_6 BK492.out;obtain ⟨hfz44_0,hfz44_1,hfz44_2,hfz44_3,hfz44_4,hfz44_5⟩:=blkz_6 BK492.out;obtain ⟨Ao45,co45,eo45⟩:=Kd.R_slice HO487.out;subst eo45))
              (try simp only [Act.put,List.setIfInBounds_toArray,List.set_cons_zero,List.set_cons_succ])
              go_cut [71] (fun v71 wc => ∃ (kq : Nat) (x71_37 : Bool),v71 = .bool x71_37 ∧ Aside0 (undorec_Decode.j2 kq t469 x71_37 ((rd_T86 t469 1).f1) ((rd_T86 t469 2).f1) ((rd_T86 t469 3).f1) ((rd_T86 t469 0).f1) ((rd_T86 t469 4).f1) ((rd_T86 t469 5).f1) 0 false 0 0 0 t483 t484 t485 t488 t489 t490 = some (r1,r2,r3,r4,r5,r6,r7,r8,r9,r10,r11,r12,r13)) ∧ Aside0 (kq ≤ kj17) ∧ Aside0 (Kd.R k86 86 wc w.heap.size (fun _ => True) (.slice (some ad474) t469.length co20) t469) ∧ Aside0 (Kd.R Kd.f64 25 wc w.heap.size (fun _ => True) (.slice Ao45 t485.length co45) t485) ∧ Aside0 (wc.heap[gb465]? = some (.cells #[.int .i64 0,.int .i64 0,.int .i64 0,.int .i64 0,.int .i64 0,.int .i64 0,.float .f64 0,.bool false,(.slice none 0 0),.int .i64 0,.int .i64 0,.int .i64 0] 32 (0,0))) ∧ Aside0 (wc.heap[gb480]? = some (.cells #[.int .i64 ((rd_T86 t469 1).f1),.int .i64 ((rd_T86 t469 2).f1),.int .i64 ((rd_T86 t469 3).f1),.int .i64 ((rd_T86 t469 0).f1),.int .i64 ((rd_T86 t469 4).f1),.int .i64 ((rd_T86 t469 5).f1),.float .f64 0,.bool false,(.slice none 0 0),.int .i64 0,.int .i64 0,.int .i64 0] 32 (0,0))) ∧ Aside0 (wc.heap[gb492]? = some (.cells #[.float .f64 t483,.bool t484,(.slice Ao45 t485.length co45),.int .i64 t488,.int .i64 t489,.int .i64 t490] 30 (0,0))) ∧ Aside0 (Below w.heap.size w wc))
              case first =>
               have H:=HC38.out
               clear HC38
               by_cases c46 : t491 = 0
               ·rw [if_pos c46] at H
                have c46b0 : (t491 == 0) = true:=beq_iff_eq.mpr c46
                have c46b1 : (t491 != 0) = false:=bne_eq_false_iff_eq.mpr c46
                clear c46
                (first | rw [c46b0] | (simp only [i64_w,i32_w];rw [c46b0]) | skip)
                have H':=Aside0.mk H
                clear H
                have hnb47:=NB480_465.out
                have hnc47:=NB465_480.out
                have hnb48:=NB480_492.out
                have hnc48:=NB492_480.out
                obtain ⟨hcz49_0,hcz49_1,hcz49_2,hcz49_3,hcz49_4,hcz49_5,hcz49_6,hcz49_7,hcz49_8,hcz49_9,hcz49_10,hcz49_11⟩:=blkc_12 BK480.out
                obtain ⟨hfz49_0,hfz49_1,hfz49_2,hfz49_3,hfz49_4,hfz49_5,hfz49_6,hfz49_7,hfz49_8,hfz49_9,hfz49_10,hfz49_11⟩:=blkz_12 BK480.out
                go_wp2
                go_meet
                case rel => exact ⟨_,((((rd_T86 t469 0).f1) != 2)),(by first | rfl | (simp;done) | (simp [*];done) | (simp [bne,str_nil];done)),H',⟨by have:=HJ3.out;have:=HJ17.out;first | omega | exact Nat.le_refl _⟩,⟨by (with_reducible repeat (first | apply Kd.R_alloc | apply Kd.R_drewN | apply Kd.R_drew));exact Kd.R_mono (Kd.R_far (p:=⟨gb492,5,none⟩) (Kd.R_far (p:=⟨gb492,4,none⟩) (Kd.R_far (p:=⟨gb492,3,none⟩) (Kd.R_far (p:=⟨gb492,2,none⟩) (Kd.R_far (p:=⟨gb492,1,none⟩) (Kd.R_far (p:=⟨gb492,0,none⟩) (Kd.R_types HO_4.out BK492.out (by decide)) (fun _ hk => hk.2) (.float .f64 t483)) (fun _ hk => hk.2) (.bool t484)) (fun _ hk => hk.2) (.slice Ao45 t485.length co45)) (fun _ hk => hk.2) (.int .i64 t488)) (fun _ hk => hk.2) (.int .i64 t489)) (fun _ hk => hk.2) (.int .i64 t490)) (fun _ hk => trivial)⟩,⟨by (with_reducible repeat (first | apply Kd.R_alloc | apply Kd.R_drewN | apply Kd.R_drew));exact Kd.R_mono (Kd.R_far (p:=⟨gb492,5,none⟩) (Kd.R_far (p:=⟨gb492,4,none⟩) (Kd.R_far (p:=⟨gb492,3,none⟩) (Kd.R_far (p:=⟨gb492,2,none⟩) (Kd.R_far (p:=⟨gb492,1,none⟩) (Kd.R_far (p:=⟨gb492,0,none⟩) (Kd.R_types HO487.out BK492.out (by decide)) (fun _ hk => hk.2) (.float .f64 t483)) (fun _ hk => hk.2) (.bool t484)) (fun _ hk => hk.2) (.slice Ao45 t485.length co45)) (fun _ hk => hk.2) (.int .i64 t488)) (fun _ hk => hk.2) (.int .i64 t489)) (fun _ hk => hk.2) (.int .i64 t490)) (fun _ hk => trivial)⟩,⟨by (with_reducible repeat (first | refine blk_drewN ?_ _ | refine blk_drew ?_ | refine blk_alloc ?_ _));refine blk_far ?_ NB465_492.out _;(with_reducible repeat (first | refine blk_drewN ?_ _ | refine blk_drew ?_ | refine blk_alloc ?_ _));refine blk_far ?_ NB465_492.out _;(with_reducible repeat (first | refine blk_drewN ?_ _ | refine blk_drew ?_ | refine blk_alloc ?_ _));refine blk_far ?_ NB465_492.out _;(with_reducible repeat (first | refine blk_drewN ?_ _ | refine blk_drew ?_ | refine blk_alloc ?_ _));refine blk_far ?_ NB465_492.out _;(with_reducible repeat (first | refine blk_drewN ?_ _ | refine blk_drew ?_ | refine blk_alloc ?_ _));refine blk_far ?_ NB465_492.out _;(with_reducible repeat (first | refine blk_drewN ?_ _ | refine blk_drew ?_ | refine blk_alloc ?_ _));refine blk_far ?_ NB465_492.out _;(with_reducible repeat (first | refine blk_drewN ?_ _ | refine blk_drew ?_ | refine blk_alloc ?_ _));exact BK465.out⟩,⟨by (with_reducible repeat (first | refine blk_drewN ?_ _ | refine blk_drew ?_ | refine blk_alloc ?_ _));refine blk_far ?_ NB480_492.out _;(with_reducible repeat (first | refine blk_drewN ?_ _ | refine blk_drew ?_ | refine blk_alloc ?_ _));refine blk_far ?_ NB480_492.out _;(with_reducible repeat (first | refine blk_drewN ?_ _ | refine blk_drew ?_ | refine blk_alloc ?_ _));refine blk_far ?_ NB480_492.out _;(with_reducible repeat (first | refine blk_drewN ?_ _ | refine blk_drew ?_ | refine blk_alloc ?_ _));refine blk_far ?_ NB480_492.out _;(with_reducible repeat (first | refine blk_drewN ?_ _ | refine blk_drew ?_ | refine blk_alloc ?_ _));refine blk_far ?_ NB480_492.out _;(with_reducible repeat (first | refine blk_drewN ?_ _ | refine blk_drew ?_ | refine blk_alloc ?_ _));refine blk_far ?_ NB480_492.out _;(with_reducible repeat (first | refine blk_drewN ?_ _ | refine blk_drew ?_ | refine blk_alloc ?_ _));exact BK480.out⟩,⟨by (with_reducible repeat (first | refine blk_drewN ?_ _ | refine blk_drew ?_ | refine blk_alloc ?_ _));apply blkf_6_0_5;(with_reducible repeat (first | refine blk_drewN ?_ _ | refine blk_drew ?_ | refine blk_alloc ?_ _));exact BK492.out⟩,⟨by repeat (first | (with_reducible first | exact HB.out | apply below_alloc | apply pw_below_drewN | apply below_drew1 | refine below_set ?_ GE465.out | refine below_set ?_ GE480.out | refine below_set ?_ GE492.out) | exact HB.out)⟩⟩
               ·rw [if_neg c46] at H
                have c46b0 : (t491 == 0) = false:=beq_eq_false_iff_ne.mpr c46
                have c46b1 : (t491 != 0) = true:=bne_iff_ne.mpr c46
                (first | rw [c46b0] | (simp only [i64_w,i32_w];rw [c46b0]) | skip)
                have H':=Aside0.mk H
                clear H
                go_wp2
                go_meet
                case rel => exact ⟨_,(true),(by first | rfl | (simp;done) | (simp [*];done) | (simp [bne,str_nil];done)),H',⟨by have:=HJ3.out;have:=HJ17.out;first | omega | exact Nat.le_refl _⟩,⟨by (with_reducible repeat (first | apply Kd.R_alloc | apply Kd.R_drewN | apply Kd.R_drew));exact Kd.R_mono (Kd.R_far (p:=⟨gb492,5,none⟩) (Kd.R_far (p:=⟨gb492,4,none⟩) (Kd.R_far (p:=⟨gb492,3,none⟩) (Kd.R_far (p:=⟨gb492,2,none⟩) (Kd.R_far (p:=⟨gb492,1,none⟩) (Kd.R_far (p:=⟨gb492,0,none⟩) (Kd.R_types HO_4.out BK492.out (by decide)) (fun _ hk => hk.2) (.float .f64 t483)) (fun _ hk => hk.2) (.bool t484)) (fun _ hk => hk.2) (.slice Ao45 t485.length co45)) (fun _ hk => hk.2) (.int .i64 t488)) (fun _ hk => hk.2) (.int .i64 t489)) (fun _ hk => hk.2) (.int .i64 t490)) (fun _ hk => trivial)⟩,⟨by (with_reducible repeat (first | apply Kd.R_alloc | apply Kd.R_drewN | apply Kd.R_drew));exact Kd.R_mono (Kd.R_far (p:=⟨gb492,5,none⟩) (Kd.R_far (p:=⟨gb492,4,none⟩) (Kd.R_far (p:=⟨gb492,3,none⟩) (Kd.R_far (p:=⟨gb492,2,none⟩) (Kd.R_far (p:=⟨gb492,1,none⟩) (Kd.R_far (p:=⟨gb492,0,none⟩) (Kd.R_types HO487.out BK492.out (by decide)) (fun _ hk => hk.2) (.float .f64 t483)) (fun _ hk => hk.2) (.bool t484)) (fun _ hk => hk.2) (.slice Ao45 t485.length co45)) (fun _ hk => hk.2) (.int .i64 t488)) (fun _ hk => hk.2) (.int .i64 t489)) (fun _ hk => hk.2) (.int .i64 t490)) (fun _ hk => trivial)⟩,⟨by (with_reducible repeat (first | refine blk_drewN ?_ _ | refine blk_drew ?_ | refine blk_alloc ?_ _));refine blk_far ?_ NB465_492.out _;(with_reducible repeat (first | refine blk_drewN ?_ _ | refine blk_drew ?_ | refine blk_alloc ?_ _));refine blk_far ?_ NB465_492.out _;(with_reducible repeat (first | refine blk_drewN ?_ _ | refine blk_drew ?_ | refine blk_alloc ?_ _));refine blk_far ?_ NB465_492.out _;(with_reducible repeat (first | refine blk_drewN ?_ _ | refine blk_drew ?_ | refine blk_alloc ?_ _));refine blk_far ?_ NB465_492.out _;(with_reducible repeat (first | refine blk_drewN ?_ _ | refine blk_drew ?_ | refine blk_alloc ?_ _));refine blk_far ?_ NB465_492.out _;(with_reducible repeat (first | refine blk_drewN ?_ _ | refine blk_drew ?_ | refine blk_alloc ?_ _));refine blk_far ?_ NB465_492.out _;(with_reducible repeat (first | refine blk_drewN ?_ _ | refine blk_drew ?_ | refine blk_alloc ?_ _));exact BK465.out⟩,⟨by (with_reducible repeat (first | refine blk_drewN ?_ _ | refine blk_drew ?_ | refine blk_alloc ?_ _));refine blk_far ?_ NB480_492.out _;(with_reducible repeat (first | refine blk_drewN ?_ _ | refine blk_drew ?_ | refine blk_alloc ?_ _));refine blk_far ?_ NB480_492.out _;(with_reducible repeat (first | refine blk_drewN ?_ _ | refine blk_drew ?_ | refine blk_alloc ?_ _));refine blk_far ?_ NB480_492.out _;(with_reducible repeat (first | refine blk_drewN ?_ _ | refine blk_drew ?_ | refine blk_alloc ?_ _));refine blk_far ?_ NB480_492.out _;(with_reducible repeat (first | refine blk_drewN ?_ _ | refine blk_drew ?_ | refine blk_alloc ?_ _));refine blk_far ?_ NB480_492.out _;(with_reducible repeat (first | refine blk_drewN ?_ _ | refine blk_drew ?_ | refine blk_alloc ?_ _));refine blk_far ?_ NB480_492.out _;(with_reducible repeat (first | refine blk_drewN ?_ _ | refine blk_drew ?_ | refine blk_alloc ?_ _));exact BK480.out⟩,⟨by (with_reducible repeat (first | refine blk_drewN ?_ _ | refine blk_drew ?_ | refine blk_alloc ?_ _));apply blkf_6_0_5;(with_reducible repeat (first | refine blk_drewN ?_ _ | refine blk_drew ?_ | refine blk_alloc ?_ _));exact BK492.out⟩,⟨by repeat (first | (with_reducible first | exact HB.out | apply below_alloc | apply pw_below_drewN | apply below_drew1 | refine below_set ?_ GE465.out | refine below_set ?_ GE480.out | refine below_set ?_ GE492.out) | exact HB.out)⟩⟩
              case rest =>
               clear HC38
               try clear c1
               try clear p2
               try clear c3
               try clear c4
               try clear p4
               try clear q4
               try clear hx4
               try clear qi4
               try clear c10
               try clear c12
               try clear c12b0
               try clear c12b1
               try clear c13
               try clear c13b0
               try clear c13b1
               try clear c14
               try clear c14b0
               try clear c14b1
               try clear c15
               try clear c15b0
               try clear c15b1
               try clear c16
               try clear c16b0
               try clear c16b1
               try clear c17
               try clear c17b0
               try clear c17b1
               try clear c34
               try clear c34b0
               try clear c34b1
               try clear c35
               try clear c36
               try clear c36b0
               try clear c36b1
               try clear c42
               try clear c43
               try clear c46
               try clear c46b0
               try clear c46b1
               try clear c47
               try clear p47
               try clear q47
               try clear hx47
               try clear c48
               try clear p48
               try clear q48
               try clear hx48
               try clear qi48
               try clear hcz44_0
               try clear hcz44_1
               try clear hcz44_2
               try clear hcz44_3
               try clear hcz44_4
               try clear hcz44_5
               try clear hcz49_0
               try clear hcz49_1
               try clear hcz49_10
               try clear hcz49_11
               try clear hcz49_2
               try clear hcz49_3
               try clear hcz49_4
               try clear hcz49_5
               try clear hcz49_6
               try clear hcz49_7
               try clear hcz49_8
               try clear hcz49_9
               try clear hfz11_10
               try clear hfz11_11
               try clear hfz11_4
               try clear hfz11_5
               try clear hfz11_6
               try clear hfz11_7
               try clear hfz11_8
               try clear hfz11_9
               try clear hfz44_0
               try clear hfz44_1
               try clear hfz44_2
               try clear hfz44_3
               try clear hfz44_4
               try clear hfz44_5
               try clear hfz49_0
               try clear hfz49_1
               try clear hfz49_10
               try clear hfz49_11
               try clear hfz49_2
               try clear hfz49_3
               try clear hfz49_4
               try clear hfz49_5
               try clear hfz49_6
               try clear hfz49_7
               try clear hfz49_8
               try clear hfz49_9
               try clear hx474_0
               try clear hx474_1
               try clear hx474_2
               try clear hx474_3
               try clear hx475_0
               try clear hx475_1
               try clear hx475_2
               try clear hx475_3
               try clear hx476_0
               try clear hx476_1
               try clear hx476_2
               try clear hx476_3
               try clear hx477_0
               try clear hx477_1
               try clear hx477_2
               try clear hx477_3
               try clear hx478_0
               try clear hx478_1
               try clear hx478_2
               try clear hx478_3
               try clear hx479_0
               try clear hx479_1
               try clear hx479_2
               try clear hx479_3
               try clear hx481_0
               try clear hx481_1
               try clear hx481_2
               try clear hx481_3
               try clear hx482_0
               try clear hx482_1
               try clear hx482_2
               try clear hx482_3
               try clear p2
               try clear p4
               try clear p474
               try clear p475
               try clear p476
               try clear p477
               try clear p478
               try clear p479
               try clear p481
               try clear p482
               try clear q4
               try clear q474
               try clear q475
               try clear q476
               try clear q477
               try clear q478
               try clear q479
               try clear q481
               try clear q482
               obtain ⟨kq,x71_37,rfl,HA,HJ37,HO_4,HO_493002,BK465,BK480,BK492,HB⟩:=hcut
               cases kq with
               | zero => exact absurd HA.out (by simp [undorec_Decode.j2])
               | succ kj37 =>
                have H:=HA.out
                clear HA
                simp only [undorec_Decode.j2] at H
                by_cases c50 : x71_37 = true
                ·subst c50
                 have H1 : (some (0,0,0,0,0,0,0,false,([] : List Nat),0,0,0,4)) = some (r1,r2,r3,r4,r5,r6,r7,r8,r9,r10,r11,r12,r13):=by rw [if_pos rfl] at H;exact H
                 clear H
                 have H:=H1
                 clear H1
                 simp only [Option.some.injEq,Prod.mk.injEq] at H
                 obtain ⟨rfl,rfl,rfl,rfl,rfl,rfl,rfl,rfl,rfl,rfl,rfl,rfl,rfl⟩:=H
                 have hnb51:=NB465_480.out
                 have hnc51:=NB480_465.out
                 have hnb52:=NB465_492.out
                 have hnc52:=NB492_465.out
                 obtain ⟨hcz53_0,hcz53_1,hcz53_2,hcz53_3,hcz53_4,hcz53_5,hcz53_6,hcz53_7,hcz53_8,hcz53_9,hcz53_10,hcz53_11⟩:=blkc_12 BK465.out
                 obtain ⟨hfz53_0,hfz53_1,hfz53_2,hfz53_3,hfz53_4,hfz53_5,hfz53_6,hfz53_7,hfz53_8,hfz53_9,hfz53_10,hfz53_11⟩:=blkz_12 BK465.out
                 go_wp2
                 refine bodyPost_ret (results_ct rfl _ _ gb465 32 #[.int .i64 0,.int .i64 0,.int .i64 0,.int .i64 0,.int .i64 0,.int .i64 0,.float .f64 0,.bool false,.slice none 0 0,.int .i64 0,.int .i64 0,.int .i64 0] (0,0) _ rfl (by (with_reducible repeat (first | refine blk_drewN ?_ _ | refine blk_drew ?_ | refine blk_alloc ?_ _));apply blkf_12_0_11;(with_reducible repeat (first | refine blk_drewN ?_ _ | refine blk_drew ?_ | refine blk_alloc ?_ _));exact BK465.out) Try.underlying32 rfl (by kernel_rfl)) rfl ?_
                 exact ⟨_,by first | rfl | (simp [errW_none,errW_some] <;> rfl) | (simp [*,errW_none,errW_some] <;> rfl),by first | exact Kd.R_nil _ _ _ _ _ | exact Kd.N_nil _ _ _ _ _ | exact Kd.V_nil _ _ _ _ _ | exact Kd.Q_nil _ _ _ _ _ | exact Kd.S_nil _ _ _ _ _,by repeat (first | (with_reducible first | exact HB.out | apply below_alloc | apply pw_below_drewN | apply below_drew1 | refine below_set ?_ GE465.out | refine below_set ?_ GE480.out | refine below_set ?_ GE492.out) | exact HB.out)⟩
                ·replace c50:=Bool.eq_false_iff.mpr c50
                 subst c50
                 have H1 : ((undorec_Check.f kj37 ((rd_T86 t469 1).f1) ((rd_T86 t469 2).f1) ((rd_T86 t469 3).f1) ((rd_T86 t469 0).f1) ((rd_T86 t469 4).f1) ((rd_T86 t469 5).f1) t483 t484 t485 t488 t489 t490).bind fun t493 => (if t493 = 0 then (if 6 < (t469.length : Int) then (undorec_Decode.j3 kj37 ((((rd_T86 t469 6).f3).toList == ([] : List UInt8)) != (((rd_T86 t469 0).f1) == 1)) ((rd_T86 t469 1).f1) ((rd_T86 t469 2).f1) ((rd_T86 t469 3).f1) ((rd_T86 t469 0).f1) ((rd_T86 t469 4).f1) ((rd_T86 t469 5).f1) t483 t484 t485 t488 t489 t490) else (none)) else (undorec_Decode.j3 kj37 true ((rd_T86 t469 1).f1) ((rd_T86 t469 2).f1) ((rd_T86 t469 3).f1) ((rd_T86 t469 0).f1) ((rd_T86 t469 4).f1) ((rd_T86 t469 5).f1) t483 t484 t485 t488 t489 t490))) = some (r1,r2,r3,r4,r5,r6,r7,r8,r9,r10,r11,r12,r13):=by rw [if_neg (show ¬ (false = true) by decide)] at H;exact H
                 clear H
                 have H:=H1
                 clear H1
                 have HC54:=Aside0.mk H
                 clear H
                 have hnb55:=NB492_465.out
                 have hnc55:=NB465_492.out
                 have hnb56:=NB492_480.out
                 have hnc56:=NB480_492.out
                 obtain ⟨hcz57_0,hcz57_1,hcz57_2,hcz57_3,hcz57_4,hcz57_5⟩:=blkc_6 BK492.out
                 obtain ⟨hfz57_0,hfz57_1,hfz57_2,hfz57_3,hfz57_4,hfz57_5⟩:=blkz_6 BK492.out
                 have hnb58:=NB480_465.out
                 have hnc58:=NB465_480.out
                 obtain ⟨hcz59_0,hcz59_1,hcz59_2,hcz59_3,hcz59_4,hcz59_5,hcz59_6,hcz59_7,hcz59_8,hcz59_9,hcz59_10,hcz59_11⟩:=blkc_12 BK480.out
                 obtain ⟨hfz59_0,hfz59_1,hfz59_2,hfz59_3,hfz59_4,hfz59_5,hfz59_6,hfz59_7,hfz59_8,hfz59_9,hfz59_10,hfz59_11⟩:=blkz_12 BK480.out
                 go_upto_region 10 with (fail)
                 go_cut [88] (fun v88 wc => ∃ (kq : Nat) (x88_53 : Bool),v88 = .bool x88_53 ∧ Aside0 (undorec_Decode.j3 kq x88_53 ((rd_T86 t469 1).f1) ((rd_T86 t469 2).f1) ((rd_T86 t469 3).f1) ((rd_T86 t469 0).f1) ((rd_T86 t469 4).f1) ((rd_T86 t469 5).f1) t483 t484 t485 t488 t489 t490 = some (r1,r2,r3,r4,r5,r6,r7,r8,r9,r10,r11,r12,r13)) ∧ Aside0 (kq ≤ kj37) ∧ Aside0 (Kd.R Kd.f64 25 wc w.heap.size (fun _ => True) (.slice Ao45 t485.length co45) t485) ∧ Aside0 (Kd.R Kd.f64 25 wc w.heap.size (fun _ => True) (.slice Ao45 t485.length co45) t485) ∧ Aside0 (wc.heap[gb465]? = some (.cells #[.int .i64 0,.int .i64 0,.int .i64 0,.int .i64 0,.int .i64 0,.int .i64 0,.float .f64 0,.bool false,(.slice none 0 0),.int .i64 0,.int .i64 0,.int .i64 0] 32 (0,0))) ∧ Aside0 (wc.heap[gb480]? = some (.cells #[.int .i64 ((rd_T86 t469 1).f1),.int .i64 ((rd_T86 t469 2).f1),.int .i64 ((rd_T86 t469 3).f1),.int .i64 ((rd_T86 t469 0).f1),.int .i64 ((rd_T86 t469 4).f1),.int .i64 ((rd_T86 t469 5).f1),.float .f64 t483,.bool t484,(.slice Ao45 t485.length co45),.int .i64 t488,.int .i64 t489,.int .i64 t490] 32 (0,0))) ∧ Aside0 (wc.heap[gb492]? = some (.cells #[.float .f64 t483,.bool t484,(.slice Ao45 t485.length co45),.int .i64 t488,.int .i64 t489,.int .i64 t490] 30 (0,0))) ∧ Aside0 (Below w.heap.size w wc))
                 case first =>
                  have H:=HC54.out
                  clear HC54
                  replace H:=Option.bind_eq_some_iff.mp H
                  obtain ⟨t493,A600,H⟩:=H
                  replace H : (if t493 = 0 then (if 6 < (t469.length : Int) then (undorec_Decode.j3 kj37 ((((rd_T86 t469 6).f3).toList == ([] : List UInt8)) != (((rd_T86 t469 0).f1) == 1)) ((rd_T86 t469 1).f1) ((rd_T86 t469 2).f1) ((rd_T86 t469 3).f1) ((rd_T86 t469 0).f1) ((rd_T86 t469 4).f1) ((rd_T86 t469 5).f1) t483 t484 t485 t488 t489 t490) else (none)) else (undorec_Decode.j3 kj37 true ((rd_T86 t469 1).f1) ((rd_T86 t469 2).f1) ((rd_T86 t469 3).f1) ((rd_T86 t469 0).f1) ((rd_T86 t469 4).f1) ((rd_T86 t469 5).f1) t483 t484 t485 t488 t489 t490)) = some (r1,r2,r3,r4,r5,r6,r7,r8,r9,r10,r11,r12,r13):=H
                  have A60:=Aside0.mk A600
                  clear A600
                  by_cases c61 : t493 = 0
                  ·rw [if_pos c61] at H
                   have c61b0 : (t493 == 0) = true:=beq_iff_eq.mpr c61
                   have c61b1 : (t493 != 0) = false:=bne_eq_false_iff_eq.mpr c61
                   clear c61
                   (first | rw [c61b0] | (simp only [i64_w,i32_w];rw [c61b0]) | skip)
                   by_cases c62 : 6 < (t469.length : Int)
                   ·rw [if_pos c62] at H
                    have c62b0 : decide (6 < (t469.length : Int)) = true:=decide_eq_true c62
                    have c62b1 : decide (6 < t469.length) = true:=decide_eq_true (by omega)
                    clear c62
                    have H':=Aside0.mk H
                    clear H
                    try go_wp2
                    have n0_ : Aside0 (Kd.R k86 86 ((((((wc.setCell ⟨gb480,6,none⟩ (.float .f64 t483)).setCell ⟨gb480,7,none⟩ (.bool t484)).setCell ⟨gb480,8,none⟩ (.slice Ao45 t485.length co45)).setCell ⟨gb480,9,none⟩ (.int .i64 t488)).setCell ⟨gb480,10,none⟩ (.int .i64 t489)).setCell ⟨gb480,11,none⟩ (.int .i64 t490)) w.heap.size (fun _ => True) (.slice (some ad474) t469.length co20) t469):=⟨by (with_reducible repeat (first | apply Kd.R_alloc | apply Kd.R_drewN | apply Kd.R_drew));exact Kd.R_mono (Kd.R_far (p:=⟨gb480,11,none⟩) (Kd.R_far (p:=⟨gb480,10,none⟩) (Kd.R_far (p:=⟨gb480,9,none⟩) (Kd.R_far (p:=⟨gb480,8,none⟩) (Kd.R_far (p:=⟨gb480,7,none⟩) (Kd.R_far (p:=⟨gb480,6,none⟩) (Kd.R_types HO_4.out BK480.out (by decide)) (fun _ hk => hk.2) (.float .f64 t483)) (fun _ hk => hk.2) (.bool t484)) (fun _ hk => hk.2) (.slice Ao45 t485.length co45)) (fun _ hk => hk.2) (.int .i64 t488)) (fun _ hk => hk.2) (.int .i64 t489)) (fun _ hk => hk.2) (.int .i64 t490)) (fun _ hk => trivial)⟩
                    have n1_ : Aside0 (Kd.R Kd.f64 25 ((((((wc.setCell ⟨gb480,6,none⟩ (.float .f64 t483)).setCell ⟨gb480,7,none⟩ (.bool t484)).setCell ⟨gb480,8,none⟩ (.slice Ao45 t485.length co45)).setCell ⟨gb480,9,none⟩ (.int .i64 t488)).setCell ⟨gb480,10,none⟩ (.int .i64 t489)).setCell ⟨gb480,11,none⟩ (.int .i64 t490)) w.heap.size (fun _ => True) (.slice Ao45 t485.length co45) t485):=⟨by (with_reducible repeat (first | apply Kd.R_alloc | apply Kd.R_drewN | apply Kd.R_drew));exact Kd.R_mono (Kd.R_far (p:=⟨gb480,11,none⟩) (Kd.R_far (p:=⟨gb480,10,none⟩) (Kd.R_far (p:=⟨gb480,9,none⟩) (Kd.R_far (p:=⟨gb480,8,none⟩) (Kd.R_far (p:=⟨gb480,7,none⟩) (Kd.R_far (p:=⟨gb480,6,none⟩) (Kd.R_types HO_493002.out BK480.out (by decide)) (fun _ hk => hk.2) (.float .f64 t483)) (fun _ hk => hk.2) (.bool t484)) (fun _ hk => hk.2) (.slice Ao45 t485.length co45)) (fun _ hk => hk.2) (.int .i64 t488)) (fun _ hk => hk.2) (.int .i64 t489)) (fun _ hk => hk.2) (.int .i64 t490)) (fun _ hk => trivial)⟩
                    have n2_ : Aside0 (((((((wc.setCell ⟨gb480,6,none⟩ (.float .f64 t483)).setCell ⟨gb480,7,none⟩ (.bool t484)).setCell ⟨gb480,8,none⟩ (.slice Ao45 t485.length co45)).setCell ⟨gb480,9,none⟩ (.int .i64 t488)).setCell ⟨gb480,10,none⟩ (.int .i64 t489)).setCell ⟨gb480,11,none⟩ (.int .i64 t490)).heap[gb465]? = some (.cells #[.int .i64 0,.int .i64 0,.int .i64 0,.int .i64 0,.int .i64 0,.int .i64 0,.float .f64 0,.bool false,.slice none 0 0,.int .i64 0,.int .i64 0,.int .i64 0] 32 (0,0))):=⟨by (with_reducible repeat (first | refine blk_drewN ?_ _ | refine blk_drew ?_ | refine blk_alloc ?_ _));refine blk_far ?_ NB465_480.out _;(with_reducible repeat (first | refine blk_drewN ?_ _ | refine blk_drew ?_ | refine blk_alloc ?_ _));refine blk_far ?_ NB465_480.out _;(with_reducible repeat (first | refine blk_drewN ?_ _ | refine blk_drew ?_ | refine blk_alloc ?_ _));refine blk_far ?_ NB465_480.out _;(with_reducible repeat (first | refine blk_drewN ?_ _ | refine blk_drew ?_ | refine blk_alloc ?_ _));refine blk_far ?_ NB465_480.out _;(with_reducible repeat (first | refine blk_drewN ?_ _ | refine blk_drew ?_ | refine blk_alloc ?_ _));refine blk_far ?_ NB465_480.out _;(with_reducible repeat (first | refine blk_drewN ?_ _ | refine blk_drew ?_ | refine blk_alloc ?_ _));refine blk_far ?_ NB465_480.out _;(with_reducible repeat (first | refine blk_drewN ?_ _ | refine blk_drew ?_ | refine blk_alloc ?_ _));exact BK465.out⟩
                    have n3_ : Aside0 (((((((wc.setCell ⟨gb480,6,none⟩ (.float .f64 t483)).setCell ⟨gb480,7,none⟩ (.bool t484)).setCell ⟨gb480,8,none⟩ (.slice Ao45 t485.length co45)).setCell ⟨gb480,9,none⟩ (.int .i64 t488)).setCell ⟨gb480,10,none⟩ (.int .i64 t489)).setCell ⟨gb480,11,none⟩ (.int .i64 t490)).heap[gb480]? = some (.cells #[.int .i64 ((rd_T86 t469 1).f1),.int .i64 ((rd_T86 t469 2).f1),.int .i64 ((rd_T86 t469 3).f1),.int .i64 ((rd_T86 t469 0).f1),.int .i64 ((rd_T86 t469 4).f1),.int .i64 ((rd_T86 t469 5).f1),.float .f64 t483,.bool t484,.slice Ao45 t485.length co45,.int .i64 t488,.int .i64 t489,.int .i64 t490] 32 (0,0))):=⟨by (with_reducible repeat (first | refine blk_drewN ?_ _ | refine blk_drew ?_ | refine blk_alloc ?_ _));apply blkf_12_6_11;(with_reducible repeat (first | refine blk_drewN ?_ _ | refine blk_drew ?_ | refine blk_alloc ?_ _));exact BK480.out⟩
                    have n4_ : Aside0 (((((((wc.setCell ⟨gb480,6,none⟩ (.float .f64 t483)).setCell ⟨gb480,7,none⟩ (.bool t484)).setCell ⟨gb480,8,none⟩ (.slice Ao45 t485.length co45)).setCell ⟨gb480,9,none⟩ (.int .i64 t488)).setCell ⟨gb480,10,none⟩ (.int .i64 t489)).setCell ⟨gb480,11,none⟩ (.int .i64 t490)).heap[gb492]? = some (.cells #[.float .f64 t483,.bool t484,.slice Ao45 t485.length co45,.int .i64 t488,.int .i64 t489,.int .i64 t490] 30 (0,0))):=⟨by (with_reducible repeat (first | refine blk_drewN ?_ _ | refine blk_drew ?_ | refine blk_alloc ?_ _));refine blk_far ?_ NB492_480.out _;(with_reducible repeat (first | refine blk_drewN ?_ _ | refine blk_drew ?_ | refine blk_alloc ?_ _));refine blk_far ?_ NB492_480.out _;(with_reducible repeat (first | refine blk_drewN ?_ _ | refine blk_drew ?_ | refine blk_alloc ?_ _));refine blk_far ?_ NB492_480.out _;(with_reducible repeat (first | refine blk_drewN ?_ _ | refine blk_drew ?_ | refine blk_alloc ?_ _));refine blk_far ?_ NB492_480.out _;(with_reducible repeat (first | refine blk_drewN ?_ _ | refine blk_drew ?_ | refine blk_alloc ?_ _));refine blk_far ?_ NB492_480.out _;(with_reducible repeat (first | refine blk_drewN ?_ _ | refine blk_drew ?_ | refine blk_alloc ?_ _));refine blk_far ?_ NB492_480.out _;(with_reducible repeat (first | refine blk_drewN ?_ _ | refine blk_drew ?_ | refine blk_alloc ?_ _));exact BK492.out⟩
                    have n5_ : Aside0 (Below w.heap.size w ((((((wc.setCell ⟨gb480,6,none⟩ (.float .f64 t483)).setCell ⟨gb480,7,none⟩ (.bool t484)).setCell ⟨gb480,8,none⟩ (.slice Ao45 t485.length co45)).setCell ⟨gb480,9,none⟩ (.int .i64 t488)).setCell ⟨gb480,10,none⟩ (.int .i64 t489)).setCell ⟨gb480,11,none⟩ (.int .i64 t490))):=⟨by repeat (first | (with_reducible first | exact HB.out | apply below_alloc | apply pw_below_drewN | apply below_drew1 | refine below_set ?_ GE465.out | refine below_set ?_ GE480.out | refine below_set ?_ GE492.out) | exact HB.out)⟩
                    (try clear HO_4)
                    (try clear HO_493002)
                    (try clear BK465)
                    (try clear BK480)
                    (try clear BK492)
                    (try clear HB)
                    generalize ((((((wc.setCell ⟨gb480,6,none⟩ (.float .f64 t483)).setCell ⟨gb480,7,none⟩ (.bool t484)).setCell ⟨gb480,8,none⟩ (.slice Ao45 t485.length co45)).setCell ⟨gb480,9,none⟩ (.int .i64 t488)).setCell ⟨gb480,10,none⟩ (.int .i64 t489)).setCell ⟨gb480,11,none⟩ (.int .i64 t490)) = w63 at n0_ n1_ n2_ n3_ n4_ n5_ ⊢
                    have HO_4:=n0_
                    have HO_493002:=n1_
                    have BK465:=n2_
                    have BK480:=n3_
                    have BK492:=n4_
                    have HB:=n5_
                    clear n0_ n1_ n2_ n3_ n4_ n5_
                    have n0_:=Aside0.mk (Kd.R_drew HO_4.out)
                    have n1_:=Aside0.mk (Kd.R_drew HO_493002.out)
                    have n2_:=Aside0.mk (blk_drew BK465.out)
                    have n3_:=Aside0.mk (blk_drew BK480.out)
                    have n4_:=Aside0.mk (blk_drew BK492.out)
                    have n5_:=Aside0.mk (below_drew1 HB.out)
                    clear HO_4
                    clear HO_493002
                    clear BK465
                    clear BK480
                    clear BK492
                    clear HB
                    have HO_4:=n0_
                    have HO_493002:=n1_
                    have BK465:=n2_
                    have BK480:=n3_
                    have BK492:=n4_
                    have HB:=n5_
                    clear n0_ n1_ n2_ n3_ n4_ n5_
                    have p494 : 0 ≤ (6 : Int):=(by omega)
                    have q494 : 6 < (t469.length : Int):=of_decide_eq_true (by first | (with_reducible assumption) | assumption)
                    obtain ⟨ad494,e494,hx494_0,hx494_1,hx494_2,hx494_3⟩:=at_T86 (Kd.R_reads' HO_4.out).2.2 6 p494 q494
                    obtain rfl : ad474 = ad494:=(by injection e494)
                    (try simp only [show (6 : Int).toNat = 6 from rfl,Nat.reduceMul,Nat.reduceEqDiff,Go.Addr.add,↓reduceIte] at hx494_0)
                    (try simp only [show (6 : Int).toNat = 6 from rfl,Nat.reduceMul,Nat.reduceEqDiff,Go.Addr.add,↓reduceIte] at hx494_1)
                    (try simp only [show (6 : Int).toNat = 6 from rfl,Nat.reduceMul,Nat.reduceEqDiff,Go.Addr.add,↓reduceIte] at hx494_2)
                    (try simp only [show (6 : Int).toNat = 6 from rfl,Nat.reduceMul,Nat.reduceEqDiff,Go.Addr.add,↓reduceIte] at hx494_3)
                    have qi494 : (6 < t469.length) = True:=eq_true (by omega)
                    (try rw [show ((6 : Int)).toNat = 6 from rfl] at hx494_0)
                    (try rw [show 6 * 4 = 24 from rfl] at hx494_0)
                    (try rw [show ((6 : Int)).toNat = 6 from rfl] at hx494_1)
                    (try rw [show 6 * 4 = 24 from rfl] at hx494_1)
                    (try rw [show ((6 : Int)).toNat = 6 from rfl] at hx494_2)
                    (try rw [show 6 * 4 = 24 from rfl] at hx494_2)
                    (try rw [show ((6 : Int)).toNat = 6 from rfl] at hx494_3)
                    (try rw [show 6 * 4 = 24 from rfl] at hx494_3)
                    replace p494:=eq_true p494
                    replace q494:=eq_true q494
                    refine start_ (n:=14) (S:=fun w' => w'.cell? ⟨gb480,0,none⟩ = some (.int .i64 ((rd_T86 t469 1).f1)) ∧ w'.cell? ⟨gb480,1,none⟩ = some (.int .i64 ((rd_T86 t469 2).f1)) ∧ w'.cell? ⟨gb480,2,none⟩ = some (.int .i64 ((rd_T86 t469 3).f1)) ∧ w'.cell? ⟨gb480,3,none⟩ = some (.int .i64 ((rd_T86 t469 0).f1)) ∧ w'.cell? ⟨gb480,4,none⟩ = some (.int .i64 ((rd_T86 t469 4).f1)) ∧ w'.cell? ⟨gb480,5,none⟩ = some (.int .i64 ((rd_T86 t469 5).f1)) ∧ w'.cell? ⟨gb480,6,none⟩ = some (.float .f64 t483) ∧ w'.cell? ⟨gb480,7,none⟩ = some (.bool t484) ∧ w'.cell? ⟨gb480,8,none⟩ = some (.slice Ao45 t485.length co45) ∧ w'.cell? ⟨gb480,9,none⟩ = some (.int .i64 t488) ∧ w'.cell? ⟨gb480,10,none⟩ = some (.int .i64 t489) ∧ w'.cell? ⟨gb480,11,none⟩ = some (.int .i64 t490) ∧ w'.cell? ⟨ad474.block,ad474.off + 24,none⟩ = some (.int .i64 ((rd_T86 t469 6).f0)) ∧ w'.cell? ⟨ad474.block,ad474.off + 24 + 1,none⟩ = some (.int .i64 ((rd_T86 t469 6).f1)) ∧ w'.cell? ⟨ad474.block,ad474.off + 24 + 2,none⟩ = some (.float .f64 ((rd_T86 t469 6).f2)) ∧ w'.cell? ⟨ad474.block,ad474.off + 24 + 3,none⟩ = some (.string ((rd_T86 t469 6).f3))) (ds:=[]) #[ff,ff,ff,ff,ff,ff,ff,ff,ff,ff,ff,ff,ff,ff] (by kernel_rfl) rfl rfl ⟨(blk_cell BK480.out 0).trans rfl,(blk_cell BK480.out 1).trans rfl,(blk_cell BK480.out 2).trans rfl,(blk_cell BK480.out 3).trans rfl,(blk_cell BK480.out 4).trans rfl,(blk_cell BK480.out 5).trans rfl,(blk_cell BK480.out 6).trans rfl,(blk_cell BK480.out 7).trans rfl,(blk_cell BK480.out 8).trans rfl,(blk_cell BK480.out 9).trans rfl,(blk_cell BK480.out 10).trans rfl,(blk_cell BK480.out 11).trans rfl,hx494_0,hx494_1,hx494_2,hx494_3⟩ (fun hHeld => ?_);refine with_tabW undorec_Decode.tab10 undorec_Decode.bits10 (fun HT_ HW_ => ?_)
                    generalize w63.drew = w64 at HO_4 HO_493002 BK465 BK480 BK492 HB hx494_0 hx494_1 hx494_2 hx494_3 hHeld ⊢
                    refine take_ (i:=0) (N:=some 75) (v:=?_) (a':=?_) #[tt,ff,ff,ff,ff,ff,ff,ff,ff,ff,ff,ff,ff,ff] rfl rfl (take_ofW HT_.out HW_.out (by kernel_rfl)) (fun _ _ _ h => h) (Or.inl ⟨by rfl,?_⟩) hHeld ?_ ?_
                    rotate_left
                    ·rintro w' ⟨s0,s1,s2,s3,s4,s5,s6,s7,s8,s9,s10,s11,s12,s13,s14,s15⟩
                     go_simp
                     with_reducible rfl
                    rotate_left
                    ·simp only [Act.put,q1_,q2_,q3_,i64_w,i32_w]
                     rfl
                    refine one_ (i:=1) (N:=some 76) #[tt,tt,ff,ff,ff,ff,ff,ff,ff,ff,ff,ff,ff,ff] rfl rfl (one_of HT_.out (by kernel_rfl)) (by decide) (fun K hK => ?_)
                    refine goes_ Try.func47 (by kernel_rfl) rfl #[.agg #[.int .i64 ((rd_T86 t469 1).f1),.int .i64 ((rd_T86 t469 2).f1),.int .i64 ((rd_T86 t469 3).f1),.int .i64 ((rd_T86 t469 0).f1),.int .i64 ((rd_T86 t469 4).f1),.int .i64 ((rd_T86 t469 5).f1),.float .f64 t483,.bool t484,.slice Ao45 t485.length co45,.int .i64 t488,.int .i64 t489,.int .i64 t490]] (by rfl) rfl rfl (by (try simp only [List.map_toArray,List.map_cons,List.map_nil]);first | done | rfl | (simp only [List.length_drop,List.length_take];rfl)) ?_
                    with_reducible refine (undorec_Check.calls kj37 ((rd_T86 t469 1).f1) ((rd_T86 t469 2).f1) ((rd_T86 t469 3).f1) ((rd_T86 t469 0).f1) ((rd_T86 t469 4).f1) ((rd_T86 t469 5).f1) t483 t484 _ _ t485 t488 t489 t490 t493 _ ?side1 ?side2 A60.out).mono ?_
                    (case side1 => repeat (first | exact (Kd.R_reads' HO_493002.out).2.2 | (with_reducible refine Kd.C_alloc ?_ _) | (with_reducible refine Kd.C_drewN ?_ _) | (with_reducible refine Kd.C_drew ?_)))
                    (case side2 => exact (Kd.R_reads' HO_493002.out).2.1)
                    rintro e w65 ⟨rfl,hb⟩
                    have HS12_:=(hb.cell (World.block_lt_of_cell? _ _ (hHeld.2.2.2.2.2.2.2.2.2.2.2.2.1))).trans (hHeld.2.2.2.2.2.2.2.2.2.2.2.2.1)
                    have HS13_:=(hb.cell (World.block_lt_of_cell? _ _ (hHeld.2.2.2.2.2.2.2.2.2.2.2.2.2.1))).trans (hHeld.2.2.2.2.2.2.2.2.2.2.2.2.2.1)
                    have HS14_:=(hb.cell (World.block_lt_of_cell? _ _ (hHeld.2.2.2.2.2.2.2.2.2.2.2.2.2.2.1))).trans (hHeld.2.2.2.2.2.2.2.2.2.2.2.2.2.2.1)
                    have HS15_:=(hb.cell (World.block_lt_of_cell? _ _ (hHeld.2.2.2.2.2.2.2.2.2.2.2.2.2.2.2))).trans (hHeld.2.2.2.2.2.2.2.2.2.2.2.2.2.2.2)
                    refine ⟨_,rfl,?_⟩
                    have n0_:=Aside0.mk (Kd.R_below (by (with_reducible repeat (first | apply Kd.R_alloc | apply Kd.R_drewN | apply Kd.R_drew));exact HO_4.out) hb)
                    have n1_:=Aside0.mk (Kd.R_below (by (with_reducible repeat (first | apply Kd.R_alloc | apply Kd.R_drewN | apply Kd.R_drew));exact HO_493002.out) hb)
                    have n2_:=Aside0.mk (blk_below (g:=gb465) (o:=.cells #[.int .i64 0,.int .i64 0,.int .i64 0,.int .i64 0,.int .i64 0,.int .i64 0,.float .f64 0,.bool false,.slice none 0 0,.int .i64 0,.int .i64 0,.int .i64 0] 32 (0,0)) (by (with_reducible repeat (first | refine blk_drewN ?_ _ | refine blk_drew ?_ | refine blk_alloc ?_ _));exact BK465.out) hb)
                    have n3_:=Aside0.mk (blk_below (g:=gb480) (o:=.cells #[.int .i64 ((rd_T86 t469 1).f1),.int .i64 ((rd_T86 t469 2).f1),.int .i64 ((rd_T86 t469 3).f1),.int .i64 ((rd_T86 t469 0).f1),.int .i64 ((rd_T86 t469 4).f1),.int .i64 ((rd_T86 t469 5).f1),.float .f64 t483,.bool t484,.slice Ao45 t485.length co45,.int .i64 t488,.int .i64 t489,.int .i64 t490] 32 (0,0)) (by (with_reducible repeat (first | refine blk_drewN ?_ _ | refine blk_drew ?_ | refine blk_alloc ?_ _));exact BK480.out) hb)
                    have n4_:=Aside0.mk (blk_below (g:=gb492) (o:=.cells #[.float .f64 t483,.bool t484,.slice Ao45 t485.length co45,.int .i64 t488,.int .i64 t489,.int .i64 t490] 30 (0,0)) (by (with_reducible repeat (first | refine blk_drewN ?_ _ | refine blk_drew ?_ | refine blk_alloc ?_ _));exact BK492.out) hb)
                    have n5_:=Aside0.mk (below_step (by repeat (first | (with_reducible first | exact HB.out | apply below_alloc | apply pw_below_drewN | apply below_drew1 | refine below_set ?_ GE465.out | refine below_set ?_ GE480.out | refine below_set ?_ GE492.out) | exact HB.out)) hb)
                    clear HO_4
                    clear HO_493002
                    clear BK465
                    clear BK480
                    clear BK492
                    clear HB
                    have HO_4:=n0_
                    have HO_493002:=n1_
                    have BK465:=n2_
                    have BK480:=n3_
                    have BK492:=n4_
                    have HB:=n5_
                    clear n0_ n1_ n2_ n3_ n4_ n5_
                    (try clear hb)
                    (try clear hb2)
                    (try clear hk)
                    (try clear hi)
                    refine hK.out _ _ ⟨(blk_cell BK480.out 0).trans rfl,(blk_cell BK480.out 1).trans rfl,(blk_cell BK480.out 2).trans rfl,(blk_cell BK480.out 3).trans rfl,(blk_cell BK480.out 4).trans rfl,(blk_cell BK480.out 5).trans rfl,(blk_cell BK480.out 6).trans rfl,(blk_cell BK480.out 7).trans rfl,(blk_cell BK480.out 8).trans rfl,(blk_cell BK480.out 9).trans rfl,(blk_cell BK480.out 10).trans rfl,(blk_cell BK480.out 11).trans rfl,HS12_,HS13_,HS14_,HS15_⟩ (fun hHeld => ?_)
                    clear hK K
                    refine norm_ (a':=?_) ?_ ?_
                    rotate_left
                    ·show Act.put _ (some 76) _ = _
                     simp only [Act.put,q1_,q2_,q3_,i64_w,i32_w]
                     rfl
                    refine pure_ (i:=2) (N:=some 77) (v:=?_) (a':=?_) #[tt,tt,tt,ff,ff,ff,ff,ff,ff,ff,ff,ff,ff,ff] rfl rfl (any_of HT_.out (by kernel_rfl)) (fun _ _ _ h => h) (Or.inl ⟨by rfl,?_⟩) ?_ ?_
                    rotate_left
                    ·intro w'
                     go_simp
                     with_reducible rfl
                    rotate_left
                    ·simp only [Act.put,q1_,q2_,q3_,i64_w,i32_w]
                     rfl
                    refine pure_ (i:=3) (N:=some 78) (v:=?_) (a':=?_) #[tt,tt,tt,tt,ff,ff,ff,ff,ff,ff,ff,ff,ff,ff] rfl rfl (any_of HT_.out (by kernel_rfl)) (fun _ _ _ h => h) (Or.inl ⟨by rfl,?_⟩) ?_ ?_
                    rotate_left
                    ·intro w'
                     go_simp
                     with_reducible rfl
                    rotate_left
                    ·simp only [Act.put,q1_,q2_,q3_,i64_w,i32_w]
                     rfl
                    refine pure_ (i:=4) (N:=some 79) (v:=?_) (a':=?_) #[tt,tt,tt,tt,tt,ff,ff,ff,ff,ff,ff,ff,ff,ff] rfl rfl (any_of HT_.out (by kernel_rfl)) (fun _ _ _ h => h) (Or.inl ⟨by rfl,?_⟩) ?_ ?_
                    rotate_left
                    ·intro w'
                     go_simp
                     with_reducible rfl
                    rotate_left
                    ·simp only [Act.put,q1_,q2_,q3_,i64_w,i32_w]
                     rfl
                    refine pure_ (i:=5) (N:=some 80) (v:=?_) (a':=?_) #[tt,tt,tt,tt,tt,tt,ff,ff,ff,ff,ff,ff,ff,ff] rfl rfl (any_of HT_.out (by kernel_rfl)) (fun _ _ _ h => h) (Or.inl ⟨by rfl,?_⟩) ?_ ?_
                    rotate_left
                    ·intro w'
                     go_simp
                     with_reducible rfl
                    rotate_left
                    ·simp only [Act.put,q1_,q2_,q3_,i64_w,i32_w]
                     rfl
                    refine pure_ (i:=6) (N:=some 81) (v:=?_) (a':=?_) #[tt,tt,tt,tt,tt,tt,tt,ff,ff,ff,ff,ff,ff,ff] rfl rfl (any_of HT_.out (by kernel_rfl)) (fun _ _ _ h => h) (Or.inl ⟨by rfl,?_⟩) ?_ ?_
                    rotate_left
                    ·intro w'
                     go_simp
                     with_reducible rfl
                    rotate_left
                    ·simp only [Act.put,q1_,q2_,q3_,i64_w,i32_w]
                     rfl
                    refine pure_ (i:=9) (N:=some 84) (v:=?_) (a':=?_) #[tt,tt,tt,tt,tt,tt,tt,ff,ff,tt,ff,ff,ff,ff] rfl rfl (any_of HT_.out (by kernel_rfl)) (fun _ _ _ h => h) (Or.inl ⟨by rfl,?_⟩) ?_ ?_
                    rotate_left
                    ·intro w'
                     go_simp
                     with_reducible rfl
                    rotate_left
                    ·simp only [Act.put,q1_,q2_,q3_,i64_w,i32_w]
                     rfl
                    refine take_ (i:=7) (N:=some 82) (v:=?_) (a':=?_) #[tt,tt,tt,tt,tt,tt,tt,tt,ff,tt,ff,ff,ff,ff] rfl rfl (take_ofW HT_.out HW_.out (by kernel_rfl)) (fun _ _ _ h => h) (Or.inl ⟨by rfl,?_⟩) hHeld ?_ ?_
                    rotate_left
                    ·rintro w' ⟨s0,s1,s2,s3,s4,s5,s6,s7,s8,s9,s10,s11,s12,s13,s14,s15⟩
                     go_simp
                     with_reducible rfl
                    rotate_left
                    ·simp only [Act.put,q1_,q2_,q3_,i64_w,i32_w]
                     rfl
                    refine pure_ (i:=8) (N:=some 83) (v:=?_) (a':=?_) #[tt,tt,tt,tt,tt,tt,tt,tt,tt,tt,ff,ff,ff,ff] rfl rfl (any_of HT_.out (by kernel_rfl)) (fun _ _ _ h => h) (Or.inl ⟨by rfl,?_⟩) ?_ ?_
                    rotate_left
                    ·intro w'
                     go_simp
                     with_reducible rfl
                    rotate_left
                    ·simp only [Act.put,q1_,q2_,q3_,i64_w,i32_w]
                     rfl
                    refine take_ (i:=10) (N:=some 85) (v:=?_) (a':=?_) #[tt,tt,tt,tt,tt,tt,tt,tt,tt,tt,tt,ff,ff,ff] rfl rfl (take_ofW HT_.out HW_.out (by kernel_rfl)) (fun _ _ _ h => h) (Or.inl ⟨by rfl,?_⟩) hHeld ?_ ?_
                    rotate_left
                    ·rintro w' ⟨s0,s1,s2,s3,s4,s5,s6,s7,s8,s9,s10,s11,s12,s13,s14,s15⟩
                     go_simp
                     with_reducible rfl
                    rotate_left
                    ·simp only [Act.put,q1_,q2_,q3_,i64_w,i32_w]
                     rfl
                    refine pure_ (i:=11) (N:=some 86) (v:=?_) (a':=?_) #[tt,tt,tt,tt,tt,tt,tt,tt,tt,tt,tt,tt,ff,ff] rfl rfl (any_of HT_.out (by kernel_rfl)) (fun _ _ _ h => h) (Or.inl ⟨by rfl,?_⟩) ?_ ?_
                    rotate_left
                    ·intro w'
                     go_simp
                     with_reducible rfl
                    rotate_left
                    ·simp only [Act.put,q1_,q2_,q3_,i64_w,i32_w]
                     rfl
                    refine pure_ (i:=12) (N:=some 87) (v:=?_) (a':=?_) #[tt,tt,tt,tt,tt,tt,tt,tt,tt,tt,tt,tt,tt,ff] rfl rfl (any_of HT_.out (by kernel_rfl)) (fun _ _ _ h => h) (Or.inl ⟨by rfl,?_⟩) ?_ ?_
                    rotate_left
                    ·intro w'
                     go_simp
                     with_reducible rfl
                    rotate_left
                    ·simp only [Act.put,q1_,q2_,q3_,i64_w,i32_w]
                     rfl
                    refine pure_ (i:=13) (N:=some 88) (v:=?_) (a':=?_) #[tt,tt,tt,tt,tt,tt,tt,tt,tt,tt,tt,tt,tt,tt] rfl rfl (any_of HT_.out (by kernel_rfl)) (fun _ _ _ h => h) (Or.inl ⟨by rfl,?_⟩) ?_ ?_
                    rotate_left
                    ·intro w'
                     go_simp
                     with_reducible rfl
                    rotate_left
                    ·simp only [Act.put,q1_,q2_,q3_,i64_w,i32_w]
                     rfl
                    refine done_ (done_of HT_.out (by kernel_rfl)) ?_
                    try go_wp2
                    go_meet
                    case rel => exact ⟨_,(((((rd_T86 t469 6).f3).toList == ([] : List UInt8)) != (((rd_T86 t469 0).f1) == 1))),(by first | rfl | (simp;done) | (simp [*];done) | (simp [bne,str_nil];done)),H',⟨by have:=HJ3.out;have:=HJ17.out;have:=HJ37.out;first | omega | exact Nat.le_refl _⟩,⟨by (with_reducible repeat (first | apply Kd.R_alloc | apply Kd.R_drewN | apply Kd.R_drew));exact HO_493002.out⟩,⟨by (with_reducible repeat (first | apply Kd.R_alloc | apply Kd.R_drewN | apply Kd.R_drew));exact HO_493002.out⟩,⟨by (with_reducible repeat (first | refine blk_drewN ?_ _ | refine blk_drew ?_ | refine blk_alloc ?_ _));exact BK465.out⟩,⟨by (with_reducible repeat (first | refine blk_drewN ?_ _ | refine blk_drew ?_ | refine blk_alloc ?_ _));exact BK480.out⟩,⟨by (with_reducible repeat (first | refine blk_drewN ?_ _ | refine blk_drew ?_ | refine blk_alloc ?_ _));exact BK492.out⟩,⟨by repeat (first | (with_reducible first | exact HB.out | apply below_alloc | apply pw_below_drewN | apply below_drew1 | refine below_set ?_ GE465.out | refine below_set ?_ GE480.out | refine below_set ?_ GE492.out) | exact HB.out)⟩⟩
                   ·rw [if_neg c62] at H
                    exact absurd H (by simp)
                  ·rw [if_neg c61] at H
                   have c61b0 : (t493 == 0) = false:=beq_eq_false_iff_ne.mpr c61
                   have c61b1 : (t493 != 0) = true:=bne_iff_ne.mpr c61
                   (first | rw [c61b0] | (simp only [i64_w,i32_w];rw [c61b0]) | skip)
                   have H':=Aside0.mk H
                   clear H
                   try go_wp2
                   have n0_ : Aside0 (Kd.R k86 86 ((((((wc.setCell ⟨gb480,6,none⟩ (.float .f64 t483)).setCell ⟨gb480,7,none⟩ (.bool t484)).setCell ⟨gb480,8,none⟩ (.slice Ao45 t485.length co45)).setCell ⟨gb480,9,none⟩ (.int .i64 t488)).setCell ⟨gb480,10,none⟩ (.int .i64 t489)).setCell ⟨gb480,11,none⟩ (.int .i64 t490)) w.heap.size (fun _ => True) (.slice (some ad474) t469.length co20) t469):=⟨by (with_reducible repeat (first | apply Kd.R_alloc | apply Kd.R_drewN | apply Kd.R_drew));exact Kd.R_mono (Kd.R_far (p:=⟨gb480,11,none⟩) (Kd.R_far (p:=⟨gb480,10,none⟩) (Kd.R_far (p:=⟨gb480,9,none⟩) (Kd.R_far (p:=⟨gb480,8,none⟩) (Kd.R_far (p:=⟨gb480,7,none⟩) (Kd.R_far (p:=⟨gb480,6,none⟩) (Kd.R_types HO_4.out BK480.out (by decide)) (fun _ hk => hk.2) (.float .f64 t483)) (fun _ hk => hk.2) (.bool t484)) (fun _ hk => hk.2) (.slice Ao45 t485.length co45)) (fun _ hk => hk.2) (.int .i64 t488)) (fun _ hk => hk.2) (.int .i64 t489)) (fun _ hk => hk.2) (.int .i64 t490)) (fun _ hk => trivial)⟩
                   have n1_ : Aside0 (Kd.R Kd.f64 25 ((((((wc.setCell ⟨gb480,6,none⟩ (.float .f64 t483)).setCell ⟨gb480,7,none⟩ (.bool t484)).setCell ⟨gb480,8,none⟩ (.slice Ao45 t485.length co45)).setCell ⟨gb480,9,none⟩ (.int .i64 t488)).setCell ⟨gb480,10,none⟩ (.int .i64 t489)).setCell ⟨gb480,11,none⟩ (.int .i64 t490)) w.heap.size (fun _ => True) (.slice Ao45 t485.length co45) t485):=⟨by (with_reducible repeat (first | apply Kd.R_alloc | apply Kd.R_drewN | apply Kd.R_drew));exact Kd.R_mono (Kd.R_far (p:=⟨gb480,11,none⟩) (Kd.R_far (p:=⟨gb480,10,none⟩) (Kd.R_far (p:=⟨gb480,9,none⟩) (Kd.R_far (p:=⟨gb480,8,none⟩) (Kd.R_far (p:=⟨gb480,7,none⟩) (Kd.R_far (p:=⟨gb480,6,none⟩) (Kd.R_types HO_493002.out BK480.out (by decide)) (fun _ hk => hk.2) (.float .f64 t483)) (fun _ hk => hk.2) (.bool t484)) (fun _ hk => hk.2) (.slice Ao45 t485.length co45)) (fun _ hk => hk.2) (.int .i64 t488)) (fun _ hk => hk.2) (.int .i64 t489)) (fun _ hk => hk.2) (.int .i64 t490)) (fun _ hk => trivial)⟩
                   have n2_ : Aside0 (((((((wc.setCell ⟨gb480,6,none⟩ (.float .f64 t483)).setCell ⟨gb480,7,none⟩ (.bool t484)).setCell ⟨gb480,8,none⟩ (.slice Ao45 t485.length co45)).setCell ⟨gb480,9,none⟩ (.int .i64 t488)).setCell ⟨gb480,10,none⟩ (.int .i64 t489)).setCell ⟨gb480,11,none⟩ (.int .i64 t490)).heap[gb465]? = some (.cells #[.int .i64 0,.int .i64 0,.int .i64 0,.int .i64 0,.int .i64 0,.int .i64 0,.float .f64 0,.bool false,.slice none 0 0,.int .i64 0,.int .i64 0,.int .i64 0] 32 (0,0))):=⟨by (with_reducible repeat (first | refine blk_drewN ?_ _ | refine blk_drew ?_ | refine blk_alloc ?_ _));refine blk_far ?_ NB465_480.out _;(with_reducible repeat (first | refine blk_drewN ?_ _ | refine blk_drew ?_ | refine blk_alloc ?_ _));refine blk_far ?_ NB465_480.out _;(with_reducible repeat (first | refine blk_drewN ?_ _ | refine blk_drew ?_ | refine blk_alloc ?_ _));refine blk_far ?_ NB465_480.out _;(with_reducible repeat (first | refine blk_drewN ?_ _ | refine blk_drew ?_ | refine blk_alloc ?_ _));refine blk_far ?_ NB465_480.out _;(with_reducible repeat (first | refine blk_drewN ?_ _ | refine blk_drew ?_ | refine blk_alloc ?_ _));refine blk_far ?_ NB465_480.out _;(with_reducible repeat (first | refine blk_drewN ?_ _ | refine blk_drew ?_ | refine blk_alloc ?_ _));refine blk_far ?_ NB465_480.out _;(with_reducible repeat (first | refine blk_drewN ?_ _ | refine blk_drew ?_ | refine blk_alloc ?_ _));exact BK465.out⟩
                   have n3_ : Aside0 (((((((wc.setCell ⟨gb480,6,none⟩ (.float .f64 t483)).setCell ⟨gb480,7,none⟩ (.bool t484)).setCell ⟨gb480,8,none⟩ (.slice Ao45 t485.length co45)).setCell ⟨gb480,9,none⟩ (.int .i64 t488)).setCell ⟨gb480,10,none⟩ (.int .i64 t489)).setCell ⟨gb480,11,none⟩ (.int .i64 t490)).heap[gb480]? = some (.cells #[.int .i64 ((rd_T86 t469 1).f1),.int .i64 ((rd_T86 t469 2).f1),.int .i64 ((rd_T86 t469 3).f1),.int .i64 ((rd_T86 t469 0).f1),.int .i64 ((rd_T86 t469 4).f1),.int .i64 ((rd_T86 t469 5).f1),.float .f64 t483,.bool t484,.slice Ao45 t485.length co45,.int .i64 t488,.int .i64 t489,.int .i64 t490] 32 (0,0))):=⟨by (with_reducible repeat (first | refine blk_drewN ?_ _ | refine blk_drew ?_ | refine blk_alloc ?_ _));apply blkf_12_6_11;(with_reducible repeat (first | refine blk_drewN ?_ _ | refine blk_drew ?_ | refine blk_alloc ?_ _));exact BK480.out⟩
                   have n4_ : Aside0 (((((((wc.setCell ⟨gb480,6,none⟩ (.float .f64 t483)).setCell ⟨gb480,7,none⟩ (.bool t484)).setCell ⟨gb480,8,none⟩ (.slice Ao45 t485.length co45)).setCell ⟨gb480,9,none⟩ (.int .i64 t488)).setCell ⟨gb480,10,none⟩ (.int .i64 t489)).setCell ⟨gb480,11,none⟩ (.int .i64 t490)).heap[gb492]? = some (.cells #[.float .f64 t483,.bool t484,.slice Ao45 t485.length co45,.int .i64 t488,.int .i64 t489,.int .i64 t490] 30 (0,0))):=⟨by (with_reducible repeat (first | refine blk_drewN ?_ _ | refine blk_drew ?_ | refine blk_alloc ?_ _));refine blk_far ?_ NB492_480.out _;(with_reducible repeat (first | refine blk_drewN ?_ _ | refine blk_drew ?_ | refine blk_alloc ?_ _));refine blk_far ?_ NB492_480.out _;(with_reducible repeat (first | refine blk_drewN ?_ _ | refine blk_drew ?_ | refine blk_alloc ?_ _));refine blk_far ?_ NB492_480.out _;(with_reducible repeat (first | refine blk_drewN ?_ _ | refine blk_drew ?_ | refine blk_alloc ?_ _));refine blk_far ?_ NB492_480.out _;(with_reducible repeat (first | refine blk_drewN ?_ _ | refine blk_drew ?_ | refine blk_alloc ?_ _));refine blk_far ?_ NB492_480.out _;(with_reducible repeat (first | refine blk_drewN ?_ _ | refine blk_drew ?_ | refine blk_alloc ?_ _));refine blk_far ?_ NB492_480.out _;(with_reducible repeat (first | refine blk_drewN ?_ _ | refine blk_drew ?_ | refine blk_alloc ?_ _));exact BK492.out⟩
                   have n5_ : Aside0 (Below w.heap.size w ((((((wc.setCell ⟨gb480,6,none⟩ (.float .f64 t483)).setCell ⟨gb480,7,none⟩ (.bool t484)).setCell ⟨gb480,8,none⟩ (.slice Ao45 t485.length co45)).setCell ⟨gb480,9,none⟩ (.int .i64 t488)).setCell ⟨gb480,10,none⟩ (.int .i64 t489)).setCell ⟨gb480,11,none⟩ (.int .i64 t490))):=⟨by repeat (first | (with_reducible first | exact HB.out | apply below_alloc | apply pw_below_drewN | apply below_drew1 | refine below_set ?_ GE465.out | refine below_set ?_ GE480.out | refine below_set ?_ GE492.out) | exact HB.out)⟩
                   (try clear HO_4)
                   (try clear HO_493002)
                   (try clear BK465)
                   (try clear BK480)
                   (try clear BK492)
                   (try clear HB)
                   generalize ((((((wc.setCell ⟨gb480,6,none⟩ (.float .f64 t483)).setCell ⟨gb480,7,none⟩ (.bool t484)).setCell ⟨gb480,8,none⟩ (.slice Ao45 t485.length co45)).setCell ⟨gb480,9,none⟩ (.int .i64 t488)).setCell ⟨gb480,10,none⟩ (.int .i64 t489)).setCell ⟨gb480,11,none⟩ (.int .i64 t490)) = w66 at n0_ n1_ n2_ n3_ n4_ n5_ ⊢
                   have HO_4:=n0_
                   have HO_493002:=n1_
                   have BK465:=n2_
                   have BK480:=n3_
                   have BK492:=n4_
                   have HB:=n5_
                   clear n0_ n1_ n2_ n3_ n4_ n5_
                   have n0_:=Aside0.mk (Kd.R_drew HO_4.out)
                   have n1_:=Aside0.mk (Kd.R_drew HO_493002.out)
                   have n2_:=Aside0.mk (blk_drew BK465.out)
                   have n3_:=Aside0.mk (blk_drew BK480.out)
                   have n4_:=Aside0.mk (blk_drew BK492.out)
                   have n5_:=Aside0.mk (below_drew1 HB.out)
                   clear HO_4
                   clear HO_493002
                   clear BK465
                   clear BK480
                   clear BK492
                   clear HB
                   have HO_4:=n0_
                   have HO_493002:=n1_
                   have BK465:=n2_
                   have BK480:=n3_
                   have BK492:=n4_
                   have HB:=n5_
                   clear n0_ n1_ n2_ n3_ n4_ n5_
                   refine start_ (n:=14) (S:=fun w' => w'.cell? ⟨gb480,0,none⟩ = some (.int .i64 ((rd_T86 t469 1).f1)) ∧ w'.cell? ⟨gb480,1,none⟩ = some (.int .i64 ((rd_T86 t469 2).f1)) ∧ w'.cell? ⟨gb480,2,none⟩ = some (.int .i64 ((rd_T86 t469 3).f1)) ∧ w'.cell? ⟨gb480,3,none⟩ = some (.int .i64 ((rd_T86 t469 0).f1)) ∧ w'.cell? ⟨gb480,4,none⟩ = some (.int .i64 ((rd_T86 t469 4).f1)) ∧ w'.cell? ⟨gb480,5,none⟩ = some (.int .i64 ((rd_T86 t469 5).f1)) ∧ w'.cell? ⟨gb480,6,none⟩ = some (.float .f64 t483) ∧ w'.cell? ⟨gb480,7,none⟩ = some (.bool t484) ∧ w'.cell? ⟨gb480,8,none⟩ = some (.slice Ao45 t485.length co45) ∧ w'.cell? ⟨gb480,9,none⟩ = some (.int .i64 t488) ∧ w'.cell? ⟨gb480,10,none⟩ = some (.int .i64 t489) ∧ w'.cell? ⟨gb480,11,none⟩ = some (.int .i64 t490)) (ds:=[1]) #[ff,ff,ff,ff,ff,ff,ff,ff,ff,ff,ff,ff,ff,ff] (by kernel_rfl) rfl rfl ⟨(blk_cell BK480.out 0).trans rfl,(blk_cell BK480.out 1).trans rfl,(blk_cell BK480.out 2).trans rfl,(blk_cell BK480.out 3).trans rfl,(blk_cell BK480.out 4).trans rfl,(blk_cell BK480.out 5).trans rfl,(blk_cell BK480.out 6).trans rfl,(blk_cell BK480.out 7).trans rfl,(blk_cell BK480.out 8).trans rfl,(blk_cell BK480.out 9).trans rfl,(blk_cell BK480.out 10).trans rfl,(blk_cell BK480.out 11).trans rfl⟩ (fun hHeld => ?_);refine with_tabW undorec_Decode.tab10 undorec_Decode.bits10 (fun HT_ HW_ => ?_)
                   generalize w66.drew = w67 at HO_4 HO_493002 BK465 BK480 BK492 HB hHeld ⊢
                   refine take_ (i:=0) (N:=some 75) (v:=?_) (a':=?_) #[tt,ff,ff,ff,ff,ff,ff,ff,ff,ff,ff,ff,ff,ff] rfl rfl (take_ofW HT_.out HW_.out (by kernel_rfl)) (fun _ _ _ h => h) (Or.inl ⟨by rfl,?_⟩) hHeld ?_ ?_
                   rotate_left
                   ·rintro w' ⟨s0,s1,s2,s3,s4,s5,s6,s7,s8,s9,s10,s11⟩
                    go_simp
                    with_reducible rfl
                   rotate_left
                   ·simp only [Act.put,q1_,q2_,q3_,i64_w,i32_w]
                    rfl
                   refine last_ (i:=1) (N:=some 76) #[tt,tt,ff,ff,ff,ff,ff,ff,ff,ff,ff,ff,ff,ff] rfl rfl (one_of HT_.out (by kernel_rfl)) (by decide) (fun K hK => ?_)
                   refine goes_ Try.func47 (by kernel_rfl) rfl #[.agg #[.int .i64 ((rd_T86 t469 1).f1),.int .i64 ((rd_T86 t469 2).f1),.int .i64 ((rd_T86 t469 3).f1),.int .i64 ((rd_T86 t469 0).f1),.int .i64 ((rd_T86 t469 4).f1),.int .i64 ((rd_T86 t469 5).f1),.float .f64 t483,.bool t484,.slice Ao45 t485.length co45,.int .i64 t488,.int .i64 t489,.int .i64 t490]] (by rfl) rfl rfl (by (try simp only [List.map_toArray,List.map_cons,List.map_nil]);first | done | rfl | (simp only [List.length_drop,List.length_take];rfl)) ?_
                   with_reducible refine (undorec_Check.calls kj37 ((rd_T86 t469 1).f1) ((rd_T86 t469 2).f1) ((rd_T86 t469 3).f1) ((rd_T86 t469 0).f1) ((rd_T86 t469 4).f1) ((rd_T86 t469 5).f1) t483 t484 _ _ t485 t488 t489 t490 t493 _ ?side1 ?side2 A60.out).mono ?_
                   (case side1 => repeat (first | exact (Kd.R_reads' HO_493002.out).2.2 | (with_reducible refine Kd.C_alloc ?_ _) | (with_reducible refine Kd.C_drewN ?_ _) | (with_reducible refine Kd.C_drew ?_)))
                   (case side2 => exact (Kd.R_reads' HO_493002.out).2.1)
                   rintro e w68 ⟨rfl,hb⟩
                   refine ⟨_,rfl,?_⟩
                   have n0_:=Aside0.mk (Kd.R_below (by (with_reducible repeat (first | apply Kd.R_alloc | apply Kd.R_drewN | apply Kd.R_drew));exact HO_4.out) hb)
                   have n1_:=Aside0.mk (Kd.R_below (by (with_reducible repeat (first | apply Kd.R_alloc | apply Kd.R_drewN | apply Kd.R_drew));exact HO_493002.out) hb)
                   have n2_:=Aside0.mk (blk_below (g:=gb465) (o:=.cells #[.int .i64 0,.int .i64 0,.int .i64 0,.int .i64 0,.int .i64 0,.int .i64 0,.float .f64 0,.bool false,.slice none 0 0,.int .i64 0,.int .i64 0,.int .i64 0] 32 (0,0)) (by (with_reducible repeat (first | refine blk_drewN ?_ _ | refine blk_drew ?_ | refine blk_alloc ?_ _));exact BK465.out) hb)
                   have n3_:=Aside0.mk (blk_below (g:=gb480) (o:=.cells #[.int .i64 ((rd_T86 t469 1).f1),.int .i64 ((rd_T86 t469 2).f1),.int .i64 ((rd_T86 t469 3).f1),.int .i64 ((rd_T86 t469 0).f1),.int .i64 ((rd_T86 t469 4).f1),.int .i64 ((rd_T86 t469 5).f1),.float .f64 t483,.bool t484,.slice Ao45 t485.length co45,.int .i64 t488,.int .i64 t489,.int .i64 t490] 32 (0,0)) (by (with_reducible repeat (first | refine blk_drewN ?_ _ | refine blk_drew ?_ | refine blk_alloc ?_ _));exact BK480.out) hb)
                   have n4_:=Aside0.mk (blk_below (g:=gb492) (o:=.cells #[.float .f64 t483,.bool t484,.slice Ao45 t485.length co45,.int .i64 t488,.int .i64 t489,.int .i64 t490] 30 (0,0)) (by (with_reducible repeat (first | refine blk_drewN ?_ _ | refine blk_drew ?_ | refine blk_alloc ?_ _));exact BK492.out) hb)
                   have n5_:=Aside0.mk (below_step (by repeat (first | (with_reducible first | exact HB.out | apply below_alloc | apply pw_below_drewN | apply below_drew1 | refine below_set ?_ GE465.out | refine below_set ?_ GE480.out | refine below_set ?_ GE492.out) | exact HB.out)) hb)
                   clear HO_4
                   clear HO_493002
                   clear BK465
                   clear BK480
                   clear BK492
                   clear HB
                   have HO_4:=n0_
                   have HO_493002:=n1_
                   have BK465:=n2_
                   have BK480:=n3_
                   have BK492:=n4_
                   have HB:=n5_
                   clear n0_ n1_ n2_ n3_ n4_ n5_
                   (try clear hb)
                   (try clear hb2)
                   (try clear hk)
                   (try clear hi)
                   refine hK.out _ _ ?_
                   clear hK K
                   refine norm_ (a':=?_) ?_ ?_
                   rotate_left
                   ·show Act.put _ (some 76) _ = _
                    simp only [Act.put,q1_,q2_,q3_,i64_w,i32_w]
                    rfl
                   refine pure_ (i:=2) (N:=some 77) (v:=?_) (a':=?_) #[tt,tt,tt,ff,ff,ff,ff,ff,ff,ff,ff,ff,ff,ff] rfl rfl (any_of HT_.out (by kernel_rfl)) (fun _ _ _ h => h) (Or.inl ⟨by rfl,?_⟩) ?_ ?_
                   rotate_left
                   ·intro w'
                    go_simp
                    with_reducible rfl
                   rotate_left
                   ·simp only [Act.put,q1_,q2_,q3_,i64_w,i32_w]
                    rfl
                   refine pure_ (i:=3) (N:=some 78) (v:=?_) (a':=?_) #[tt,tt,tt,tt,ff,ff,ff,ff,ff,ff,ff,ff,ff,ff] rfl rfl (any_of HT_.out (by kernel_rfl)) (fun _ _ _ h => h) (Or.inl ⟨by rfl,?_⟩) ?_ ?_
                   rotate_left
                   ·intro w'
                    go_simp
                    with_reducible rfl
                   rotate_left
                   ·simp only [Act.put,q1_,q2_,q3_,i64_w,i32_w]
                    rfl
                   refine pure_ (i:=4) (N:=some 79) (v:=undef) (a':=?_) #[tt,tt,tt,tt,tt,ff,ff,ff,ff,ff,ff,ff,ff,ff] rfl rfl (any_of HT_.out (by kernel_rfl)) (fun _ _ _ h => h) (Or.inr ⟨by rfl,rfl⟩) ?_ ?_
                   rotate_left
                   ·simp only [Act.put,q1_,q2_,q3_,i64_w,i32_w]
                    rfl
                   refine pure_ (i:=5) (N:=some 80) (v:=undef) (a':=?_) #[tt,tt,tt,tt,tt,tt,ff,ff,ff,ff,ff,ff,ff,ff] rfl rfl (any_of HT_.out (by kernel_rfl)) (fun _ _ _ h => h) (Or.inr ⟨by rfl,rfl⟩) ?_ ?_
                   rotate_left
                   ·simp only [Act.put,q1_,q2_,q3_,i64_w,i32_w]
                    rfl
                   refine pure_ (i:=6) (N:=some 81) (v:=undef) (a':=?_) #[tt,tt,tt,tt,tt,tt,tt,ff,ff,ff,ff,ff,ff,ff] rfl rfl (any_of HT_.out (by kernel_rfl)) (fun _ _ _ h => h) (Or.inr ⟨by rfl,rfl⟩) ?_ ?_
                   rotate_left
                   ·simp only [Act.put,q1_,q2_,q3_,i64_w,i32_w]
                    rfl
                   refine pure_ (i:=7) (N:=some 82) (v:=undef) (a':=?_) #[tt,tt,tt,tt,tt,tt,tt,tt,ff,ff,ff,ff,ff,ff] rfl rfl (any_of HT_.out (by kernel_rfl)) (fun _ _ _ h => h) (Or.inr ⟨by rfl,rfl⟩) ?_ ?_
                   rotate_left
                   ·simp only [Act.put,q1_,q2_,q3_,i64_w,i32_w]
                    rfl
                   refine pure_ (i:=8) (N:=some 83) (v:=undef) (a':=?_) #[tt,tt,tt,tt,tt,tt,tt,tt,tt,ff,ff,ff,ff,ff] rfl rfl (any_of HT_.out (by kernel_rfl)) (fun _ _ _ h => h) (Or.inr ⟨by rfl,rfl⟩) ?_ ?_
                   rotate_left
                   ·simp only [Act.put,q1_,q2_,q3_,i64_w,i32_w]
                    rfl
                   refine pure_ (i:=9) (N:=some 84) (v:=undef) (a':=?_) #[tt,tt,tt,tt,tt,tt,tt,tt,tt,tt,ff,ff,ff,ff] rfl rfl (any_of HT_.out (by kernel_rfl)) (fun _ _ _ h => h) (Or.inr ⟨by rfl,rfl⟩) ?_ ?_
                   rotate_left
                   ·simp only [Act.put,q1_,q2_,q3_,i64_w,i32_w]
                    rfl
                   refine pure_ (i:=10) (N:=some 85) (v:=undef) (a':=?_) #[tt,tt,tt,tt,tt,tt,tt,tt,tt,tt,tt,ff,ff,ff] rfl rfl (any_of HT_.out (by kernel_rfl)) (fun _ _ _ h => h) (Or.inr ⟨by rfl,rfl⟩) ?_ ?_
                   rotate_left
                   ·simp only [Act.put,q1_,q2_,q3_,i64_w,i32_w]
                    rfl
                   refine pure_ (i:=11) (N:=some 86) (v:=undef) (a':=?_) #[tt,tt,tt,tt,tt,tt,tt,tt,tt,tt,tt,tt,ff,ff] rfl rfl (any_of HT_.out (by kernel_rfl)) (fun _ _ _ h => h) (Or.inr ⟨by rfl,rfl⟩) ?_ ?_
                   rotate_left
                   ·simp only [Act.put,q1_,q2_,q3_,i64_w,i32_w]
                    rfl
                   refine pure_ (i:=12) (N:=some 87) (v:=undef) (a':=?_) #[tt,tt,tt,tt,tt,tt,tt,tt,tt,tt,tt,tt,tt,ff] rfl rfl (any_of HT_.out (by kernel_rfl)) (fun _ _ _ h => h) (Or.inr ⟨by rfl,rfl⟩) ?_ ?_
                   rotate_left
                   ·simp only [Act.put,q1_,q2_,q3_,i64_w,i32_w]
                    rfl
                   refine pure_ (i:=13) (N:=some 88) (v:=?_) (a':=?_) #[tt,tt,tt,tt,tt,tt,tt,tt,tt,tt,tt,tt,tt,tt] rfl rfl (any_of HT_.out (by kernel_rfl)) (fun _ _ _ h => h) (Or.inl ⟨by rfl,?_⟩) ?_ ?_
                   rotate_left
                   ·intro w'
                    go_simp
                    with_reducible rfl
                   rotate_left
                   ·simp only [Act.put,q1_,q2_,q3_,i64_w,i32_w]
                    rfl
                   refine done_ (done_of HT_.out (by kernel_rfl)) ?_
                   try go_wp2
                   go_meet
                   case rel => exact ⟨_,(true),(by first | rfl | (simp;done) | (simp [*];done) | (simp [bne,str_nil];done)),H',⟨by have:=HJ3.out;have:=HJ17.out;have:=HJ37.out;first | omega | exact Nat.le_refl _⟩,⟨by (with_reducible repeat (first | apply Kd.R_alloc | apply Kd.R_drewN | apply Kd.R_drew));exact HO_493002.out⟩,⟨by (with_reducible repeat (first | apply Kd.R_alloc | apply Kd.R_drewN | apply Kd.R_drew));exact HO_493002.out⟩,⟨by (with_reducible repeat (first | refine blk_drewN ?_ _ | refine blk_drew ?_ | refine blk_alloc ?_ _));exact BK465.out⟩,⟨by (with_reducible repeat (first | refine blk_drewN ?_ _ | refine blk_drew ?_ | refine blk_alloc ?_ _));exact BK480.out⟩,⟨by (with_reducible repeat (first | refine blk_drewN ?_ _ | refine blk_drew ?_ | refine blk_alloc ?_ _));exact BK492.out⟩,⟨by repeat (first | (with_reducible first | exact HB.out | apply below_alloc | apply pw_below_drewN | apply below_drew1 | refine below_set ?_ GE465.out | refine below_set ?_ GE480.out | refine below_set ?_ GE492.out) | exact HB.out)⟩⟩
                 case rest =>
                  clear HC54
                  try clear p2
                  try clear c3
                  try clear c4
                  try clear p4
                  try clear q4
                  try clear hx4
                  try clear qi4
                  try clear c5
                  try clear c6
                  try clear c36
                  try clear c36b1
                  try clear c42
                  try clear c43
                  try clear c46
                  try clear c46b0
                  try clear c46b1
                  try clear c47
                  try clear p47
                  try clear q47
                  try clear hx47
                  try clear c48
                  try clear p48
                  try clear q48
                  try clear hx48
                  try clear qi48
                  try clear p49
                  try clear q49
                  try clear hx49
                  try clear qi49
                  try clear c50
                  try clear c51
                  try clear c52
                  try clear c55
                  try clear c56
                  try clear c58
                  try clear c61
                  try clear c61b0
                  try clear c61b1
                  try clear c62
                  try clear c62b0
                  try clear c62b1
                  try clear hcz44_0
                  try clear hcz44_1
                  try clear hcz44_2
                  try clear hcz44_3
                  try clear hcz44_4
                  try clear hcz44_5
                  try clear hcz49_0
                  try clear hcz49_1
                  try clear hcz49_10
                  try clear hcz49_11
                  try clear hcz49_2
                  try clear hcz49_3
                  try clear hcz49_4
                  try clear hcz49_5
                  try clear hcz49_6
                  try clear hcz49_7
                  try clear hcz49_8
                  try clear hcz49_9
                  try clear hcz53_0
                  try clear hcz53_1
                  try clear hcz53_10
                  try clear hcz53_11
                  try clear hcz53_2
                  try clear hcz53_3
                  try clear hcz53_4
                  try clear hcz53_5
                  try clear hcz53_6
                  try clear hcz53_7
                  try clear hcz53_8
                  try clear hcz53_9
                  try clear hcz57_0
                  try clear hcz57_1
                  try clear hcz57_2
                  try clear hcz57_3
                  try clear hcz57_4
                  try clear hcz57_5
                  try clear hcz59_0
                  try clear hcz59_1
                  try clear hcz59_10
                  try clear hcz59_11
                  try clear hcz59_2
                  try clear hcz59_3
                  try clear hcz59_4
                  try clear hcz59_5
                  try clear hcz59_6
                  try clear hcz59_7
                  try clear hcz59_8
                  try clear hcz59_9
                  try clear hfz11_10
                  try clear hfz11_11
                  try clear hfz11_4
                  try clear hfz11_5
                  try clear hfz11_6
                  try clear hfz11_7
                  try clear hfz11_8
                  try clear hfz11_9
                  try clear hfz44_0
                  try clear hfz44_1
                  try clear hfz44_2
                  try clear hfz44_3
                  try clear hfz44_4
                  try clear hfz44_5
                  try clear hfz49_0
                  try clear hfz49_1
                  try clear hfz49_10
                  try clear hfz49_11
                  try clear hfz49_2
                  try clear hfz49_3
                  try clear hfz49_4
                  try clear hfz49_5
                  try clear hfz49_6
                  try clear hfz49_7
                  try clear hfz49_8
                  try clear hfz49_9
                  try clear hfz53_0
                  try clear hfz53_1
                  try clear hfz53_10
                  try clear hfz53_11
                  try clear hfz53_2
                  try clear hfz53_3
                  try clear hfz53_4
                  try clear hfz53_5
                  try clear hfz53_6
                  try clear hfz53_7
                  try clear hfz53_8
                  try clear hfz53_9
                  try clear hfz57_0
                  try clear hfz57_1
                  try clear hfz57_2
                  try clear hfz57_3
                  try clear hfz57_4
                  try clear hfz57_5
                  try clear hfz59_0
                  try clear hfz59_1
                  try clear hfz59_10
                  try clear hfz59_11
                  try clear hfz59_2
                  try clear hfz59_3
                  try clear hfz59_4
                  try clear hfz59_5
                  try clear hfz59_6
                  try clear hfz59_7
                  try clear hfz59_8
                  try clear hfz59_9
                  try clear hx474_0
                  try clear hx474_1
                  try clear hx474_2
                  try clear hx474_3
                  try clear hx475_0
                  try clear hx475_1
                  try clear hx475_2
                  try clear hx475_3
                  try clear hx476_0
                  try clear hx476_1
                  try clear hx476_2
                  try clear hx476_3
                  try clear hx477_0
                  try clear hx477_1
                  try clear hx477_2
                  try clear hx477_3
                  try clear hx478_0
                  try clear hx478_1
                  try clear hx478_2
                  try clear hx478_3
                  try clear hx479_0
                  try clear hx479_1
                  try clear hx479_2
                  try clear hx479_3
                  try clear hx481_0
                  try clear hx481_1
                  try clear hx481_2
                  try clear hx481_3
                  try clear hx482_0
                  try clear hx482_1
                  try clear hx482_2
                  try clear hx482_3
                  try clear hx494_0
                  try clear hx494_1
                  try clear hx494_2
                  try clear hx494_3
                  try clear p2
                  try clear p4
                  try clear p47
                  try clear p474
                  try clear p475
                  try clear p476
                  try clear p477
                  try clear p478
                  try clear p479
                  try clear p48
                  try clear p481
                  try clear p482
                  try clear p494
                  try clear q4
                  try clear q47
                  try clear q474
                  try clear q475
                  try clear q476
                  try clear q477
                  try clear q478
                  try clear q479
                  try clear q48
                  try clear q481
                  try clear q482
                  try clear q494
                  obtain ⟨kq,x88_53,rfl,HA,HJ53,HO_481008,HO_493002,BK465,BK480,BK492,HB⟩:=hcut
                  cases kq with
                  | zero => exact absurd HA.out (by simp [undorec_Decode.j3])
                  | succ kj53 =>
                   have H:=HA.out
                   clear HA
                   simp only [undorec_Decode.j3] at H
                   by_cases c69 : x88_53 = true
                   ·subst c69
                    have H1 : (some (0,0,0,0,0,0,0,false,([] : List Nat),0,0,0,4)) = some (r1,r2,r3,r4,r5,r6,r7,r8,r9,r10,r11,r12,r13):=by rw [if_pos rfl] at H;exact H
                    clear H
                    have H:=H1
                    clear H1
                    simp only [Option.some.injEq,Prod.mk.injEq] at H
                    obtain ⟨rfl,rfl,rfl,rfl,rfl,rfl,rfl,rfl,rfl,rfl,rfl,rfl,rfl⟩:=H
                    have hnb70:=NB465_480.out
                    have hnc70:=NB480_465.out
                    have hnb71:=NB465_492.out
                    have hnc71:=NB492_465.out
                    obtain ⟨hcz72_0,hcz72_1,hcz72_2,hcz72_3,hcz72_4,hcz72_5,hcz72_6,hcz72_7,hcz72_8,hcz72_9,hcz72_10,hcz72_11⟩:=blkc_12 BK465.out
                    obtain ⟨hfz72_0,hfz72_1,hfz72_2,hfz72_3,hfz72_4,hfz72_5,hfz72_6,hfz72_7,hfz72_8,hfz72_9,hfz72_10,hfz72_11⟩:=blkz_12 BK465.out
                    go_wp2
                    refine bodyPost_ret (results_ct rfl _ _ gb465 32 #[.int .i64 0,.int .i64 0,.int .i64 0,.int .i64 0,.int .i64 0,.int .i64 0,.float .f64 0,.bool false,.slice none 0 0,.int .i64 0,.int .i64 0,.int .i64 0] (0,0) _ rfl (by (with_reducible repeat (first | refine blk_drewN ?_ _ | refine blk_drew ?_ | refine blk_alloc ?_ _));apply blkf_12_0_11;(with_reducible repeat (first | refine blk_drewN ?_ _ | refine blk_drew ?_ | refine blk_alloc ?_ _));exact BK465.out) Try.underlying32 rfl (by kernel_rfl)) rfl ?_
                    exact ⟨_,by first | rfl | (simp [errW_none,errW_some] <;> rfl) | (simp [*,errW_none,errW_some] <;> rfl),by first | exact Kd.R_nil _ _ _ _ _ | exact Kd.N_nil _ _ _ _ _ | exact Kd.V_nil _ _ _ _ _ | exact Kd.Q_nil _ _ _ _ _ | exact Kd.S_nil _ _ _ _ _,by repeat (first | (with_reducible first | exact HB.out | apply below_alloc | apply pw_below_drewN | apply below_drew1 | refine below_set ?_ GE465.out | refine below_set ?_ GE480.out | refine below_set ?_ GE492.out) | exact HB.out)⟩
                   ·replace c69:=Bool.eq_false_iff.mpr c69
                    subst c69
                    have H1 : (some (((rd_T86 t469 1).f1),((rd_T86 t469 2).f1),((rd_T86 t469 3).f1),((rd_T86 t469 0).f1),((rd_T86 t469 4).f1),((rd_T86 t469 5).f1),t483,t484,t485,t488,t489,t490,0)) = some (r1,r2,r3,r4,r5,r6,r7,r8,r9,r10,r11,r12,r13):=by rw [if_neg (show ¬ (false = true) by decide)] at H;exact H
                    clear H
                    have H:=H1
                    clear H1
                    simp only [Option.some.injEq,Prod.mk.injEq] at H
                    obtain ⟨rfl,rfl,rfl,rfl,rfl,rfl,rfl,rfl,rfl,rfl,rfl,rfl,rfl⟩:=H
                    have hnb73:=NB480_465.out
                    have hnc73:=NB465_480.out
                    have hnb74:=NB480_492.out
                    have hnc74:=NB492_480.out
                    obtain ⟨hcz75_0,hcz75_1,hcz75_2,hcz75_3,hcz75_4,hcz75_5,hcz75_6,hcz75_7,hcz75_8,hcz75_9,hcz75_10,hcz75_11⟩:=blkc_12 BK480.out
                    obtain ⟨hfz75_0,hfz75_1,hfz75_2,hfz75_3,hfz75_4,hfz75_5,hfz75_6,hfz75_7,hfz75_8,hfz75_9,hfz75_10,hfz75_11⟩:=blkz_12 BK480.out
                    have hnb76:=NB465_492.out
                    have hnc76:=NB492_465.out
                    obtain ⟨hcz77_0,hcz77_1,hcz77_2,hcz77_3,hcz77_4,hcz77_5,hcz77_6,hcz77_7,hcz77_8,hcz77_9,hcz77_10,hcz77_11⟩:=blkc_12 BK465.out
                    obtain ⟨hfz77_0,hfz77_1,hfz77_2,hfz77_3,hfz77_4,hfz77_5,hfz77_6,hfz77_7,hfz77_8,hfz77_9,hfz77_10,hfz77_11⟩:=blkz_12 BK465.out
                    go_wp2
                    refine bodyPost_ret (results_ct rfl _ _ gb465 32 #[.int .i64 ((rd_T86 t469 1).f1),.int .i64 ((rd_T86 t469 2).f1),.int .i64 ((rd_T86 t469 3).f1),.int .i64 ((rd_T86 t469 0).f1),.int .i64 ((rd_T86 t469 4).f1),.int .i64 ((rd_T86 t469 5).f1),.float .f64 t483,.bool t484,.slice Ao45 t485.length co45,.int .i64 t488,.int .i64 t489,.int .i64 t490] (0,0) _ rfl (by (with_reducible repeat (first | refine blk_drewN ?_ _ | refine blk_drew ?_ | refine blk_alloc ?_ _));apply blkf_12_0_11;(with_reducible repeat (first | refine blk_drewN ?_ _ | refine blk_drew ?_ | refine blk_alloc ?_ _));exact BK465.out) Try.underlying32 rfl (by kernel_rfl)) rfl ?_
                    exact ⟨_,by first | rfl | (simp [errW_none,errW_some] <;> rfl) | (simp [*,errW_none,errW_some] <;> rfl),by (with_reducible repeat (first | apply Kd.R_alloc | apply Kd.R_drewN | apply Kd.R_drew));exact Kd.R_mono (Kd.R_far (p:=⟨gb465,11,none⟩) (Kd.R_far (p:=⟨gb465,10,none⟩) (Kd.R_far (p:=⟨gb465,9,none⟩) (Kd.R_far (p:=⟨gb465,8,none⟩) (Kd.R_far (p:=⟨gb465,7,none⟩) (Kd.R_far (p:=⟨gb465,6,none⟩) (Kd.R_far (p:=⟨gb465,5,none⟩) (Kd.R_far (p:=⟨gb465,4,none⟩) (Kd.R_far (p:=⟨gb465,3,none⟩) (Kd.R_far (p:=⟨gb465,2,none⟩) (Kd.R_far (p:=⟨gb465,1,none⟩) (Kd.R_far (p:=⟨gb465,0,none⟩) (Kd.R_types HO_481008.out BK465.out (by decide)) (fun _ hk => hk.2) (.int .i64 ((rd_T86 t469 1).f1))) (fun _ hk => hk.2) (.int .i64 ((rd_T86 t469 2).f1))) (fun _ hk => hk.2) (.int .i64 ((rd_T86 t469 3).f1))) (fun _ hk => hk.2) (.int .i64 ((rd_T86 t469 0).f1))) (fun _ hk => hk.2) (.int .i64 ((rd_T86 t469 4).f1))) (fun _ hk => hk.2) (.int .i64 ((rd_T86 t469 5).f1))) (fun _ hk => hk.2) (.float .f64 t483)) (fun _ hk => hk.2) (.bool t484)) (fun _ hk => hk.2) (.slice Ao45 t485.length co45)) (fun _ hk => hk.2) (.int .i64 t488)) (fun _ hk => hk.2) (.int .i64 t489)) (fun _ hk => hk.2) (.int .i64 t490)) (fun _ hk => trivial),by repeat (first | (with_reducible first | exact HB.out | apply below_alloc | apply pw_below_drewN | apply below_drew1 | refine below_set ?_ GE465.out | refine below_set ?_ GE480.out | refine below_set ?_ GE492.out) | exact HB.out)⟩
             ·rw [if_neg c36] at H
              exact absurd H (by simp)
            ·replace c35:=Bool.eq_false_iff.mpr c35
             subst c35
             have H1 : ((undorec_Check.f kj17 ((rd_T86 t469 1).f1) ((rd_T86 t469 2).f1) ((rd_T86 t469 3).f1) ((rd_T86 t469 0).f1) ((rd_T86 t469 4).f1) ((rd_T86 t469 5).f1) 0 false ([] : List Nat) 0 0 0).bind fun t495 => (if t495 = 0 then (if 6 < (t469.length : Int) then (undorec_Decode.j4 kj17 ((((rd_T86 t469 6).f3).toList == ([] : List UInt8)) != (((rd_T86 t469 0).f1) == 1)) ((rd_T86 t469 1).f1) ((rd_T86 t469 2).f1) ((rd_T86 t469 3).f1) ((rd_T86 t469 0).f1) ((rd_T86 t469 4).f1) ((rd_T86 t469 5).f1) 0 false 0 0 0) else (none)) else (undorec_Decode.j4 kj17 true ((rd_T86 t469 1).f1) ((rd_T86 t469 2).f1) ((rd_T86 t469 3).f1) ((rd_T86 t469 0).f1) ((rd_T86 t469 4).f1) ((rd_T86 t469 5).f1) 0 false 0 0 0))) = some (r1,r2,r3,r4,r5,r6,r7,r8,r9,r10,r11,r12,r13):=by rw [if_neg (show ¬ (false = true) by decide)] at H;exact H
             clear H
             have H:=H1
             clear H1
             have HC78:=Aside0.mk H
             clear H
             go_upto_region 10 with (fail)
             go_cut [88] (fun v88 wc => ∃ (kq : Nat) (x88_77 : Bool),v88 = .bool x88_77 ∧ Aside0 (undorec_Decode.j4 kq x88_77 ((rd_T86 t469 1).f1) ((rd_T86 t469 2).f1) ((rd_T86 t469 3).f1) ((rd_T86 t469 0).f1) ((rd_T86 t469 4).f1) ((rd_T86 t469 5).f1) 0 false 0 0 0 = some (r1,r2,r3,r4,r5,r6,r7,r8,r9,r10,r11,r12,r13)) ∧ Aside0 (kq ≤ kj17) ∧ Aside0 (wc.heap[gb465]? = some (.cells #[.int .i64 0,.int .i64 0,.int .i64 0,.int .i64 0,.int .i64 0,.int .i64 0,.float .f64 0,.bool false,(.slice none 0 0),.int .i64 0,.int .i64 0,.int .i64 0] 32 (0,0))) ∧ Aside0 (wc.heap[gb480]? = some (.cells #[.int .i64 ((rd_T86 t469 1).f1),.int .i64 ((rd_T86 t469 2).f1),.int .i64 ((rd_T86 t469 3).f1),.int .i64 ((rd_T86 t469 0).f1),.int .i64 ((rd_T86 t469 4).f1),.int .i64 ((rd_T86 t469 5).f1),.float .f64 0,.bool false,(.slice none 0 0),.int .i64 0,.int .i64 0,.int .i64 0] 32 (0,0))) ∧ Aside0 (Below w.heap.size w wc))
             case first =>
              have H:=HC78.out
              clear HC78
              replace H:=Option.bind_eq_some_iff.mp H
              obtain ⟨t495,A790,H⟩:=H
              replace H : (if t495 = 0 then (if 6 < (t469.length : Int) then (undorec_Decode.j4 kj17 ((((rd_T86 t469 6).f3).toList == ([] : List UInt8)) != (((rd_T86 t469 0).f1) == 1)) ((rd_T86 t469 1).f1) ((rd_T86 t469 2).f1) ((rd_T86 t469 3).f1) ((rd_T86 t469 0).f1) ((rd_T86 t469 4).f1) ((rd_T86 t469 5).f1) 0 false 0 0 0) else (none)) else (undorec_Decode.j4 kj17 true ((rd_T86 t469 1).f1) ((rd_T86 t469 2).f1) ((rd_T86 t469 3).f1) ((rd_T86 t469 0).f1) ((rd_T86 t469 4).f1) ((rd_T86 t469 5).f1) 0 false 0 0 0)) = some (r1,r2,r3,r4,r5,r6,r7,r8,r9,r10,r11,r12,r13):=H
              have A79:=Aside0.mk A790
              clear A790
              by_cases c80 : t495 = 0
              ·rw [if_pos c80] at H
               have c80b0 : (t495 == 0) = true:=beq_iff_eq.mpr c80
               have c80b1 : (t495 != 0) = false:=bne_eq_false_iff_eq.mpr c80
               clear c80
               (first | rw [c80b0] | (simp only [i64_w,i32_w];rw [c80b0]) | skip)
               by_cases c81 : 6 < (t469.length : Int)
               ·rw [if_pos c81] at H
                have c81b0 : decide (6 < (t469.length : Int)) = true:=decide_eq_true c81
                have c81b1 : decide (6 < t469.length) = true:=decide_eq_true (by omega)
                clear c81
                have H':=Aside0.mk H
                clear H
                try go_wp2
                have n0_:=Aside0.mk (Kd.R_drew HO_4.out)
                have n1_:=Aside0.mk (blk_drew BK465.out)
                have n2_:=Aside0.mk (blk_drew BK480.out)
                have n3_:=Aside0.mk (below_drew1 HB.out)
                clear HO_4
                clear BK465
                clear BK480
                clear HB
                have HO_4:=n0_
                have BK465:=n1_
                have BK480:=n2_
                have HB:=n3_
                clear n0_ n1_ n2_ n3_
                have p496 : 0 ≤ (6 : Int):=(by omega)
                have q496 : 6 < (t469.length : Int):=of_decide_eq_true (by first | (with_reducible assumption) | assumption)
                obtain ⟨ad496,e496,hx496_0,hx496_1,hx496_2,hx496_3⟩:=at_T86 (Kd.R_reads' HO_4.out).2.2 6 p496 q496
                obtain rfl : ad474 = ad496:=(by injection e496)
                (try simp only [show (6 : Int).toNat = 6 from rfl,Nat.reduceMul,Nat.reduceEqDiff,Go.Addr.add,↓reduceIte] at hx496_0)
                (try simp only [show (6 : Int).toNat = 6 from rfl,Nat.reduceMul,Nat.reduceEqDiff,Go.Addr.add,↓reduceIte] at hx496_1)
                (try simp only [show (6 : Int).toNat = 6 from rfl,Nat.reduceMul,Nat.reduceEqDiff,Go.Addr.add,↓reduceIte] at hx496_2)
                (try simp only [show (6 : Int).toNat = 6 from rfl,Nat.reduceMul,Nat.reduceEqDiff,Go.Addr.add,↓reduceIte] at hx496_3)
                have qi496 : (6 < t469.length) = True:=eq_true (by omega)
                (try rw [show ((6 : Int)).toNat = 6 from rfl] at hx496_0)
                (try rw [show 6 * 4 = 24 from rfl] at hx496_0)
                (try rw [show ((6 : Int)).toNat = 6 from rfl] at hx496_1)
                (try rw [show 6 * 4 = 24 from rfl] at hx496_1)
                (try rw [show ((6 : Int)).toNat = 6 from rfl] at hx496_2)
                (try rw [show 6 * 4 = 24 from rfl] at hx496_2)
                (try rw [show ((6 : Int)).toNat = 6 from rfl] at hx496_3)
                (try rw [show 6 * 4 = 24 from rfl] at hx496_3)
                replace p496:=eq_true p496
                replace q496:=eq_true q496
                refine start_ (n:=14) (S:=fun w' => w'.cell? ⟨gb480,0,none⟩ = some (.int .i64 ((rd_T86 t469 1).f1)) ∧ w'.cell? ⟨gb480,1,none⟩ = some (.int .i64 ((rd_T86 t469 2).f1)) ∧ w'.cell? ⟨gb480,2,none⟩ = some (.int .i64 ((rd_T86 t469 3).f1)) ∧ w'.cell? ⟨gb480,3,none⟩ = some (.int .i64 ((rd_T86 t469 0).f1)) ∧ w'.cell? ⟨gb480,4,none⟩ = some (.int .i64 ((rd_T86 t469 4).f1)) ∧ w'.cell? ⟨gb480,5,none⟩ = some (.int .i64 ((rd_T86 t469 5).f1)) ∧ w'.cell? ⟨gb480,6,none⟩ = some (.float .f64 0) ∧ w'.cell? ⟨gb480,7,none⟩ = some (.bool false) ∧ w'.cell? ⟨gb480,8,none⟩ = some (.slice none 0 0) ∧ w'.cell? ⟨gb480,9,none⟩ = some (.int .i64 0) ∧ w'.cell? ⟨gb480,10,none⟩ = some (.int .i64 0) ∧ w'.cell? ⟨gb480,11,none⟩ = some (.int .i64 0) ∧ w'.cell? ⟨ad474.block,ad474.off + 24,none⟩ = some (.int .i64 ((rd_T86 t469 6).f0)) ∧ w'.cell? ⟨ad474.block,ad474.off + 24 + 1,none⟩ = some (.int .i64 ((rd_T86 t469 6).f1)) ∧ w'.cell? ⟨ad474.block,ad474.off + 24 + 2,none⟩ = some (.float .f64 ((rd_T86 t469 6).f2)) ∧ w'.cell? ⟨ad474.block,ad474.off + 24 + 3,none⟩ = some (.string ((rd_T86 t469 6).f3))) (ds:=[]) #[ff,ff,ff,ff,ff,ff,ff,ff,ff,ff,ff,ff,ff,ff] (by kernel_rfl) rfl rfl ⟨(blk_cell BK480.out 0).trans rfl,(blk_cell BK480.out 1).trans rfl,(blk_cell BK480.out 2).trans rfl,(blk_cell BK480.out 3).trans rfl,(blk_cell BK480.out 4).trans rfl,(blk_cell BK480.out 5).trans rfl,(blk_cell BK480.out 6).trans rfl,(blk_cell BK480.out 7).trans rfl,(blk_cell BK480.out 8).trans rfl,(blk_cell BK480.out 9).trans rfl,(blk_cell BK480.out 10).trans rfl,(blk_cell BK480.out 11).trans rfl,hx496_0,hx496_1,hx496_2,hx496_3⟩ (fun hHeld => ?_);refine with_tabW undorec_Decode.tab10 undorec_Decode.bits10 (fun HT_ HW_ => ?_)
                generalize wc.drew = w82 at HO_4 BK465 BK480 HB hx496_0 hx496_1 hx496_2 hx496_3 hHeld ⊢
                refine take_ (i:=0) (N:=some 75) (v:=?_) (a':=?_) #[tt,ff,ff,ff,ff,ff,ff,ff,ff,ff,ff,ff,ff,ff] rfl rfl (take_ofW HT_.out HW_.out (by kernel_rfl)) (fun _ _ _ h => h) (Or.inl ⟨by rfl,?_⟩) hHeld ?_ ?_
                rotate_left
                ·rintro w' ⟨s0,s1,s2,s3,s4,s5,s6,s7,s8,s9,s10,s11,s12,s13,s14,s15⟩
                 go_simp
                 with_reducible rfl
                rotate_left
                ·simp only [Act.put,q1_,q2_,q3_,i64_w,i32_w]
                 rfl
                refine one_ (i:=1) (N:=some 76) #[tt,tt,ff,ff,ff,ff,ff,ff,ff,ff,ff,ff,ff,ff] rfl rfl (one_of HT_.out (by kernel_rfl)) (by decide) (fun K hK => ?_)
                refine goes_ Try.func47 (by kernel_rfl) rfl #[.agg #[.int .i64 ((rd_T86 t469 1).f1),.int .i64 ((rd_T86 t469 2).f1),.int .i64 ((rd_T86 t469 3).f1),.int .i64 ((rd_T86 t469 0).f1),.int .i64 ((rd_T86 t469 4).f1),.int .i64 ((rd_T86 t469 5).f1),.float .f64 0,.bool false,.slice none 0 0,.int .i64 0,.int .i64 0,.int .i64 0]] (by rfl) rfl rfl (by (try simp only [List.map_toArray,List.map_cons,List.map_nil]);first | done | rfl | (simp only [List.length_drop,List.length_take];rfl)) ?_
                refine (undorec_Check.calls kj17 ((rd_T86 t469 1).f1) ((rd_T86 t469 2).f1) ((rd_T86 t469 3).f1) ((rd_T86 t469 0).f1) ((rd_T86 t469 4).f1) ((rd_T86 t469 5).f1) 0 false _ _ ([] : List Nat) 0 0 0 t495 _ ?side1 ?side2 A79.out).mono ?_
                (case side1 => exact Kd.C_nil _ _)
                (case side2 => exact Nat.le_refl _)
                rintro e w83 ⟨rfl,hb⟩
                have HS12_:=(hb.cell (World.block_lt_of_cell? _ _ (hHeld.2.2.2.2.2.2.2.2.2.2.2.2.1))).trans (hHeld.2.2.2.2.2.2.2.2.2.2.2.2.1)
                have HS13_:=(hb.cell (World.block_lt_of_cell? _ _ (hHeld.2.2.2.2.2.2.2.2.2.2.2.2.2.1))).trans (hHeld.2.2.2.2.2.2.2.2.2.2.2.2.2.1)
                have HS14_:=(hb.cell (World.block_lt_of_cell? _ _ (hHeld.2.2.2.2.2.2.2.2.2.2.2.2.2.2.1))).trans (hHeld.2.2.2.2.2.2.2.2.2.2.2.2.2.2.1)
                have HS15_:=(hb.cell (World.block_lt_of_cell? _ _ (hHeld.2.2.2.2.2.2.2.2.2.2.2.2.2.2.2))).trans (hHeld.2.2.2.2.2.2.2.2.2.2.2.2.2.2.2)
                refine ⟨_,rfl,?_⟩
                have n0_:=Aside0.mk (Kd.R_below (by (with_reducible repeat (first | apply Kd.R_alloc | apply Kd.R_drewN | apply Kd.R_drew));exact HO_4.out) hb)
                have n1_:=Aside0.mk (blk_below (g:=gb465) (o:=.cells #[.int .i64 0,.int .i64 0,.int .i64 0,.int .i64 0,.int .i64 0,.int .i64 0,.float .f64 0,.bool false,.slice none 0 0,.int .i64 0,.int .i64 0,.int .i64 0] 32 (0,0)) (by (with_reducible repeat (first | refine blk_drewN ?_ _ | refine blk_drew ?_ | refine blk_alloc ?_ _));exact BK465.out) hb)
                have n2_:=Aside0.mk (blk_below (g:=gb480) (o:=.cells #[.int .i64 ((rd_T86 t469 1).f1),.int .i64 ((rd_T86 t469 2).f1),.int .i64 ((rd_T86 t469 3).f1),.int .i64 ((rd_T86 t469 0).f1),.int .i64 ((rd_T86 t469 4).f1),.int .i64 ((rd_T86 t469 5).f1),.float .f64 0,.bool false,.slice none 0 0,.int .i64 0,.int .i64 0,.int .i64 0] 32 (0,0)) (by (with_reducible repeat (first | refine blk_drewN ?_ _ | refine blk_drew ?_ | refine blk_alloc ?_ _));exact BK480.out) hb)
                have n3_:=Aside0.mk (below_step (by repeat (first | (with_reducible first | exact HB.out | apply below_alloc | apply pw_below_drewN | apply below_drew1 | refine below_set ?_ GE465.out | refine below_set ?_ GE480.out) | exact HB.out)) hb)
                clear HO_4
                clear BK465
                clear BK480
                clear HB
                have HO_4:=n0_
                have BK465:=n1_
                have BK480:=n2_
                have HB:=n3_
                clear n0_ n1_ n2_ n3_
                (try clear hb)
                (try clear hb2)
                (try clear hk)
                (try clear hi)
                refine hK.out _ _ ⟨(blk_cell BK480.out 0).trans rfl,(blk_cell BK480.out 1).trans rfl,(blk_cell BK480.out 2).trans rfl,(blk_cell BK480.out 3).trans rfl,(blk_cell BK480.out 4).trans rfl,(blk_cell BK480.out 5).trans rfl,(blk_cell BK480.out 6).trans rfl,(blk_cell BK480.out 7).trans rfl,(blk_cell BK480.out 8).trans rfl,(blk_cell BK480.out 9).trans rfl,(blk_cell BK480.out 10).trans rfl,(blk_cell BK480.out 11).trans rfl,HS12_,HS13_,HS14_,HS15_⟩ (fun hHeld => ?_)
                clear hK K
                refine norm_ (a':=?_) ?_ ?_
                rotate_left
                ·show Act.put _ (some 76) _ = _
                 simp only [Act.put,q1_,q2_,q3_,i64_w,i32_w]
                 rfl
                refine pure_ (i:=2) (N:=some 77) (v:=?_) (a':=?_) #[tt,tt,tt,ff,ff,ff,ff,ff,ff,ff,ff,ff,ff,ff] rfl rfl (any_of HT_.out (by kernel_rfl)) (fun _ _ _ h => h) (Or.inl ⟨by rfl,?_⟩) ?_ ?_
                rotate_left
                ·intro w'
                 go_simp
                 with_reducible rfl
                rotate_left
                ·simp only [Act.put,q1_,q2_,q3_,i64_w,i32_w]
                 rfl
                refine pure_ (i:=3) (N:=some 78) (v:=?_) (a':=?_) #[tt,tt,tt,tt,ff,ff,ff,ff,ff,ff,ff,ff,ff,ff] rfl rfl (any_of HT_.out (by kernel_rfl)) (fun _ _ _ h => h) (Or.inl ⟨by rfl,?_⟩) ?_ ?_
                rotate_left
                ·intro w'
                 go_simp
                 with_reducible rfl
                rotate_left
                ·simp only [Act.put,q1_,q2_,q3_,i64_w,i32_w]
                 rfl
                refine pure_ (i:=4) (N:=some 79) (v:=?_) (a':=?_) #[tt,tt,tt,tt,tt,ff,ff,ff,ff,ff,ff,ff,ff,ff] rfl rfl (any_of HT_.out (by kernel_rfl)) (fun _ _ _ h => h) (Or.inl ⟨by rfl,?_⟩) ?_ ?_
                rotate_left
                ·intro w'
                 go_simp
                 with_reducible rfl
                rotate_left
                ·simp only [Act.put,q1_,q2_,q3_,i64_w,i32_w]
                 rfl
                refine pure_ (i:=5) (N:=some 80) (v:=?_) (a':=?_) #[tt,tt,tt,tt,tt,tt,ff,ff,ff,ff,ff,ff,ff,ff] rfl rfl (any_of HT_.out (by kernel_rfl)) (fun _ _ _ h => h) (Or.inl ⟨by rfl,?_⟩) ?_ ?_
                rotate_left
                ·intro w'
                 go_simp
                 with_reducible rfl
                rotate_left
                ·simp only [Act.put,q1_,q2_,q3_,i64_w,i32_w]
                 rfl
                refine pure_ (i:=6) (N:=some 81) (v:=?_) (a':=?_) #[tt,tt,tt,tt,tt,tt,tt,ff,ff,ff,ff,ff,ff,ff] rfl rfl (any_of HT_.out (by kernel_rfl)) (fun _ _ _ h => h) (Or.inl ⟨by rfl,?_⟩) ?_ ?_
                rotate_left
                ·intro w'
                 go_simp
                 with_reducible rfl
                rotate_left
                ·simp only [Act.put,q1_,q2_,q3_,i64_w,i32_w]
                 rfl
                refine pure_ (i:=9) (N:=some 84) (v:=?_) (a':=?_) #[tt,tt,tt,tt,tt,tt,tt,ff,ff,tt,ff,ff,ff,ff] rfl rfl (any_of HT_.out (by kernel_rfl)) (fun _ _ _ h => h) (Or.inl ⟨by rfl,?_⟩) ?_ ?_
                rotate_left
                ·intro w'
                 go_simp
                 with_reducible rfl
                rotate_left
                ·simp only [Act.put,q1_,q2_,q3_,i64_w,i32_w]
                 rfl
                refine take_ (i:=7) (N:=some 82) (v:=?_) (a':=?_) #[tt,tt,tt,tt,tt,tt,tt,tt,ff,tt,ff,ff,ff,ff] rfl rfl (take_ofW HT_.out HW_.out (by kernel_rfl)) (fun _ _ _ h => h) (Or.inl ⟨by rfl,?_⟩) hHeld ?_ ?_
                rotate_left
                ·rintro w' ⟨s0,s1,s2,s3,s4,s5,s6,s7,s8,s9,s10,s11,s12,s13,s14,s15⟩
                 go_simp
                 with_reducible rfl
                rotate_left
                ·simp only [Act.put,q1_,q2_,q3_,i64_w,i32_w]
                 rfl
                refine pure_ (i:=8) (N:=some 83) (v:=?_) (a':=?_) #[tt,tt,tt,tt,tt,tt,tt,tt,tt,tt,ff,ff,ff,ff] rfl rfl (any_of HT_.out (by kernel_rfl)) (fun _ _ _ h => h) (Or.inl ⟨by rfl,?_⟩) ?_ ?_
                rotate_left
                ·intro w'
                 go_simp
                 with_reducible rfl
                rotate_left
                ·simp only [Act.put,q1_,q2_,q3_,i64_w,i32_w]
                 rfl
                refine take_ (i:=10) (N:=some 85) (v:=?_) (a':=?_) #[tt,tt,tt,tt,tt,tt,tt,tt,tt,tt,tt,ff,ff,ff] rfl rfl (take_ofW HT_.out HW_.out (by kernel_rfl)) (fun _ _ _ h => h) (Or.inl ⟨by rfl,?_⟩) hHeld ?_ ?_
                rotate_left
                ·rintro w' ⟨s0,s1,s2,s3,s4,s5,s6,s7,s8,s9,s10,s11,s12,s13,s14,s15⟩
                 go_simp
                 with_reducible rfl
                rotate_left
                ·simp only [Act.put,q1_,q2_,q3_,i64_w,i32_w]
                 rfl
                refine pure_ (i:=11) (N:=some 86) (v:=?_) (a':=?_) #[tt,tt,tt,tt,tt,tt,tt,tt,tt,tt,tt,tt,ff,ff] rfl rfl (any_of HT_.out (by kernel_rfl)) (fun _ _ _ h => h) (Or.inl ⟨by rfl,?_⟩) ?_ ?_
                rotate_left
                ·intro w'
                 go_simp
                 with_reducible rfl
                rotate_left
                ·simp only [Act.put,q1_,q2_,q3_,i64_w,i32_w]
                 rfl
                refine pure_ (i:=12) (N:=some 87) (v:=?_) (a':=?_) #[tt,tt,tt,tt,tt,tt,tt,tt,tt,tt,tt,tt,tt,ff] rfl rfl (any_of HT_.out (by kernel_rfl)) (fun _ _ _ h => h) (Or.inl ⟨by rfl,?_⟩) ?_ ?_
                rotate_left
                ·intro w'
                 go_simp
                 with_reducible rfl
                rotate_left
                ·simp only [Act.put,q1_,q2_,q3_,i64_w,i32_w]
                 rfl
                refine pure_ (i:=13) (N:=some 88) (v:=?_) (a':=?_) #[tt,tt,tt,tt,tt,tt,tt,tt,tt,tt,tt,tt,tt,tt] rfl rfl (any_of HT_.out (by kernel_rfl)) (fun _ _ _ h => h) (Or.inl ⟨by rfl,?_⟩) ?_ ?_
                rotate_left
                ·intro w'
                 go_simp
                 with_reducible rfl
                rotate_left
                ·simp only [Act.put,q1_,q2_,q3_,i64_w,i32_w]
                 rfl
                refine done_ (done_of HT_.out (by kernel_rfl)) ?_
                try go_wp2
                go_meet
                case rel => exact ⟨_,(((((rd_T86 t469 6).f3).toList == ([] : List UInt8)) != (((rd_T86 t469 0).f1) == 1))),(by first | rfl | (simp;done) | (simp [*];done) | (simp [bne,str_nil];done)),H',⟨by have:=HJ3.out;have:=HJ17.out;first | omega | exact Nat.le_refl _⟩,⟨by (with_reducible repeat (first | refine blk_drewN ?_ _ | refine blk_drew ?_ | refine blk_alloc ?_ _));exact BK465.out⟩,⟨by (with_reducible repeat (first | refine blk_drewN ?_ _ | refine blk_drew ?_ | refine blk_alloc ?_ _));exact BK480.out⟩,⟨by repeat (first | (with_reducible first | exact HB.out | apply below_alloc | apply pw_below_drewN | apply below_drew1 | refine below_set ?_ GE465.out | refine below_set ?_ GE480.out) | exact HB.out)⟩⟩
               ·rw [if_neg c81] at H
                exact absurd H (by simp)
              ·rw [if_neg c80] at H
               have c80b0 : (t495 == 0) = false:=beq_eq_false_iff_ne.mpr c80
               have c80b1 : (t495 != 0) = true:=bne_iff_ne.mpr c80
               (first | rw [c80b0] | (simp only [i64_w,i32_w];rw [c80b0]) | skip)
               have H':=Aside0.mk H
               clear H
               try go_wp2
               have n0_:=Aside0.mk (Kd.R_drew HO_4.out)
               have n1_:=Aside0.mk (blk_drew BK465.out)
               have n2_:=Aside0.mk (blk_drew BK480.out)
               have n3_:=Aside0.mk (below_drew1 HB.out)
               clear HO_4
               clear BK465
               clear BK480
               clear HB
               have HO_4:=n0_
               have BK465:=n1_
               have BK480:=n2_
               have HB:=n3_
               clear n0_ n1_ n2_ n3_
               refine start_ (n:=14) (S:=fun w' => w'.cell? ⟨gb480,0,none⟩ = some (.int .i64 ((rd_T86 t469 1).f1)) ∧ w'.cell? ⟨gb480,1,none⟩ = some (.int .i64 ((rd_T86 t469 2).f1)) ∧ w'.cell? ⟨gb480,2,none⟩ = some (.int .i64 ((rd_T86 t469 3).f1)) ∧ w'.cell? ⟨gb480,3,none⟩ = some (.int .i64 ((rd_T86 t469 0).f1)) ∧ w'.cell? ⟨gb480,4,none⟩ = some (.int .i64 ((rd_T86 t469 4).f1)) ∧ w'.cell? ⟨gb480,5,none⟩ = some (.int .i64 ((rd_T86 t469 5).f1)) ∧ w'.cell? ⟨gb480,6,none⟩ = some (.float .f64 0) ∧ w'.cell? ⟨gb480,7,none⟩ = some (.bool false) ∧ w'.cell? ⟨gb480,8,none⟩ = some (.slice none 0 0) ∧ w'.cell? ⟨gb480,9,none⟩ = some (.int .i64 0) ∧ w'.cell? ⟨gb480,10,none⟩ = some (.int .i64 0) ∧ w'.cell? ⟨gb480,11,none⟩ = some (.int .i64 0)) (ds:=[1]) #[ff,ff,ff,ff,ff,ff,ff,ff,ff,ff,ff,ff,ff,ff] (by kernel_rfl) rfl rfl ⟨(blk_cell BK480.out 0).trans rfl,(blk_cell BK480.out 1).trans rfl,(blk_cell BK480.out 2).trans rfl,(blk_cell BK480.out 3).trans rfl,(blk_cell BK480.out 4).trans rfl,(blk_cell BK480.out 5).trans rfl,(blk_cell BK480.out 6).trans rfl,(blk_cell BK480.out 7).trans rfl,(blk_cell BK480.out 8).trans rfl,(blk_cell BK480.out 9).trans rfl,(blk_cell BK480.out 10).trans rfl,(blk_cell BK480.out 11).trans rfl⟩ (fun hHeld => ?_);refine with_tabW undorec_Decode.tab10 undorec_Decode.bits10 (fun HT_ HW_ => ?_)
               generalize wc.drew = w84 at HO_4 BK465 BK480 HB hHeld ⊢
               refine take_ (i:=0) (N:=some 75) (v:=?_) (a':=?_) #[tt,ff,ff,ff,ff,ff,ff,ff,ff,ff,ff,ff,ff,ff] rfl rfl (take_ofW HT_.out HW_.out (by kernel_rfl)) (fun _ _ _ h => h) (Or.inl ⟨by rfl,?_⟩) hHeld ?_ ?_
               rotate_left
               ·rintro w' ⟨s0,s1,s2,s3,s4,s5,s6,s7,s8,s9,s10,s11⟩
                go_simp
                with_reducible rfl
               rotate_left
               ·simp only [Act.put,q1_,q2_,q3_,i64_w,i32_w]
                rfl
               refine last_ (i:=1) (N:=some 76) #[tt,tt,ff,ff,ff,ff,ff,ff,ff,ff,ff,ff,ff,ff] rfl rfl (one_of HT_.out (by kernel_rfl)) (by decide) (fun K hK => ?_)
               refine goes_ Try.func47 (by kernel_rfl) rfl #[.agg #[.int .i64 ((rd_T86 t469 1).f1),.int .i64 ((rd_T86 t469 2).f1),.int .i64 ((rd_T86 t469 3).f1),.int .i64 ((rd_T86 t469 0).f1),.int .i64 ((rd_T86 t469 4).f1),.int .i64 ((rd_T86 t469 5).f1),.float .f64 0,.bool false,.slice none 0 0,.int .i64 0,.int .i64 0,.int .i64 0]] (by rfl) rfl rfl (by (try simp only [List.map_toArray,List.map_cons,List.map_nil]);first | done | rfl | (simp only [List.length_drop,List.length_take];rfl)) ?_
               refine (undorec_Check.calls kj17 ((rd_T86 t469 1).f1) ((rd_T86 t469 2).f1) ((rd_T86 t469 3).f1) ((rd_T86 t469 0).f1) ((rd_T86 t469 4).f1) ((rd_T86 t469 5).f1) 0 false _ _ ([] : List Nat) 0 0 0 t495 _ ?side1 ?side2 A79.out).mono ?_
               (case side1 => exact Kd.C_nil _ _)
               (case side2 => exact Nat.le_refl _)
               rintro e w85 ⟨rfl,hb⟩
               refine ⟨_,rfl,?_⟩
               have n0_:=Aside0.mk (Kd.R_below (by (with_reducible repeat (first | apply Kd.R_alloc | apply Kd.R_drewN | apply Kd.R_drew));exact HO_4.out) hb)
               have n1_:=Aside0.mk (blk_below (g:=gb465) (o:=.cells #[.int .i64 0,.int .i64 0,.int .i64 0,.int .i64 0,.int .i64 0,.int .i64 0,.float .f64 0,.bool false,.slice none 0 0,.int .i64 0,.int .i64 0,.int .i64 0] 32 (0,0)) (by (with_reducible repeat (first | refine blk_drewN ?_ _ | refine blk_drew ?_ | refine blk_alloc ?_ _));exact BK465.out) hb)
               have n2_:=Aside0.mk (blk_below (g:=gb480) (o:=.cells #[.int .i64 ((rd_T86 t469 1).f1),.int .i64 ((rd_T86 t469 2).f1),.int .i64 ((rd_T86 t469 3).f1),.int .i64 ((rd_T86 t469 0).f1),.int .i64 ((rd_T86 t469 4).f1),.int .i64 ((rd_T86 t469 5).f1),.float .f64 0,.bool false,.slice none 0 0,.int .i64 0,.int .i64 0,.int .i64 0] 32 (0,0)) (by (with_reducible repeat (first | refine blk_drewN ?_ _ | refine blk_drew ?_ | refine blk_alloc ?_ _));exact BK480.out) hb)
               have n3_:=Aside0.mk (below_step (by repeat (first | (with_reducible first | exact HB.out | apply below_alloc | apply pw_below_drewN | apply below_drew1 | refine below_set ?_ GE465.out | refine below_set ?_ GE480.out) | exact HB.out)) hb)
               clear HO_4
               clear BK465
               clear BK480
               clear HB
               have HO_4:=n0_
               have BK465:=n1_
               have BK480:=n2_
               have HB:=n3_
               clear n0_ n1_ n2_ n3_
               (try clear hb)
               (try clear hb2)
               (try clear hk)
               (try clear hi)
               refine hK.out _ _ ?_
               clear hK K
               refine norm_ (a':=?_) ?_ ?_
               rotate_left
               ·show Act.put _ (some 76) _ = _
                simp only [Act.put,q1_,q2_,q3_,i64_w,i32_w]
                rfl
               refine pure_ (i:=2) (N:=some 77) (v:=?_) (a':=?_) #[tt,tt,tt,ff,ff,ff,ff,ff,ff,ff,ff,ff,ff,ff] rfl rfl (any_of HT_.out (by kernel_rfl)) (fun _ _ _ h => h) (Or.inl ⟨by rfl,?_⟩) ?_ ?_
               rotate_left
               ·intro w'
                go_simp
                with_reducible rfl
               rotate_left
               ·simp only [Act.put,q1_,q2_,q3_,i64_w,i32_w]
                rfl
               refine pure_ (i:=3) (N:=some 78) (v:=?_) (a':=?_) #[tt,tt,tt,tt,ff,ff,ff,ff,ff,ff,ff,ff,ff,ff] rfl rfl (any_of HT_.out (by kernel_rfl)) (fun _ _ _ h => h) (Or.inl ⟨by rfl,?_⟩) ?_ ?_
               rotate_left
               ·intro w'
                go_simp
                with_reducible rfl
               rotate_left
               ·simp only [Act.put,q1_,q2_,q3_,i64_w,i32_w]
                rfl
               refine pure_ (i:=4) (N:=some 79) (v:=undef) (a':=?_) #[tt,tt,tt,tt,tt,ff,ff,ff,ff,ff,ff,ff,ff,ff] rfl rfl (any_of HT_.out (by kernel_rfl)) (fun _ _ _ h => h) (Or.inr ⟨by rfl,rfl⟩) ?_ ?_
               rotate_left
               ·simp only [Act.put,q1_,q2_,q3_,i64_w,i32_w]
                rfl
               refine pure_ (i:=5) (N:=some 80) (v:=undef) (a':=?_) #[tt,tt,tt,tt,tt,tt,ff,ff,ff,ff,ff,ff,ff,ff] rfl rfl (any_of HT_.out (by kernel_rfl)) (fun _ _ _ h => h) (Or.inr ⟨by rfl,rfl⟩) ?_ ?_
               rotate_left
               ·simp only [Act.put,q1_,q2_,q3_,i64_w,i32_w]
                rfl
               refine pure_ (i:=6) (N:=some 81) (v:=undef) (a':=?_) #[tt,tt,tt,tt,tt,tt,tt,ff,ff,ff,ff,ff,ff,ff] rfl rfl (any_of HT_.out (by kernel_rfl)) (fun _ _ _ h => h) (Or.inr ⟨by rfl,rfl⟩) ?_ ?_
               rotate_left
               ·simp only [Act.put,q1_,q2_,q3_,i64_w,i32_w]
                rfl
               refine pure_ (i:=7) (N:=some 82) (v:=undef) (a':=?_) #[tt,tt,tt,tt,tt,tt,tt,tt,ff,ff,ff,ff,ff,ff] rfl rfl (any_of HT_.out (by kernel_rfl)) (fun _ _ _ h => h) (Or.inr ⟨by rfl,rfl⟩) ?_ ?_
               rotate_left
               ·simp only [Act.put,q1_,q2_,q3_,i64_w,i32_w]
                rfl
               refine pure_ (i:=8) (N:=some 83) (v:=undef) (a':=?_) #[tt,tt,tt,tt,tt,tt,tt,tt,tt,ff,ff,ff,ff,ff] rfl rfl (any_of HT_.out (by kernel_rfl)) (fun _ _ _ h => h) (Or.inr ⟨by rfl,rfl⟩) ?_ ?_
               rotate_left
               ·simp only [Act.put,q1_,q2_,q3_,i64_w,i32_w]
                rfl
               refine pure_ (i:=9) (N:=some 84) (v:=undef) (a':=?_) #[tt,tt,tt,tt,tt,tt,tt,tt,tt,tt,ff,ff,ff,ff] rfl rfl (any_of HT_.out (by kernel_rfl)) (fun _ _ _ h => h) (Or.inr ⟨by rfl,rfl⟩) ?_ ?_
               rotate_left
               ·simp only [Act.put,q1_,q2_,q3_,i64_w,i32_w]
                rfl
               refine pure_ (i:=10) (N:=some 85) (v:=undef) (a':=?_) #[tt,tt,tt,tt,tt,tt,tt,tt,tt,tt,tt,ff,ff,ff] rfl rfl (any_of HT_.out (by kernel_rfl)) (fun _ _ _ h => h) (Or.inr ⟨by rfl,rfl⟩) ?_ ?_
               rotate_left
               ·simp only [Act.put,q1_,q2_,q3_,i64_w,i32_w]
                rfl
               refine pure_ (i:=11) (N:=some 86) (v:=undef) (a':=?_) #[tt,tt,tt,tt,tt,tt,tt,tt,tt,tt,tt,tt,ff,ff] rfl rfl (any_of HT_.out (by kernel_rfl)) (fun _ _ _ h => h) (Or.inr ⟨by rfl,rfl⟩) ?_ ?_
               rotate_left
               ·simp only [Act.put,q1_,q2_,q3_,i64_w,i32_w]
                rfl
               refine pure_ (i:=12) (N:=some 87) (v:=undef) (a':=?_) #[tt,tt,tt,tt,tt,tt,tt,tt,tt,tt,tt,tt,tt,ff] rfl rfl (any_of HT_.out (by kernel_rfl)) (fun _ _ _ h => h) (Or.inr ⟨by rfl,rfl⟩) ?_ ?_
               rotate_left
               ·simp only [Act.put,q1_,q2_,q3_,i64_w,i32_w]
                rfl
               refine pure_ (i:=13) (N:=some 88) (v:=?_) (a':=?_) #[tt,tt,tt,tt,tt,tt,tt,tt,tt,tt,tt,tt,tt,tt] rfl rfl (any_of HT_.out (by kernel_rfl)) (fun _ _ _ h => h) (Or.inl ⟨by rfl,?_⟩) ?_ ?_
               rotate_left
               ·intro w'
                go_simp
                with_reducible rfl
               rotate_left
               ·simp only [Act.put,q1_,q2_,q3_,i64_w,i32_w]
                rfl
               refine done_ (done_of HT_.out (by kernel_rfl)) ?_
               try go_wp2
               go_meet
               case rel => exact ⟨_,(true),(by first | rfl | (simp;done) | (simp [*];done) | (simp [bne,str_nil];done)),H',⟨by have:=HJ3.out;have:=HJ17.out;first | omega | exact Nat.le_refl _⟩,⟨by (with_reducible repeat (first | refine blk_drewN ?_ _ | refine blk_drew ?_ | refine blk_alloc ?_ _));exact BK465.out⟩,⟨by (with_reducible repeat (first | refine blk_drewN ?_ _ | refine blk_drew ?_ | refine blk_alloc ?_ _));exact BK480.out⟩,⟨by repeat (first | (with_reducible first | exact HB.out | apply below_alloc | apply pw_below_drewN | apply below_drew1 | refine below_set ?_ GE465.out | refine below_set ?_ GE480.out) | exact HB.out)⟩⟩
             case rest =>
              clear HC78
              try clear p2
              try clear c3
              try clear c4
              try clear p4
              try clear q4
              try clear hx4
              try clear qi4
              try clear c6
              try clear c7
              try clear c8
              try clear c35
              try clear c36
              try clear c47
              try clear p47
              try clear q47
              try clear hx47
              try clear p48
              try clear q48
              try clear hx48
              try clear p49
              try clear q49
              try clear hx49
              try clear qi49
              try clear c69
              try clear c70
              try clear c71
              try clear c73
              try clear c74
              try clear c76
              try clear c80
              try clear c80b0
              try clear c80b1
              try clear c81
              try clear c81b0
              try clear c81b1
              try clear hcz49_8
              try clear hcz49_9
              try clear hcz53_0
              try clear hcz53_1
              try clear hcz53_10
              try clear hcz53_11
              try clear hcz53_2
              try clear hcz53_3
              try clear hcz53_4
              try clear hcz53_5
              try clear hcz53_6
              try clear hcz53_7
              try clear hcz53_8
              try clear hcz53_9
              try clear hcz57_0
              try clear hcz57_1
              try clear hcz57_2
              try clear hcz57_3
              try clear hcz57_4
              try clear hcz57_5
              try clear hcz59_0
              try clear hcz59_1
              try clear hcz59_10
              try clear hcz59_11
              try clear hcz59_2
              try clear hcz59_3
              try clear hcz59_4
              try clear hcz59_5
              try clear hcz59_6
              try clear hcz59_7
              try clear hcz59_8
              try clear hcz59_9
              try clear hcz72_0
              try clear hcz72_1
              try clear hcz72_10
              try clear hcz72_11
              try clear hcz72_2
              try clear hcz72_3
              try clear hcz72_4
              try clear hcz72_5
              try clear hcz72_6
              try clear hcz72_7
              try clear hcz72_8
              try clear hcz72_9
              try clear hcz75_0
              try clear hcz75_1
              try clear hcz75_10
              try clear hcz75_11
              try clear hcz75_2
              try clear hcz75_3
              try clear hcz75_4
              try clear hcz75_5
              try clear hcz75_6
              try clear hcz75_7
              try clear hcz75_8
              try clear hcz75_9
              try clear hcz77_0
              try clear hcz77_1
              try clear hcz77_10
              try clear hcz77_11
              try clear hcz77_2
              try clear hcz77_3
              try clear hcz77_4
              try clear hcz77_5
              try clear hcz77_6
              try clear hcz77_7
              try clear hcz77_8
              try clear hcz77_9
              try clear hfz11_10
              try clear hfz11_11
              try clear hfz11_4
              try clear hfz11_5
              try clear hfz11_6
              try clear hfz11_7
              try clear hfz11_8
              try clear hfz11_9
              try clear hfz44_0
              try clear hfz44_1
              try clear hfz44_2
              try clear hfz44_3
              try clear hfz44_4
              try clear hfz44_5
              try clear hfz49_0
              try clear hfz49_1
              try clear hfz49_10
              try clear hfz49_11
              try clear hfz49_2
              try clear hfz49_3
              try clear hfz49_4
              try clear hfz49_5
              try clear hfz49_6
              try clear hfz49_7
              try clear hfz49_8
              try clear hfz49_9
              try clear hfz53_0
              try clear hfz53_1
              try clear hfz53_10
              try clear hfz53_11
              try clear hfz53_2
              try clear hfz53_3
              try clear hfz53_4
              try clear hfz53_5
              try clear hfz53_6
              try clear hfz53_7
              try clear hfz53_8
              try clear hfz53_9
              try clear hfz57_0
              try clear hfz57_1
              try clear hfz57_2
              try clear hfz57_3
              try clear hfz57_4
              try clear hfz57_5
              try clear hfz59_0
              try clear hfz59_1
              try clear hfz59_10
              try clear hfz59_11
              try clear hfz59_2
              try clear hfz59_3
              try clear hfz59_4
              try clear hfz59_5
              try clear hfz59_6
              try clear hfz59_7
              try clear hfz59_8
              try clear hfz59_9
              try clear hfz72_0
              try clear hfz72_1
              try clear hfz72_10
              try clear hfz72_11
              try clear hfz72_2
              try clear hfz72_3
              try clear hfz72_4
              try clear hfz72_5
              try clear hfz72_6
              try clear hfz72_7
              try clear hfz72_8
              try clear hfz72_9
              try clear hfz75_0
              try clear hfz75_1
              try clear hfz75_10
              try clear hfz75_11
              try clear hfz75_2
              try clear hfz75_3
              try clear hfz75_4
              try clear hfz75_5
              try clear hfz75_6
              try clear hfz75_7
              try clear hfz75_8
              try clear hfz75_9
              try clear hfz77_0
              try clear hfz77_1
              try clear hfz77_10
              try clear hfz77_11
              try clear hfz77_2
              try clear hfz77_3
              try clear hfz77_4
              try clear hfz77_5
              try clear hfz77_6
              try clear hfz77_7
              try clear hfz77_8
              try clear hfz77_9
              try clear hx474_0
              try clear hx474_1
              try clear hx474_2
              try clear hx474_3
              try clear hx475_0
              try clear hx475_1
              try clear hx475_2
              try clear hx475_3
              try clear hx476_0
              try clear hx476_1
              try clear hx476_2
              try clear hx476_3
              try clear hx477_0
              try clear hx477_1
              try clear hx477_2
              try clear hx477_3
              try clear hx478_0
              try clear hx478_1
              try clear hx478_2
              try clear hx478_3
              try clear hx479_0
              try clear hx479_1
              try clear hx479_2
              try clear hx479_3
              try clear hx481_0
              try clear hx481_1
              try clear hx481_2
              try clear hx481_3
              try clear hx482_0
              try clear hx482_1
              try clear hx482_2
              try clear hx482_3
              try clear hx494_0
              try clear hx494_1
              try clear hx494_2
              try clear hx494_3
              try clear hx496_0
              try clear hx496_1
              try clear hx496_2
              try clear hx496_3
              try clear p2
              try clear p4
              try clear p47
              try clear p474
              try clear p475
              try clear p476
              try clear p477
              try clear p478
              try clear p479
              try clear p48
              try clear p481
              try clear p482
              try clear p494
              try clear p496
              try clear q4
              try clear q47
              try clear q474
              try clear q475
              try clear q476
              try clear q477
              try clear q478
              try clear q479
              try clear q48
              try clear q481
              try clear q482
              try clear q494
              try clear q496
              obtain ⟨kq,x88_77,rfl,HA,HJ77,BK465,BK480,HB⟩:=hcut
              cases kq with
              | zero => exact absurd HA.out (by simp [undorec_Decode.j4])
              | succ kj77 =>
               have H:=HA.out
               clear HA
               simp only [undorec_Decode.j4] at H
               by_cases c86 : x88_77 = true
               ·subst c86
                have H1 : (some (0,0,0,0,0,0,0,false,([] : List Nat),0,0,0,4)) = some (r1,r2,r3,r4,r5,r6,r7,r8,r9,r10,r11,r12,r13):=by rw [if_pos rfl] at H;exact H
                clear H
                have H:=H1
                clear H1
                simp only [Option.some.injEq,Prod.mk.injEq] at H
                obtain ⟨rfl,rfl,rfl,rfl,rfl,rfl,rfl,rfl,rfl,rfl,rfl,rfl,rfl⟩:=H
                have hnb87:=NB465_480.out
                have hnc87:=NB480_465.out
                obtain ⟨hcz88_0,hcz88_1,hcz88_2,hcz88_3,hcz88_4,hcz88_5,hcz88_6,hcz88_7,hcz88_8,hcz88_9,hcz88_10,hcz88_11⟩:=blkc_12 BK465.out
                obtain ⟨hfz88_0,hfz88_1,hfz88_2,hfz88_3,hfz88_4,hfz88_5,hfz88_6,hfz88_7,hfz88_8,hfz88_9,hfz88_10,hfz88_11⟩:=blkz_12 BK465.out
                go_wp2
                refine bodyPost_ret (results_ct rfl _ _ gb465 32 #[.int .i64 0,.int .i64 0,.int .i64 0,.int .i64 0,.int .i64 0,.int .i64 0,.float .f64 0,.bool false,.slice none 0 0,.int .i64 0,.int .i64 0,.int .i64 0] (0,0) _ rfl (by (with_reducible repeat (first | refine blk_drewN ?_ _ | refine blk_drew ?_ | refine blk_alloc ?_ _));apply blkf_12_0_11;(with_reducible repeat (first | refine blk_drewN ?_ _ | refine blk_drew ?_ | refine blk_alloc ?_ _));exact BK465.out) Try.underlying32 rfl (by kernel_rfl)) rfl ?_
                exact ⟨_,by first | rfl | (simp [errW_none,errW_some] <;> rfl) | (simp [*,errW_none,errW_some] <;> rfl),by first | exact Kd.R_nil _ _ _ _ _ | exact Kd.N_nil _ _ _ _ _ | exact Kd.V_nil _ _ _ _ _ | exact Kd.Q_nil _ _ _ _ _ | exact Kd.S_nil _ _ _ _ _,by repeat (first | (with_reducible first | exact HB.out | apply below_alloc | apply pw_below_drewN | apply below_drew1 | refine below_set ?_ GE465.out | refine below_set ?_ GE480.out) | exact HB.out)⟩
               ·replace c86:=Bool.eq_false_iff.mpr c86
                subst c86
                have H1 : (some (((rd_T86 t469 1).f1),((rd_T86 t469 2).f1),((rd_T86 t469 3).f1),((rd_T86 t469 0).f1),((rd_T86 t469 4).f1),((rd_T86 t469 5).f1),0,false,([] : List Nat),0,0,0,0)) = some (r1,r2,r3,r4,r5,r6,r7,r8,r9,r10,r11,r12,r13):=by rw [if_neg (show ¬ (false = true) by decide)] at H;exact H
                clear H
                have H:=H1
                clear H1
                simp only [Option.some.injEq,Prod.mk.injEq] at H
                obtain ⟨rfl,rfl,rfl,rfl,rfl,rfl,rfl,rfl,rfl,rfl,rfl,rfl,rfl⟩:=H
                have hnb89:=NB480_465.out
                have hnc89:=NB465_480.out
                obtain ⟨hcz90_0,hcz90_1,hcz90_2,hcz90_3,hcz90_4,hcz90_5,hcz90_6,hcz90_7,hcz90_8,hcz90_9,hcz90_10,hcz90_11⟩:=blkc_12 BK480.out
                obtain ⟨hfz90_0,hfz90_1,hfz90_2,hfz90_3,hfz90_4,hfz90_5,hfz90_6,hfz90_7,hfz90_8,hfz90_9,hfz90_10,hfz90_11⟩:=blkz_12 BK480.out
                obtain ⟨hcz91_0,hcz91_1,hcz91_2,hcz91_3,hcz91_4,hcz91_5,hcz91_6,hcz91_7,hcz91_8,hcz91_9,hcz91_10,hcz91_11⟩:=blkc_12 BK465.out
                obtain ⟨hfz91_0,hfz91_1,hfz91_2,hfz91_3,hfz91_4,hfz91_5,hfz91_6,hfz91_7,hfz91_8,hfz91_9,hfz91_10,hfz91_11⟩:=blkz_12 BK465.out
                go_wp2
                refine bodyPost_ret (results_ct rfl _ _ gb465 32 #[.int .i64 ((rd_T86 t469 1).f1),.int .i64 ((rd_T86 t469 2).f1),.int .i64 ((rd_T86 t469 3).f1),.int .i64 ((rd_T86 t469 0).f1),.int .i64 ((rd_T86 t469 4).f1),.int .i64 ((rd_T86 t469 5).f1),.float .f64 0,.bool false,.slice none 0 0,.int .i64 0,.int .i64 0,.int .i64 0] (0,0) _ rfl (by (with_reducible repeat (first | refine blk_drewN ?_ _ | refine blk_drew ?_ | refine blk_alloc ?_ _));apply blkf_12_0_11;(with_reducible repeat (first | refine blk_drewN ?_ _ | refine blk_drew ?_ | refine blk_alloc ?_ _));exact BK465.out) Try.underlying32 rfl (by kernel_rfl)) rfl ?_
                exact ⟨_,by first | rfl | (simp [errW_none,errW_some] <;> rfl) | (simp [*,errW_none,errW_some] <;> rfl),by first | exact Kd.R_nil _ _ _ _ _ | exact Kd.N_nil _ _ _ _ _ | exact Kd.V_nil _ _ _ _ _ | exact Kd.Q_nil _ _ _ _ _ | exact Kd.S_nil _ _ _ _ _,by repeat (first | (with_reducible first | exact HB.out | apply below_alloc | apply pw_below_drewN | apply below_drew1 | refine below_set ?_ GE465.out | refine below_set ?_ GE480.out) | exact HB.out)⟩
         ·rw [if_neg c17] at H
          exact absurd H (by simp)
        ·rw [if_neg c16] at H
         exact absurd H (by simp)
       ·rw [if_neg c15] at H
        exact absurd H (by simp)
      ·rw [if_neg c14] at H
       exact absurd H (by simp)
     ·rw [if_neg c13] at H
      exact absurd H (by simp)
    ·rw [if_neg c12] at H
     exact absurd H (by simp)
end Go.Proofs.Ytdcllbhkjcdnoaa.P
set_option linter.unusedVariables false
set_option linter.unusedSimpArgs false
namespace Go.Proofs.Ytdcllbhkjcdnoaa.P
open Go.RowKit Go.Proofs.Ytdcllbhkjcdnoaa Go.Proofs.Ytdcllbhkjcdnoaa.Mem Go.Proofs.Ytdcllbhkjcdnoaa.Pac Go.Proofs.YtdcllbhkjcdnoaaW.PrintWords Go.Proofs.YtdcllbhkjcdnoaaW.PrintLast Go.Proofs.YtdcllbhkjcdnoaaW.PrintMore
abbrev UDecT := Int × Int × Int × Int × Int × Int × Nat × Bool × List Nat × Int × Int × Int × Int
def uErr : UDecT := (0, 0, 0, 0, 0, 0, 0, false, [], 0, 0, 0, 4)
theorem bytes_byB (s : ByteArray) : byB (bytesOf s) = true := byB_bytes.2 (bytesOf_bytes s)
theorem uJ2 {k : Nat} (hk : 60 ≤ k) (l : List SIt) (h6 : 6 < l.length) (hs : ((rd_T86 l 6).f3).toList ≠ []) (z : Bool) {tx no pr ki pa sl : Int} (q7 : Nat) (q8 : Bool) (q10 q11 q12 : Int) {ke : Nat} {de : Bool} {co : List Nat} {wr ce nn : Int} (hl : co.length ≤ 1000000) :
    undorec_Decode.j2 k l z tx no pr ki pa sl q7 q8 q10 q11 q12 ke de co wr ce nn = some (if z = false ∧ mayU tx no pr ki pa sl ke de co wr ce nn = true ∧ ki ≠ 1 then (tx, no, pr, ki, pa, sl, ke, de, co, wr, ce, nn, 0) else uErr) := by
  obtain ⟨k, rfl⟩ : ∃ m, k = m + 2 := ⟨k - 2, by omega⟩
  simp only [undorec_Decode.j2]
  cases z with
  | true => rw [if_pos rfl, if_neg (fun h => by cases h.1)]; rfl
  | false =>
    rw [if_neg (by decide), uCheck_ev (by omega) hl]
    simp only [Option.bind_some]
    by_cases hm : mayU tx no pr ki pa sl ke de co wr ce nn = true
    · rw [if_pos hm, if_pos rfl, if_pos (by omega)]
      rw [show (((rd_T86 l 6).f3).toList == ([] : List UInt8)) = false from beq_eq_false_iff_ne.2 hs]
      simp only [undorec_Decode.j3]
      by_cases h1 : ki = 1
      · rw [show (ki == 1) = true from beq_iff_eq.2 h1, if_pos (by decide), if_neg (fun h => h.2.2 h1)]; rfl
      · rw [show (ki == 1) = false from beq_eq_false_iff_ne.2 h1, if_neg (by decide), if_pos ⟨trivial, hm, h1⟩]
    · rw [if_neg hm, if_neg (by decide), if_neg (fun h => hm h.2.1)]
      simp only [undorec_Decode.j3]
      rw [if_pos trivial]; rfl
theorem uJ1e {k : Nat} (hk : 60 ≤ k) (l : List SIt) (h6 : 6 < l.length) (hs : ((rd_T86 l 6).f3).toList = []) {tx no pr ki pa sl : Int} :
    undorec_Decode.j1 k l false tx no pr ki pa sl 0 false 0 0 0 = some (if mayU tx no pr ki pa sl 0 false [] 0 0 0 = true ∧ ki = 1 then (tx, no, pr, ki, pa, sl, 0, false, [], 0, 0, 0, 0) else uErr) := by
  obtain ⟨k, rfl⟩ : ∃ m, k = m + 2 := ⟨k - 2, by omega⟩
  simp only [undorec_Decode.j1]
  rw [if_neg (by decide), uCheck_ev (by omega) (by decide)]
  simp only [Option.bind_some]
  by_cases hm : mayU tx no pr ki pa sl 0 false [] 0 0 0 = true
  · rw [if_pos hm, if_pos rfl, if_pos (by omega), hs]
    simp only [undorec_Decode.j4]
    by_cases h1 : ki = 1
    · rw [show (ki == 1) = true from beq_iff_eq.2 h1, if_neg (by decide), if_pos ⟨hm, h1⟩]
    · rw [show (ki == 1) = false from beq_eq_false_iff_ne.2 h1, if_pos (by decide), if_neg (fun h => h1 h.2)]; rfl
  · rw [if_neg hm, if_neg (by decide), if_neg (fun h => hm h.1)]
    simp only [undorec_Decode.j4]
    rw [if_pos trivial]; rfl
end Go.Proofs.Ytdcllbhkjcdnoaa.P
set_option linter.unusedVariables false
set_option linter.unusedSimpArgs false
namespace Go.Proofs.Ytdcllbhkjcdnoaa.P
open Go.RowKit Go.Proofs.Ytdcllbhkjcdnoaa Go.Proofs.Ytdcllbhkjcdnoaa.Mem Go.Proofs.Ytdcllbhkjcdnoaa.Pac Go.Proofs.YtdcllbhkjcdnoaaW.PrintWords Go.Proofs.YtdcllbhkjcdnoaaW.PrintLast Go.Proofs.YtdcllbhkjcdnoaaW.PrintMore
abbrev uKs : List Int := [1, 3, 3, 2, 1, 1, 5]
theorem bytesOf_len_lt {s : ByteArray} (h : s.size < 256) : (bytesOf s).length ≤ 100000 := by rw [bytesOf_length]; omega
def uSay (k : Nat) (i0 i1 i2 i3 i4 i5 i6 : It) : Option UDecT :=
  if i6.s.toList = [] then some (if mayU i1.n i2.n i3.n i0.n i4.n i5.n 0 false [] 0 0 0 = true ∧ i0.n = 1 then (i1.n, i2.n, i3.n, i0.n, i4.n, i5.n, 0, false, [], 0, 0, 0, 0) else uErr)
  else (row_Decode.f k (bytesOf i6.s)).bind fun r => if r.2.2.2.2.2.2 = 0 then some (if i0.n = 2 ∧ mayU i1.n i2.n i3.n i0.n i4.n i5.n r.1 r.2.1 r.2.2.1 r.2.2.2.1 r.2.2.2.2.1 r.2.2.2.2.2.1 = true then (i1.n, i2.n, i3.n, i0.n, i4.n, i5.n, r.1, r.2.1, r.2.2.1, r.2.2.2.1, r.2.2.2.2.1, r.2.2.2.2.2.1, 0) else uErr) else some uErr
set_option maxHeartbeats 4000000 in
theorem uDec_any {k : Nat} {b : List Int} (hk : 100 ≤ k) (hb : byB b = true) (hl : b.length ≤ 100000) :
    undorec_Decode.f (k + 2) b = (match takes b 0 uKs with
      | some ([i0, i1, i2, i3, i4, i5, i6], n) => if n = b.length then uSay k i0 i1 i2 i3 i4 i5 i6 else some uErr
      | _ => some uErr) := by
  have hby := byB_bytes.1 hb
  unfold undorec_Decode.f undorec_parts.f
  simp only [Option.bind_some]
  unfold pack_Take.f takeF
  rw [if_pos ⟨hb, by omega, by decide⟩]
  simp only [Option.bind_some]
  have hj : ∀ l, undorec_Decode.j0 (k + 2) l true = some uErr := fun l => by simp only [undorec_Decode.j0, if_true]; rfl
  unfold takeR
  rw [if_pos (show kindsOk [1, 3, 3, 2, 1, 1, 5] = true by decide)]
  cases ht : takes b 0 [1, 3, 3, 2, 1, 1, 5] with
  | none =>
    simp only
    rw [if_neg (by decide)]
    exact hj _
  | some p =>
    obtain ⟨l, n⟩ := p
    obtain ⟨t1, t2, t3, t4, t5, t6, t7⟩ := takes_spec hby _ _ _ _ (Nat.zero_le _) (by decide) ht
    have h7 : l.length = 7 := by rw [← List.length_map (f := (·.k)), t3]; rfl
    obtain ⟨i0, i1, i2, i3, i4, i5, i6, rfl⟩ : ∃ a b c d e f g, l = [a, b, c, d, e, f, g] := by
      match l, h7 with
      | [a, b, c, d, e, f, g], _ => exact ⟨a, b, c, d, e, f, g, rfl⟩
    simp only [List.map_cons, List.map_nil]
    rw [if_pos trivial]
    have hk6 : i6.k = 5 := by have := congrArg (fun z => z[6]?) t3; simpa using this
    have f6 := form5 (t4 i6 (by simp)) hk6
    by_cases hn : n = b.length
    rotate_left
    · rw [if_neg hn, show ((n : Int) != (b.length : Int)) = true from bne_iff_ne.2 (by omega)]; exact hj _
    rw [if_pos hn, show ((n : Int) != (b.length : Int)) = false from bne_eq_false_iff_eq.2 (by omega)]
    have hlen : (([ofIt i0, ofIt i1, ofIt i2, ofIt i3, ofIt i4, ofIt i5, ofIt i6] : List SIt).length : Int) = 7 := rfl
    simp only [undorec_Decode.j0, hlen]
    rw [if_neg (by decide), if_pos (by decide), if_pos (by decide), if_pos (by decide), if_pos (by decide), if_pos (by decide), if_pos (by decide), if_pos (by decide)]
    have e0 : (rd_T86 [ofIt i0, ofIt i1, ofIt i2, ofIt i3, ofIt i4, ofIt i5, ofIt i6] 0).f1 = i0.n := rfl
    have e1 : (rd_T86 [ofIt i0, ofIt i1, ofIt i2, ofIt i3, ofIt i4, ofIt i5, ofIt i6] 1).f1 = i1.n := rfl
    have e2 : (rd_T86 [ofIt i0, ofIt i1, ofIt i2, ofIt i3, ofIt i4, ofIt i5, ofIt i6] 2).f1 = i2.n := rfl
    have e3 : (rd_T86 [ofIt i0, ofIt i1, ofIt i2, ofIt i3, ofIt i4, ofIt i5, ofIt i6] 3).f1 = i3.n := rfl
    have e4 : (rd_T86 [ofIt i0, ofIt i1, ofIt i2, ofIt i3, ofIt i4, ofIt i5, ofIt i6] 4).f1 = i4.n := rfl
    have e5 : (rd_T86 [ofIt i0, ofIt i1, ofIt i2, ofIt i3, ofIt i4, ofIt i5, ofIt i6] 5).f1 = i5.n := rfl
    have e6 : (rd_T86 [ofIt i0, ofIt i1, ofIt i2, ofIt i3, ofIt i4, ofIt i5, ofIt i6] 6).f3 = i6.s := rfl
    rw [e0, e1, e2, e3, e4, e5, e6]
    unfold uSay
    by_cases hs : i6.s.toList = []
    · rw [if_pos hs, show (i6.s.toList != ([] : List UInt8)) = false from bne_eq_false_iff_eq.2 hs]
      exact uJ1e (k := k + 1) (by omega) [ofIt i0, ofIt i1, ofIt i2, ofIt i3, ofIt i4, ofIt i5, ofIt i6] (show 6 < 7 by decide) (by rw [e6]; exact hs)
    · rw [if_neg hs, show (i6.s.toList != ([] : List UInt8)) = true from bne_iff_ne.2 hs]
      simp only [undorec_Decode.j1, hlen, e6]
      rw [if_pos trivial, if_pos (by decide)]
      unfold row_Decode_b.f
      rw [if_pos (by omega)]
      have hrow := dec_two (bytes_byB i6.s) (bytesOf_len_lt f6.2)
      rcases hrow with hr | ⟨ke, de, co, wr, ce, no, hr, hm, hx, hc, _⟩
      · rw [hr k (by omega)]
        simp only [Option.bind_some, decErr]
        rw [if_neg (by decide), if_neg (by decide)]
        rw [uJ2 (k := k) (by omega) [ofIt i0, ofIt i1, ofIt i2, ofIt i3, ofIt i4, ofIt i5, ofIt i6] (show 6 < 7 by decide) (by rw [e6]; exact hs) true 0 false 0 0 0 (co := []) (by decide), if_neg (fun h => by cases h.1)]
      · rw [hr k (by omega)]
        have hco := (mayRow_iff.1 hm).2.1
        simp only [Option.bind_some]
        rw [if_pos trivial, if_pos trivial, uJ2 (k := k) (by omega) [ofIt i0, ofIt i1, ofIt i2, ofIt i3, ofIt i4, ofIt i5, ofIt i6] (show 6 < 7 by decide) (by rw [e6]; exact hs) _ 0 false 0 0 0 (co := co) (by omega)]
        congr 1
        by_cases h2 : i0.n = 2
        · rw [show (i0.n != 2) = false from bne_eq_false_iff_eq.2 h2]
          by_cases hmm : mayU i1.n i2.n i3.n i0.n i4.n i5.n ke de co wr ce no = true
          · rw [if_pos ⟨rfl, hmm, by omega⟩, if_pos ⟨h2, hmm⟩]
          · rw [if_neg (fun h => hmm h.2.1), if_neg (fun h => hmm h.2)]
        · rw [show (i0.n != 2) = true from bne_iff_ne.2 h2, if_neg (fun h => by cases h.1), if_neg (fun h => h2 h.1)]
end Go.Proofs.Ytdcllbhkjcdnoaa.P
set_option linter.unusedVariables false
set_option linter.unusedSimpArgs false
namespace Go.Proofs.Ytdcllbhkjcdnoaa.P
open Go.RowKit Go.Proofs.Ytdcllbhkjcdnoaa Go.Proofs.Ytdcllbhkjcdnoaa.Mem Go.Proofs.Ytdcllbhkjcdnoaa.Pac Go.Proofs.YtdcllbhkjcdnoaaW.PrintWords Go.Proofs.YtdcllbhkjcdnoaaW.PrintLast Go.Proofs.YtdcllbhkjcdnoaaW.PrintMore
theorem bytesU_len {tx no pr ki pa sl : Int} {ke : Nat} {de : Bool} {co : List Nat} {wr ce nn : Int} (hm : mayU tx no pr ki pa sl ke de co wr ce nn = true) : (bytesU tx no pr ki pa sl ke de co wr ce nn).length ≤ 100000 := by
  have := ones_length (uIt_may hm)
  have h2 : (itU tx no pr ki pa sl (strOfNums (txtU ki ke de co wr ce nn))).length = 7 := rfl
  unfold bytesU
  omega
theorem uDec_und {k : Nat} {tx no pr ki pa sl : Int} {ke : Nat} {de : Bool} {co : List Nat} {wr ce nn : Int} (hk : 102 ≤ k) (hm : mayU tx no pr ki pa sl ke de co wr ce nn = true) (hx : ke < 18446744073709551616) (hc : ∀ x ∈ co, x < 18446744073709551616) :
    undorec_Decode.f k (bytesU tx no pr ki pa sl ke de co wr ce nn) = some (tx, no, pr, ki, pa, sl, ke, de, co, wr, ce, nn, 0) := by
  obtain ⟨k, rfl⟩ : ∃ m, k = m + 2 := ⟨k - 2, by omega⟩
  have hmay := uIt_may hm
  rw [uDec_any (b := bytesU tx no pr ki pa sl ke de co wr ce nn) (by omega) (ones_byB hmay) (bytesU_len hm)]
  have hH := takes_ones (itU tx no pr ki pa sl (strOfNums (txtU ki ke de co wr ce nn))) hmay (itU_x _ _ _ _ _ _ _) [] []
  rw [itU_norm, List.nil_append, List.append_nil, List.length_nil, Nat.zero_add, show (itU tx no pr ki pa sl (strOfNums (txtU ki ke de co wr ce nn))).map (·.k) = uKs from rfl] at hH
  unfold bytesU
  rw [hH]
  unfold itU
  simp only
  rw [if_pos trivial]
  unfold uSay
  simp only
  rcases (mayU_iff.1 hm).2 with ⟨h1, h2⟩ | ⟨h1, h2⟩
  · have ht : txtU ki ke de co wr ce nn = [] := by unfold txtU; rw [if_neg (by omega)]
    have hz := of_decide_eq_true h2
    obtain ⟨rfl, rfl, rfl, rfl, rfl, rfl⟩ := hz
    rw [ht, show strOfNums [] = (⟨#[]⟩ : ByteArray) from rfl, if_pos nil_str, if_pos ⟨hm, h1⟩]
  · have ht : txtU ki ke de co wr ce nn = ones (rowIt ke de co wr ce nn) := by unfold txtU; rw [if_pos h1]
    have hne : (strOfNums (txtU ki ke de co wr ce nn)).toList ≠ [] := by
      intro h
      have h0 := sz0 (s := strOfNums (txtU ki ke de co wr ce nn)) (by rw [h]; rfl)
      have h3 := congrArg ByteArray.size h0
      rw [size_strOf, ht, rowIt_len] at h3
      exact absurd h3 (by show ¬ (20 + 8 * co.length = 0); omega)
    rw [if_neg hne, ht, bytesOf_str (ones_bytes (rowIt_may h2)), dec_row (by omega) h2 hx hc]
    simp only [Option.bind_some]
    rw [if_pos trivial, if_pos ⟨h1, hm⟩]
end Go.Proofs.Ytdcllbhkjcdnoaa.P
namespace Go.Proofs.Ytdcllbhkjcdnoaa.P
open Go.RowKit Go.Proofs.YtdcllbhkjcdnoaaW.PrintWords Go.Proofs.YtdcllbhkjcdnoaaW.PrintLast Go.Proofs.YtdcllbhkjcdnoaaW.PrintMore
attribute [local go_sem] max2_int min2_int max_two min_two max_three min_three max_four min_four   -- for this text's walks alone
attribute [local go_sem] run_store_float
set_option linter.unusedVariables false
set_option linter.unusedSimpArgs false
def humuslaw09_awake.f (k : Nat)  : Option (Bool):=(undorec_Encode.f k 1 2 0 1 3 0 0 false ([] : List Nat) 0 0 0).bind fun bt497 => ((undorec_Decode.f k bt497.1).bind fun bt501 => (if bt497.2 = 0 then (if bt501.2.2.2.2.2.2.2.2.2.2.2.2 = 0 then (if (bt497.1.length : Int) = 14 then (if bt501.2.1 = 2 then (some (bt501.2.2.2.2.1 == 3)) else (some false)) else (some false)) else (some false)) else (some false)))
set_option maxHeartbeats 8000000 in
set_option maxRecDepth 100000 in
theorem humuslaw09_awake.calls (k : Nat)  (r : Bool) (w : World) (h : humuslaw09_awake.f k  = some r) :
  Calls Try.prog 45 #[] w fun e w' => e = .returned (.bool r) ∧ Below w.heap.size w w':=by
 have hu32:=Try.underlying32
 have HB:=Aside0.mk (Below.refl w.heap.size w)
 have H : ((undorec_Encode.f k 1 2 0 1 3 0 0 false ([] : List Nat) 0 0 0).bind fun bt497 => ((undorec_Decode.f k bt497.1).bind fun bt501 => (if bt497.2 = 0 then (if bt501.2.2.2.2.2.2.2.2.2.2.2.2 = 0 then (if (bt497.1.length : Int) = 14 then (if bt501.2.1 = 2 then (some (bt501.2.2.2.2.1 == 3)) else (some false)) else (some false)) else (some false)) else (some false)))) = some r:=h
 clear h
 replace H:=Option.bind_eq_some_iff.mp H
 obtain ⟨⟨t497,t500⟩,A10,H⟩:=H
 replace H : ((undorec_Decode.f k t497).bind fun bt501 => (if t500 = 0 then (if bt501.2.2.2.2.2.2.2.2.2.2.2.2 = 0 then (if (t497.length : Int) = 14 then (if bt501.2.1 = 2 then (some (bt501.2.2.2.2.1 == 3)) else (some false)) else (some false)) else (some false)) else (some false))) = some r:=H
 have A1:=Aside0.mk A10
 clear A10
 replace H:=Option.bind_eq_some_iff.mp H
 obtain ⟨⟨t501,t502,t503,t504,t505,t506,t507,t508,t509,t512,t513,t514,t515⟩,A20,H⟩:=H
 replace H : (if t500 = 0 then (if t515 = 0 then (if (t497.length : Int) = 14 then (if t502 = 2 then (some (t505 == 3)) else (some false)) else (some false)) else (some false)) else (some false)) = some r:=H
 have A2:=Aside0.mk A20
 clear A20
 by_cases c3 : t500 = 0
 ·rw [if_pos c3] at H
  have c3b0 : (t500 == 0) = true:=beq_iff_eq.mpr c3
  have c3b1 : (t500 != 0) = false:=bne_eq_false_iff_eq.mpr c3
  clear c3
  by_cases c4 : t515 = 0
  ·rw [if_pos c4] at H
   have c4b0 : (t515 == 0) = true:=beq_iff_eq.mpr c4
   have c4b1 : (t515 != 0) = false:=bne_eq_false_iff_eq.mpr c4
   clear c4
   by_cases c5 : (t497.length : Int) = 14
   ·rw [if_pos c5] at H
    have c5b0 : ((t497.length : Int) == 14) = true:=beq_iff_eq.mpr c5
    have c5b1 : ((t497.length : Int) != 14) = false:=bne_eq_false_iff_eq.mpr c5
    clear c5
    by_cases c6 : t502 = 2
    ·rw [if_pos c6] at H
     have c6b0 : (t502 == 2) = true:=beq_iff_eq.mpr c6
     have c6b1 : (t502 != 2) = false:=bne_eq_false_iff_eq.mpr c6
     clear c6
     obtain rfl:=Option.some.inj H
     go_enter Try.func45,Try.ntmps45
     go_wp2_with (first | ((with_reducible refine gate_callee (f:=46) rfl ?_);refine goesL_ (some 7) rfl rfl Try.func46 (by kernel_rfl) rfl #[.agg #[.int .i64 1,.int .i64 2,.int .i64 0,.int .i64 1,.int .i64 3,.int .i64 0,.float .f64 0,.bool false,.slice none 0 0,.int .i64 0,.int .i64 0,.int .i64 0]] rfl (by (try simp only [List.map_toArray,List.map_cons,List.map_nil]);first | done | rfl | (simp only [List.length_drop,List.length_take];rfl)) ?_;(refine (undorec_Encode.calls k 1 2 0 1 3 0 0 false _ _ ([] : List Nat) 0 0 0 t497 t500 _ ?side1 ?side2 A1.out).mono ?_);(case side1 => exact Kd.C_nil _ _);(case side2 => exact Nat.le_refl _);rintro e w7 ⟨v498,rfl,ho0,hb⟩;refine ⟨_,rfl,?_⟩;have n0_:=Aside0.mk (Kd.R_lower ho0 (below_size (by repeat (first | (with_reducible first | exact HB.out | apply below_alloc | apply pw_below_drewN | apply below_drew1) | exact HB.out))));have n1_:=Aside0.mk (below_step (by repeat (first | (with_reducible first | exact HB.out | apply below_alloc | apply pw_below_drewN | apply below_drew1) | exact HB.out)) hb);clear HB;have HO499:=n0_;have HB:=n1_;clear n0_ n1_;(try clear hb);(try clear hb2);(try clear hk);(try clear hi);(try clear ho0);obtain ⟨Ao8,co8,eo8⟩:=Kd.R_slice HO499.out;subst eo8) | ((with_reducible refine gate_callee (f:=49) rfl ?_);refine goesL_ (some 12) rfl rfl Try.func49 (by kernel_rfl) rfl #[.slice Ao8 t497.length co8] rfl (by (try simp only [List.map_toArray,List.map_cons,List.map_nil]);first | done | rfl | (simp only [List.length_drop,List.length_take];rfl)) ?_;(with_reducible refine (undorec_Decode.calls k _ _ t497 t501 t502 t503 t504 t505 t506 t507 t508 t509 t512 t513 t514 t515 _ ?side1 ?side2 A2.out).mono ?_);(case side1 => repeat (first | exact (Kd.R_reads' HO499.out).2.2 | (with_reducible refine Kd.C_alloc ?_ _) | (with_reducible refine Kd.C_drewN ?_ _) | (with_reducible refine Kd.C_drew ?_)));(case side2 => exact (Kd.R_reads' HO499.out).2.1);rintro e w9 ⟨v510,rfl,ho0,hb⟩;refine ⟨_,rfl,?_⟩;have n0_:=Aside0.mk (Kd.R_below (by (with_reducible repeat (first | apply Kd.R_alloc | apply Kd.R_drewN | apply Kd.R_drew));exact HO499.out) hb);have n1_:=Aside0.mk (Kd.R_lower ho0 (below_size (by repeat (first | (with_reducible first | exact HB.out | apply below_alloc | apply pw_below_drewN | apply below_drew1) | exact HB.out))));have n2_:=Aside0.mk (below_step (by repeat (first | (with_reducible first | exact HB.out | apply below_alloc | apply pw_below_drewN | apply below_drew1) | exact HB.out)) hb);clear HO499;clear HB;have HO499:=n0_;have HO511:=n1_;have HB:=n2_;clear n0_ n1_ n2_;(try clear hb);(try clear hb2);(try clear hk);(try clear hi);(try clear ho0)) | ((with_reducible refine gate_dst (N:=3) rfl ?_);(try (refine gate_guard (by rfl) ?_;dsimp only));refine box_event ?hg (N:=3) ?hd (cs:=#[.int .i64 0,.int .i64 0,.int .i64 0,.int .i64 0,.int .i64 0,.int .i64 0,.float .f64 0,.bool false,.slice none 0 0,.int .i64 0,.int .i64 0,.int .i64 0]) (t:=32) ?hr ?_;(case hd => rfl);(case hg => rfl);(case hr => first | (go_simp;done) | (go_simp;rfl));intro gb516 hg w10 hbox hb;have n0_:=Aside0.mk (Kd.R_below (by (with_reducible repeat (first | apply Kd.R_alloc | apply Kd.R_drewN | apply Kd.R_drew));exact HO499.out) hb);have n1_:=Aside0.mk (Kd.R_below (by (with_reducible repeat (first | apply Kd.R_alloc | apply Kd.R_drewN | apply Kd.R_drew));exact HO511.out) hb);have n2_:=Aside0.mk (below_step (by repeat (first | (with_reducible first | exact HB.out | apply below_alloc | apply pw_below_drewN | apply below_drew1) | exact HB.out)) hb);have n3_:=Aside0.mk (hbox);have n4_:=Aside0.mk ((by rw [hg];exact (below_size (by repeat (first | (with_reducible first | exact HB.out | apply below_alloc | apply pw_below_drewN | apply below_drew1) | exact HB.out))) : w.heap.size ≤ gb516));have n5_:=Aside0.mk ((by rw [hg];exact (below_size (by repeat (first | (with_reducible first | exact HB.out | apply below_alloc | apply pw_below_drewN | apply below_drew1) | exact HB.out))) : w.heap.size ≤ gb516));clear HO499;clear HO511;clear HB;have HO499:=n0_;have HO511:=n1_;have HB:=n2_;have BK516:=n3_;have GW516:=n4_;have GE516:=n5_;clear n0_ n1_ n2_ n3_ n4_ n5_;clear hb hbox hg;obtain ⟨hcz11_0,hcz11_1,hcz11_2,hcz11_3,hcz11_4,hcz11_5,hcz11_6,hcz11_7,hcz11_8,hcz11_9,hcz11_10,hcz11_11⟩:=blkc_12 BK516.out;obtain ⟨hfz11_0,hfz11_1,hfz11_2,hfz11_3,hfz11_4,hfz11_5,hfz11_6,hfz11_7,hfz11_8,hfz11_9,hfz11_10,hfz11_11⟩:=blkz_12 BK516.out;obtain ⟨Ao12,co12,eo12⟩:=Kd.R_slice HO511.out;subst eo12))
     go_ret
     exact ⟨by first | rfl | (simp [errW_none,errW_some] <;> rfl) | (simp [*,errW_none,errW_some] <;> rfl),by repeat (first | (with_reducible first | exact HB.out | apply below_alloc | apply pw_below_drewN | apply below_drew1 | refine below_set ?_ GE516.out) | exact HB.out)⟩
    ·rw [if_neg c6] at H
     have c6b0 : (t502 == 2) = false:=beq_eq_false_iff_ne.mpr c6
     have c6b1 : (t502 != 2) = true:=bne_iff_ne.mpr c6
     obtain rfl:=Option.some.inj H
     go_enter Try.func45,Try.ntmps45
     go_wp2_with (first | ((with_reducible refine gate_callee (f:=46) rfl ?_);refine goesL_ (some 7) rfl rfl Try.func46 (by kernel_rfl) rfl #[.agg #[.int .i64 1,.int .i64 2,.int .i64 0,.int .i64 1,.int .i64 3,.int .i64 0,.float .f64 0,.bool false,.slice none 0 0,.int .i64 0,.int .i64 0,.int .i64 0]] rfl (by (try simp only [List.map_toArray,List.map_cons,List.map_nil]);first | done | rfl | (simp only [List.length_drop,List.length_take];rfl)) ?_;(refine (undorec_Encode.calls k 1 2 0 1 3 0 0 false _ _ ([] : List Nat) 0 0 0 t497 t500 _ ?side1 ?side2 A1.out).mono ?_);(case side1 => exact Kd.C_nil _ _);(case side2 => exact Nat.le_refl _);rintro e w13 ⟨v498,rfl,ho0,hb⟩;refine ⟨_,rfl,?_⟩;have n0_:=Aside0.mk (Kd.R_lower ho0 (below_size (by repeat (first | (with_reducible first | exact HB.out | apply below_alloc | apply pw_below_drewN | apply below_drew1) | exact HB.out))));have n1_:=Aside0.mk (below_step (by repeat (first | (with_reducible first | exact HB.out | apply below_alloc | apply pw_below_drewN | apply below_drew1) | exact HB.out)) hb);clear HB;have HO499:=n0_;have HB:=n1_;clear n0_ n1_;(try clear hb);(try clear hb2);(try clear hk);(try clear hi);(try clear ho0);obtain ⟨Ao14,co14,eo14⟩:=Kd.R_slice HO499.out;subst eo14) | ((with_reducible refine gate_callee (f:=49) rfl ?_);refine goesL_ (some 12) rfl rfl Try.func49 (by kernel_rfl) rfl #[.slice Ao14 t497.length co14] rfl (by (try simp only [List.map_toArray,List.map_cons,List.map_nil]);first | done | rfl | (simp only [List.length_drop,List.length_take];rfl)) ?_;(with_reducible refine (undorec_Decode.calls k _ _ t497 t501 t502 t503 t504 t505 t506 t507 t508 t509 t512 t513 t514 t515 _ ?side1 ?side2 A2.out).mono ?_);(case side1 => repeat (first | exact (Kd.R_reads' HO499.out).2.2 | (with_reducible refine Kd.C_alloc ?_ _) | (with_reducible refine Kd.C_drewN ?_ _) | (with_reducible refine Kd.C_drew ?_)));(case side2 => exact (Kd.R_reads' HO499.out).2.1);rintro e w15 ⟨v510,rfl,ho0,hb⟩;refine ⟨_,rfl,?_⟩;have n0_:=Aside0.mk (Kd.R_below (by (with_reducible repeat (first | apply Kd.R_alloc | apply Kd.R_drewN | apply Kd.R_drew));exact HO499.out) hb);have n1_:=Aside0.mk (Kd.R_lower ho0 (below_size (by repeat (first | (with_reducible first | exact HB.out | apply below_alloc | apply pw_below_drewN | apply below_drew1) | exact HB.out))));have n2_:=Aside0.mk (below_step (by repeat (first | (with_reducible first | exact HB.out | apply below_alloc | apply pw_below_drewN | apply below_drew1) | exact HB.out)) hb);clear HO499;clear HB;have HO499:=n0_;have HO511:=n1_;have HB:=n2_;clear n0_ n1_ n2_;(try clear hb);(try clear hb2);(try clear hk);(try clear hi);(try clear ho0)) | ((with_reducible refine gate_dst (N:=3) rfl ?_);(try (refine gate_guard (by rfl) ?_;dsimp only));refine box_event ?hg (N:=3) ?hd (cs:=#[.int .i64 0,.int .i64 0,.int .i64 0,.int .i64 0,.int .i64 0,.int .i64 0,.float .f64 0,.bool false,.slice none 0 0,.int .i64 0,.int .i64 0,.int .i64 0]) (t:=32) ?hr ?_;(case hd => rfl);(case hg => rfl);(case hr => first | (go_simp;done) | (go_simp;rfl));intro gb516 hg w16 hbox hb;have n0_:=Aside0.mk (Kd.R_below (by (with_reducible repeat (first | apply Kd.R_alloc | apply Kd.R_drewN | apply Kd.R_drew));exact HO499.out) hb);have n1_:=Aside0.mk (Kd.R_below (by (with_reducible repeat (first | apply Kd.R_alloc | apply Kd.R_drewN | apply Kd.R_drew));exact HO511.out) hb);have n2_:=Aside0.mk (below_step (by repeat (first | (with_reducible first | exact HB.out | apply below_alloc | apply pw_below_drewN | apply below_drew1) | exact HB.out)) hb);have n3_:=Aside0.mk (hbox);have n4_:=Aside0.mk ((by rw [hg];exact (below_size (by repeat (first | (with_reducible first | exact HB.out | apply below_alloc | apply pw_below_drewN | apply below_drew1) | exact HB.out))) : w.heap.size ≤ gb516));have n5_:=Aside0.mk ((by rw [hg];exact (below_size (by repeat (first | (with_reducible first | exact HB.out | apply below_alloc | apply pw_below_drewN | apply below_drew1) | exact HB.out))) : w.heap.size ≤ gb516));clear HO499;clear HO511;clear HB;have HO499:=n0_;have HO511:=n1_;have HB:=n2_;have BK516:=n3_;have GW516:=n4_;have GE516:=n5_;clear n0_ n1_ n2_ n3_ n4_ n5_;clear hb hbox hg;obtain ⟨hcz17_0,hcz17_1,hcz17_2,hcz17_3,hcz17_4,hcz17_5,hcz17_6,hcz17_7,hcz17_8,hcz17_9,hcz17_10,hcz17_11⟩:=blkc_12 BK516.out;obtain ⟨hfz17_0,hfz17_1,hfz17_2,hfz17_3,hfz17_4,hfz17_5,hfz17_6,hfz17_7,hfz17_8,hfz17_9,hfz17_10,hfz17_11⟩:=blkz_12 BK516.out;obtain ⟨Ao18,co18,eo18⟩:=Kd.R_slice HO511.out;subst eo18))
     go_ret
     exact ⟨by first | rfl | (simp [errW_none,errW_some] <;> rfl) | (simp [*,errW_none,errW_some] <;> rfl),by repeat (first | (with_reducible first | exact HB.out | apply below_alloc | apply pw_below_drewN | apply below_drew1 | refine below_set ?_ GE516.out) | exact HB.out)⟩
   ·rw [if_neg c5] at H
    have c5b0 : ((t497.length : Int) == 14) = false:=beq_eq_false_iff_ne.mpr c5
    have c5b1 : ((t497.length : Int) != 14) = true:=bne_iff_ne.mpr c5
    obtain rfl:=Option.some.inj H
    go_enter Try.func45,Try.ntmps45
    go_wp2_with (first | ((with_reducible refine gate_callee (f:=46) rfl ?_);refine goesL_ (some 7) rfl rfl Try.func46 (by kernel_rfl) rfl #[.agg #[.int .i64 1,.int .i64 2,.int .i64 0,.int .i64 1,.int .i64 3,.int .i64 0,.float .f64 0,.bool false,.slice none 0 0,.int .i64 0,.int .i64 0,.int .i64 0]] rfl (by (try simp only [List.map_toArray,List.map_cons,List.map_nil]);first | done | rfl | (simp only [List.length_drop,List.length_take];rfl)) ?_;(refine (undorec_Encode.calls k 1 2 0 1 3 0 0 false _ _ ([] : List Nat) 0 0 0 t497 t500 _ ?side1 ?side2 A1.out).mono ?_);(case side1 => exact Kd.C_nil _ _);(case side2 => exact Nat.le_refl _);rintro e w19 ⟨v498,rfl,ho0,hb⟩;refine ⟨_,rfl,?_⟩;have n0_:=Aside0.mk (Kd.R_lower ho0 (below_size (by repeat (first | (with_reducible first | exact HB.out | apply below_alloc | apply pw_below_drewN | apply below_drew1) | exact HB.out))));have n1_:=Aside0.mk (below_step (by repeat (first | (with_reducible first | exact HB.out | apply below_alloc | apply pw_below_drewN | apply below_drew1) | exact HB.out)) hb);clear HB;have HO499:=n0_;have HB:=n1_;clear n0_ n1_;(try clear hb);(try clear hb2);(try clear hk);(try clear hi);(try clear ho0);obtain ⟨Ao20,co20,eo20⟩:=Kd.R_slice HO499.out;subst eo20) | ((with_reducible refine gate_callee (f:=49) rfl ?_);refine goesL_ (some 12) rfl rfl Try.func49 (by kernel_rfl) rfl #[.slice Ao20 t497.length co20] rfl (by (try simp only [List.map_toArray,List.map_cons,List.map_nil]);first | done | rfl | (simp only [List.length_drop,List.length_take];rfl)) ?_;(with_reducible refine (undorec_Decode.calls k _ _ t497 t501 t502 t503 t504 t505 t506 t507 t508 t509 t512 t513 t514 t515 _ ?side1 ?side2 A2.out).mono ?_);(case side1 => repeat (first | exact (Kd.R_reads' HO499.out).2.2 | (with_reducible refine Kd.C_alloc ?_ _) | (with_reducible refine Kd.C_drewN ?_ _) | (with_reducible refine Kd.C_drew ?_)));(case side2 => exact (Kd.R_reads' HO499.out).2.1);rintro e w21 ⟨v510,rfl,ho0,hb⟩;refine ⟨_,rfl,?_⟩;have n0_:=Aside0.mk (Kd.R_below (by (with_reducible repeat (first | apply Kd.R_alloc | apply Kd.R_drewN | apply Kd.R_drew));exact HO499.out) hb);have n1_:=Aside0.mk (Kd.R_lower ho0 (below_size (by repeat (first | (with_reducible first | exact HB.out | apply below_alloc | apply pw_below_drewN | apply below_drew1) | exact HB.out))));have n2_:=Aside0.mk (below_step (by repeat (first | (with_reducible first | exact HB.out | apply below_alloc | apply pw_below_drewN | apply below_drew1) | exact HB.out)) hb);clear HO499;clear HB;have HO499:=n0_;have HO511:=n1_;have HB:=n2_;clear n0_ n1_ n2_;(try clear hb);(try clear hb2);(try clear hk);(try clear hi);(try clear ho0)) | ((with_reducible refine gate_dst (N:=3) rfl ?_);(try (refine gate_guard (by rfl) ?_;dsimp only));refine box_event ?hg (N:=3) ?hd (cs:=#[.int .i64 0,.int .i64 0,.int .i64 0,.int .i64 0,.int .i64 0,.int .i64 0,.float .f64 0,.bool false,.slice none 0 0,.int .i64 0,.int .i64 0,.int .i64 0]) (t:=32) ?hr ?_;(case hd => rfl);(case hg => rfl);(case hr => first | (go_simp;done) | (go_simp;rfl));intro gb516 hg w22 hbox hb;have n0_:=Aside0.mk (Kd.R_below (by (with_reducible repeat (first | apply Kd.R_alloc | apply Kd.R_drewN | apply Kd.R_drew));exact HO499.out) hb);have n1_:=Aside0.mk (Kd.R_below (by (with_reducible repeat (first | apply Kd.R_alloc | apply Kd.R_drewN | apply Kd.R_drew));exact HO511.out) hb);have n2_:=Aside0.mk (below_step (by repeat (first | (with_reducible first | exact HB.out | apply below_alloc | apply pw_below_drewN | apply below_drew1) | exact HB.out)) hb);have n3_:=Aside0.mk (hbox);have n4_:=Aside0.mk ((by rw [hg];exact (below_size (by repeat (first | (with_reducible first | exact HB.out | apply below_alloc | apply pw_below_drewN | apply below_drew1) | exact HB.out))) : w.heap.size ≤ gb516));have n5_:=Aside0.mk ((by rw [hg];exact (below_size (by repeat (first | (with_reducible first | exact HB.out | apply below_alloc | apply pw_below_drewN | apply below_drew1) | exact HB.out))) : w.heap.size ≤ gb516));clear HO499;clear HO511;clear HB;have HO499:=n0_;have HO511:=n1_;have HB:=n2_;have BK516:=n3_;have GW516:=n4_;have GE516:=n5_;clear n0_ n1_ n2_ n3_ n4_ n5_;clear hb hbox hg;obtain ⟨hcz23_0,hcz23_1,hcz23_2,hcz23_3,hcz23_4,hcz23_5,hcz23_6,hcz23_7,hcz23_8,hcz23_9,hcz23_10,hcz23_11⟩:=blkc_12 BK516.out;obtain ⟨hfz23_0,hfz23_1,hfz23_2,hfz23_3,hfz23_4,hfz23_5,hfz23_6,hfz23_7,hfz23_8,hfz23_9,hfz23_10,hfz23_11⟩:=blkz_12 BK516.out;obtain ⟨Ao24,co24,eo24⟩:=Kd.R_slice HO511.out;subst eo24))
    go_ret
    exact ⟨by first | rfl | (simp [errW_none,errW_some] <;> rfl) | (simp [*,errW_none,errW_some] <;> rfl),by repeat (first | (with_reducible first | exact HB.out | apply below_alloc | apply pw_below_drewN | apply below_drew1 | refine below_set ?_ GE516.out) | exact HB.out)⟩
  ·rw [if_neg c4] at H
   have c4b0 : (t515 == 0) = false:=beq_eq_false_iff_ne.mpr c4
   have c4b1 : (t515 != 0) = true:=bne_iff_ne.mpr c4
   obtain rfl:=Option.some.inj H
   go_enter Try.func45,Try.ntmps45
   go_wp2_with (first | ((with_reducible refine gate_callee (f:=46) rfl ?_);refine goesL_ (some 7) rfl rfl Try.func46 (by kernel_rfl) rfl #[.agg #[.int .i64 1,.int .i64 2,.int .i64 0,.int .i64 1,.int .i64 3,.int .i64 0,.float .f64 0,.bool false,.slice none 0 0,.int .i64 0,.int .i64 0,.int .i64 0]] rfl (by (try simp only [List.map_toArray,List.map_cons,List.map_nil]);first | done | rfl | (simp only [List.length_drop,List.length_take];rfl)) ?_;(refine (undorec_Encode.calls k 1 2 0 1 3 0 0 false _ _ ([] : List Nat) 0 0 0 t497 t500 _ ?side1 ?side2 A1.out).mono ?_);(case side1 => exact Kd.C_nil _ _);(case side2 => exact Nat.le_refl _);rintro e w25 ⟨v498,rfl,ho0,hb⟩;refine ⟨_,rfl,?_⟩;have n0_:=Aside0.mk (Kd.R_lower ho0 (below_size (by repeat (first | (with_reducible first | exact HB.out | apply below_alloc | apply pw_below_drewN | apply below_drew1) | exact HB.out))));have n1_:=Aside0.mk (below_step (by repeat (first | (with_reducible first | exact HB.out | apply below_alloc | apply pw_below_drewN | apply below_drew1) | exact HB.out)) hb);clear HB;have HO499:=n0_;have HB:=n1_;clear n0_ n1_;(try clear hb);(try clear hb2);(try clear hk);(try clear hi);(try clear ho0);obtain ⟨Ao26,co26,eo26⟩:=Kd.R_slice HO499.out;subst eo26) | ((with_reducible refine gate_callee (f:=49) rfl ?_);refine goesL_ (some 12) rfl rfl Try.func49 (by kernel_rfl) rfl #[.slice Ao26 t497.length co26] rfl (by (try simp only [List.map_toArray,List.map_cons,List.map_nil]);first | done | rfl | (simp only [List.length_drop,List.length_take];rfl)) ?_;(with_reducible refine (undorec_Decode.calls k _ _ t497 t501 t502 t503 t504 t505 t506 t507 t508 t509 t512 t513 t514 t515 _ ?side1 ?side2 A2.out).mono ?_);(case side1 => repeat (first | exact (Kd.R_reads' HO499.out).2.2 | (with_reducible refine Kd.C_alloc ?_ _) | (with_reducible refine Kd.C_drewN ?_ _) | (with_reducible refine Kd.C_drew ?_)));(case side2 => exact (Kd.R_reads' HO499.out).2.1);rintro e w27 ⟨v510,rfl,ho0,hb⟩;refine ⟨_,rfl,?_⟩;have n0_:=Aside0.mk (Kd.R_below (by (with_reducible repeat (first | apply Kd.R_alloc | apply Kd.R_drewN | apply Kd.R_drew));exact HO499.out) hb);have n1_:=Aside0.mk (Kd.R_lower ho0 (below_size (by repeat (first | (with_reducible first | exact HB.out | apply below_alloc | apply pw_below_drewN | apply below_drew1) | exact HB.out))));have n2_:=Aside0.mk (below_step (by repeat (first | (with_reducible first | exact HB.out | apply below_alloc | apply pw_below_drewN | apply below_drew1) | exact HB.out)) hb);clear HO499;clear HB;have HO499:=n0_;have HO511:=n1_;have HB:=n2_;clear n0_ n1_ n2_;(try clear hb);(try clear hb2);(try clear hk);(try clear hi);(try clear ho0)) | ((with_reducible refine gate_dst (N:=3) rfl ?_);(try (refine gate_guard (by rfl) ?_;dsimp only));refine box_event ?hg (N:=3) ?hd (cs:=#[.int .i64 0,.int .i64 0,.int .i64 0,.int .i64 0,.int .i64 0,.int .i64 0,.float .f64 0,.bool false,.slice none 0 0,.int .i64 0,.int .i64 0,.int .i64 0]) (t:=32) ?hr ?_;(case hd => rfl);(case hg => rfl);(case hr => first | (go_simp;done) | (go_simp;rfl));intro gb516 hg w28 hbox hb;have n0_:=Aside0.mk (Kd.R_below (by (with_reducible repeat (first | apply Kd.R_alloc | apply Kd.R_drewN | apply Kd.R_drew));exact HO499.out) hb);have n1_:=Aside0.mk (Kd.R_below (by (with_reducible repeat (first | apply Kd.R_alloc | apply Kd.R_drewN | apply Kd.R_drew));exact HO511.out) hb);have n2_:=Aside0.mk (below_step (by repeat (first | (with_reducible first | exact HB.out | apply below_alloc | apply pw_below_drewN | apply below_drew1) | exact HB.out)) hb);have n3_:=Aside0.mk (hbox);have n4_:=Aside0.mk ((by rw [hg];exact (below_size (by repeat (first | (with_reducible first | exact HB.out | apply below_alloc | apply pw_below_drewN | apply below_drew1) | exact HB.out))) : w.heap.size ≤ gb516));have n5_:=Aside0.mk ((by rw [hg];exact (below_size (by repeat (first | (with_reducible first | exact HB.out | apply below_alloc | apply pw_below_drewN | apply below_drew1) | exact HB.out))) : w.heap.size ≤ gb516));clear HO499;clear HO511;clear HB;have HO499:=n0_;have HO511:=n1_;have HB:=n2_;have BK516:=n3_;have GW516:=n4_;have GE516:=n5_;clear n0_ n1_ n2_ n3_ n4_ n5_;clear hb hbox hg;obtain ⟨hcz29_0,hcz29_1,hcz29_2,hcz29_3,hcz29_4,hcz29_5,hcz29_6,hcz29_7,hcz29_8,hcz29_9,hcz29_10,hcz29_11⟩:=blkc_12 BK516.out;obtain ⟨hfz29_0,hfz29_1,hfz29_2,hfz29_3,hfz29_4,hfz29_5,hfz29_6,hfz29_7,hfz29_8,hfz29_9,hfz29_10,hfz29_11⟩:=blkz_12 BK516.out;obtain ⟨Ao30,co30,eo30⟩:=Kd.R_slice HO511.out;subst eo30))
   go_ret
   exact ⟨by first | rfl | (simp [errW_none,errW_some] <;> rfl) | (simp [*,errW_none,errW_some] <;> rfl),by repeat (first | (with_reducible first | exact HB.out | apply below_alloc | apply pw_below_drewN | apply below_drew1 | refine below_set ?_ GE516.out) | exact HB.out)⟩
 ·rw [if_neg c3] at H
  have c3b0 : (t500 == 0) = false:=beq_eq_false_iff_ne.mpr c3
  have c3b1 : (t500 != 0) = true:=bne_iff_ne.mpr c3
  obtain rfl:=Option.some.inj H
  go_enter Try.func45,Try.ntmps45
  go_wp2_with (first | ((with_reducible refine gate_callee (f:=46) rfl ?_);refine goesL_ (some 7) rfl rfl Try.func46 (by kernel_rfl) rfl #[.agg #[.int .i64 1,.int .i64 2,.int .i64 0,.int .i64 1,.int .i64 3,.int .i64 0,.float .f64 0,.bool false,.slice none 0 0,.int .i64 0,.int .i64 0,.int .i64 0]] rfl (by (try simp only [List.map_toArray,List.map_cons,List.map_nil]);first | done | rfl | (simp only [List.length_drop,List.length_take];rfl)) ?_;(refine (undorec_Encode.calls k 1 2 0 1 3 0 0 false _ _ ([] : List Nat) 0 0 0 t497 t500 _ ?side1 ?side2 A1.out).mono ?_);(case side1 => exact Kd.C_nil _ _);(case side2 => exact Nat.le_refl _);rintro e w31 ⟨v498,rfl,ho0,hb⟩;refine ⟨_,rfl,?_⟩;have n0_:=Aside0.mk (Kd.R_lower ho0 (below_size (by repeat (first | (with_reducible first | exact HB.out | apply below_alloc | apply pw_below_drewN | apply below_drew1) | exact HB.out))));have n1_:=Aside0.mk (below_step (by repeat (first | (with_reducible first | exact HB.out | apply below_alloc | apply pw_below_drewN | apply below_drew1) | exact HB.out)) hb);clear HB;have HO499:=n0_;have HB:=n1_;clear n0_ n1_;(try clear hb);(try clear hb2);(try clear hk);(try clear hi);(try clear ho0);obtain ⟨Ao32,co32,eo32⟩:=Kd.R_slice HO499.out;subst eo32) | ((with_reducible refine gate_callee (f:=49) rfl ?_);refine goesL_ (some 12) rfl rfl Try.func49 (by kernel_rfl) rfl #[.slice Ao32 t497.length co32] rfl (by (try simp only [List.map_toArray,List.map_cons,List.map_nil]);first | done | rfl | (simp only [List.length_drop,List.length_take];rfl)) ?_;(with_reducible refine (undorec_Decode.calls k _ _ t497 t501 t502 t503 t504 t505 t506 t507 t508 t509 t512 t513 t514 t515 _ ?side1 ?side2 A2.out).mono ?_);(case side1 => repeat (first | exact (Kd.R_reads' HO499.out).2.2 | (with_reducible refine Kd.C_alloc ?_ _) | (with_reducible refine Kd.C_drewN ?_ _) | (with_reducible refine Kd.C_drew ?_)));(case side2 => exact (Kd.R_reads' HO499.out).2.1);rintro e w33 ⟨v510,rfl,ho0,hb⟩;refine ⟨_,rfl,?_⟩;have n0_:=Aside0.mk (Kd.R_below (by (with_reducible repeat (first | apply Kd.R_alloc | apply Kd.R_drewN | apply Kd.R_drew));exact HO499.out) hb);have n1_:=Aside0.mk (Kd.R_lower ho0 (below_size (by repeat (first | (with_reducible first | exact HB.out | apply below_alloc | apply pw_below_drewN | apply below_drew1) | exact HB.out))));have n2_:=Aside0.mk (below_step (by repeat (first | (with_reducible first | exact HB.out | apply below_alloc | apply pw_below_drewN | apply below_drew1) | exact HB.out)) hb);clear HO499;clear HB;have HO499:=n0_;have HO511:=n1_;have HB:=n2_;clear n0_ n1_ n2_;(try clear hb);(try clear hb2);(try clear hk);(try clear hi);(try clear ho0)) | ((with_reducible refine gate_dst (N:=3) rfl ?_);(try (refine gate_guard (by rfl) ?_;dsimp only));refine box_event ?hg (N:=3) ?hd (cs:=#[.int .i64 0,.int .i64 0,.int .i64 0,.int .i64 0,.int .i64 0,.int .i64 0,.float .f64 0,.bool false,.slice none 0 0,.int .i64 0,.int .i64 0,.int .i64 0]) (t:=32) ?hr ?_;(case hd => rfl);(case hg => rfl);(case hr => first | (go_simp;done) | (go_simp;rfl));intro gb516 hg w34 hbox hb;have n0_:=Aside0.mk (Kd.R_below (by (with_reducible repeat (first | apply Kd.R_alloc | apply Kd.R_drewN | apply Kd.R_drew));exact HO499.out) hb);have n1_:=Aside0.mk (Kd.R_below (by (with_reducible repeat (first | apply Kd.R_alloc | apply Kd.R_drewN | apply Kd.R_drew));exact HO511.out) hb);have n2_:=Aside0.mk (below_step (by repeat (first | (with_reducible first | exact HB.out | apply below_alloc | apply pw_below_drewN | apply below_drew1) | exact HB.out)) hb);have n3_:=Aside0.mk (hbox);have n4_:=Aside0.mk ((by rw [hg];exact (below_size (by repeat (first | (with_reducible first | exact HB.out | apply below_alloc | apply pw_below_drewN | apply below_drew1) | exact HB.out))) : w.heap.size ≤ gb516));have n5_:=Aside0.mk ((by rw [hg];exact (below_size (by repeat (first | (with_reducible first | exact HB.out | apply below_alloc | apply pw_below_drewN | apply below_drew1) | exact HB.out))) : w.heap.size ≤ gb516));clear HO499;clear HO511;clear HB;have HO499:=n0_;have HO511:=n1_;have HB:=n2_;have BK516:=n3_;have GW516:=n4_;have GE516:=n5_;clear n0_ n1_ n2_ n3_ n4_ n5_;clear hb hbox hg;obtain ⟨hcz35_0,hcz35_1,hcz35_2,hcz35_3,hcz35_4,hcz35_5,hcz35_6,hcz35_7,hcz35_8,hcz35_9,hcz35_10,hcz35_11⟩:=blkc_12 BK516.out;obtain ⟨hfz35_0,hfz35_1,hfz35_2,hfz35_3,hfz35_4,hfz35_5,hfz35_6,hfz35_7,hfz35_8,hfz35_9,hfz35_10,hfz35_11⟩:=blkz_12 BK516.out;obtain ⟨Ao36,co36,eo36⟩:=Kd.R_slice HO511.out;subst eo36))
  go_ret
  exact ⟨by first | rfl | (simp [errW_none,errW_some] <;> rfl) | (simp [*,errW_none,errW_some] <;> rfl),by repeat (first | (with_reducible first | exact HB.out | apply below_alloc | apply pw_below_drewN | apply below_drew1 | refine below_set ?_ GE516.out) | exact HB.out)⟩
end Go.Proofs.Ytdcllbhkjcdnoaa.P
set_option linter.unusedVariables false
set_option linter.unusedSimpArgs false
namespace Go.Proofs.Ytdcllbhkjcdnoaa.P
open Go.RowKit Go.Proofs.Ytdcllbhkjcdnoaa Go.Proofs.Ytdcllbhkjcdnoaa.Mem Go.Proofs.Ytdcllbhkjcdnoaa.Pac Go.Proofs.YtdcllbhkjcdnoaaW.PrintWords Go.Proofs.YtdcllbhkjcdnoaaW.PrintLast Go.Proofs.YtdcllbhkjcdnoaaW.PrintMore
theorem itU_len (tx no pr ki pa sl : Int) (s : ByteArray) : (ones (itU tx no pr ki pa sl s)).length = 14 + s.size := by
  have h1 : ∀ n, (one ⟨1, n, 0, ⟨#[]⟩⟩).length = 1 := fun n => bigs_length _ _
  have h2 : ∀ n, (one ⟨2, n, 0, ⟨#[]⟩⟩).length = 2 := fun n => bigs_length _ _
  have h3 : ∀ n, (one ⟨3, n, 0, ⟨#[]⟩⟩).length = 4 := fun n => bigs_length _ _
  have h5 : (one ⟨5, 0, 0, s⟩).length = 1 + s.size := by
    rw [show one ⟨5, 0, 0, s⟩ = (s.size : Int) :: bytesOf s from rfl, List.length_cons, bytesOf_length]; omega
  unfold itU ones
  simp only [List.flatMap_cons, List.flatMap_nil, List.length_append, List.length_nil, h1, h2, h3, h5]
  omega
theorem bytesU_size {tx no pr ki pa sl : Int} {ke : Nat} {de : Bool} {co : List Nat} {wr ce nn : Int} : (bytesU tx no pr ki pa sl ke de co wr ce nn).length = 14 + (if ki = 2 then 20 + 8 * co.length else 0) := by
  unfold bytesU
  rw [itU_len, size_strOf]
  unfold txtU
  split
  · rw [rowIt_len]
  · rfl
theorem awake09_ev {k : Nat} (hk : 110 ≤ k) : humuslaw09_awake.f k = some true := by
  have hm : mayU 1 2 0 1 3 0 0 false [] 0 0 0 = true := by decide
  unfold humuslaw09_awake.f
  rw [uEncode_ev (by show 0 + 30 ≤ k; omega) (by decide) (by decide) (fun x hx => by cases hx), if_pos hm]
  simp only [Option.bind_some]
  rw [uDec_und (by omega) hm (by decide) (fun x hx => by cases hx)]
  simp only [Option.bind_some]
  rw [if_pos trivial, if_pos trivial, if_pos (by rw [bytesU_size]; rfl), if_pos trivial]
  rfl
end Go.Proofs.Ytdcllbhkjcdnoaa.P
set_option linter.unusedVariables false
set_option linter.unusedSimpArgs false
namespace Go.Proofs.Ytdcllbhkjcdnoaa.P
open Go.RowKit Go.Proofs.Ytdcllbhkjcdnoaa Go.Proofs.Ytdcllbhkjcdnoaa.Mem Go.Proofs.Ytdcllbhkjcdnoaa.Pac Go.Proofs.YtdcllbhkjcdnoaaW.PrintWords Go.Proofs.YtdcllbhkjcdnoaaW.PrintLast
theorem sameU_self {tx no pr ki pa sl : Int} {ke : Nat} {de : Bool} {co : List Nat} {wr ce nn : Int} : sameU tx no pr ki pa sl ke de co wr ce nn tx no pr ki pa sl ke de co wr ce nn = true :=
  sameU_iff.2 ⟨⟨rfl, rfl, rfl, rfl, rfl, rfl⟩, ⟨rfl, rfl, rfl, rfl, rfl, rfl⟩⟩
theorem mayU_co {tx no pr ki pa sl : Int} {ke : Nat} {de : Bool} {co : List Nat} {wr ce nn : Int} (hm : mayU tx no pr ki pa sl ke de co wr ce nn = true) : co.length ≤ 4 := by
  rcases (mayU_iff.1 hm).2 with ⟨_, h⟩ | ⟨_, h⟩
  · unfold sameRow at h
    rw [decide_eq_true_iff] at h
    rw [h.2.2.1]; decide
  · exact (mayRow_iff.1 h).2.1
end Go.Proofs.Ytdcllbhkjcdnoaa.P
