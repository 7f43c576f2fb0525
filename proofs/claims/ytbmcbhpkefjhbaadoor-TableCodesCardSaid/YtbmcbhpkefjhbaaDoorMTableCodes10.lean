/- by wip/prune.py -/
import Derived.Test.YtbmcbhpkefjhbaaDoorMTableCodes8
import Derived.Deep.LoopGhost
import Derived.Outline
import Derived.Test.YtbmcbhpkefjhbaaDoorMTableCodes5
import Derived.Test.YtbmcbhpkefjhbaaDoorMTableCodes6
import Derived.Test.YtbmcbhpkefjhbaaDoorMTableCodes9
set_option linter.unusedSimpArgs false
set_option linter.unusedVariables false
namespace Go.Proofs.YtbmcbhpkefjhbaaDoor.P
open Go.RowKit YtbmcbhpkefjhbaaDoor YtbmcbhpkefjhbaaDoor.Mem YtbmcbhpkefjhbaaDoorW.PrintWords YtbmcbhpkefjhbaaDoorW.PrintLast YtbmcbhpkefjhbaaDoorW.PrintMore
def ixOf (o : Option Nat) : Int:=match o with|some i=>(i : Int)|none=>-1
theorem ix_ge {α : Type} (l : List α) (q : α→Bool) : decide (0≤ixOf (l.findIdx? q))=l.any q:=by
  cases h : l.findIdx? q with
  | none =>
    rw [List.findIdx?_eq_none_iff] at h
    rw [show ixOf none = -1 from rfl]
    symm
    rw [show decide ((0 : Int) ≤ -1)=false from rfl,List.any_eq_false]
    intro x hx;rw [h x hx]; decide
  | some i =>
    rw [List.findIdx?_eq_some_iff_getElem] at h;obtain ⟨h1,h2,_⟩:=h
    rw [show ixOf (some i)=(i : Int) from rfl,dt_ (by omega)]
    symm
    rw [List.any_eq_true];exact ⟨_,List.getElem_mem h1,h2⟩
abbrev Ent:=S56
theorem rdE_at {l : List Ent} {i : Nat} (h : i<l.length) : l[i]?=some (rd_T56 l (i : Int)):=by
  unfold rd_T56
  rw [Int.toNat_natCast,List.getD_eq_getElem?_getD,List.getElem?_eq_getElem h]; rfl
set_option maxRecDepth 100000 in
theorem IndexFunc_E (A : Option Addr) (c : Nat) (l : List S56) (f : FuncId) (cap : Array Value) (q : S56→Bool) (w : World) (hr : Kd.C k56 w A l.length l) (hl : l.length≤1000000)
    (he : ∀ args w,(callFunc f args).run Tryd.prog w=.ok (.enter f args) w)
    (hf : ∀ e ∈ l,∀ wx,Below w.heap.size w wx→Calls Tryd.prog f (#[.agg #[.int .i64 e.f0,.int .i64 e.f1,.int .i64 e.f2,.int .i64 e.f3]]++cap) wx fun r w'=>r=.returned (.bool (q e))∧Below wx.heap.size wx w') :
    Calls Tryd.prog 33 #[.slice A l.length c,.func (.func f) #[] cap] w fun e w'=>e=.returned (.int .i64 (ixOf (l.findIdx? q)))∧Below w.heap.size w w':=by
  have HB:=Lib.hid (Below.refl w.heap.size w);have HR:=Lib.hid hr;have HF:=Lib.hid hf;clear hr hf;go_enter Tryd.func33,Tryd.ntmps33;go_wp2
  go_loopg [5,8] l.length (fun k v5 v8 wr=>∃ i : Nat,i≤l.length∧k=l.length - i∧v8=.int .i64 (i : Int)∧Hid (∀ (j : Nat) (e : S56),j<i→l[j]?=some e→q e=false)∧Hid (Below w.heap.size w wr))
  case atStart=>exact ⟨0,Nat.zero_le _,rfl,rfl,Lib.hid (fun j e h=>absurd h (Nat.not_lt_zero _)),HB⟩
  case round =>
    clear HB;obtain ⟨i,hi,rfl,rfl,HN,HB⟩:=hrel;have i0 : (0 : Int)≤(i : Int):=Int.natCast_nonneg _
    by_cases hlt : i<l.length
    · have hd : decide (i<l.length)=true:=dt_ hlt
      have i1 : (i : Int)<(l.length : Int):=by omega
      obtain ⟨ad,e0,x0,x1,x2,x3⟩:=at_T56 (Kd.C_below HR.out HB.out) (i : Int) i0 i1;have HA : Hid (l[i]?=some (rd_T56 l (i : Int))):=Lib.hid (rdE_at hlt);rw [Int.toNat_natCast] at x0 x1 x2 x3;subst e0
      generalize rd_T56 l (i : Int)=a at *
      have HC:=Lib.hid (HF.out a (List.mem_of_getElem? HA.out) _ HB.out);go_wp2_with fail;refine HC.out.mono ?_;rintro r w2 ⟨rfl,hb2⟩;have HB2:=Lib.hid (bp_ HB.out hb2)
      cases hq : q a with
      | true =>
        have hfi : l.findIdx? q=some i:=by
          rw [List.findIdx?_eq_some_iff_getElem]
          refine ⟨hlt,?_,fun j hj=>?_⟩
          · have:=HA.out
            rw [List.getElem?_eq_getElem hlt] at this
            injection this with this
            rw [this]; exact hq
          · have:=HN.out j (l[j]'(by omega)) hj (List.getElem?_eq_getElem (by omega))
            rw [this]; decide
        go_wp2;go_ret
        exact ⟨by rw [hfi]; rfl,HB2.out⟩
      | false =>
        have HQ:=Lib.hid hq;clear hq;go_wp2;go_roundg (l.length - (i + 1))
        case measure=>omega
        case rel =>
          refine ⟨i + 1,by omega,rfl,by go_num,Lib.hid (fun j e hj hje=>?_),HB2⟩
          by_cases h : j=i
          · subst h
            have:=hje.symm.trans HA.out
            injection this with this
            rw [this]; exact HQ.out
          · exact HN.out j e (by omega) hje
    · have hd : decide (i<l.length)=false:=df_ hlt
      obtain rfl : i=l.length:=by omega
      have hfi : l.findIdx? q=none:=by
        rw [List.findIdx?_eq_none_iff];intro e he;obtain ⟨j,hj⟩:=List.mem_iff_getElem?.1 he;exact HN.out j e (List.getElem?_eq_some_iff.1 hj).1 hj
      go_wp2;go_ret
      exact ⟨by rw [hfi]; rfl,HB.out⟩
theorem ContainsFunc_E (A : Option Addr) (c : Nat) (l : List S56) (f : FuncId) (cap : Array Value) (q : S56→Bool) (w : World) (hr : Kd.C k56 w A l.length l) (hl : l.length≤1000000)
    (he : ∀ args w,(callFunc f args).run Tryd.prog w=.ok (.enter f args) w)
    (hf : ∀ e ∈ l,∀ wx,Below w.heap.size w wx→Calls Tryd.prog f (#[.agg #[.int .i64 e.f0,.int .i64 e.f1,.int .i64 e.f2,.int .i64 e.f3]]++cap) wx fun r w'=>r=.returned (.bool (q e))∧Below wx.heap.size wx w') :
    Calls Tryd.prog 30 #[.slice A l.length c,.func (.func f) #[] cap] w fun e w'=>e=.returned (.bool (l.any q))∧Below w.heap.size w w':=by
  have IX:=Lib.hid (IndexFunc_E A c l f cap q w hr hl he hf);have HG:=Lib.hid (ix_ge l q);clear hr he hf
  generalize ixOf (l.findIdx? q)=z at IX HG
  go_enter Tryd.func30,Tryd.ntmps30;go_wp2_with fail;refine IX.out.mono ?_;rintro e w' ⟨rfl,hb⟩;go_wp2;go_ret;exact ⟨ret_bool HG.out,hb⟩
def twiceE (a0 a3 : Int) (x : Ent) : Bool:=(decide (0<a0) && x.f0 == a0) || (decide (0<a3) && x.f3 == a3)
set_option maxRecDepth 100000 in
theorem check1_any (g : Nat) (a0 a1 a2 a3 : Int) (x : Ent) (w : World) (h0 : w.cell? ⟨g,0,none⟩=some (.int .i64 a0)) (h3 : w.cell? ⟨g,3,none⟩=some (.int .i64 a3)) :
    Calls Tryd.prog 31 (#[.agg #[.int .i64 x.f0,.int .i64 x.f1,.int .i64 x.f2,.int .i64 x.f3]]++#[.pointer (some ⟨g,0,none⟩)]) w fun r w'=>r=.returned (.bool (twiceE a0 a3 x))∧Below w.heap.size w w':=by
  rw [show (#[Value.agg #[.int .i64 x.f0,.int .i64 x.f1,.int .i64 x.f2,.int .i64 x.f3]]++#[Value.pointer (some ⟨g,0,none⟩)])=#[.agg #[.int .i64 x.f0,.int .i64 x.f1,.int .i64 x.f2,.int .i64 x.f3],.pointer (some ⟨g,0,none⟩)] from rfl]
  have hb:=ba_ (Below.refl w.heap.size w) (.cells #[.int .i64 x.f0,.int .i64 x.f1,.int .i64 x.f2,.int .i64 x.f3] 56 (0,0));have HB:=Lib.hid (Below.refl w.heap.size w);have z0:=(hb.cell (wb_ w _ h0)).trans h0;have z3:=(hb.cell (wb_ w _ h3)).trans h3;clear hb h0 h3;go_enter Tryd.func31,Tryd.ntmps31;go_wp2
  all_goals go_ret
  all_goals refine ⟨ret_bool ?_,(hb0_ HB.out)⟩
  all_goals unfold twiceE
  all_goals simp_all
  all_goals first|(intros; omega)|(constructor <;> intros <;> omega)
def containsFunc_table_Check_1.f (l0 : List Ent) (a0 a1 a2 a3 : Int) : Option Bool:=if l0.length≤1000000 then some (l0.any (twiceE a0 a3)) else none
theorem containsFunc_table_Check_1.calls (A0 : Option Addr) (c0 : Nat) (l0 : List Ent) (a0 a1 a2 a3 : Int) (r : Bool) (w : World) {g : Nat} (hr0 : Kd.C k56 w A0 l0.length l0) (hc0 : l0.length≤c0) (hg : w.heap[g]?=some (.cells #[.int .i64 a0,.int .i64 a1,.int .i64 a2,.int .i64 a3] 56 (0,0))) (h : containsFunc_table_Check_1.f l0 a0 a1 a2 a3=some r) :
    Calls Tryd.prog 30 #[.slice A0 l0.length c0,.func (.func 31) #[] #[.pointer (some ⟨g,0,none⟩)]] w fun e w'=>e=.returned (.bool r)∧Below w.heap.size w w':=by
  unfold containsFunc_table_Check_1.f at h
  split at h
  rotate_left
  · cases h
  rename_i hl
  injection h with h; subst h
  exact ContainsFunc_E A0 c0 l0 31 #[.pointer (some ⟨g,0,none⟩)] _ w hr0 hl (enters_ Tryd.func31 (by kernel_rfl) rfl) (fun e he wx hb=>check1_any g a0 a1 a2 a3 e wx ((hb.cell (wb_ w _ (bc_ hg 0))).trans (bc_ hg 0)) ((hb.cell (wb_ w _ (bc_ hg 3))).trans (bc_ hg 3)))
set_option maxRecDepth 100000 in
theorem find1_any (g : Nat) (tx : Int) (x : Ent) (w : World) (h0 : w.cell? ⟨g,0,none⟩=some (.int .i64 tx)) :
    Calls Tryd.prog 34 (#[.agg #[.int .i64 x.f0,.int .i64 x.f1,.int .i64 x.f2,.int .i64 x.f3]]++#[.pointer (some ⟨g,0,none⟩)]) w fun r w'=>r=.returned (.bool (x.f0 == tx))∧Below w.heap.size w w':=by
  rw [show (#[Value.agg #[.int .i64 x.f0,.int .i64 x.f1,.int .i64 x.f2,.int .i64 x.f3]]++#[Value.pointer (some ⟨g,0,none⟩)])=#[.agg #[.int .i64 x.f0,.int .i64 x.f1,.int .i64 x.f2,.int .i64 x.f3],.pointer (some ⟨g,0,none⟩)] from rfl]
  have hb:=ba_ (Below.refl w.heap.size w) (.cells #[.int .i64 x.f0,.int .i64 x.f1,.int .i64 x.f2,.int .i64 x.f3] 56 (0,0));have HB:=Lib.hid (Below.refl w.heap.size w);have z0:=(hb.cell (wb_ w _ h0)).trans h0;clear hb h0;go_enter Tryd.func34,Tryd.ntmps34;go_wp2;go_ret;exact ⟨rfl,(hb0_ HB.out)⟩
def indexFunc_table_Find_1.f (l0 : List Ent) (a1 : Int) : Option Int:=if l0.length≤1000000 then some (ixOf (l0.findIdx? fun x=>x.f0 == a1)) else none
theorem indexFunc_table_Find_1.calls (A0 : Option Addr) (c0 : Nat) (l0 : List Ent) (a1 : Int) (r : Int) (w : World) {g : Nat} (hr0 : Kd.C k56 w A0 l0.length l0) (hc0 : l0.length≤c0) (hg : w.heap[g]?=some (.cells #[.int .i64 a1] 3 (0,0))) (h : indexFunc_table_Find_1.f l0 a1=some r) :
    Calls Tryd.prog 33 #[.slice A0 l0.length c0,.func (.func 34) #[] #[.pointer (some ⟨g,0,none⟩)]] w fun e w'=>e=.returned (.int .i64 r)∧Below w.heap.size w w':=by
  unfold indexFunc_table_Find_1.f at h
  split at h
  rotate_left
  · cases h
  rename_i hl
  injection h with h; subst h
  exact IndexFunc_E A0 c0 l0 34 #[.pointer (some ⟨g,0,none⟩)] _ w hr0 hl (enters_ Tryd.func34 (by kernel_rfl) rfl) (fun e he wx hb=>find1_any g a1 e wx ((hb.cell (wb_ w _ (bc_ hg 0))).trans (bc_ hg 0)))
open Go.RowKit YtbmcbhpkefjhbaaDoorW.PrintWords YtbmcbhpkefjhbaaDoorW.PrintLast YtbmcbhpkefjhbaaDoorW.PrintMore
attribute [local go_sem] max2_int min2_int max_two min_two max_three min_three max_four min_four   -- for this text's walks alone
attribute [local go_sem] run_store_float
mutual
def table_Check.j0 : Nat→Bool→Int→Int→Int→List (S56)→Option (Int)
 | 0,_,_,_,_,_=>none
 | k + 1,x27,x113000,x113001,x113002,x113003=>if x27=true then (table_Check.j1 k 1) else (table_Check.l0 k x113003 (x113003.length : Int) 0 x113000 x113001 x113002 x113003)
def table_Check.j1 : Nat→Int→Option (Int)
 | 0,_=>none
 | k + 1,x2=>some x2
def table_Check.l0 : Nat→List (S56)→Int→Int→Int→Int→Int→List (S56)→Option (Int)
 | 0,_,_,_,_,_,_,_=>none
 | k + 1,x29,x30,x31,x113000,x113001,x113002,x113003=>if x31<x30 then (if 0≤x31 then (if x31<(x29.length : Int) then (if x31≤(x113003.length : Int) then ((containsFunc_table_Check_1.f (x113003.take (x31 : Int).toNat) ((rd_T56 x29 x31).f0) ((rd_T56 x29 x31).f1) ((rd_T56 x29 x31).f2) ((rd_T56 x29 x31).f3)).bind fun t122=>(if t122=true then (table_Check.j3 k x29 x30 x31 true x113000 x113001 x113002 x113003) else ((table_entry.f k x113000 x113001 x113002 x113003 ((rd_T56 x29 x31).f0) ((rd_T56 x29 x31).f1) ((rd_T56 x29 x31).f2) ((rd_T56 x29 x31).f3)).bind fun t123=>(table_Check.j3 k x29 x30 x31 (!t123) x113000 x113001 x113002 x113003)))) else (none)) else (none)) else (none)) else (some 0)
def table_Check.j3 : Nat→List (S56)→Int→Int→Bool→Int→Int→Int→List (S56)→Option (Int)
 | 0,_,_,_,_,_,_,_,_=>none
 | k + 1,x29,x30,x31,x48,x113000,x113001,x113002,x113003=>if x48=true then (table_Check.j4 k 1) else (table_Check.l0 k x29 x30 (wrap64 (x31 + 1)) x113000 x113001 x113002 x113003)
def table_Check.j4 : Nat→Int→Option (Int)
 | 0,_=>none
 | k + 1,x2=>some x2
end
def table_Check.f (k : Nat) (a0_0 : Int) (a0_1 : Int) (a0_2 : Int) (l0_3 : List (S56)) : Option (Int):=(table_in.f a0_0 1 2147483647).bind fun t113=>(if t113=true then ((table_in.f a0_1 1 2147483647).bind fun t114=>(if t114=true then ((table_in.f a0_2 0 2147483647).bind fun t115=>(if t115=true then (table_Check.j0 k ((l0_3.length : Int) != 12) a0_0 a0_1 a0_2 l0_3) else (table_Check.j0 k true a0_0 a0_1 a0_2 l0_3))) else (table_Check.j0 k true a0_0 a0_1 a0_2 l0_3))) else (table_Check.j0 k true a0_0 a0_1 a0_2 l0_3))
theorem table_Check.mono_l : ∀ k,(∀ y0 y1 y2 y3 y4,LeO (table_Check.j0 k y0 y1 y2 y3 y4) (table_Check.j0 (k + 1) y0 y1 y2 y3 y4))∧(∀ y0,LeO (table_Check.j1 k y0) (table_Check.j1 (k + 1) y0))∧(∀ y0 y1 y2 y3 y4 y5 y6,LeO (table_Check.l0 k y0 y1 y2 y3 y4 y5 y6) (table_Check.l0 (k + 1) y0 y1 y2 y3 y4 y5 y6))∧(∀ y0 y1 y2 y3 y4 y5 y6 y7,LeO (table_Check.j3 k y0 y1 y2 y3 y4 y5 y6 y7) (table_Check.j3 (k + 1) y0 y1 y2 y3 y4 y5 y6 y7))∧(∀ y0,LeO (table_Check.j4 k y0) (table_Check.j4 (k + 1) y0))
 | 0=>⟨fun _ _ _ _ _ r h=>by simp [table_Check.j0] at h,fun _ r h=>by simp [table_Check.j1] at h,fun _ _ _ _ _ _ _ r h=>by simp [table_Check.l0] at h,fun _ _ _ _ _ _ _ _ r h=>by simp [table_Check.j3] at h,fun _ r h=>by simp [table_Check.j4] at h⟩
 | k + 1=>by
  obtain ⟨ih0,ih1,ih2,ih3,ih4⟩:=table_Check.mono_l k;refine ⟨?_,?_,?_,?_,?_⟩
  ·intro y0 y1 y2 y3 y4
   unfold table_Check.j0
   repeat' first
   | (with_reducible exact ih0 _ _ _ _ _)
   | (with_reducible exact ih1 _)
   | (with_reducible exact ih2 _ _ _ _ _ _ _)
   | (with_reducible exact ih3 _ _ _ _ _ _ _ _)
   | (with_reducible exact ih4 _)
   | (with_reducible exact table_entry.mono _ _ _ _ _ _ _ _ _)
   | (with_reducible exact LeO.refl _)
   | (with_reducible exact LeO.none _)
   | (with_reducible refine LeO.ite ?_ ?_)
   | (with_reducible refine LeO.bind ?_ (fun _=>?_))
   | exact ih0 _ _ _ _ _
   | exact ih1 _
   | exact ih2 _ _ _ _ _ _ _
   | exact ih3 _ _ _ _ _ _ _ _
   | exact ih4 _
   | exact table_entry.mono _ _ _ _ _ _ _ _ _
   | exact LeO.none _
   | refine LeO.ite ?_ ?_
   | refine LeO.bind ?_ (fun _=>?_)
  ·intro y0
   unfold table_Check.j1
   repeat' first
   | (with_reducible exact ih0 _ _ _ _ _)
   | (with_reducible exact ih1 _)
   | (with_reducible exact ih2 _ _ _ _ _ _ _)
   | (with_reducible exact ih3 _ _ _ _ _ _ _ _)
   | (with_reducible exact ih4 _)
   | (with_reducible exact table_entry.mono _ _ _ _ _ _ _ _ _)
   | (with_reducible exact LeO.refl _)
   | (with_reducible exact LeO.none _)
   | (with_reducible refine LeO.ite ?_ ?_)
   | (with_reducible refine LeO.bind ?_ (fun _=>?_))
   | exact ih0 _ _ _ _ _
   | exact ih1 _
   | exact ih2 _ _ _ _ _ _ _
   | exact ih3 _ _ _ _ _ _ _ _
   | exact ih4 _
   | exact table_entry.mono _ _ _ _ _ _ _ _ _
   | exact LeO.none _
   | refine LeO.ite ?_ ?_
   | refine LeO.bind ?_ (fun _=>?_)
  ·intro y0 y1 y2 y3 y4 y5 y6
   unfold table_Check.l0
   repeat' first
   | (with_reducible exact ih0 _ _ _ _ _)
   | (with_reducible exact ih1 _)
   | (with_reducible exact ih2 _ _ _ _ _ _ _)
   | (with_reducible exact ih3 _ _ _ _ _ _ _ _)
   | (with_reducible exact ih4 _)
   | (with_reducible exact table_entry.mono _ _ _ _ _ _ _ _ _)
   | (with_reducible exact LeO.refl _)
   | (with_reducible exact LeO.none _)
   | (with_reducible refine LeO.ite ?_ ?_)
   | (with_reducible refine LeO.bind ?_ (fun _=>?_))
   | exact ih0 _ _ _ _ _
   | exact ih1 _
   | exact ih2 _ _ _ _ _ _ _
   | exact ih3 _ _ _ _ _ _ _ _
   | exact ih4 _
   | exact table_entry.mono _ _ _ _ _ _ _ _ _
   | exact LeO.none _
   | refine LeO.ite ?_ ?_
   | refine LeO.bind ?_ (fun _=>?_)
  ·intro y0 y1 y2 y3 y4 y5 y6 y7
   unfold table_Check.j3
   repeat' first
   | (with_reducible exact ih0 _ _ _ _ _)
   | (with_reducible exact ih1 _)
   | (with_reducible exact ih2 _ _ _ _ _ _ _)
   | (with_reducible exact ih3 _ _ _ _ _ _ _ _)
   | (with_reducible exact ih4 _)
   | (with_reducible exact table_entry.mono _ _ _ _ _ _ _ _ _)
   | (with_reducible exact LeO.refl _)
   | (with_reducible exact LeO.none _)
   | (with_reducible refine LeO.ite ?_ ?_)
   | (with_reducible refine LeO.bind ?_ (fun _=>?_))
   | exact ih0 _ _ _ _ _
   | exact ih1 _
   | exact ih2 _ _ _ _ _ _ _
   | exact ih3 _ _ _ _ _ _ _ _
   | exact ih4 _
   | exact table_entry.mono _ _ _ _ _ _ _ _ _
   | exact LeO.none _
   | refine LeO.ite ?_ ?_
   | refine LeO.bind ?_ (fun _=>?_)
  ·intro y0
   unfold table_Check.j4
   repeat' first
   | (with_reducible exact ih0 _ _ _ _ _)
   | (with_reducible exact ih1 _)
   | (with_reducible exact ih2 _ _ _ _ _ _ _)
   | (with_reducible exact ih3 _ _ _ _ _ _ _ _)
   | (with_reducible exact ih4 _)
   | (with_reducible exact table_entry.mono _ _ _ _ _ _ _ _ _)
   | (with_reducible exact LeO.refl _)
   | (with_reducible exact LeO.none _)
   | (with_reducible refine LeO.ite ?_ ?_)
   | (with_reducible refine LeO.bind ?_ (fun _=>?_))
   | exact ih0 _ _ _ _ _
   | exact ih1 _
   | exact ih2 _ _ _ _ _ _ _
   | exact ih3 _ _ _ _ _ _ _ _
   | exact ih4 _
   | exact table_entry.mono _ _ _ _ _ _ _ _ _
   | exact LeO.none _
   | refine LeO.ite ?_ ?_
   | refine LeO.bind ?_ (fun _=>?_)
theorem table_Check.mono : ∀ a0 a1 a2 a3 k,LeO (table_Check.f k a0 a1 a2 a3) (table_Check.f (k + 1) a0 a1 a2 a3):=by
 intro a0 a1 a2 a3 k;obtain ⟨ih0,ih1,ih2,ih3,ih4⟩:=table_Check.mono_l k
 unfold table_Check.f
 repeat' first
   | (with_reducible exact ih0 _ _ _ _ _)
   | (with_reducible exact ih1 _)
   | (with_reducible exact ih2 _ _ _ _ _ _ _)
   | (with_reducible exact ih3 _ _ _ _ _ _ _ _)
   | (with_reducible exact ih4 _)
   | (with_reducible exact table_entry.mono _ _ _ _ _ _ _ _ _)
   | (with_reducible exact LeO.refl _)
   | (with_reducible exact LeO.none _)
   | (with_reducible refine LeO.ite ?_ ?_)
   | (with_reducible refine LeO.bind ?_ (fun _=>?_))
   | exact ih0 _ _ _ _ _
   | exact ih1 _
   | exact ih2 _ _ _ _ _ _ _
   | exact ih3 _ _ _ _ _ _ _ _
   | exact ih4 _
   | exact table_entry.mono _ _ _ _ _ _ _ _ _
   | exact LeO.none _
   | refine LeO.ite ?_ ?_
   | refine LeO.bind ?_ (fun _=>?_)
set_option maxHeartbeats 8000000 in
set_option maxRecDepth 100000 in
theorem table_Check.calls (k : Nat) (a0_0 : Int) (a0_1 : Int) (a0_2 : Int) (A0_3 : Option Addr) (c0_3 : Nat) (l0_3 : List (S56)) (r : Int) (w : World) (hr0_3 : Kd.C k56 w A0_3 l0_3.length l0_3) (hc0_3 : l0_3.length≤c0_3) (h : table_Check.f k a0_0 a0_1 a0_2 l0_3=some r) :
  Calls Tryd.prog 13 #[.agg #[.int .i64 a0_0,.int .i64 a0_1,.int .i64 a0_2,.slice A0_3 l0_3.length c0_3]] w fun e w'=>e=.returned (.int .i64 r)∧Below w.heap.size w w':=by
 have hu26:=Tryd.underlying26;have hu56:=Tryd.underlying56;have HR0_3:=A_ hr0_3;have HC0_3:=A_ hc0_3;clear hr0_3 hc0_3;have HB:=A_ (Below.refl w.heap.size w)
 have H : ((table_in.f a0_0 1 2147483647).bind fun t113=>(if t113=true then ((table_in.f a0_1 1 2147483647).bind fun t114=>(if t114=true then ((table_in.f a0_2 0 2147483647).bind fun t115=>(if t115=true then (table_Check.j0 k ((l0_3.length : Int) != 12) a0_0 a0_1 a0_2 l0_3) else (table_Check.j0 k true a0_0 a0_1 a0_2 l0_3))) else (table_Check.j0 k true a0_0 a0_1 a0_2 l0_3))) else (table_Check.j0 k true a0_0 a0_1 a0_2 l0_3)))=some r:=h
 clear h;have HC2:=A_ H;clear H;go_enter Tryd.func13,Tryd.ntmps13
 go_upto_region 1 with (first|((with_reducible refine gate_dst (N:=1) rfl ?_);(try (refine gate_guard (by rfl) ?_;dsimp only));refine box_event ?hg (N:=1) ?hd (cs:=#[.int .i64 a0_0,.int .i64 a0_1,.int .i64 a0_2,.slice A0_3 l0_3.length c0_3]) (t:=26) ?hr ?_;(case hd=>rfl);(case hg=>rfl);(case hr=>first|(go_simp;done)|(go_simp;rfl));intro gb112 hg w3 hbox hb;have n0_:=A_ (bp_ (hb0_ HB.out) hb);have n1_:=A_ (hbox);have n2_:=A_ ((by rw [hg];exact (bz_ (hb0_ HB.out)) : w.heap.size≤gb112));have n3_:=n2_;clear HB;have HB:=n0_;have BK112:=n1_;have GW112:=n2_;have GE112:=n3_;clear n0_ n1_ n2_ n3_;clear hb hbox hg))
 (try simp only [Act.put,u1_,u2_,u3_])
 go_cut [27] (fun v27 wc=>∃ (kq : Nat) (x27_1 : Bool),v27=.bool x27_1∧Aside0 (table_Check.j0 kq x27_1 a0_0 a0_1 a0_2 l0_3=some r)∧Aside0 (kq≤k)∧Aside0 (wc.heap[gb112]?=some (.cells #[.int .i64 a0_0,.int .i64 a0_1,.int .i64 a0_2,(.slice A0_3 l0_3.length c0_3)] 26 (0,0)))∧Aside0 (Below w.heap.size w wc))
 case first =>
  have H:=HC2.out;clear HC2;replace H:=Option.bind_eq_some_iff.mp H;obtain ⟨t113,A40,H⟩:=H
  replace H : (if t113=true then ((table_in.f a0_1 1 2147483647).bind fun t114=>(if t114=true then ((table_in.f a0_2 0 2147483647).bind fun t115=>(if t115=true then (table_Check.j0 k ((l0_3.length : Int) != 12) a0_0 a0_1 a0_2 l0_3) else (table_Check.j0 k true a0_0 a0_1 a0_2 l0_3))) else (table_Check.j0 k true a0_0 a0_1 a0_2 l0_3))) else (table_Check.j0 k true a0_0 a0_1 a0_2 l0_3))=some r:=H
  have A4:=A_ A40;clear A40
  by_cases c5 : t113=true
  rotate_left
  ·replace c5:=Bool.eq_false_iff.mpr c5
   subst c5
   have H1 : (table_Check.j0 k true a0_0 a0_1 a0_2 l0_3)=some r:=by rw [if_neg (show ¬ (false=true) by decide)] at H;exact H
   clear H;have H:=H1;clear H1;have H':=A_ H;clear H;obtain ⟨z13_0,z13_1,z13_2,z13_3⟩:=blkc_4 BK112.out;obtain ⟨y13_0,y13_1,y13_2,y13_3⟩:=blkz_4 BK112.out
   go_wp2_with (first|((with_reducible refine gate_callee (f:=29) rfl ?_);refine goesL_ (some 8) rfl rfl Tryd.func29 (by kernel_rfl) rfl #[.int .i64 a0_0,.int .i64 1,.int .i64 2147483647] rfl (by (try simp only [List.map_toArray,List.map_cons,List.map_nil]);first|done|rfl|(simp only [List.length_drop,List.length_take];rfl)) ?_;(with_reducible refine (table_in.calls a0_0 1 2147483647 false _ A4.out).mono ?_);rintro e w' ⟨rfl,⟨nd,rfl⟩⟩;refine ⟨_,rfl,?_⟩))
   go_meet
   case rel=>exact ⟨_,true,rfl,H',⟨by first|omega|exact Nat.le_refl _⟩,⟨by exact kk_ BK112.out⟩,⟨hb1_ HB.out GE112.out⟩⟩
  subst c5
  have H1 : ((table_in.f a0_1 1 2147483647).bind fun t114=>(if t114=true then ((table_in.f a0_2 0 2147483647).bind fun t115=>(if t115=true then (table_Check.j0 k ((l0_3.length : Int) != 12) a0_0 a0_1 a0_2 l0_3) else (table_Check.j0 k true a0_0 a0_1 a0_2 l0_3))) else (table_Check.j0 k true a0_0 a0_1 a0_2 l0_3)))=some r:=by rw [if_pos rfl] at H;exact H
  clear H;have H:=H1;clear H1;replace H:=Option.bind_eq_some_iff.mp H;obtain ⟨t114,A60,H⟩:=H
  replace H : (if t114=true then ((table_in.f a0_2 0 2147483647).bind fun t115=>(if t115=true then (table_Check.j0 k ((l0_3.length : Int) != 12) a0_0 a0_1 a0_2 l0_3) else (table_Check.j0 k true a0_0 a0_1 a0_2 l0_3))) else (table_Check.j0 k true a0_0 a0_1 a0_2 l0_3))=some r:=H
  have A6:=A_ A60;clear A60
  by_cases c7 : t114=true
  rotate_left
  ·replace c7:=Bool.eq_false_iff.mpr c7
   subst c7
   have H1 : (table_Check.j0 k true a0_0 a0_1 a0_2 l0_3)=some r:=by rw [if_neg (show ¬ (false=true) by decide)] at H;exact H
   clear H;have H:=H1;clear H1;have H':=A_ H;clear H;obtain ⟨z12_0,z12_1,z12_2,z12_3⟩:=blkc_4 BK112.out;obtain ⟨y12_0,y12_1,y12_2,y12_3⟩:=blkz_4 BK112.out
   go_wp2_with (first|((with_reducible refine gate_callee (f:=29) rfl ?_);refine goesL_ (some 8) rfl rfl Tryd.func29 (by kernel_rfl) rfl #[.int .i64 a0_0,.int .i64 1,.int .i64 2147483647] rfl (by (try simp only [List.map_toArray,List.map_cons,List.map_nil]);first|done|rfl|(simp only [List.length_drop,List.length_take];rfl)) ?_;(with_reducible refine (table_in.calls a0_0 1 2147483647 true _ A4.out).mono ?_);rintro e w' ⟨rfl,⟨nd,rfl⟩⟩;refine ⟨_,rfl,?_⟩)|(go_at_call 29;(with_reducible refine (table_in.calls a0_1 1 2147483647 false _ A6.out).mono ?_);rintro e w' ⟨rfl,⟨nd,rfl⟩⟩))
   go_meet
   case rel=>exact ⟨_,true,rfl,H',⟨by first|omega|exact Nat.le_refl _⟩,⟨by exact kk_ BK112.out⟩,⟨hb1_ HB.out GE112.out⟩⟩
  subst c7
  have H1 : ((table_in.f a0_2 0 2147483647).bind fun t115=>(if t115=true then (table_Check.j0 k ((l0_3.length : Int) != 12) a0_0 a0_1 a0_2 l0_3) else (table_Check.j0 k true a0_0 a0_1 a0_2 l0_3)))=some r:=by rw [if_pos rfl] at H;exact H
  clear H;have H:=H1;clear H1;replace H:=Option.bind_eq_some_iff.mp H;obtain ⟨t115,A80,H⟩:=H
  replace H : (if t115=true then (table_Check.j0 k ((l0_3.length : Int) != 12) a0_0 a0_1 a0_2 l0_3) else (table_Check.j0 k true a0_0 a0_1 a0_2 l0_3))=some r:=H
  have A8:=A_ A80;clear A80
  by_cases c9 : t115=true
  ·subst c9
   have H1 : (table_Check.j0 k ((l0_3.length : Int) != 12) a0_0 a0_1 a0_2 l0_3)=some r:=by rw [if_pos rfl] at H;exact H
   clear H;have H:=H1;clear H1;have H':=A_ H;clear H;obtain ⟨z10_0,z10_1,z10_2,z10_3⟩:=blkc_4 BK112.out;obtain ⟨y10_0,y10_1,y10_2,y10_3⟩:=blkz_4 BK112.out
   go_wp2_with (first|((with_reducible refine gate_callee (f:=29) rfl ?_);refine goesL_ (some 8) rfl rfl Tryd.func29 (by kernel_rfl) rfl #[.int .i64 a0_0,.int .i64 1,.int .i64 2147483647] rfl (by (try simp only [List.map_toArray,List.map_cons,List.map_nil]);first|done|rfl|(simp only [List.length_drop,List.length_take];rfl)) ?_;(with_reducible refine (table_in.calls a0_0 1 2147483647 true _ A4.out).mono ?_);rintro e w' ⟨rfl,⟨nd,rfl⟩⟩;refine ⟨_,rfl,?_⟩)|(go_at_call 29;(with_reducible refine (table_in.calls a0_1 1 2147483647 true _ A6.out).mono ?_);rintro e w' ⟨rfl,⟨nd,rfl⟩⟩)|(go_at_call 29;(with_reducible refine (table_in.calls a0_2 0 2147483647 true _ A8.out).mono ?_);rintro e w' ⟨rfl,⟨nd,rfl⟩⟩))
   go_meet
   case rel=>exact ⟨_,(((l0_3.length : Int) != 12)),(by first|rfl|(simp;done)|(simp [*];done)),H',⟨by first|omega|exact Nat.le_refl _⟩,⟨by exact kk_ BK112.out⟩,⟨hb1_ HB.out GE112.out⟩⟩
  replace c9:=Bool.eq_false_iff.mpr c9
  subst c9
  have H1 : (table_Check.j0 k true a0_0 a0_1 a0_2 l0_3)=some r:=by rw [if_neg (show ¬ (false=true) by decide)] at H;exact H
  clear H;have H:=H1;clear H1;have H':=A_ H;clear H;obtain ⟨z11_0,z11_1,z11_2,z11_3⟩:=blkc_4 BK112.out;obtain ⟨y11_0,y11_1,y11_2,y11_3⟩:=blkz_4 BK112.out
  go_wp2_with (first|((with_reducible refine gate_callee (f:=29) rfl ?_);refine goesL_ (some 8) rfl rfl Tryd.func29 (by kernel_rfl) rfl #[.int .i64 a0_0,.int .i64 1,.int .i64 2147483647] rfl (by (try simp only [List.map_toArray,List.map_cons,List.map_nil]);first|done|rfl|(simp only [List.length_drop,List.length_take];rfl)) ?_;(with_reducible refine (table_in.calls a0_0 1 2147483647 true _ A4.out).mono ?_);rintro e w' ⟨rfl,⟨nd,rfl⟩⟩;refine ⟨_,rfl,?_⟩)|(go_at_call 29;(with_reducible refine (table_in.calls a0_1 1 2147483647 true _ A6.out).mono ?_);rintro e w' ⟨rfl,⟨nd,rfl⟩⟩)|(go_at_call 29;(with_reducible refine (table_in.calls a0_2 0 2147483647 false _ A8.out).mono ?_);rintro e w' ⟨rfl,⟨nd,rfl⟩⟩))
  go_meet
  case rel=>exact ⟨_,true,rfl,H',⟨by first|omega|exact Nat.le_refl _⟩,⟨by exact kk_ BK112.out⟩,⟨hb1_ HB.out GE112.out⟩⟩
 case rest =>
  clear HC2;(try clear c1);(try clear c2);(try clear p2);(try clear c5);(try clear c7);(try clear c9);(try clear c13);(try clear z10_0 z10_1 z10_2 z10_3 z11_0 z11_1 z11_2 z11_3 z12_0 z12_1 z12_2 z12_3 z13_0 z13_1 z13_2 z13_3 y10_0 y10_1 y10_2 y10_3 y11_0 y11_1 y11_2 y11_3 y12_0 y12_1 y12_2 y12_3 y13_0 y13_1 y13_2 y13_3);obtain ⟨kq,x27_1,rfl,HA,HJ1,BK112,HB⟩:=hcut
  cases kq with
  | zero=>exact absurd HA.out (by simp [table_Check.j0])
  | succ kj1 =>
   have H:=HA.out;clear HA
   simp only [table_Check.j0] at H
   by_cases c14 : x27_1=true
   ·subst c14
    have H1 : (table_Check.j1 kj1 1)=some r:=by rw [if_pos rfl] at H;exact H
    clear H;have H:=H1;clear H1;have HC15:=A_ H;clear H
    go_upto_region 2 with (fail)
    go_cut [2] (fun v2 wc=>∃ (kq : Nat) (x2_14 : Int),v2=.int .i64 x2_14∧Aside0 (table_Check.j1 kq x2_14=some r)∧Aside0 (kq≤kj1)∧Aside0 (wc.heap[gb112]?=some (.cells #[.int .i64 a0_0,.int .i64 a0_1,.int .i64 a0_2,(.slice A0_3 l0_3.length c0_3)] 26 (0,0)))∧Aside0 (Below w.heap.size w wc))
    case first =>
     have H:=HC15.out;clear HC15;have H':=A_ H;clear H;go_wp2;go_meet
     case rel=>exact ⟨_,(1),(by first|rfl|(simp;done)|(simp [*];done)),H',⟨by have:=HJ1.out;first|omega|exact Nat.le_refl _⟩,⟨by exact kk_ BK112.out⟩,⟨hb1_ HB.out GE112.out⟩⟩
    case rest =>
     clear HC15;(try clear c1);(try clear c2);(try clear p2);(try clear c5);(try clear c7);(try clear c9);(try clear c13);(try clear c14);(try clear p2);(try clear z10_0 z10_1 z10_2 z10_3 z11_0 z11_1 z11_2 z11_3 z12_0 z12_1 z12_2 z12_3 z13_0 z13_1 z13_2 z13_3 y10_0 y10_1 y10_2 y10_3 y11_0 y11_1 y11_2 y11_3 y12_0 y12_1 y12_2 y12_3 y13_0 y13_1 y13_2 y13_3);obtain ⟨kq,x2_14,rfl,HA,HJ14,BK112,HB⟩:=hcut
     cases kq with
     | zero=>exact absurd HA.out (by simp [table_Check.j1])
     | succ kj14 =>
      have H:=HA.out;clear HA
      simp only [table_Check.j1] at H
      obtain rfl:=Option.some.inj H;go_wp2;go_ret
      exact ⟨by first|rfl|(simp [errW_none,errW_some] <;> rfl)|(simp [*,errW_none,errW_some] <;> rfl),hb1_ HB.out GE112.out⟩
   replace c14:=Bool.eq_false_iff.mpr c14
   subst c14
   have H1 : (table_Check.l0 kj1 l0_3 (l0_3.length : Int) 0 a0_0 a0_1 a0_2 l0_3)=some r:=by rw [if_neg (show ¬ (false=true) by decide)] at H;exact H
   clear H;have H:=H1;clear H1;have H':=A_ H;clear H;obtain ⟨z16_0,z16_1,z16_2,z16_3⟩:=blkc_4 BK112.out;obtain ⟨y16_0,y16_1,y16_2,y16_3⟩:=blkz_4 BK112.out;go_wp2
   go_loopg [31] kj1 (fun kq v31 w'=>∃ (x31_2 : Int),v31=.int .i64 x31_2∧Aside0 (table_Check.l0 kq l0_3 (l0_3.length : Int) x31_2 a0_0 a0_1 a0_2 l0_3=some r)∧Aside0 (kq≤kj1)∧Aside0 (w'.heap[gb112]?=some (.cells #[.int .i64 a0_0,.int .i64 a0_1,.int .i64 a0_2,(.slice A0_3 l0_3.length c0_3)] 26 (0,0)))∧Aside0 (Below w.heap.size w w'))
   case atStart=>exact ⟨(0),(by first|rfl|(simp;done)|(simp [*];done)),H',⟨Nat.le_refl _⟩,⟨by exact kk_ BK112.out⟩,⟨hb1_ HB.out GE112.out⟩⟩
   case round =>
    clear H';(try clear c1);(try clear c2);(try clear p2);(try clear c5);(try clear c7);(try clear c9);(try clear c13);(try clear c14);(try clear p2);(try clear z10_0 z10_1 z10_2 z10_3 z11_0 z11_1 z11_2 z11_3 z12_0 z12_1 z12_2 z12_3 z13_0 z13_1 z13_2 z13_3 z16_0 z16_1 z16_2 z16_3 y10_0 y10_1 y10_2 y10_3 y11_0 y11_1 y11_2 y11_3 y12_0 y12_1 y12_2 y12_3 y13_0 y13_1 y13_2 y13_3 y16_0 y16_1 y16_2 y16_3);obtain ⟨x31_2,rfl,HA,HK2,BK112,HB⟩:=hrel
    cases gk with
    | zero=>exact absurd HA.out (by simp [table_Check.l0])
    | succ k2 =>
     have H:=HA.out;clear HA
     simp only [table_Check.l0] at H
     by_cases c17 : x31_2<(l0_3.length : Int)
     rotate_left
     ·rw [if_neg c17] at H
      have c17b0 : decide (x31_2<(l0_3.length : Int))=false:=df_ c17;clear c17;obtain rfl:=Option.some.inj H;go_wp2;go_ret
      exact ⟨by first|rfl|(simp [errW_none,errW_some] <;> rfl)|(simp [*,errW_none,errW_some] <;> rfl),hb1_ HB.out GE112.out⟩
     rw [if_pos c17] at H
     have c17b0 : decide (x31_2<(l0_3.length : Int))=true:=dt_ c17;clear c17
     by_cases c18 : 0≤x31_2
     rotate_left
     ·rw [if_neg c18] at H
      exact absurd H (by simp)
     rw [if_pos c18] at H
     have c18b0 : decide (0≤x31_2)=true:=dt_ c18;clear c18
     by_cases c19 : x31_2<(l0_3.length : Int)
     rotate_left
     ·rw [if_neg c19] at H
      exact absurd H (by simp)
     rw [if_pos c19] at H
     have c19b0 : decide (x31_2<(l0_3.length : Int))=true:=dt_ c19;clear c19
     have c20b0:=eq_true (od_ (by first|(with_reducible assumption)|assumption) : 0≤x31_2)
     by_cases c21 : x31_2≤(l0_3.length : Int)
     rotate_left
     ·rw [if_neg c21] at H
      exact absurd H (by simp)
     rw [if_pos c21] at H
     have c21b0:=eq_true c21;have c21b1 : decide (x31_2≤(l0_3.length : Int))=true:=dt_ c21;clear c21
     obtain ⟨y118,hy118⟩ : ∃ y_ : List (S56),y_=(l0_3.take (x31_2 : Int).toNat):=⟨_,rfl⟩
     replace H : ((containsFunc_table_Check_1.f y118 ((rd_T56 l0_3 x31_2).f0) ((rd_T56 l0_3 x31_2).f1) ((rd_T56 l0_3 x31_2).f2) ((rd_T56 l0_3 x31_2).f3)).bind fun t122=>(if t122=true then (table_Check.j3 k2 l0_3 (l0_3.length : Int) x31_2 true a0_0 a0_1 a0_2 l0_3) else ((table_entry.f k2 a0_0 a0_1 a0_2 l0_3 ((rd_T56 l0_3 x31_2).f0) ((rd_T56 l0_3 x31_2).f1) ((rd_T56 l0_3 x31_2).f2) ((rd_T56 l0_3 x31_2).f3)).bind fun t123=>(table_Check.j3 k2 l0_3 (l0_3.length : Int) x31_2 (!t123) a0_0 a0_1 a0_2 l0_3))))=some r:=by first|(rw [hy118];with_reducible exact H)|(have H2_:=(Option.bind_some _ _).symm.trans H;rw [hy118];with_reducible exact H2_)|(have H2_:=(Option.bind_some _ _).symm.trans H;with_reducible exact H2_)|with_reducible exact H|(rw [hy118];exact H)|exact H
     have Ny118:=A_ hy118;clear hy118;replace H:=Option.bind_eq_some_iff.mp H;obtain ⟨t122,A220,H⟩:=H
     replace H : (if t122=true then (table_Check.j3 k2 l0_3 (l0_3.length : Int) x31_2 true a0_0 a0_1 a0_2 l0_3) else ((table_entry.f k2 a0_0 a0_1 a0_2 l0_3 ((rd_T56 l0_3 x31_2).f0) ((rd_T56 l0_3 x31_2).f1) ((rd_T56 l0_3 x31_2).f2) ((rd_T56 l0_3 x31_2).f3)).bind fun t123=>(table_Check.j3 k2 l0_3 (l0_3.length : Int) x31_2 (!t123) a0_0 a0_1 a0_2 l0_3)))=some r:=H
     have A22:=A_ A220;clear A220;have HC23:=A_ H;clear H
     have p116 : 0≤(x31_2 : Int):=od_ (by first|(with_reducible assumption)|assumption)
     have q116 : x31_2<(l0_3.length : Int):=od_ (by first|(with_reducible assumption)|assumption)
     obtain ⟨ad116,e116,hx116_0,hx116_1,hx116_2,hx116_3⟩:=at_T56 HR0_3.out x31_2 p116 q116
     cases e116
     replace hx116_0:=(HB.out.cell (wb_ w _ hx116_0)).trans hx116_0;replace hx116_1:=(HB.out.cell (wb_ w _ hx116_1)).trans hx116_1;replace hx116_2:=(HB.out.cell (wb_ w _ hx116_2)).trans hx116_2;replace hx116_3:=(HB.out.cell (wb_ w _ hx116_3)).trans hx116_3;replace p116:=eq_true p116;replace q116:=eq_true q116
     go_upto_region 7 with (first|((with_reducible refine gate_dst (N:=4) rfl ?_);(try (refine gate_guard (by rfl) ?_;dsimp only));refine box_event ?hg (N:=4) ?hd (cs:=#[.int .i64 0,.int .i64 0,.int .i64 0,.int .i64 0]) (t:=56) ?hr ?_;(case hd=>rfl);(case hg=>rfl);(case hr=>first|(go_simp;done)|(go_simp;rfl));intro gb117 hg w24 hbox hb;have n0_:=A_ (bx_ BK112.out kf_ hb);have n1_:=A_ (bp_ (hb1_ HB.out GE112.out) hb);have n2_:=A_ (hbox);have n3_:=A_ ((by rw [hg];exact (bz_ (hb1_ HB.out GE112.out)) : w.heap.size≤gb117));have n4_:=n3_;have n5_:=A_ ((by rw [hg];exact Nat.ne_of_lt (bl_ BK112.out kf_) : gb112≠gb117));have n6_:=A_ (Ne.symm n5_.out);clear BK112;clear HB;have BK112:=n0_;have HB:=n1_;have BK117:=n2_;have GW117:=n3_;have GE117:=n4_;have NB112_117:=n5_;have NB117_112:=n6_;clear n0_ n1_ n2_ n3_ n4_ n5_ n6_;clear hb hbox hg;have hnb25:=NB117_112.out;have hnc25:=NB112_117.out;obtain ⟨z26_0,z26_1,z26_2,z26_3⟩:=blkc_4 BK117.out;obtain ⟨y26_0,y26_1,y26_2⟩:=blkz_3 BK117.out;have y26_3:=bf_ BK117.out 3)|((with_reducible refine gate_store (t:=56) (p:=4) rfl ?_);refine store_event (t:=56) (p:=4) (v:=?vo_w27) (w1:=((((w24.setCell ⟨gb117,0,none⟩ (.int .i64 ((rd_T56 l0_3 x31_2).f0))).setCell ⟨gb117,1,none⟩ (.int .i64 ((rd_T56 l0_3 x31_2).f1))).setCell ⟨gb117,2,none⟩ (.int .i64 ((rd_T56 l0_3 x31_2).f2))).setCell ⟨gb117,3,none⟩ (.int .i64 ((rd_T56 l0_3 x31_2).f3)))) ?hg ?ho ?hn ?hr ?_;(case ho=>rfl);(case hg=>rfl);(case hn=>rfl);(case hr=>first|(go_simp;done)|(go_simp;rfl));intro w27 hw;have n0_ : Aside0 (w27.heap[gb112]?=some (.cells #[.int .i64 a0_0,.int .i64 a0_1,.int .i64 a0_2,.slice (some ad116) l0_3.length c0_3] 26 (0,0))):=⟨(by rw [hw];exact (by refine kk_ ?_;refine blk_far ?_ NB112_117.out _;refine kk_ ?_;refine blk_far ?_ NB112_117.out _;refine kk_ ?_;refine blk_far ?_ NB112_117.out _;refine kk_ ?_;refine blk_far ?_ NB112_117.out _;exact kk_ BK112.out))⟩;have n1_ : Aside0 (w27.heap[gb117]?=some (.cells #[.int .i64 ((rd_T56 l0_3 x31_2).f0),.int .i64 ((rd_T56 l0_3 x31_2).f1),.int .i64 ((rd_T56 l0_3 x31_2).f2),.int .i64 ((rd_T56 l0_3 x31_2).f3)] 56 (0,0))):=⟨(by rw [hw];exact (by refine kk_ ?_;apply blkf_4_0_3;exact kk_ BK117.out))⟩;have n2_ : Aside0 (Below w.heap.size w w27):=⟨(by rw [hw];exact (hb2_ HB.out GE112.out GE117.out))⟩;clear hw;clear BK112;clear BK117;clear HB;have BK112:=n0_;have BK117:=n1_;have HB:=n2_;clear n0_ n1_ n2_;obtain ⟨z28_0,z28_1,z28_2,z28_3⟩:=blkc_4 BK112.out;obtain ⟨y28_0,y28_1,y28_2,y28_3⟩:=blkz_4 BK112.out;have q29 : (x31_2 : Int)≤((l0_3.length : Int) : Int):=od_ (by first|(with_reducible assumption)|assumption);obtain ⟨i029,hi029,_,hsz29,_⟩:=info_parts info56;have hroom29 : l0_3.length≤c0_3:=HC0_3.out;have hC29 : Kd.C k56 _ (some ad116) l0_3.length l0_3:=HR0_3.out;have hcut29:=cut_to (P:=Tryd.prog) 24 56 .i64 Tryd.underlying24 hi029 (some ad116) l0_3.length c0_3 x31_2 (od_ (by first|(with_reducible assumption)|assumption)) q29 hroom29;have hr29:=Kd.C_take (m:=(x31_2 : Int).toNat) hC29 (by omega);have hy29 : y118.length=(x31_2 : Int).toNat:=(by rw [Ny118.out,List.length_take];omega);rw [← Ny118.out] at hr29;rw [← hy29] at hcut29;have HR121:=A_ hr29;have HC121:=A_ (show y118.length≤c0_3 from by omega);clear hr29 hC29 hroom29 hi029 hsz29;have KY29:=A_ hy29;clear hy29;replace q29:=eq_true q29)|((with_reducible refine gate_callee (f:=30) rfl ?_);refine goesL_ (some 41) rfl rfl Tryd.func30 (by kernel_rfl) rfl #[.slice (some ad116) y118.length c0_3,.func (.func 31) #[] #[.pointer (some ⟨_,0,none⟩)]] rfl (by (try simp only [List.map_toArray,List.map_cons,List.map_nil]);first|done|rfl|(simp only [List.length_drop,List.length_take];rfl)) ?_;(with_reducible refine (containsFunc_table_Check_1.calls _ _ y118 ((rd_T56 l0_3 x31_2).f0) ((rd_T56 l0_3 x31_2).f1) ((rd_T56 l0_3 x31_2).f2) ((rd_T56 l0_3 x31_2).f3) t122 _ ?side1 ?side2 ?side3 A22.out).mono ?_);(case side1=>repeat (first|exact (Kd.C_below HR121.out HB.out)|(with_reducible refine Kd.C_alloc ?_ _)|(with_reducible refine Kd.C_drewN ?_ _)|(with_reducible refine Kd.C_drew ?_)));(case side2=>exact HC121.out);(case side3=>exact (by exact kk_ BK117.out));rintro e w30 ⟨rfl,hb⟩;refine ⟨_,rfl,?_⟩;have n0_:=A_ (bx_ BK112.out kf_ hb);have n1_:=A_ (bx_ BK117.out kf_ hb);have n2_:=A_ (bp_ (hb2_ HB.out GE112.out GE117.out) hb);clear BK112;clear BK117;clear HB;have BK112:=n0_;have BK117:=n1_;have HB:=n2_;clear n0_ n1_ n2_;(try clear hb);(try clear hb2);(try clear hk);(try clear hi)))
     (try simp only [Act.put,u1_,u2_,u3_])
     go_cut [48] (fun v48 wc=>∃ (kq : Nat) (x48_22 : Bool),v48=.bool x48_22∧Aside0 (table_Check.j3 kq l0_3 (l0_3.length : Int) x31_2 x48_22 a0_0 a0_1 a0_2 l0_3=some r)∧Aside0 (kq≤k2)∧Aside0 (wc.heap[gb112]?=some (.cells #[.int .i64 a0_0,.int .i64 a0_1,.int .i64 a0_2,(.slice (some ad116) l0_3.length c0_3)] 26 (0,0)))∧Aside0 (wc.heap[gb117]?=some (.cells #[.int .i64 ((rd_T56 l0_3 x31_2).f0),.int .i64 ((rd_T56 l0_3 x31_2).f1),.int .i64 ((rd_T56 l0_3 x31_2).f2),.int .i64 ((rd_T56 l0_3 x31_2).f3)] 56 (0,0)))∧Aside0 (Below w.heap.size w wc))
     case first =>
      have H:=HC23.out;clear HC23
      by_cases c31 : t122=true
      ·subst c31
       have H1 : (table_Check.j3 k2 l0_3 (l0_3.length : Int) x31_2 true a0_0 a0_1 a0_2 l0_3)=some r:=by rw [if_pos rfl] at H;exact H
       clear H;have H:=H1;clear H1;have H':=A_ H;clear H;go_wp2;go_meet
       case rel=>exact ⟨_,true,rfl,H',⟨by have:=HJ1.out;have:=HK2.out;first|omega|exact Nat.le_refl _⟩,⟨by exact kk_ BK112.out⟩,⟨by exact kk_ BK117.out⟩,⟨hb2_ HB.out GE112.out GE117.out⟩⟩
      replace c31:=Bool.eq_false_iff.mpr c31
      subst c31
      have H1 : ((table_entry.f k2 a0_0 a0_1 a0_2 l0_3 ((rd_T56 l0_3 x31_2).f0) ((rd_T56 l0_3 x31_2).f1) ((rd_T56 l0_3 x31_2).f2) ((rd_T56 l0_3 x31_2).f3)).bind fun t123=>(table_Check.j3 k2 l0_3 (l0_3.length : Int) x31_2 (!t123) a0_0 a0_1 a0_2 l0_3))=some r:=by rw [if_neg (show ¬ (false=true) by decide)] at H;exact H
      clear H;have H:=H1;clear H1;replace H:=Option.bind_eq_some_iff.mp H;obtain ⟨t123,A320,H⟩:=H;replace H : (table_Check.j3 k2 l0_3 (l0_3.length : Int) x31_2 (!t123) a0_0 a0_1 a0_2 l0_3)=some r:=H;have A32:=A_ A320;clear A320;have H':=A_ H;clear H;have hnb33:=NB112_117.out;have hnc33:=NB117_112.out;obtain ⟨z34_0,z34_1,z34_2,z34_3⟩:=blkc_4 BK112.out;obtain ⟨y34_0,y34_1,y34_2,y34_3⟩:=blkz_4 BK112.out;obtain ⟨z35_0,z35_1,z35_2,z35_3⟩:=blkc_4 BK117.out;obtain ⟨y35_0,y35_1,y35_2,y35_3⟩:=blkz_4 BK117.out
      go_wp2_with (first|(go_at_call 32;(with_reducible refine (table_entry.calls k2 a0_0 a0_1 a0_2 _ _ l0_3 ((rd_T56 l0_3 x31_2).f0) ((rd_T56 l0_3 x31_2).f1) ((rd_T56 l0_3 x31_2).f2) ((rd_T56 l0_3 x31_2).f3) t123 _ ?side1 ?side2 A32.out).mono ?_);(case side1=>repeat (first|exact (Kd.C_below HR0_3.out HB.out)|(with_reducible refine Kd.C_alloc ?_ _)|(with_reducible refine Kd.C_drewN ?_ _)|(with_reducible refine Kd.C_drew ?_)));(case side2=>exact HC0_3.out);rintro e w36 ⟨rfl,hb⟩;have n0_:=A_ (bx_ BK112.out kf_ hb);have n1_:=A_ (bx_ BK117.out kf_ hb);have n2_:=A_ (bp_ (hb2_ HB.out GE112.out GE117.out) hb);clear BK112;clear BK117;clear HB;have BK112:=n0_;have BK117:=n1_;have HB:=n2_;clear n0_ n1_ n2_;(try clear hb);(try clear hb2);(try clear hk);(try clear hi)))
      go_meet
      case rel=>exact ⟨_,(!t123),(by first|rfl|(simp;done)|(simp [*];done)),H',⟨by have:=HJ1.out;have:=HK2.out;first|omega|exact Nat.le_refl _⟩,⟨by exact kk_ BK112.out⟩,⟨by exact kk_ BK117.out⟩,⟨hb2_ HB.out GE112.out GE117.out⟩⟩
     case rest =>
      clear HC23;(try clear c1);(try clear p1);(try clear q1);(try clear hx1);(try clear c2);(try clear p2);(try clear q2);(try clear c3);(try clear c5);(try clear c7);(try clear c9);(try clear c10);(try clear p11);(try clear q11);(try clear hx11);(try clear c13);(try clear c14);(try clear c17);(try clear c17b0);(try clear c18);(try clear c18b0);(try clear c19);(try clear c19b0);(try clear c20);(try clear c20b0);(try clear c21);(try clear c21b0);(try clear c21b1);(try clear c25);(try clear c29);(try clear q29);(try clear c31);(try clear c33);(try clear hx116_0);(try clear hx116_1);(try clear hx116_2);(try clear hx116_3);(try clear p116);(try clear p2);(try clear q116);(try clear q29);(try clear z10_0 z10_1 z10_2 z10_3 z11_0 z11_1 z11_2 z11_3 z12_0 z12_1 z12_2 z12_3 z13_0 z13_1 z13_2 z13_3 z16_0 z16_1 z16_2 z16_3 z26_0 z26_1 z26_2 z26_3 z28_0 z28_1 z28_2 z28_3 z34_0 z34_1 z34_2 z34_3 z35_0 z35_1 z35_2 z35_3 y10_0 y10_1 y10_2 y10_3 y11_0 y11_1 y11_2 y11_3 y12_0 y12_1 y12_2 y12_3 y13_0 y13_1 y13_2 y13_3 y16_0 y16_1 y16_2 y16_3 y26_0 y26_1 y26_2 y26_3 y28_0 y28_1 y28_2 y28_3 y34_0 y34_1 y34_2 y34_3 y35_0 y35_1 y35_2 y35_3);obtain ⟨kq,x48_22,rfl,HA,HJ22,BK112,BK117,HB⟩:=hcut
      cases kq with
      | zero=>exact absurd HA.out (by simp [table_Check.j3])
      | succ kj22 =>
       have H:=HA.out;clear HA
       simp only [table_Check.j3] at H
       by_cases c37 : x48_22=true
       rotate_left
       ·replace c37:=Bool.eq_false_iff.mpr c37
        subst c37
        have H1 : (table_Check.l0 kj22 l0_3 (l0_3.length : Int) (wrap64 (x31_2 + 1)) a0_0 a0_1 a0_2 l0_3)=some r:=by rw [if_neg (show ¬ (false=true) by decide)] at H;exact H
        clear H;have H:=H1;clear H1;have H':=A_ H;clear H;go_wp2;go_roundg kj22
        case measure=>have:=HJ1.out;have:=HK2.out;have:=HJ22.out;omega
        case rel=>exact ⟨(wrap64 (x31_2 + 1)),(by first|rfl|(simp;done)|(simp [*];done)),H',⟨by have:=HJ1.out;have:=HK2.out;have:=HJ22.out;omega⟩,⟨by exact kk_ BK112.out⟩,⟨hb2_ HB.out GE112.out GE117.out⟩⟩
       subst c37
       have H1 : (table_Check.j4 kj22 1)=some r:=by rw [if_pos rfl] at H;exact H
       clear H;have H:=H1;clear H1;have HC38:=A_ H;clear H
       go_upto_region 8 with (fail)
       go_cut [2] (fun v2 wc=>∃ (kq : Nat) (x2_37 : Int),v2=.int .i64 x2_37∧Aside0 (table_Check.j4 kq x2_37=some r)∧Aside0 (kq≤kj22)∧Aside0 (wc.heap[gb112]?=some (.cells #[.int .i64 a0_0,.int .i64 a0_1,.int .i64 a0_2,(.slice (some ad116) l0_3.length c0_3)] 26 (0,0)))∧Aside0 (wc.heap[gb117]?=some (.cells #[.int .i64 ((rd_T56 l0_3 x31_2).f0),.int .i64 ((rd_T56 l0_3 x31_2).f1),.int .i64 ((rd_T56 l0_3 x31_2).f2),.int .i64 ((rd_T56 l0_3 x31_2).f3)] 56 (0,0)))∧Aside0 (Below w.heap.size w wc))
       case first =>
        have H:=HC38.out;clear HC38;have H':=A_ H;clear H;go_wp2;go_meet
        case rel=>exact ⟨_,(1),(by first|rfl|(simp;done)|(simp [*];done)),H',⟨by have:=HJ1.out;have:=HK2.out;have:=HJ22.out;first|omega|exact Nat.le_refl _⟩,⟨by exact kk_ BK112.out⟩,⟨by exact kk_ BK117.out⟩,⟨hb2_ HB.out GE112.out GE117.out⟩⟩
       case rest =>
        clear HC38;(try clear c1);(try clear p1);(try clear q1);(try clear hx1);(try clear c2);(try clear p2);(try clear q2);(try clear c3);(try clear c5);(try clear c7);(try clear c9);(try clear c10);(try clear p11);(try clear q11);(try clear hx11);(try clear c13);(try clear c14);(try clear c17);(try clear c17b0);(try clear c18);(try clear c18b0);(try clear c19);(try clear c19b0);(try clear c20);(try clear c20b0);(try clear c21);(try clear c21b0);(try clear c21b1);(try clear c25);(try clear c29);(try clear q29);(try clear c31);(try clear c33);(try clear c37);(try clear hx116_0);(try clear hx116_1);(try clear hx116_2);(try clear hx116_3);(try clear p1);(try clear p11);(try clear p116);(try clear p2);(try clear q1);(try clear q11);(try clear q116);(try clear q2);(try clear q29);(try clear z10_0 z10_1 z10_2 z10_3 z11_0 z11_1 z11_2 z11_3 z12_0 z12_1 z12_2 z12_3 z13_0 z13_1 z13_2 z13_3 z16_0 z16_1 z16_2 z16_3 z26_0 z26_1 z26_2 z26_3 z28_0 z28_1 z28_2 z28_3 z34_0 z34_1 z34_2 z34_3 z35_0 z35_1 z35_2 z35_3 y10_0 y10_1 y10_2 y10_3 y11_0 y11_1 y11_2 y11_3 y12_0 y12_1 y12_2 y12_3 y13_0 y13_1 y13_2 y13_3 y16_0 y16_1 y16_2 y16_3 y26_0 y26_1 y26_2 y26_3 y28_0 y28_1 y28_2 y28_3 y34_0 y34_1 y34_2 y34_3 y35_0 y35_1 y35_2 y35_3);obtain ⟨kq,x2_37,rfl,HA,HJ37,BK112,BK117,HB⟩:=hcut
        cases kq with
        | zero=>exact absurd HA.out (by simp [table_Check.j4])
        | succ kj37 =>
         have H:=HA.out;clear HA
         simp only [table_Check.j4] at H
         obtain rfl:=Option.some.inj H;go_wp2;go_ret
         exact ⟨by first|rfl|(simp [errW_none,errW_some] <;> rfl)|(simp [*,errW_none,errW_some] <;> rfl),hb2_ HB.out GE112.out GE117.out⟩
end Go.Proofs.YtbmcbhpkefjhbaaDoor.P
