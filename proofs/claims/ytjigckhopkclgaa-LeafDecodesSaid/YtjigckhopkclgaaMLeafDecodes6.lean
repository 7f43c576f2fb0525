/- by wip/prune.py -/
import Derived.Test.YtjigckhopkclgaaMLeafDecodes3
import Derived.Deep.LoopGhost
import Derived.Outline
import Derived.Test.YtjigckhopkclgaaMLeafDecodes2
import Derived.Test.YtjigckhopkclgaaMLeafDecodes4
import Derived.Test.YtjigckhopkclgaaMLeafDecodes5
set_option linter.unusedSimpArgs false
set_option linter.unusedVariables false
namespace Go.Proofs.Ytjigckhopkclgaa.P
open Go.RowKit Ytjigckhopkclgaa Ytjigckhopkclgaa.Mem YtjigckhopkclgaaW.PrintWords YtjigckhopkclgaaW.PrintLast YtjigckhopkclgaaW.PrintMore
def ixOf (o : Option Nat) : Int:=match o with|some i=>(i : Int)|none=>-1
theorem ix_ge {α : Type} (l : List α) (q : α→Bool) : decide (0≤ixOf (l.findIdx? q))=l.any q:=by
  cases h : l.findIdx? q with
  | none =>
    rw [List.findIdx?_eq_none_iff] at h
    rw [show ixOf none = -1 from rfl]
    symm
    rw [show decide ((0 : Int) ≤ -1)=false from rfl,List.any_eq_false]
    intro x hx;rw [h x hx]; decide
  | some i =>
    rw [List.findIdx?_eq_some_iff_getElem] at h;obtain ⟨h1,h2,_⟩:=h
    rw [show ixOf (some i)=(i : Int) from rfl,dt_ (by omega)]
    symm
    rw [List.any_eq_true];exact ⟨_,List.getElem_mem h1,h2⟩
theorem rdB_at {l : List Int} {i : Nat} (h : i<l.length) : l[i]?=some (rd l (i : Int)):=by
  unfold rd
  rw [Int.toNat_natCast,List.getD_eq_getElem?_getD,List.getElem?_eq_getElem h]; rfl
theorem rdR_at {l : List (List Int)} {i : Nat} (h : i<l.length) : l[i]?=some (rd_L2 l (i : Int)):=by
  unfold rd_L2
  rw [Int.toNat_natCast,List.getD_eq_getElem?_getD,List.getElem?_eq_getElem h]; rfl
theorem Index_l0 {l : List Int} {a : Int} (hl : l.length≤1000000) : ∀ (d i k : Nat),d=l.length - i→i≤l.length→d + 1≤k→(∀ (j : Nat) (e : Int),j<i→l[j]?=some e→(a == e)=false)→slices_Index_int_int.l0 k l a (l.length : Int) (i : Int)=some (ixOf (l.findIdx? fun x=>a == x)):=by
  intro d
  induction d with
  | zero =>
    intro i k hd hi hk hN
    obtain ⟨k,rfl⟩ : ∃ m,k=m + 1:=⟨k - 1,by omega⟩
    rw [slices_Index_int_int.l0,if_neg (by omega)]
    have : l.findIdx? (fun x=>a == x)=none:=by
      rw [List.findIdx?_eq_none_iff];intro e he;obtain ⟨j,hj⟩:=List.mem_iff_getElem?.1 he;have:=(List.getElem?_eq_some_iff.1 hj).1
      exact hN j e (by omega) hj
    rw [this]; rfl
  | succ d ih =>
    intro i k hd hi hk hN
    obtain ⟨k,rfl⟩ : ∃ m,k=m + 1:=⟨k - 1,by omega⟩
    have hlt : i<l.length:=by omega
    have hw : wrap64 ((i : Int) + 1)=((i + 1 : Nat) : Int):=by unfold wrap64; omega
    have hm:=rdB_at hlt
    rw [slices_Index_int_int.l0,if_pos (by omega),if_pos (by omega),if_pos (by omega),hw]
    by_cases hz : a=rd l (i : Int)
    · rw [if_pos hz]
      have : l.findIdx? (fun x=>a == x)=some i:=by
        rw [List.findIdx?_eq_some_iff_getElem]
        refine ⟨hlt,?_,fun j hj=>?_⟩
        · rw [List.getElem?_eq_getElem hlt] at hm
          injection hm with hm
          rw [hm]; exact beq_iff_eq.mpr hz
        · rw [hN j _ hj (List.getElem?_eq_getElem (by omega))]; decide
      rw [this]; rfl
    · rw [if_neg hz]
      refine ih (i + 1) k (by omega) (by omega) (by omega) (fun j e hj he=>?_)
      by_cases h : j=i
      · subst h
        have:=he.symm.trans hm
        injection this with this
        rw [this]; exact beq_eq_false_iff_ne.mpr hz
      · exact hN j e (by omega) he
theorem Index_ev {k : Nat} {l : List Int} (a : Int) (hl : l.length≤1000000) (hk : l.length + 1≤k) : slices_Index_int_int.f k l a=some (ixOf (l.findIdx? fun x=>a == x)):=by
  unfold slices_Index_int_int.f
  exact Index_l0 hl l.length 0 k (by omega) (by omega) (by omega) (fun j e h=>absurd h (Nat.not_lt_zero _))
theorem Contains_ev {k : Nat} {l : List Int} (a : Int) (hl : l.length≤1000000) (hk : l.length + 1≤k) : slices_Contains_int_int.f k l a=some (l.any fun x=>a == x):=by
  unfold slices_Contains_int_int.f
  rw [Index_ev a hl hk,Option.bind_some,← ix_ge]
set_option maxRecDepth 100000 in
theorem IndexFunc_R (A : Option Addr) (c : Nat) (l : List (List Int)) (f : FuncId) (cap : Array Value) (q : (List Int)→Bool) (w : World) (hr : Kd.C (Kd.slice 5 (Kd.int .u8)) w A l.length l) (hl : l.length≤1000000)
    (he : ∀ args w,(callFunc f args).run Try.prog w=.ok (.enter f args) w)
    (hf : ∀ e ∈ l,∀ wx A0 c0,Below w.heap.size w wx→e.length≤c0→Kd.C (Kd.int .u8) wx A0 e.length e→Calls Try.prog f (#[.slice A0 e.length c0]++cap) wx fun r w'=>r=.returned (.bool (q e))∧Below wx.heap.size wx w') :
    Calls Try.prog 36 #[.slice A l.length c,.func (.func f) #[] cap] w fun e w'=>e=.returned (.int .i64 (ixOf (l.findIdx? q)))∧Below w.heap.size w w':=by
  have HB:=Lib.hid (Below.refl w.heap.size w);have HR:=Lib.hid hr;have HF:=Lib.hid hf;clear hr hf;go_enter Try.func36,Try.ntmps36;go_wp2
  go_loopg [5,8] l.length (fun k v5 v8 wr=>∃ i : Nat,i≤l.length∧k=l.length - i∧v8=.int .i64 (i : Int)∧Hid (∀ (j : Nat) (e : (List Int)),j<i→l[j]?=some e→q e=false)∧Hid (Below w.heap.size w wr))
  case atStart=>exact ⟨0,Nat.zero_le _,rfl,rfl,Lib.hid (fun j e h=>absurd h (Nat.not_lt_zero _)),HB⟩
  case round =>
    clear HB;obtain ⟨i,hi,rfl,rfl,HN,HB⟩:=hrel;have i0 : (0 : Int)≤(i : Int):=Int.natCast_nonneg _
    by_cases hlt : i<l.length
    · have hd : decide (i<l.length)=true:=dt_ hlt
      have i1 : (i : Int)<(l.length : Int):=by omega
      obtain ⟨ad,A0,c0,e0,x0,l0,r0⟩:=at_L2 (Kd.C_below HR.out HB.out) (i : Int) i0 i1;have HA : Hid (l[i]?=some (rd_L2 l (i : Int))):=Lib.hid (rdR_at hlt);rw [Int.toNat_natCast] at x0;subst e0
      generalize rd_L2 l (i : Int)=a at *
      have HC:=Lib.hid (HF.out a (List.mem_of_getElem? HA.out) _ A0 c0 HB.out l0 r0);clear l0 r0;go_wp2_with fail;refine HC.out.mono ?_;rintro r w2 ⟨rfl,hb2⟩;have HB2:=Lib.hid (bp_ HB.out hb2)
      cases hq : q a with
      | true =>
        have hfi : l.findIdx? q=some i:=by
          rw [List.findIdx?_eq_some_iff_getElem]
          refine ⟨hlt,?_,fun j hj=>?_⟩
          · have:=HA.out
            rw [List.getElem?_eq_getElem hlt] at this
            injection this with this
            rw [this]; exact hq
          · have:=HN.out j (l[j]'(by omega)) hj (List.getElem?_eq_getElem (by omega))
            rw [this]; decide
        go_wp2;go_ret
        exact ⟨by rw [hfi]; rfl,HB2.out⟩
      | false =>
        have HQ:=Lib.hid hq;clear hq;go_wp2;go_roundg (l.length - (i + 1))
        case measure=>omega
        case rel =>
          refine ⟨i + 1,by omega,rfl,by go_num,Lib.hid (fun j e hj hje=>?_),HB2⟩
          by_cases h : j=i
          · subst h
            have:=hje.symm.trans HA.out
            injection this with this
            rw [this]; exact HQ.out
          · exact HN.out j e (by omega) hje
    · have hd : decide (i<l.length)=false:=df_ hlt
      obtain rfl : i=l.length:=by omega
      have hfi : l.findIdx? q=none:=by
        rw [List.findIdx?_eq_none_iff];intro e he;obtain ⟨j,hj⟩:=List.mem_iff_getElem?.1 he;exact HN.out j e (List.getElem?_eq_some_iff.1 hj).1 hj
      go_wp2;go_ret
      exact ⟨by rw [hfi]; rfl,HB.out⟩
theorem ContainsFunc_R (A : Option Addr) (c : Nat) (l : List (List Int)) (f : FuncId) (cap : Array Value) (q : (List Int)→Bool) (w : World) (hr : Kd.C (Kd.slice 5 (Kd.int .u8)) w A l.length l) (hl : l.length≤1000000)
    (he : ∀ args w,(callFunc f args).run Try.prog w=.ok (.enter f args) w)
    (hf : ∀ e ∈ l,∀ wx A0 c0,Below w.heap.size w wx→e.length≤c0→Kd.C (Kd.int .u8) wx A0 e.length e→Calls Try.prog f (#[.slice A0 e.length c0]++cap) wx fun r w'=>r=.returned (.bool (q e))∧Below wx.heap.size wx w') :
    Calls Try.prog 44 #[.slice A l.length c,.func (.func f) #[] cap] w fun e w'=>e=.returned (.bool (l.any q))∧Below w.heap.size w w':=by
  have IX:=Lib.hid (IndexFunc_R A c l f cap q w hr hl he hf);have HG:=Lib.hid (ix_ge l q);clear hr he hf
  generalize ixOf (l.findIdx? q)=z at IX HG
  go_enter Try.func44,Try.ntmps44;go_wp2_with fail;refine IX.out.mono ?_;rintro e w' ⟨rfl,hb⟩;go_wp2;go_ret;exact ⟨ret_bool HG.out,hb⟩
set_option maxRecDepth 100000 in
theorem IndexFunc_B (A : Option Addr) (c : Nat) (l : List Int) (f : FuncId) (cap : Array Value) (q : Int→Bool) (w : World) (hr : Kd.C (Kd.int .u8) w A l.length l) (hl : l.length≤1000000)
    (he : ∀ args w,(callFunc f args).run Try.prog w=.ok (.enter f args) w)
    (hf : ∀ e ∈ l,∀ wx,Below w.heap.size w wx→Calls Try.prog f (#[.int .u8 e]++cap) wx fun r w'=>r=.returned (.bool (q e))∧Below wx.heap.size wx w') :
    Calls Try.prog 66 #[.slice A l.length c,.func (.func f) #[] cap] w fun e w'=>e=.returned (.int .i64 (ixOf (l.findIdx? q)))∧Below w.heap.size w w':=by
  have HB:=Lib.hid (Below.refl w.heap.size w);have HR:=Lib.hid hr;have HF:=Lib.hid hf;clear hr hf;go_enter Try.func66,Try.ntmps66;go_wp2
  go_loopg [5,8] l.length (fun k v5 v8 wr=>∃ i : Nat,i≤l.length∧k=l.length - i∧v8=.int .i64 (i : Int)∧Hid (∀ (j : Nat) (e : Int),j<i→l[j]?=some e→q e=false)∧Hid (Below w.heap.size w wr))
  case atStart=>exact ⟨0,Nat.zero_le _,rfl,rfl,Lib.hid (fun j e h=>absurd h (Nat.not_lt_zero _)),HB⟩
  case round =>
    clear HB;obtain ⟨i,hi,rfl,rfl,HN,HB⟩:=hrel;have i0 : (0 : Int)≤(i : Int):=Int.natCast_nonneg _
    by_cases hlt : i<l.length
    · have hd : decide (i<l.length)=true:=dt_ hlt
      have i1 : (i : Int)<(l.length : Int):=by omega
      obtain ⟨ad,e0,x0⟩:=Kd.at_int (Kd.C_below HR.out HB.out) (i : Int) i0 i1;have HA : Hid (l[i]?=some (rd l (i : Int))):=Lib.hid (rdB_at hlt);rw [Int.toNat_natCast] at x0;subst e0
      generalize rd l (i : Int)=a at *
      have HC:=Lib.hid (HF.out a (List.mem_of_getElem? HA.out) _ HB.out);go_wp2_with fail;refine HC.out.mono ?_;rintro r w2 ⟨rfl,hb2⟩;have HB2:=Lib.hid (bp_ HB.out hb2)
      cases hq : q a with
      | true =>
        have hfi : l.findIdx? q=some i:=by
          rw [List.findIdx?_eq_some_iff_getElem]
          refine ⟨hlt,?_,fun j hj=>?_⟩
          · have:=HA.out
            rw [List.getElem?_eq_getElem hlt] at this
            injection this with this
            rw [this]; exact hq
          · have:=HN.out j (l[j]'(by omega)) hj (List.getElem?_eq_getElem (by omega))
            rw [this]; decide
        go_wp2;go_ret
        exact ⟨by rw [hfi]; rfl,HB2.out⟩
      | false =>
        have HQ:=Lib.hid hq;clear hq;go_wp2;go_roundg (l.length - (i + 1))
        case measure=>omega
        case rel =>
          refine ⟨i + 1,by omega,rfl,by go_num,Lib.hid (fun j e hj hje=>?_),HB2⟩
          by_cases h : j=i
          · subst h
            have:=hje.symm.trans HA.out
            injection this with this
            rw [this]; exact HQ.out
          · exact HN.out j e (by omega) hje
    · have hd : decide (i<l.length)=false:=df_ hlt
      obtain rfl : i=l.length:=by omega
      have hfi : l.findIdx? q=none:=by
        rw [List.findIdx?_eq_none_iff];intro e he;obtain ⟨j,hj⟩:=List.mem_iff_getElem?.1 he;exact HN.out j e (List.getElem?_eq_some_iff.1 hj).1 hj
      go_wp2;go_ret
      exact ⟨by rw [hfi]; rfl,HB.out⟩
theorem ContainsFunc_B (A : Option Addr) (c : Nat) (l : List Int) (f : FuncId) (cap : Array Value) (q : Int→Bool) (w : World) (hr : Kd.C (Kd.int .u8) w A l.length l) (hl : l.length≤1000000)
    (he : ∀ args w,(callFunc f args).run Try.prog w=.ok (.enter f args) w)
    (hf : ∀ e ∈ l,∀ wx,Below w.heap.size w wx→Calls Try.prog f (#[.int .u8 e]++cap) wx fun r w'=>r=.returned (.bool (q e))∧Below wx.heap.size wx w') :
    Calls Try.prog 49 #[.slice A l.length c,.func (.func f) #[] cap] w fun e w'=>e=.returned (.bool (l.any q))∧Below w.heap.size w w':=by
  have IX:=Lib.hid (IndexFunc_B A c l f cap q w hr hl he hf);have HG:=Lib.hid (ix_ge l q);clear hr he hf
  generalize ixOf (l.findIdx? q)=z at IX HG
  go_enter Try.func49,Try.ntmps49;go_wp2_with fail;refine IX.out.mono ?_;rintro e w' ⟨rfl,hb⟩;go_wp2;go_ret;exact ⟨ret_bool HG.out,hb⟩
theorem check1_any (A : Option Addr) (c : Nat) (e : List Int) (w : World) :
    Calls Try.prog 45 (#[.slice A e.length c]++#[]) w fun r w'=>r=.returned (.bool (decide ((e.length : Int) > 255)))∧Below w.heap.size w w':=by
  rw [show (#[Value.slice A e.length c]++#[])=#[.slice A e.length c] from rfl]
  have HB:=Lib.hid (Below.refl w.heap.size w);go_enter Try.func45,Try.ntmps45;go_wp2;go_ret
  exact ⟨ret_bool (by first|rfl|(apply decide_eq_decide.2; omega)),(hb0_ HB.out)⟩
theorem insert1_any (A : Option Addr) (c : Nat) (e : List Int) (w : World) :
    Calls Try.prog 37 (#[.slice A e.length c]++#[]) w fun r w'=>r=.returned (.bool (decide ((e.length : Int)=0)))∧Below w.heap.size w w':=by
  rw [show (#[Value.slice A e.length c]++#[])=#[.slice A e.length c] from rfl]
  have HB:=Lib.hid (Below.refl w.heap.size w);go_enter Try.func37,Try.ntmps37;go_wp2;go_ret
  exact ⟨ret_bool (by first|rfl|(apply decide_eq_decide.2; omega)|(rw [Bool.eq_iff_iff]; simp)),(hb0_ HB.out)⟩
theorem nought1_any (e : Int) (w : World) :
    Calls Try.prog 50 (#[.int .u8 e]++#[]) w fun r w'=>r=.returned (.bool (e != 0))∧Below w.heap.size w w':=by
  rw [show (#[Value.int .u8 e]++#[])=#[.int .u8 e] from rfl]
  have HB:=Lib.hid (Below.refl w.heap.size w);go_enter Try.func50,Try.ntmps50;go_wp2;go_ret
  exact ⟨ret_bool (by first|rfl|(rw [Bool.eq_iff_iff]; simp)),(hb0_ HB.out)⟩
def containsFunc_leaf_Check_1.f (l0 : List (List Int)) : Option Bool:=if l0.length≤1000000 then some (l0.any fun e=>decide ((e.length : Int) > 255)) else none
theorem containsFunc_leaf_Check_1.calls (A0 : Option Addr) (c0 : Nat) (l0 : List (List Int)) (r : Bool) (w : World) (hr0 : Kd.C (Kd.slice 5 (Kd.int .u8)) w A0 l0.length l0) (hc0 : l0.length≤c0) (h : containsFunc_leaf_Check_1.f l0=some r) :
    Calls Try.prog 44 #[.slice A0 l0.length c0,.func (.func 45) #[] #[]] w fun e w'=>e=.returned (.bool r)∧Below w.heap.size w w':=by
  unfold containsFunc_leaf_Check_1.f at h
  split at h
  rotate_left
  · cases h
  rename_i hl
  injection h with h; subst h
  exact ContainsFunc_R A0 c0 l0 45 #[] _ w hr0 hl (enters_ Try.func45 (by kernel_rfl) rfl) (fun e he wx A c hb hc hr=>check1_any A c e wx)
def indexFunc_leaf_Insert_1.f (l0 : List (List Int)) : Option Int:=if l0.length≤1000000 then some (ixOf (l0.findIdx? fun e=>decide ((e.length : Int)=0))) else none
theorem indexFunc_leaf_Insert_1.calls (A0 : Option Addr) (c0 : Nat) (l0 : List (List Int)) (r : Int) (w : World) (hr0 : Kd.C (Kd.slice 5 (Kd.int .u8)) w A0 l0.length l0) (hc0 : l0.length≤c0) (h : indexFunc_leaf_Insert_1.f l0=some r) :
    Calls Try.prog 36 #[.slice A0 l0.length c0,.func (.func 37) #[] #[]] w fun e w'=>e=.returned (.int .i64 r)∧Below w.heap.size w w':=by
  unfold indexFunc_leaf_Insert_1.f at h
  split at h
  rotate_left
  · cases h
  rename_i hl
  injection h with h; subst h
  exact IndexFunc_R A0 c0 l0 37 #[] _ w hr0 hl (enters_ Try.func37 (by kernel_rfl) rfl) (fun e he wx A c hb hc hr=>insert1_any A c e wx)
def containsFunc_leaf_nought_1.f (l0 : List Int) : Option Bool:=if l0.length≤1000000 then some (l0.any fun e=>e != 0) else none
theorem containsFunc_leaf_nought_1.calls (A0 : Option Addr) (c0 : Nat) (l0 : List Int) (r : Bool) (w : World) (hr0 : Kd.C (Kd.int .u8) w A0 l0.length l0) (hc0 : l0.length≤c0) (h : containsFunc_leaf_nought_1.f l0=some r) :
    Calls Try.prog 49 #[.slice A0 l0.length c0,.func (.func 50) #[] #[]] w fun e w'=>e=.returned (.bool r)∧Below w.heap.size w w':=by
  unfold containsFunc_leaf_nought_1.f at h
  split at h
  rotate_left
  · cases h
  rename_i hl
  injection h with h; subst h
  exact ContainsFunc_B A0 c0 l0 50 #[] _ w hr0 hl (enters_ Try.func50 (by kernel_rfl) rfl) (fun e he wx hb=>nought1_any e wx)
open Go.RowKit YtjigckhopkclgaaW.PrintWords YtjigckhopkclgaaW.PrintLast YtjigckhopkclgaaW.PrintMore
attribute [local go_sem] max2_int min2_int max_two min_two max_three min_three max_four min_four   -- for this text's walks alone
attribute [local go_sem] run_store_float
mutual
def leaf_Check.j0 : Nat→Bool→List Int→List (List Int)→Option (Int)
 | 0,_,_,_=>none
 | k + 1,x30,x106000,x106001=>if x30=true then (some 1) else (leaf_Check.l0 k x106000 (x106000.length : Int) 0 x106000 x106001)
def leaf_Check.l0 : Nat→List Int→Int→Int→List Int→List (List Int)→Option (Int)
 | 0,_,_,_,_,_=>none
 | k + 1,x32,x33,x34,x106000,x106001=>if x34<x33 then (if 0≤x34 then (if x34<(x32.length : Int) then (if (rd x32 x34)<0 then (some 1) else (if (rd x32 x34) > 2147483647 then (some 1) else (if (rd x32 x34) > 0 then (if x34≤(x106000.length : Int) then ((slices_Contains_int_int.f k (x106000.take (x34 : Int).toNat) (rd x32 x34)).bind fun t109=>(if t109=true then (leaf_Check.j2 k 1) else (leaf_Check.l0 k x32 x33 (wrap64 (x34 + 1)) x106000 x106001))) else (none)) else (leaf_Check.l0 k x32 x33 (wrap64 (x34 + 1)) x106000 x106001)))) else (none)) else (none)) else ((containsFunc_leaf_Check_1.f x106001).bind fun t110=>(if t110=true then (leaf_Check.j3 k 1) else ((leaf_need.f k x106000 x106001).bind fun t111=>(if t111 > 508 then (leaf_Check.j4 k 1) else (some 0)))))
def leaf_Check.j2 : Nat→Int→Option (Int)
 | 0,_=>none
 | k + 1,x2=>some x2
def leaf_Check.j3 : Nat→Int→Option (Int)
 | 0,_=>none
 | k + 1,x2=>some x2
def leaf_Check.j4 : Nat→Int→Option (Int)
 | 0,_=>none
 | k + 1,x2=>some x2
end
def leaf_Check.f (k : Nat) (l0_0 : List Int) (l0_1 : List (List Int)) : Option (Int):=if (l0_0.length : Int)=4 then (if (l0_1.length : Int) > 64 then (leaf_Check.j0 k true l0_0 l0_1) else (if (l0_1.length : Int) > 0 then (if 0≤(wrap64 ((l0_1.length : Int) - 1)) then (if (wrap64 ((l0_1.length : Int) - 1))<(l0_1.length : Int) then (leaf_Check.j0 k (((rd_L2 l0_1 (wrap64 ((l0_1.length : Int) - 1))).length : Int) == 0) l0_0 l0_1) else (none)) else (none)) else (leaf_Check.j0 k false l0_0 l0_1))) else (leaf_Check.j0 k true l0_0 l0_1)
theorem leaf_Check.mono_l : ∀ k,(∀ y0 y1 y2,LeO (leaf_Check.j0 k y0 y1 y2) (leaf_Check.j0 (k + 1) y0 y1 y2))∧(∀ y0 y1 y2 y3 y4,LeO (leaf_Check.l0 k y0 y1 y2 y3 y4) (leaf_Check.l0 (k + 1) y0 y1 y2 y3 y4))∧(∀ y0,LeO (leaf_Check.j2 k y0) (leaf_Check.j2 (k + 1) y0))∧(∀ y0,LeO (leaf_Check.j3 k y0) (leaf_Check.j3 (k + 1) y0))∧(∀ y0,LeO (leaf_Check.j4 k y0) (leaf_Check.j4 (k + 1) y0))
 | 0=>⟨fun _ _ _ r h=>by simp [leaf_Check.j0] at h,fun _ _ _ _ _ r h=>by simp [leaf_Check.l0] at h,fun _ r h=>by simp [leaf_Check.j2] at h,fun _ r h=>by simp [leaf_Check.j3] at h,fun _ r h=>by simp [leaf_Check.j4] at h⟩
 | k + 1=>by
  obtain ⟨ih0,ih1,ih2,ih3,ih4⟩:=leaf_Check.mono_l k;refine ⟨?_,?_,?_,?_,?_⟩
  ·intro y0 y1 y2
   unfold leaf_Check.j0
   repeat' first
   | (with_reducible exact ih0 _ _ _)
   | (with_reducible exact ih1 _ _ _ _ _)
   | (with_reducible exact ih2 _)
   | (with_reducible exact ih3 _)
   | (with_reducible exact ih4 _)
   | (with_reducible exact leaf_need.mono _ _ _)
   | (with_reducible exact slices_Contains_int_int.mono _ _ _)
   | (with_reducible exact LeO.refl _)
   | (with_reducible exact LeO.none _)
   | (with_reducible refine LeO.ite ?_ ?_)
   | (with_reducible refine LeO.bind ?_ (fun _=>?_))
   | exact ih0 _ _ _
   | exact ih1 _ _ _ _ _
   | exact ih2 _
   | exact ih3 _
   | exact ih4 _
   | exact leaf_need.mono _ _ _
   | exact slices_Contains_int_int.mono _ _ _
   | exact LeO.none _
   | refine LeO.ite ?_ ?_
   | refine LeO.bind ?_ (fun _=>?_)
  ·intro y0 y1 y2 y3 y4
   unfold leaf_Check.l0
   repeat' first
   | (with_reducible exact ih0 _ _ _)
   | (with_reducible exact ih1 _ _ _ _ _)
   | (with_reducible exact ih2 _)
   | (with_reducible exact ih3 _)
   | (with_reducible exact ih4 _)
   | (with_reducible exact leaf_need.mono _ _ _)
   | (with_reducible exact slices_Contains_int_int.mono _ _ _)
   | (with_reducible exact LeO.refl _)
   | (with_reducible exact LeO.none _)
   | (with_reducible refine LeO.ite ?_ ?_)
   | (with_reducible refine LeO.bind ?_ (fun _=>?_))
   | exact ih0 _ _ _
   | exact ih1 _ _ _ _ _
   | exact ih2 _
   | exact ih3 _
   | exact ih4 _
   | exact leaf_need.mono _ _ _
   | exact slices_Contains_int_int.mono _ _ _
   | exact LeO.none _
   | refine LeO.ite ?_ ?_
   | refine LeO.bind ?_ (fun _=>?_)
  ·intro y0
   unfold leaf_Check.j2
   repeat' first
   | (with_reducible exact ih0 _ _ _)
   | (with_reducible exact ih1 _ _ _ _ _)
   | (with_reducible exact ih2 _)
   | (with_reducible exact ih3 _)
   | (with_reducible exact ih4 _)
   | (with_reducible exact leaf_need.mono _ _ _)
   | (with_reducible exact slices_Contains_int_int.mono _ _ _)
   | (with_reducible exact LeO.refl _)
   | (with_reducible exact LeO.none _)
   | (with_reducible refine LeO.ite ?_ ?_)
   | (with_reducible refine LeO.bind ?_ (fun _=>?_))
   | exact ih0 _ _ _
   | exact ih1 _ _ _ _ _
   | exact ih2 _
   | exact ih3 _
   | exact ih4 _
   | exact leaf_need.mono _ _ _
   | exact slices_Contains_int_int.mono _ _ _
   | exact LeO.none _
   | refine LeO.ite ?_ ?_
   | refine LeO.bind ?_ (fun _=>?_)
  ·intro y0
   unfold leaf_Check.j3
   repeat' first
   | (with_reducible exact ih0 _ _ _)
   | (with_reducible exact ih1 _ _ _ _ _)
   | (with_reducible exact ih2 _)
   | (with_reducible exact ih3 _)
   | (with_reducible exact ih4 _)
   | (with_reducible exact leaf_need.mono _ _ _)
   | (with_reducible exact slices_Contains_int_int.mono _ _ _)
   | (with_reducible exact LeO.refl _)
   | (with_reducible exact LeO.none _)
   | (with_reducible refine LeO.ite ?_ ?_)
   | (with_reducible refine LeO.bind ?_ (fun _=>?_))
   | exact ih0 _ _ _
   | exact ih1 _ _ _ _ _
   | exact ih2 _
   | exact ih3 _
   | exact ih4 _
   | exact leaf_need.mono _ _ _
   | exact slices_Contains_int_int.mono _ _ _
   | exact LeO.none _
   | refine LeO.ite ?_ ?_
   | refine LeO.bind ?_ (fun _=>?_)
  ·intro y0
   unfold leaf_Check.j4
   repeat' first
   | (with_reducible exact ih0 _ _ _)
   | (with_reducible exact ih1 _ _ _ _ _)
   | (with_reducible exact ih2 _)
   | (with_reducible exact ih3 _)
   | (with_reducible exact ih4 _)
   | (with_reducible exact leaf_need.mono _ _ _)
   | (with_reducible exact slices_Contains_int_int.mono _ _ _)
   | (with_reducible exact LeO.refl _)
   | (with_reducible exact LeO.none _)
   | (with_reducible refine LeO.ite ?_ ?_)
   | (with_reducible refine LeO.bind ?_ (fun _=>?_))
   | exact ih0 _ _ _
   | exact ih1 _ _ _ _ _
   | exact ih2 _
   | exact ih3 _
   | exact ih4 _
   | exact leaf_need.mono _ _ _
   | exact slices_Contains_int_int.mono _ _ _
   | exact LeO.none _
   | refine LeO.ite ?_ ?_
   | refine LeO.bind ?_ (fun _=>?_)
theorem leaf_Check.mono : ∀ a0 a1 k,LeO (leaf_Check.f k a0 a1) (leaf_Check.f (k + 1) a0 a1):=by
 intro a0 a1 k;obtain ⟨ih0,ih1,ih2,ih3,ih4⟩:=leaf_Check.mono_l k
 unfold leaf_Check.f
 repeat' first
   | (with_reducible exact ih0 _ _ _)
   | (with_reducible exact ih1 _ _ _ _ _)
   | (with_reducible exact ih2 _)
   | (with_reducible exact ih3 _)
   | (with_reducible exact ih4 _)
   | (with_reducible exact leaf_need.mono _ _ _)
   | (with_reducible exact slices_Contains_int_int.mono _ _ _)
   | (with_reducible exact LeO.refl _)
   | (with_reducible exact LeO.none _)
   | (with_reducible refine LeO.ite ?_ ?_)
   | (with_reducible refine LeO.bind ?_ (fun _=>?_))
   | exact ih0 _ _ _
   | exact ih1 _ _ _ _ _
   | exact ih2 _
   | exact ih3 _
   | exact ih4 _
   | exact leaf_need.mono _ _ _
   | exact slices_Contains_int_int.mono _ _ _
   | exact LeO.none _
   | refine LeO.ite ?_ ?_
   | refine LeO.bind ?_ (fun _=>?_)
set_option maxHeartbeats 8000000 in
set_option maxRecDepth 100000 in
theorem leaf_Check.calls (k : Nat) (A0_0 : Option Addr) (c0_0 : Nat) (l0_0 : List Int) (A0_1 : Option Addr) (c0_1 : Nat) (l0_1 : List (List Int)) (r : Int) (w : World) (hr0_0 : Kd.C (Kd.int .i64) w A0_0 l0_0.length l0_0) (hc0_0 : l0_0.length≤c0_0) (hr0_1 : Kd.C (Kd.slice 5 (Kd.int .u8)) w A0_1 l0_1.length l0_1) (hc0_1 : l0_1.length≤c0_1) (h : leaf_Check.f k l0_0 l0_1=some r) :
  Calls Try.prog 21 #[.agg #[.slice A0_0 l0_0.length c0_0,.slice A0_1 l0_1.length c0_1]] w fun e w'=>e=.returned (.int .i64 r)∧Below w.heap.size w w':=by
 have hu27:=Try.underlying27;have HR0_0:=A_ hr0_0;have HC0_0:=A_ hc0_0;clear hr0_0 hc0_0;have HR0_1:=A_ hr0_1;have HC0_1:=A_ hc0_1;clear hr0_1 hc0_1;have HB:=A_ (Below.refl w.heap.size w)
 have H : (if (l0_0.length : Int)=4 then (if (l0_1.length : Int) > 64 then (leaf_Check.j0 k true l0_0 l0_1) else (if (l0_1.length : Int) > 0 then (if 0≤(wrap64 ((l0_1.length : Int) - 1)) then (if (wrap64 ((l0_1.length : Int) - 1))<(l0_1.length : Int) then (leaf_Check.j0 k (((rd_L2 l0_1 (wrap64 ((l0_1.length : Int) - 1))).length : Int) == 0) l0_0 l0_1) else (none)) else (none)) else (leaf_Check.j0 k false l0_0 l0_1))) else (leaf_Check.j0 k true l0_0 l0_1))=some r:=h
 clear h;have HC2:=A_ H;clear H;go_enter Try.func21,Try.ntmps21
 go_upto_region 2 with (first|((with_reducible refine gate_dst (N:=1) rfl ?_);(try (refine gate_guard (by rfl) ?_;dsimp only));refine box_event ?hg (N:=1) ?hd (cs:=#[.slice A0_0 l0_0.length c0_0,.slice A0_1 l0_1.length c0_1]) (t:=27) ?hr ?_;(case hd=>rfl);(case hg=>rfl);(case hr=>first|(go_simp;done)|(go_simp;rfl));intro gb105 hg w3 hbox hb;have n0_:=A_ (bp_ (hb0_ HB.out) hb);have n1_:=A_ (hbox);have n2_:=A_ ((by rw [hg];exact (bz_ (hb0_ HB.out)) : w.heap.size≤gb105));have n3_:=n2_;clear HB;have HB:=n0_;have BK105:=n1_;have GW105:=n2_;have GE105:=n3_;clear n0_ n1_ n2_ n3_;clear hb hbox hg;have z4_0 : w3.cell? ⟨gb105,0,none⟩=some (.slice A0_0 l0_0.length c0_0):=(bc_ BK105.out 0).trans rfl;have z4_1 : w3.cell? ⟨gb105,1,none⟩=some (.slice A0_1 l0_1.length c0_1):=(bc_ BK105.out 1).trans rfl;have y4_0:=bf_ BK105.out 0;have y4_1:=bf_ BK105.out 1))
 (try simp only [Act.put,u1_,u2_,u3_])
 go_cut [30] (fun v30 wc=>∃ (kq : Nat) (x30_1 : Bool),v30=.bool x30_1∧Aside0 (leaf_Check.j0 kq x30_1 l0_0 l0_1=some r)∧Aside0 (kq≤k)∧Aside0 (wc.heap[gb105]?=some (.cells #[(.slice A0_0 l0_0.length c0_0),(.slice A0_1 l0_1.length c0_1)] 27 (0,0)))∧Aside0 (Below w.heap.size w wc))
 case first =>
  have H:=HC2.out;clear HC2
  by_cases c5 : (l0_0.length : Int)=4
  rotate_left
  ·rw [if_neg c5] at H
   have c5b0 : ((l0_0.length : Int) == 4)=false:=beq_eq_false_iff_ne.mpr c5;have c5b1 : ((l0_0.length : Int) != 4)=true:=bne_iff_ne.mpr c5;(first|rw [c5b0]|(simp only [i64_w,i32_w];rw [c5b0])|skip);have H':=A_ H;clear H;have z14_0 : w3.cell? ⟨gb105,0,none⟩=some (.slice A0_0 l0_0.length c0_0):=(bc_ BK105.out 0).trans rfl;have z14_1 : w3.cell? ⟨gb105,1,none⟩=some (.slice A0_1 l0_1.length c0_1):=(bc_ BK105.out 1).trans rfl;have y14_0:=bf_ BK105.out 0;have y14_1:=bf_ BK105.out 1;go_wp2;go_meet
   case rel=>exact ⟨_,true,rfl,H',⟨by first|omega|exact Nat.le_refl _⟩,⟨by exact kk_ BK105.out⟩,⟨hb1_ HB.out GE105.out⟩⟩
  rw [if_pos c5] at H
  have c5b0 : ((l0_0.length : Int) == 4)=true:=beq_iff_eq.mpr c5;have c5b1 : ((l0_0.length : Int) != 4)=false:=bne_eq_false_iff_eq.mpr c5;clear c5;(first|rw [c5b0]|(simp only [i64_w,i32_w];rw [c5b0])|skip)
  by_cases c6 : (l0_1.length : Int) > 64
  ·rw [if_pos c6] at H
   have c6b0 : decide (64<(l0_1.length : Int))=true:=dt_ c6
   have c6b1 : decide (64<l0_1.length)=true:=dt_ (by omega)
   clear c6;have H':=A_ H;clear H;have z7_0 : w3.cell? ⟨gb105,0,none⟩=some (.slice A0_0 l0_0.length c0_0):=(bc_ BK105.out 0).trans rfl;have z7_1 : w3.cell? ⟨gb105,1,none⟩=some (.slice A0_1 l0_1.length c0_1):=(bc_ BK105.out 1).trans rfl;have y7_0:=bf_ BK105.out 0;have y7_1:=bf_ BK105.out 1;go_wp2;go_meet
   case rel=>exact ⟨_,true,rfl,H',⟨by first|omega|exact Nat.le_refl _⟩,⟨by exact kk_ BK105.out⟩,⟨hb1_ HB.out GE105.out⟩⟩
  rw [if_neg c6] at H
  have c6b0 : decide (64<(l0_1.length : Int))=false:=df_ c6
  have c6b1 : decide (64<l0_1.length)=false:=df_ (by omega)
  clear c6
  by_cases c8 : (l0_1.length : Int) > 0
  rotate_left
  ·rw [if_neg c8] at H
   have c8b0 : decide (0<(l0_1.length : Int))=false:=df_ c8
   have c8b1 : decide (0<l0_1.length)=false:=df_ (by omega)
   clear c8;have H':=A_ H;clear H;have z13_0 : w3.cell? ⟨gb105,0,none⟩=some (.slice A0_0 l0_0.length c0_0):=(bc_ BK105.out 0).trans rfl;have z13_1 : w3.cell? ⟨gb105,1,none⟩=some (.slice A0_1 l0_1.length c0_1):=(bc_ BK105.out 1).trans rfl;have y13_0:=bf_ BK105.out 0;have y13_1:=bf_ BK105.out 1;go_wp2;go_meet
   case rel=>exact ⟨_,false,rfl,H',⟨by first|omega|exact Nat.le_refl _⟩,⟨by exact kk_ BK105.out⟩,⟨hb1_ HB.out GE105.out⟩⟩
  rw [if_pos c8] at H
  have c8b0 : decide (0<(l0_1.length : Int))=true:=dt_ c8
  have c8b1 : decide (0<l0_1.length)=true:=dt_ (by omega)
  clear c8
  obtain ⟨ji9,hji9⟩ : ∃ j_ : Int,(wrap64 ((l0_1.length : Int) - 1))=j_:=⟨_,rfl⟩
  replace H : (if 0≤(ji9) then (if (ji9)<(l0_1.length : Int) then (leaf_Check.j0 k (((rd_L2 l0_1 (ji9)).length : Int) == 0) l0_0 l0_1) else (none)) else (none))=some r:=by first|(rw [hji9] at H;exact H)|(simp only [hji9] at H ⊢;exact H)
  have hji9w : (IntKind.i64.wrap ((l0_1.length : Int) - 1))=ji9:=(i64_w _).trans hji9
  by_cases c10 : 0≤(ji9)
  rotate_left
  ·rw [if_neg c10] at H
   exact absurd H (by simp)
  rw [if_pos c10] at H
  have c10b0 : decide (0≤(ji9))=true:=dt_ c10;clear c10
  by_cases c11 : (ji9)<(l0_1.length : Int)
  rotate_left
  ·rw [if_neg c11] at H
   exact absurd H (by simp)
  rw [if_pos c11] at H
  have c11b0 : decide ((ji9)<(l0_1.length : Int))=true:=dt_ c11;clear c11;have H':=A_ H;clear H;have z12_0 : w3.cell? ⟨gb105,0,none⟩=some (.slice A0_0 l0_0.length c0_0):=(bc_ BK105.out 0).trans rfl;have z12_1 : w3.cell? ⟨gb105,1,none⟩=some (.slice A0_1 l0_1.length c0_1):=(bc_ BK105.out 1).trans rfl;have y12_0:=bf_ BK105.out 0;have y12_1:=bf_ BK105.out 1
  have p106 : 0≤((ji9) : Int):=od_ (by first|(with_reducible assumption)|assumption)
  have q106 : (ji9)<(l0_1.length : Int):=od_ (by first|(with_reducible assumption)|assumption)
  obtain ⟨ad106,A106_0,c106_0,e106,hx106_0,hl106_0,hi106_0⟩:=at_L2 HR0_1.out (ji9) p106 q106
  cases e106
  replace hx106_0:=(HB.out.cell (wb_ w _ hx106_0)).trans hx106_0;have HR106_0:=A_ hi106_0;have HC106_0:=A_ hl106_0;clear hi106_0 hl106_0;replace p106:=eq_true p106;replace q106:=eq_true q106;go_wp2;go_meet
  case rel=>exact ⟨_,((((rd_L2 l0_1 (ji9)).length : Int) == 0)),(by first|rfl|(simp;done)|(simp only [← hji9] <;> (first|rfl|simp))|(simp [*];done)),H',⟨by first|omega|exact Nat.le_refl _⟩,⟨by exact kk_ BK105.out⟩,⟨hb1_ HB.out GE105.out⟩⟩
 case rest =>
  clear HC2;(try clear c1);(try clear p1);(try clear q1);(try clear hx1);(try clear c2);(try clear p2);(try clear c5);(try clear c5b0);(try clear c5b1);(try clear c6);(try clear c6b0);(try clear c6b1);(try clear p6);(try clear c8);(try clear c8b0);(try clear c8b1);(try clear c10);(try clear c10b0);(try clear p10);(try clear q10);(try clear hx10);(try clear c11);(try clear c11b0);(try clear hx106_0);(try clear p106);(try clear q106);(try clear z12_0 z12_1 z13_0 z13_1 z14_0 z14_1 z4_0 z4_1 z7_0 z7_1 y12_0 y12_1 y13_0 y13_1 y14_0 y14_1 y4_0 y4_1 y7_0 y7_1);obtain ⟨kq,x30_1,rfl,HA,HJ1,BK105,HB⟩:=hcut
  cases kq with
  | zero=>exact absurd HA.out (by simp [leaf_Check.j0])
  | succ kj1 =>
   have H:=HA.out;clear HA
   simp only [leaf_Check.j0] at H
   by_cases c15 : x30_1=true
   ·subst c15
    have H1 : (some 1)=some r:=by rw [if_pos rfl] at H;exact H
    clear H;have H:=H1;clear H1;obtain rfl:=Option.some.inj H;go_wp2;go_ret
    exact ⟨by first|rfl|(simp [errW_none,errW_some] <;> rfl)|(simp [*,errW_none,errW_some] <;> rfl),hb1_ HB.out GE105.out⟩
   replace c15:=Bool.eq_false_iff.mpr c15
   subst c15
   have H1 : (leaf_Check.l0 kj1 l0_0 (l0_0.length : Int) 0 l0_0 l0_1)=some r:=by rw [if_neg (show ¬ (false=true) by decide)] at H;exact H
   clear H;have H:=H1;clear H1;have H':=A_ H;clear H;have z16_0 : wc.cell? ⟨gb105,0,none⟩=some (.slice A0_0 l0_0.length c0_0):=(bc_ BK105.out 0).trans rfl;have z16_1 : wc.cell? ⟨gb105,1,none⟩=some (.slice A0_1 l0_1.length c0_1):=(bc_ BK105.out 1).trans rfl;have y16_0:=bf_ BK105.out 0;have y16_1:=bf_ BK105.out 1;go_wp2
   go_loopg [34] kj1 (fun kq v34 w'=>∃ (x34_2 : Int),v34=.int .i64 x34_2∧Aside0 (leaf_Check.l0 kq l0_0 (l0_0.length : Int) x34_2 l0_0 l0_1=some r)∧Aside0 (kq≤kj1)∧Aside0 (w'.heap[gb105]?=some (.cells #[(.slice A0_0 l0_0.length c0_0),(.slice A0_1 l0_1.length c0_1)] 27 (0,0)))∧Aside0 (Below w.heap.size w w'))
   case atStart=>exact ⟨(0),(by first|rfl|(simp;done)|(simp [*];done)),H',⟨Nat.le_refl _⟩,⟨by exact kk_ BK105.out⟩,⟨hb1_ HB.out GE105.out⟩⟩
   case round =>
    clear H';(try clear c1);(try clear p1);(try clear q1);(try clear hx1);(try clear c2);(try clear p2);(try clear c5);(try clear c5b0);(try clear c5b1);(try clear c6);(try clear c6b0);(try clear c6b1);(try clear p6);(try clear c8);(try clear c8b0);(try clear c8b1);(try clear c10);(try clear c10b0);(try clear p10);(try clear q10);(try clear hx10);(try clear c11);(try clear c11b0);(try clear c15);(try clear hx106_0);(try clear p1);(try clear p10);(try clear p106);(try clear p2);(try clear p6);(try clear q1);(try clear q10);(try clear q106);(try clear z12_0 z12_1 z13_0 z13_1 z14_0 z14_1 z16_0 z16_1 z4_0 z4_1 z7_0 z7_1 y12_0 y12_1 y13_0 y13_1 y14_0 y14_1 y16_0 y16_1 y4_0 y4_1 y7_0 y7_1);obtain ⟨x34_2,rfl,HA,HK2,BK105,HB⟩:=hrel
    cases gk with
    | zero=>exact absurd HA.out (by simp [leaf_Check.l0])
    | succ k2 =>
     have H:=HA.out;clear HA
     simp only [leaf_Check.l0] at H
     by_cases c17 : x34_2<(l0_0.length : Int)
     rotate_left
     ·rw [if_neg c17] at H
      have c17b0 : decide (x34_2<(l0_0.length : Int))=false:=df_ c17;clear c17;replace H:=Option.bind_eq_some_iff.mp H;obtain ⟨t110,A320,H⟩:=H
      replace H : (if t110=true then (leaf_Check.j3 k2 1) else ((leaf_need.f k2 l0_0 l0_1).bind fun t111=>(if t111 > 508 then (leaf_Check.j4 k2 1) else (some 0))))=some r:=H
      have A32:=A_ A320;clear A320
      by_cases c33 : t110=true
      ·subst c33
       have H1 : (leaf_Check.j3 k2 1)=some r:=by rw [if_pos rfl] at H;exact H
       clear H;have H:=H1;clear H1;have HC34:=A_ H;clear H;have z35_0 : wr.cell? ⟨gb105,0,none⟩=some (.slice A0_0 l0_0.length c0_0):=(bc_ BK105.out 0).trans rfl;have z35_1 : wr.cell? ⟨gb105,1,none⟩=some (.slice A0_1 l0_1.length c0_1):=(bc_ BK105.out 1).trans rfl;have y35_0:=bf_ BK105.out 0;have y35_1:=bf_ BK105.out 1
       go_upto_region 11 with (first|((with_reducible refine gate_callee (f:=44) rfl ?_);refine goesL_ (some 60) rfl rfl Try.func44 (by kernel_rfl) rfl #[.slice A0_1 l0_1.length c0_1,.func (.func 45) #[] #[]] rfl (by (try simp only [List.map_toArray,List.map_cons,List.map_nil]);first|done|rfl|(simp only [List.length_drop,List.length_take];rfl)) ?_;(with_reducible refine (containsFunc_leaf_Check_1.calls _ _ l0_1 true _ ?side1 ?side2 A32.out).mono ?_);(case side1=>repeat (first|exact (Kd.C_below HR0_1.out HB.out)|(with_reducible refine Kd.C_alloc ?_ _)|(with_reducible refine Kd.C_drewN ?_ _)|(with_reducible refine Kd.C_drew ?_)));(case side2=>exact HC0_1.out);rintro e w36 ⟨rfl,hb⟩;refine ⟨_,rfl,?_⟩;have n0_:=A_ (bx_ BK105.out kf_ hb);have n1_:=A_ (bp_ (hb1_ HB.out GE105.out) hb);clear BK105;clear HB;have BK105:=n0_;have HB:=n1_;clear n0_ n1_;(try clear hb);(try clear hb2);(try clear hk);(try clear hi)))
       (try simp only [Act.put,u1_,u2_,u3_])
       go_cut [2] (fun v2 wc=>∃ (kq : Nat) (x2_33 : Int),v2=.int .i64 x2_33∧Aside0 (leaf_Check.j3 kq x2_33=some r)∧Aside0 (kq≤k2)∧Aside0 (wc.heap[gb105]?=some (.cells #[(.slice A0_0 l0_0.length c0_0),(.slice A0_1 l0_1.length c0_1)] 27 (0,0)))∧Aside0 (Below w.heap.size w wc))
       case first =>
        have H:=HC34.out;clear HC34;have H':=A_ H;clear H;go_wp2;go_meet
        case rel=>exact ⟨_,(1),(by first|rfl|(simp;done)|(simp [*];done)),H',⟨by have:=HJ1.out;have:=HK2.out;first|omega|exact Nat.le_refl _⟩,⟨by exact kk_ BK105.out⟩,⟨hb1_ HB.out GE105.out⟩⟩
       case rest =>
        clear HC34;(try clear c1);(try clear p1);(try clear q1);(try clear hx1);(try clear c2);(try clear p2);(try clear c3);(try clear c5);(try clear c5b0);(try clear c5b1);(try clear c6);(try clear c6b0);(try clear c6b1);(try clear p6);(try clear c8);(try clear c8b0);(try clear c8b1);(try clear c10);(try clear c10b0);(try clear p10);(try clear q10);(try clear hx10);(try clear c11);(try clear c11b0);(try clear c15);(try clear c17);(try clear c17b0);(try clear c18);(try clear c18b0);(try clear c19);(try clear c19b0);(try clear c20);(try clear c20b0);(try clear c21);(try clear c21b0);(try clear c22);(try clear c22b0);(try clear c23);(try clear c23b0);(try clear c24);(try clear c24b0);(try clear c24b1);(try clear c26);(try clear c33);(try clear hx106_0);(try clear hx107_0);(try clear p1);(try clear p10);(try clear p106);(try clear p107);(try clear p2);(try clear p6);(try clear q1);(try clear q10);(try clear q106);(try clear q107);(try clear z12_0 z12_1 z13_0 z13_1 z14_0 z14_1 z16_0 z16_1 z28_0 z28_1 z30_0 z30_1 z35_0 z35_1 z4_0 z4_1 z7_0 z7_1 y12_0 y12_1 y13_0 y13_1 y14_0 y14_1 y16_0 y16_1 y28_0 y28_1 y30_0 y30_1 y35_0 y35_1 y4_0 y4_1 y7_0 y7_1);obtain ⟨kq,x2_33,rfl,HA,HJ33,BK105,HB⟩:=hcut
        cases kq with
        | zero=>exact absurd HA.out (by simp [leaf_Check.j3])
        | succ kj33 =>
         have H:=HA.out;clear HA
         simp only [leaf_Check.j3] at H
         obtain rfl:=Option.some.inj H;go_wp2;go_ret
         exact ⟨by first|rfl|(simp [errW_none,errW_some] <;> rfl)|(simp [*,errW_none,errW_some] <;> rfl),hb1_ HB.out GE105.out⟩
      replace c33:=Bool.eq_false_iff.mpr c33
      subst c33
      have H1 : ((leaf_need.f k2 l0_0 l0_1).bind fun t111=>(if t111 > 508 then (leaf_Check.j4 k2 1) else (some 0)))=some r:=by rw [if_neg (show ¬ (false=true) by decide)] at H;exact H
      clear H;have H:=H1;clear H1;replace H:=Option.bind_eq_some_iff.mp H;obtain ⟨t111,A370,H⟩:=H
      replace H : (if t111 > 508 then (leaf_Check.j4 k2 1) else (some 0))=some r:=H
      have A37:=A_ A370;clear A370
      by_cases c38 : t111 > 508
      rotate_left
      ·rw [if_neg c38] at H
       have c38b0 : decide (508<t111)=false:=df_ c38;clear c38;obtain rfl:=Option.some.inj H;have z44_0 : wr.cell? ⟨gb105,0,none⟩=some (.slice A0_0 l0_0.length c0_0):=(bc_ BK105.out 0).trans rfl;have z44_1 : wr.cell? ⟨gb105,1,none⟩=some (.slice A0_1 l0_1.length c0_1):=(bc_ BK105.out 1).trans rfl;have y44_0:=bf_ BK105.out 0;have y44_1:=bf_ BK105.out 1
       go_wp2_with (first|((with_reducible refine gate_callee (f:=44) rfl ?_);refine goesL_ (some 60) rfl rfl Try.func44 (by kernel_rfl) rfl #[.slice A0_1 l0_1.length c0_1,.func (.func 45) #[] #[]] rfl (by (try simp only [List.map_toArray,List.map_cons,List.map_nil]);first|done|rfl|(simp only [List.length_drop,List.length_take];rfl)) ?_;(with_reducible refine (containsFunc_leaf_Check_1.calls _ _ l0_1 false _ ?side1 ?side2 A32.out).mono ?_);(case side1=>repeat (first|exact (Kd.C_below HR0_1.out HB.out)|(with_reducible refine Kd.C_alloc ?_ _)|(with_reducible refine Kd.C_drewN ?_ _)|(with_reducible refine Kd.C_drew ?_)));(case side2=>exact HC0_1.out);rintro e w45 ⟨rfl,hb⟩;refine ⟨_,rfl,?_⟩;have n0_:=A_ (bx_ BK105.out kf_ hb);have n1_:=A_ (bp_ (hb1_ HB.out GE105.out) hb);clear BK105;clear HB;have BK105:=n0_;have HB:=n1_;clear n0_ n1_;(try clear hb);(try clear hb2);(try clear hk);(try clear hi);have z46_0 : w45.cell? ⟨gb105,0,none⟩=some (.slice A0_0 l0_0.length c0_0):=(bc_ BK105.out 0).trans rfl;have z46_1 : w45.cell? ⟨gb105,1,none⟩=some (.slice A0_1 l0_1.length c0_1):=(bc_ BK105.out 1).trans rfl;have y46_0:=bf_ BK105.out 0;have y46_1:=bf_ BK105.out 1)|(go_at_call 46;(with_reducible refine (leaf_need.calls k2 _ _ l0_0 _ _ l0_1 t111 _ ?side1 ?side2 ?side3 ?side4 A37.out).mono ?_);(case side1=>repeat (first|exact (Kd.C_below HR0_0.out HB.out)|(with_reducible refine Kd.C_alloc ?_ _)|(with_reducible refine Kd.C_drewN ?_ _)|(with_reducible refine Kd.C_drew ?_)));(case side2=>exact HC0_0.out);(case side3=>repeat (first|exact (Kd.C_below HR0_1.out HB.out)|(with_reducible refine Kd.C_alloc ?_ _)|(with_reducible refine Kd.C_drewN ?_ _)|(with_reducible refine Kd.C_drew ?_)));(case side4=>exact HC0_1.out);rintro e w47 ⟨rfl,hb⟩;have n0_:=A_ (bx_ BK105.out kf_ hb);have n1_:=A_ (bp_ (hb1_ HB.out GE105.out) hb);clear BK105;clear HB;have BK105:=n0_;have HB:=n1_;clear n0_ n1_;(try clear hb);(try clear hb2);(try clear hk);(try clear hi)))
       go_ret
       exact ⟨by first|rfl|(simp [errW_none,errW_some] <;> rfl)|(simp [*,errW_none,errW_some] <;> rfl),hb1_ HB.out GE105.out⟩
      rw [if_pos c38] at H
      have c38b0 : decide (508<t111)=true:=dt_ c38;clear c38;have HC39:=A_ H;clear H;have z40_0 : wr.cell? ⟨gb105,0,none⟩=some (.slice A0_0 l0_0.length c0_0):=(bc_ BK105.out 0).trans rfl;have z40_1 : wr.cell? ⟨gb105,1,none⟩=some (.slice A0_1 l0_1.length c0_1):=(bc_ BK105.out 1).trans rfl;have y40_0:=bf_ BK105.out 0;have y40_1:=bf_ BK105.out 1
      go_upto_region 11 with (first|((with_reducible refine gate_callee (f:=44) rfl ?_);refine goesL_ (some 60) rfl rfl Try.func44 (by kernel_rfl) rfl #[.slice A0_1 l0_1.length c0_1,.func (.func 45) #[] #[]] rfl (by (try simp only [List.map_toArray,List.map_cons,List.map_nil]);first|done|rfl|(simp only [List.length_drop,List.length_take];rfl)) ?_;(with_reducible refine (containsFunc_leaf_Check_1.calls _ _ l0_1 false _ ?side1 ?side2 A32.out).mono ?_);(case side1=>repeat (first|exact (Kd.C_below HR0_1.out HB.out)|(with_reducible refine Kd.C_alloc ?_ _)|(with_reducible refine Kd.C_drewN ?_ _)|(with_reducible refine Kd.C_drew ?_)));(case side2=>exact HC0_1.out);rintro e w41 ⟨rfl,hb⟩;refine ⟨_,rfl,?_⟩;have n0_:=A_ (bx_ BK105.out kf_ hb);have n1_:=A_ (bp_ (hb1_ HB.out GE105.out) hb);clear BK105;clear HB;have BK105:=n0_;have HB:=n1_;clear n0_ n1_;(try clear hb);(try clear hb2);(try clear hk);(try clear hi);have z42_0 : w41.cell? ⟨gb105,0,none⟩=some (.slice A0_0 l0_0.length c0_0):=(bc_ BK105.out 0).trans rfl;have z42_1 : w41.cell? ⟨gb105,1,none⟩=some (.slice A0_1 l0_1.length c0_1):=(bc_ BK105.out 1).trans rfl;have y42_0:=bf_ BK105.out 0;have y42_1:=bf_ BK105.out 1)|(go_at_call 46;(with_reducible refine (leaf_need.calls k2 _ _ l0_0 _ _ l0_1 t111 _ ?side1 ?side2 ?side3 ?side4 A37.out).mono ?_);(case side1=>repeat (first|exact (Kd.C_below HR0_0.out HB.out)|(with_reducible refine Kd.C_alloc ?_ _)|(with_reducible refine Kd.C_drewN ?_ _)|(with_reducible refine Kd.C_drew ?_)));(case side2=>exact HC0_0.out);(case side3=>repeat (first|exact (Kd.C_below HR0_1.out HB.out)|(with_reducible refine Kd.C_alloc ?_ _)|(with_reducible refine Kd.C_drewN ?_ _)|(with_reducible refine Kd.C_drew ?_)));(case side4=>exact HC0_1.out);rintro e w43 ⟨rfl,hb⟩;have n0_:=A_ (bx_ BK105.out kf_ hb);have n1_:=A_ (bp_ (hb1_ HB.out GE105.out) hb);clear BK105;clear HB;have BK105:=n0_;have HB:=n1_;clear n0_ n1_;(try clear hb);(try clear hb2);(try clear hk);(try clear hi)))
      (try simp only [Act.put,u1_,u2_,u3_])
      go_cut [2] (fun v2 wc=>∃ (kq : Nat) (x2_38 : Int),v2=.int .i64 x2_38∧Aside0 (leaf_Check.j4 kq x2_38=some r)∧Aside0 (kq≤k2)∧Aside0 (wc.heap[gb105]?=some (.cells #[(.slice A0_0 l0_0.length c0_0),(.slice A0_1 l0_1.length c0_1)] 27 (0,0)))∧Aside0 (Below w.heap.size w wc))
      case first =>
       have H:=HC39.out;clear HC39;have H':=A_ H;clear H;go_wp2;go_meet
       case rel=>exact ⟨_,(1),(by first|rfl|(simp;done)|(simp [*];done)),H',⟨by have:=HJ1.out;have:=HK2.out;first|omega|exact Nat.le_refl _⟩,⟨by exact kk_ BK105.out⟩,⟨hb1_ HB.out GE105.out⟩⟩
      case rest =>
       clear HC39;(try clear c1);(try clear p1);(try clear q1);(try clear hx1);(try clear c2);(try clear p2);(try clear c3);(try clear c5);(try clear c5b0);(try clear c5b1);(try clear c6);(try clear c6b0);(try clear c6b1);(try clear p6);(try clear c8);(try clear c8b0);(try clear c8b1);(try clear c10);(try clear c10b0);(try clear p10);(try clear q10);(try clear hx10);(try clear c11);(try clear c11b0);(try clear c15);(try clear c17);(try clear c17b0);(try clear c18);(try clear c18b0);(try clear c19);(try clear c19b0);(try clear c20);(try clear c20b0);(try clear c21);(try clear c21b0);(try clear c22);(try clear c22b0);(try clear c23);(try clear c23b0);(try clear c24);(try clear c24b0);(try clear c24b1);(try clear c26);(try clear c33);(try clear c38);(try clear c38b0);(try clear hx106_0);(try clear hx107_0);(try clear p1);(try clear p10);(try clear p106);(try clear p107);(try clear p2);(try clear p6);(try clear q1);(try clear q10);(try clear q106);(try clear q107);(try clear z12_0 z12_1 z13_0 z13_1 z14_0 z14_1 z16_0 z16_1 z28_0 z28_1 z30_0 z30_1 z35_0 z35_1 z40_0 z40_1 z42_0 z42_1 z4_0 z4_1 z7_0 z7_1 y12_0 y12_1 y13_0 y13_1 y14_0 y14_1 y16_0 y16_1 y28_0 y28_1 y30_0 y30_1 y35_0 y35_1 y40_0 y40_1 y42_0 y42_1 y4_0 y4_1 y7_0 y7_1);obtain ⟨kq,x2_38,rfl,HA,HJ38,BK105,HB⟩:=hcut
       cases kq with
       | zero=>exact absurd HA.out (by simp [leaf_Check.j4])
       | succ kj38 =>
        have H:=HA.out;clear HA
        simp only [leaf_Check.j4] at H
        obtain rfl:=Option.some.inj H;go_wp2;go_ret
        exact ⟨by first|rfl|(simp [errW_none,errW_some] <;> rfl)|(simp [*,errW_none,errW_some] <;> rfl),hb1_ HB.out GE105.out⟩
     rw [if_pos c17] at H
     have c17b0 : decide (x34_2<(l0_0.length : Int))=true:=dt_ c17;clear c17
     by_cases c18 : 0≤x34_2
     rotate_left
     ·rw [if_neg c18] at H
      exact absurd H (by simp)
     rw [if_pos c18] at H
     have c18b0 : decide (0≤x34_2)=true:=dt_ c18;clear c18
     by_cases c19 : x34_2<(l0_0.length : Int)
     rotate_left
     ·rw [if_neg c19] at H
      exact absurd H (by simp)
     rw [if_pos c19] at H
     have c19b0 : decide (x34_2<(l0_0.length : Int))=true:=dt_ c19;clear c19
     by_cases c20 : (rd l0_0 x34_2)<0
     ·rw [if_pos c20] at H
      have c20b0 : decide ((rd l0_0 x34_2)<0)=true:=dt_ c20;clear c20;obtain rfl:=Option.some.inj H
      have p107 : 0≤(x34_2 : Int):=od_ (by first|(with_reducible assumption)|assumption)
      have q107 : x34_2<(l0_0.length : Int):=od_ (by first|(with_reducible assumption)|assumption)
      obtain ⟨ad107,e107,hx107_0⟩:=Kd.at_int HR0_0.out x34_2 p107 q107
      cases e107
      replace hx107_0:=(HB.out.cell (wb_ w _ hx107_0)).trans hx107_0;replace p107:=eq_true p107;replace q107:=eq_true q107;go_wp2;go_ret
      exact ⟨by first|rfl|(simp [errW_none,errW_some] <;> rfl)|(simp [*,errW_none,errW_some] <;> rfl),hb1_ HB.out GE105.out⟩
     rw [if_neg c20] at H
     have c20b0 : decide ((rd l0_0 x34_2)<0)=false:=df_ c20;clear c20
     by_cases c21 : (rd l0_0 x34_2) > 2147483647
     ·rw [if_pos c21] at H
      have c21b0 : decide (2147483647<(rd l0_0 x34_2))=true:=dt_ c21;clear c21;obtain rfl:=Option.some.inj H
      have p107 : 0≤(x34_2 : Int):=od_ (by first|(with_reducible assumption)|assumption)
      have q107 : x34_2<(l0_0.length : Int):=od_ (by first|(with_reducible assumption)|assumption)
      obtain ⟨ad107,e107,hx107_0⟩:=Kd.at_int HR0_0.out x34_2 p107 q107
      cases e107
      replace hx107_0:=(HB.out.cell (wb_ w _ hx107_0)).trans hx107_0;replace p107:=eq_true p107;replace q107:=eq_true q107;go_wp2;go_ret
      exact ⟨by first|rfl|(simp [errW_none,errW_some] <;> rfl)|(simp [*,errW_none,errW_some] <;> rfl),hb1_ HB.out GE105.out⟩
     rw [if_neg c21] at H
     have c21b0 : decide (2147483647<(rd l0_0 x34_2))=false:=df_ c21;clear c21
     by_cases c22 : (rd l0_0 x34_2) > 0
     rotate_left
     ·rw [if_neg c22] at H
      have c22b0 : decide (0<(rd l0_0 x34_2))=false:=df_ c22;clear c22;have H':=A_ H;clear H
      have p107 : 0≤(x34_2 : Int):=od_ (by first|(with_reducible assumption)|assumption)
      have q107 : x34_2<(l0_0.length : Int):=od_ (by first|(with_reducible assumption)|assumption)
      obtain ⟨ad107,e107,hx107_0⟩:=Kd.at_int HR0_0.out x34_2 p107 q107
      cases e107
      replace hx107_0:=(HB.out.cell (wb_ w _ hx107_0)).trans hx107_0;replace p107:=eq_true p107;replace q107:=eq_true q107;go_wp2;go_roundg k2
      case measure=>have:=HJ1.out;have:=HK2.out;omega
      case rel=>exact ⟨(wrap64 (x34_2 + 1)),(by first|rfl|(simp;done)|(simp [*];done)),H',⟨by have:=HJ1.out;have:=HK2.out;omega⟩,⟨by exact kk_ BK105.out⟩,⟨hb1_ HB.out GE105.out⟩⟩
     rw [if_pos c22] at H
     have c22b0 : decide (0<(rd l0_0 x34_2))=true:=dt_ c22;clear c22
     have c23b0:=eq_true (od_ (by first|(with_reducible assumption)|assumption) : 0≤x34_2)
     by_cases c24 : x34_2≤(l0_0.length : Int)
     rotate_left
     ·rw [if_neg c24] at H
      exact absurd H (by simp)
     rw [if_pos c24] at H
     have c24b0:=eq_true c24;have c24b1 : decide (x34_2≤(l0_0.length : Int))=true:=dt_ c24;clear c24;replace H:=Option.bind_eq_some_iff.mp H;obtain ⟨t109,A250,H⟩:=H
     replace H : (if t109=true then (leaf_Check.j2 k2 1) else (leaf_Check.l0 k2 l0_0 (l0_0.length : Int) (wrap64 (x34_2 + 1)) l0_0 l0_1))=some r:=H
     have A25:=A_ A250;clear A250
     by_cases c26 : t109=true
     rotate_left
     ·replace c26:=Bool.eq_false_iff.mpr c26
      subst c26
      have H1 : (leaf_Check.l0 k2 l0_0 (l0_0.length : Int) (wrap64 (x34_2 + 1)) l0_0 l0_1)=some r:=by rw [if_neg (show ¬ (false=true) by decide)] at H;exact H
      clear H;have H:=H1;clear H1;have H':=A_ H;clear H
      have p107 : 0≤(x34_2 : Int):=od_ (by first|(with_reducible assumption)|assumption)
      have q107 : x34_2<(l0_0.length : Int):=od_ (by first|(with_reducible assumption)|assumption)
      obtain ⟨ad107,e107,hx107_0⟩:=Kd.at_int HR0_0.out x34_2 p107 q107
      cases e107
      replace hx107_0:=(HB.out.cell (wb_ w _ hx107_0)).trans hx107_0;replace p107:=eq_true p107;replace q107:=eq_true q107;have z30_0 : wr.cell? ⟨gb105,0,none⟩=some (.slice (some ad107) l0_0.length c0_0):=(bc_ BK105.out 0).trans rfl;have z30_1 : wr.cell? ⟨gb105,1,none⟩=some (.slice A0_1 l0_1.length c0_1):=(bc_ BK105.out 1).trans rfl;have y30_0:=bf_ BK105.out 0;have y30_1:=bf_ BK105.out 1;obtain ⟨i031,hi031,_,hsz31,_⟩:=info_parts info3
      obtain ⟨hcut31,hA31,hC31⟩:=print_take_of (P:=Try.prog) (Value.int .i64) 0 24 3 .i64 Try.underlying24 hi031 hsz31 (some ad107) c0_0 l0_0 x34_2 (od_ (by first|(with_reducible assumption)|assumption)) (od_ (by first|(with_reducible assumption)|assumption)) HC0_0.out
      have HR108:=A_ (Kd.C_of_reads (h1:=fun _=>rfl) (hA31 _ (Kd.reads_of_C HR0_0.out)))
      have HC108:=A_ hC31;clear hA31 hC31 hi031 hsz31
      go_wp2_with (first|(go_at_call 38;have ht_0 : (l0_0.take (x34_2 : Int).toNat).length=(x34_2 : Int).toNat:=(by rw [List.length_take];have h1_ : (x34_2 : Int)≤(l0_0.length : Int):=od_ (by first|(with_reducible assumption)|assumption);omega);refine calls_of_args (args':=#[.slice (some ad107) (l0_0.take (x34_2 : Int).toNat).length c0_0,.int .i64 (rd l0_0 x34_2)]) (by first|rfl|(rw [ht_0];rfl)|(simp only [ht_0];done)) ?_;(with_reducible refine (slices_Contains_int_int.calls k2 _ _ (l0_0.take (x34_2 : Int).toNat) (rd l0_0 x34_2) false _ ?side1 ?side2 A25.out).mono ?_);(case side1=>repeat (first|exact (Kd.C_below HR108.out HB.out)|(with_reducible refine Kd.C_alloc ?_ _)|(with_reducible refine Kd.C_drewN ?_ _)|(with_reducible refine Kd.C_drew ?_)));(case side2=>exact HC108.out);rintro e w' ⟨rfl,⟨nd,rfl⟩⟩))
      go_roundg k2
      case measure=>have:=HJ1.out;have:=HK2.out;omega
      case rel=>exact ⟨(wrap64 (x34_2 + 1)),(by first|rfl|(simp;done)|(simp [*];done)),H',⟨by have:=HJ1.out;have:=HK2.out;omega⟩,⟨by exact kk_ BK105.out⟩,⟨hb1_ HB.out GE105.out⟩⟩
     subst c26
     have H1 : (leaf_Check.j2 k2 1)=some r:=by rw [if_pos rfl] at H;exact H
     clear H;have H:=H1;clear H1;have HC27:=A_ H;clear H
     have p107 : 0≤(x34_2 : Int):=od_ (by first|(with_reducible assumption)|assumption)
     have q107 : x34_2<(l0_0.length : Int):=od_ (by first|(with_reducible assumption)|assumption)
     obtain ⟨ad107,e107,hx107_0⟩:=Kd.at_int HR0_0.out x34_2 p107 q107
     cases e107
     replace hx107_0:=(HB.out.cell (wb_ w _ hx107_0)).trans hx107_0;replace p107:=eq_true p107;replace q107:=eq_true q107;have z28_0 : wr.cell? ⟨gb105,0,none⟩=some (.slice (some ad107) l0_0.length c0_0):=(bc_ BK105.out 0).trans rfl;have z28_1 : wr.cell? ⟨gb105,1,none⟩=some (.slice A0_1 l0_1.length c0_1):=(bc_ BK105.out 1).trans rfl;have y28_0:=bf_ BK105.out 0;have y28_1:=bf_ BK105.out 1;obtain ⟨i029,hi029,_,hsz29,_⟩:=info_parts info3
     obtain ⟨hcut29,hA29,hC29⟩:=print_take_of (P:=Try.prog) (Value.int .i64) 0 24 3 .i64 Try.underlying24 hi029 hsz29 (some ad107) c0_0 l0_0 x34_2 (od_ (by first|(with_reducible assumption)|assumption)) (od_ (by first|(with_reducible assumption)|assumption)) HC0_0.out
     have HR108:=A_ (Kd.C_of_reads (h1:=fun _=>rfl) (hA29 _ (Kd.reads_of_C HR0_0.out)))
     have HC108:=A_ hC29;clear hA29 hC29 hi029 hsz29
     go_upto_region 8 with (first|(go_at_call 38;have ht_0 : (l0_0.take (x34_2 : Int).toNat).length=(x34_2 : Int).toNat:=(by rw [List.length_take];have h1_ : (x34_2 : Int)≤(l0_0.length : Int):=od_ (by first|(with_reducible assumption)|assumption);omega);refine calls_of_args (args':=#[.slice (some ad107) (l0_0.take (x34_2 : Int).toNat).length c0_0,.int .i64 (rd l0_0 x34_2)]) (by first|rfl|(rw [ht_0];rfl)|(simp only [ht_0];done)) ?_;(with_reducible refine (slices_Contains_int_int.calls k2 _ _ (l0_0.take (x34_2 : Int).toNat) (rd l0_0 x34_2) true _ ?side1 ?side2 A25.out).mono ?_);(case side1=>repeat (first|exact (Kd.C_below HR108.out HB.out)|(with_reducible refine Kd.C_alloc ?_ _)|(with_reducible refine Kd.C_drewN ?_ _)|(with_reducible refine Kd.C_drew ?_)));(case side2=>exact HC108.out);rintro e w' ⟨rfl,⟨nd,rfl⟩⟩))
     (try simp only [Act.put,u1_,u2_,u3_])
     go_cut [2] (fun v2 wc=>∃ (kq : Nat) (x2_26 : Int),v2=.int .i64 x2_26∧Aside0 (leaf_Check.j2 kq x2_26=some r)∧Aside0 (kq≤k2)∧Aside0 (wc.heap[gb105]?=some (.cells #[(.slice (some ad107) l0_0.length c0_0),(.slice A0_1 l0_1.length c0_1)] 27 (0,0)))∧Aside0 (Below w.heap.size w wc))
     case first =>
      have H:=HC27.out;clear HC27;have H':=A_ H;clear H;go_wp2;go_meet
      case rel=>exact ⟨_,(1),(by first|rfl|(simp;done)|(simp [*];done)),H',⟨by have:=HJ1.out;have:=HK2.out;first|omega|exact Nat.le_refl _⟩,⟨by exact kk_ BK105.out⟩,⟨hb1_ HB.out GE105.out⟩⟩
     case rest =>
      clear HC27;(try clear c1);(try clear p1);(try clear q1);(try clear hx1);(try clear c2);(try clear p2);(try clear c5);(try clear c5b0);(try clear c5b1);(try clear c6);(try clear c6b0);(try clear c6b1);(try clear p6);(try clear c8);(try clear c8b0);(try clear c8b1);(try clear c10);(try clear c10b0);(try clear p10);(try clear q10);(try clear hx10);(try clear c11);(try clear c11b0);(try clear c15);(try clear c17);(try clear c17b0);(try clear c18);(try clear c18b0);(try clear c19);(try clear c19b0);(try clear c20);(try clear c20b0);(try clear c21);(try clear c21b0);(try clear c22);(try clear c22b0);(try clear c23);(try clear c23b0);(try clear c24);(try clear c24b0);(try clear c24b1);(try clear c26);(try clear hx106_0);(try clear hx107_0);(try clear p1);(try clear p10);(try clear p106);(try clear p107);(try clear p2);(try clear p6);(try clear q1);(try clear q10);(try clear q106);(try clear q107);(try clear z12_0 z12_1 z13_0 z13_1 z14_0 z14_1 z16_0 z16_1 z28_0 z28_1 z4_0 z4_1 z7_0 z7_1 y12_0 y12_1 y13_0 y13_1 y14_0 y14_1 y16_0 y16_1 y28_0 y28_1 y4_0 y4_1 y7_0 y7_1);obtain ⟨kq,x2_26,rfl,HA,HJ26,BK105,HB⟩:=hcut
      cases kq with
      | zero=>exact absurd HA.out (by simp [leaf_Check.j2])
      | succ kj26 =>
       have H:=HA.out;clear HA
       simp only [leaf_Check.j2] at H
       obtain rfl:=Option.some.inj H;go_wp2;go_ret
       exact ⟨by first|rfl|(simp [errW_none,errW_some] <;> rfl)|(simp [*,errW_none,errW_some] <;> rfl),hb1_ HB.out GE105.out⟩
def leaf_nought.f (l0 : List Int) : Option (Bool):=(containsFunc_leaf_nought_1.f l0).bind fun t112=>(some (!t112))
set_option maxHeartbeats 8000000 in
set_option maxRecDepth 100000 in
theorem leaf_nought.calls (A0 : Option Addr) (c0 : Nat) (l0 : List Int) (r : Bool) (w : World) (hr0 : Kd.C (Kd.int .u8) w A0 l0.length l0) (hc0 : l0.length≤c0) (h : leaf_nought.f l0=some r) :
  Calls Try.prog 25 #[.slice A0 l0.length c0] w fun e w'=>e=.returned (.bool r)∧Below w.heap.size w w':=by
 have HR0:=A_ hr0;have HC0:=A_ hc0;clear hr0 hc0;have HB:=A_ (Below.refl w.heap.size w)
 have H : ((containsFunc_leaf_nought_1.f l0).bind fun t112=>(some (!t112)))=some r:=h
 clear h;replace H:=Option.bind_eq_some_iff.mp H;obtain ⟨t112,A20,H⟩:=H;replace H : (some (!t112))=some r:=H;have A2:=A_ A20;clear A20;obtain rfl:=Option.some.inj H;go_enter Try.func25,Try.ntmps25
 go_wp2_with (first|((with_reducible refine gate_callee (f:=49) rfl ?_);refine goesL_ (some 4) rfl rfl Try.func49 (by kernel_rfl) rfl #[.slice A0 l0.length c0,.func (.func 50) #[] #[]] rfl (by (try simp only [List.map_toArray,List.map_cons,List.map_nil]);first|done|rfl|(simp only [List.length_drop,List.length_take];rfl)) ?_;(with_reducible refine (containsFunc_leaf_nought_1.calls _ _ l0 t112 _ ?side1 ?side2 A2.out).mono ?_);(case side1=>repeat (first|exact HR0.out|(with_reducible refine Kd.C_alloc ?_ _)|(with_reducible refine Kd.C_drewN ?_ _)|(with_reducible refine Kd.C_drew ?_)));(case side2=>exact HC0.out);rintro e w3 ⟨rfl,hb⟩;refine ⟨_,rfl,?_⟩;have n0_:=A_ (bp_ (hb0_ HB.out) hb);clear HB;have HB:=n0_;clear n0_;(try clear hb);(try clear hb2);(try clear hk);(try clear hi)))
 go_ret
 exact ⟨by first|rfl|(simp [errW_none,errW_some] <;> rfl)|(simp [*,errW_none,errW_some] <;> rfl),hb0_ HB.out⟩
end Go.Proofs.Ytjigckhopkclgaa.P
