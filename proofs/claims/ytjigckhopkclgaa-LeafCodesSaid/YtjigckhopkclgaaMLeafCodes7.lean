/- by wip/prune.py -/
import Derived.Test.YtjigckhopkclgaaMLeafCodes3
import Derived.Deep.LoopGhost
import Derived.Outline
import Derived.Test.YtjigckhopkclgaaMLeafCodes2
import Derived.Test.YtjigckhopkclgaaMLeafCodes4
import Derived.Test.YtjigckhopkclgaaMLeafCodes5
import Derived.Test.YtjigckhopkclgaaMLeafCodes6
set_option linter.unusedSimpArgs false
set_option linter.unusedVariables false
namespace Go.Proofs.Ytjigckhopkclgaa.P
open Go.RowKit Ytjigckhopkclgaa Ytjigckhopkclgaa.Mem YtjigckhopkclgaaW.PrintWords YtjigckhopkclgaaW.PrintLast YtjigckhopkclgaaW.PrintMore
def ixOf (o : Option Nat) : Int:=match o with|some i=>(i : Int)|none=>-1
theorem ix_ge {α : Type} (l : List α) (q : α→Bool) : decide (0≤ixOf (l.findIdx? q))=l.any q:=by
  cases h : l.findIdx? q with
  | none =>
    rw [List.findIdx?_eq_none_iff] at h
    rw [show ixOf none = -1 from rfl]
    symm
    rw [show decide ((0 : Int) ≤ -1)=false from rfl,List.any_eq_false]
    intro x hx;rw [h x hx]; decide
  | some i =>
    rw [List.findIdx?_eq_some_iff_getElem] at h;obtain ⟨h1,h2,_⟩:=h
    rw [show ixOf (some i)=(i : Int) from rfl,dt_ (by omega)]
    symm
    rw [List.any_eq_true];exact ⟨_,List.getElem_mem h1,h2⟩
theorem rdB_at {l : List Int} {i : Nat} (h : i<l.length) : l[i]?=some (rd l (i : Int)):=by
  unfold rd
  rw [Int.toNat_natCast,List.getD_eq_getElem?_getD,List.getElem?_eq_getElem h]; rfl
theorem rdR_at {l : List (List Int)} {i : Nat} (h : i<l.length) : l[i]?=some (rd_L2 l (i : Int)):=by
  unfold rd_L2
  rw [Int.toNat_natCast,List.getD_eq_getElem?_getD,List.getElem?_eq_getElem h]; rfl
theorem Index_l0 {l : List Int} {a : Int} (hl : l.length≤1000000) : ∀ (d i k : Nat),d=l.length - i→i≤l.length→d + 1≤k→(∀ (j : Nat) (e : Int),j<i→l[j]?=some e→(a == e)=false)→slices_Index_int_int.l0 k l a (l.length : Int) (i : Int)=some (ixOf (l.findIdx? fun x=>a == x)):=by
  intro d
  induction d with
  | zero =>
    intro i k hd hi hk hN
    obtain ⟨k,rfl⟩ : ∃ m,k=m + 1:=⟨k - 1,by omega⟩
    rw [slices_Index_int_int.l0,if_neg (by omega)]
    have : l.findIdx? (fun x=>a == x)=none:=by
      rw [List.findIdx?_eq_none_iff];intro e he;obtain ⟨j,hj⟩:=List.mem_iff_getElem?.1 he;have:=(List.getElem?_eq_some_iff.1 hj).1
      exact hN j e (by omega) hj
    rw [this]; rfl
  | succ d ih =>
    intro i k hd hi hk hN
    obtain ⟨k,rfl⟩ : ∃ m,k=m + 1:=⟨k - 1,by omega⟩
    have hlt : i<l.length:=by omega
    have hw : wrap64 ((i : Int) + 1)=((i + 1 : Nat) : Int):=by unfold wrap64; omega
    have hm:=rdB_at hlt
    rw [slices_Index_int_int.l0,if_pos (by omega),if_pos (by omega),if_pos (by omega),hw]
    by_cases hz : a=rd l (i : Int)
    · rw [if_pos hz]
      have : l.findIdx? (fun x=>a == x)=some i:=by
        rw [List.findIdx?_eq_some_iff_getElem]
        refine ⟨hlt,?_,fun j hj=>?_⟩
        · rw [List.getElem?_eq_getElem hlt] at hm
          injection hm with hm
          rw [hm]; exact beq_iff_eq.mpr hz
        · rw [hN j _ hj (List.getElem?_eq_getElem (by omega))]; decide
      rw [this]; rfl
    · rw [if_neg hz]
      refine ih (i + 1) k (by omega) (by omega) (by omega) (fun j e hj he=>?_)
      by_cases h : j=i
      · subst h
        have:=he.symm.trans hm
        injection this with this
        rw [this]; exact beq_eq_false_iff_ne.mpr hz
      · exact hN j e (by omega) he
theorem Index_ev {k : Nat} {l : List Int} (a : Int) (hl : l.length≤1000000) (hk : l.length + 1≤k) : slices_Index_int_int.f k l a=some (ixOf (l.findIdx? fun x=>a == x)):=by
  unfold slices_Index_int_int.f
  exact Index_l0 hl l.length 0 k (by omega) (by omega) (by omega) (fun j e h=>absurd h (Nat.not_lt_zero _))
theorem Contains_ev {k : Nat} {l : List Int} (a : Int) (hl : l.length≤1000000) (hk : l.length + 1≤k) : slices_Contains_int_int.f k l a=some (l.any fun x=>a == x):=by
  unfold slices_Contains_int_int.f
  rw [Index_ev a hl hk,Option.bind_some,← ix_ge]
set_option maxRecDepth 100000 in
theorem IndexFunc_R (A : Option Addr) (c : Nat) (l : List (List Int)) (f : FuncId) (cap : Array Value) (q : (List Int)→Bool) (w : World) (hr : Kd.C (Kd.slice 5 (Kd.int .u8)) w A l.length l) (hl : l.length≤1000000)
    (he : ∀ args w,(callFunc f args).run Try.prog w=.ok (.enter f args) w)
    (hf : ∀ e ∈ l,∀ wx A0 c0,Below w.heap.size w wx→e.length≤c0→Kd.C (Kd.int .u8) wx A0 e.length e→Calls Try.prog f (#[.slice A0 e.length c0]++cap) wx fun r w'=>r=.returned (.bool (q e))∧Below wx.heap.size wx w') :
    Calls Try.prog 36 #[.slice A l.length c,.func (.func f) #[] cap] w fun e w'=>e=.returned (.int .i64 (ixOf (l.findIdx? q)))∧Below w.heap.size w w':=by
  have HB:=Lib.hid (Below.refl w.heap.size w);have HR:=Lib.hid hr;have HF:=Lib.hid hf;clear hr hf;go_enter Try.func36,Try.ntmps36;go_wp2
  go_loopg [5,8] l.length (fun k v5 v8 wr=>∃ i : Nat,i≤l.length∧k=l.length - i∧v8=.int .i64 (i : Int)∧Hid (∀ (j : Nat) (e : (List Int)),j<i→l[j]?=some e→q e=false)∧Hid (Below w.heap.size w wr))
  case atStart=>exact ⟨0,Nat.zero_le _,rfl,rfl,Lib.hid (fun j e h=>absurd h (Nat.not_lt_zero _)),HB⟩
  case round =>
    clear HB;obtain ⟨i,hi,rfl,rfl,HN,HB⟩:=hrel;have i0 : (0 : Int)≤(i : Int):=Int.natCast_nonneg _
    by_cases hlt : i<l.length
    · have hd : decide (i<l.length)=true:=dt_ hlt
      have i1 : (i : Int)<(l.length : Int):=by omega
      obtain ⟨ad,A0,c0,e0,x0,l0,r0⟩:=at_L2 (Kd.C_below HR.out HB.out) (i : Int) i0 i1;have HA : Hid (l[i]?=some (rd_L2 l (i : Int))):=Lib.hid (rdR_at hlt);rw [Int.toNat_natCast] at x0;subst e0
      generalize rd_L2 l (i : Int)=a at *
      have HC:=Lib.hid (HF.out a (List.mem_of_getElem? HA.out) _ A0 c0 HB.out l0 r0);clear l0 r0;go_wp2_with fail;refine HC.out.mono ?_;rintro r w2 ⟨rfl,hb2⟩;have HB2:=Lib.hid (bp_ HB.out hb2)
      cases hq : q a with
      | true =>
        have hfi : l.findIdx? q=some i:=by
          rw [List.findIdx?_eq_some_iff_getElem]
          refine ⟨hlt,?_,fun j hj=>?_⟩
          · have:=HA.out
            rw [List.getElem?_eq_getElem hlt] at this
            injection this with this
            rw [this]; exact hq
          · have:=HN.out j (l[j]'(by omega)) hj (List.getElem?_eq_getElem (by omega))
            rw [this]; decide
        go_wp2;go_ret
        exact ⟨by rw [hfi]; rfl,HB2.out⟩
      | false =>
        have HQ:=Lib.hid hq;clear hq;go_wp2;go_roundg (l.length - (i + 1))
        case measure=>omega
        case rel =>
          refine ⟨i + 1,by omega,rfl,by go_num,Lib.hid (fun j e hj hje=>?_),HB2⟩
          by_cases h : j=i
          · subst h
            have:=hje.symm.trans HA.out
            injection this with this
            rw [this]; exact HQ.out
          · exact HN.out j e (by omega) hje
    · have hd : decide (i<l.length)=false:=df_ hlt
      obtain rfl : i=l.length:=by omega
      have hfi : l.findIdx? q=none:=by
        rw [List.findIdx?_eq_none_iff];intro e he;obtain ⟨j,hj⟩:=List.mem_iff_getElem?.1 he;exact HN.out j e (List.getElem?_eq_some_iff.1 hj).1 hj
      go_wp2;go_ret
      exact ⟨by rw [hfi]; rfl,HB.out⟩
theorem ContainsFunc_R (A : Option Addr) (c : Nat) (l : List (List Int)) (f : FuncId) (cap : Array Value) (q : (List Int)→Bool) (w : World) (hr : Kd.C (Kd.slice 5 (Kd.int .u8)) w A l.length l) (hl : l.length≤1000000)
    (he : ∀ args w,(callFunc f args).run Try.prog w=.ok (.enter f args) w)
    (hf : ∀ e ∈ l,∀ wx A0 c0,Below w.heap.size w wx→e.length≤c0→Kd.C (Kd.int .u8) wx A0 e.length e→Calls Try.prog f (#[.slice A0 e.length c0]++cap) wx fun r w'=>r=.returned (.bool (q e))∧Below wx.heap.size wx w') :
    Calls Try.prog 44 #[.slice A l.length c,.func (.func f) #[] cap] w fun e w'=>e=.returned (.bool (l.any q))∧Below w.heap.size w w':=by
  have IX:=Lib.hid (IndexFunc_R A c l f cap q w hr hl he hf);have HG:=Lib.hid (ix_ge l q);clear hr he hf
  generalize ixOf (l.findIdx? q)=z at IX HG
  go_enter Try.func44,Try.ntmps44;go_wp2_with fail;refine IX.out.mono ?_;rintro e w' ⟨rfl,hb⟩;go_wp2;go_ret;exact ⟨ret_bool HG.out,hb⟩
set_option maxRecDepth 100000 in
theorem IndexFunc_B (A : Option Addr) (c : Nat) (l : List Int) (f : FuncId) (cap : Array Value) (q : Int→Bool) (w : World) (hr : Kd.C (Kd.int .u8) w A l.length l) (hl : l.length≤1000000)
    (he : ∀ args w,(callFunc f args).run Try.prog w=.ok (.enter f args) w)
    (hf : ∀ e ∈ l,∀ wx,Below w.heap.size w wx→Calls Try.prog f (#[.int .u8 e]++cap) wx fun r w'=>r=.returned (.bool (q e))∧Below wx.heap.size wx w') :
    Calls Try.prog 66 #[.slice A l.length c,.func (.func f) #[] cap] w fun e w'=>e=.returned (.int .i64 (ixOf (l.findIdx? q)))∧Below w.heap.size w w':=by
  have HB:=Lib.hid (Below.refl w.heap.size w);have HR:=Lib.hid hr;have HF:=Lib.hid hf;clear hr hf;go_enter Try.func66,Try.ntmps66;go_wp2
  go_loopg [5,8] l.length (fun k v5 v8 wr=>∃ i : Nat,i≤l.length∧k=l.length - i∧v8=.int .i64 (i : Int)∧Hid (∀ (j : Nat) (e : Int),j<i→l[j]?=some e→q e=false)∧Hid (Below w.heap.size w wr))
  case atStart=>exact ⟨0,Nat.zero_le _,rfl,rfl,Lib.hid (fun j e h=>absurd h (Nat.not_lt_zero _)),HB⟩
  case round =>
    clear HB;obtain ⟨i,hi,rfl,rfl,HN,HB⟩:=hrel;have i0 : (0 : Int)≤(i : Int):=Int.natCast_nonneg _
    by_cases hlt : i<l.length
    · have hd : decide (i<l.length)=true:=dt_ hlt
      have i1 : (i : Int)<(l.length : Int):=by omega
      obtain ⟨ad,e0,x0⟩:=Kd.at_int (Kd.C_below HR.out HB.out) (i : Int) i0 i1;have HA : Hid (l[i]?=some (rd l (i : Int))):=Lib.hid (rdB_at hlt);rw [Int.toNat_natCast] at x0;subst e0
      generalize rd l (i : Int)=a at *
      have HC:=Lib.hid (HF.out a (List.mem_of_getElem? HA.out) _ HB.out);go_wp2_with fail;refine HC.out.mono ?_;rintro r w2 ⟨rfl,hb2⟩;have HB2:=Lib.hid (bp_ HB.out hb2)
      cases hq : q a with
      | true =>
        have hfi : l.findIdx? q=some i:=by
          rw [List.findIdx?_eq_some_iff_getElem]
          refine ⟨hlt,?_,fun j hj=>?_⟩
          · have:=HA.out
            rw [List.getElem?_eq_getElem hlt] at this
            injection this with this
            rw [this]; exact hq
          · have:=HN.out j (l[j]'(by omega)) hj (List.getElem?_eq_getElem (by omega))
            rw [this]; decide
        go_wp2;go_ret
        exact ⟨by rw [hfi]; rfl,HB2.out⟩
      | false =>
        have HQ:=Lib.hid hq;clear hq;go_wp2;go_roundg (l.length - (i + 1))
        case measure=>omega
        case rel =>
          refine ⟨i + 1,by omega,rfl,by go_num,Lib.hid (fun j e hj hje=>?_),HB2⟩
          by_cases h : j=i
          · subst h
            have:=hje.symm.trans HA.out
            injection this with this
            rw [this]; exact HQ.out
          · exact HN.out j e (by omega) hje
    · have hd : decide (i<l.length)=false:=df_ hlt
      obtain rfl : i=l.length:=by omega
      have hfi : l.findIdx? q=none:=by
        rw [List.findIdx?_eq_none_iff];intro e he;obtain ⟨j,hj⟩:=List.mem_iff_getElem?.1 he;exact HN.out j e (List.getElem?_eq_some_iff.1 hj).1 hj
      go_wp2;go_ret
      exact ⟨by rw [hfi]; rfl,HB.out⟩
theorem ContainsFunc_B (A : Option Addr) (c : Nat) (l : List Int) (f : FuncId) (cap : Array Value) (q : Int→Bool) (w : World) (hr : Kd.C (Kd.int .u8) w A l.length l) (hl : l.length≤1000000)
    (he : ∀ args w,(callFunc f args).run Try.prog w=.ok (.enter f args) w)
    (hf : ∀ e ∈ l,∀ wx,Below w.heap.size w wx→Calls Try.prog f (#[.int .u8 e]++cap) wx fun r w'=>r=.returned (.bool (q e))∧Below wx.heap.size wx w') :
    Calls Try.prog 49 #[.slice A l.length c,.func (.func f) #[] cap] w fun e w'=>e=.returned (.bool (l.any q))∧Below w.heap.size w w':=by
  have IX:=Lib.hid (IndexFunc_B A c l f cap q w hr hl he hf);have HG:=Lib.hid (ix_ge l q);clear hr he hf
  generalize ixOf (l.findIdx? q)=z at IX HG
  go_enter Try.func49,Try.ntmps49;go_wp2_with fail;refine IX.out.mono ?_;rintro e w' ⟨rfl,hb⟩;go_wp2;go_ret;exact ⟨ret_bool HG.out,hb⟩
theorem check1_any (A : Option Addr) (c : Nat) (e : List Int) (w : World) :
    Calls Try.prog 45 (#[.slice A e.length c]++#[]) w fun r w'=>r=.returned (.bool (decide ((e.length : Int) > 255)))∧Below w.heap.size w w':=by
  rw [show (#[Value.slice A e.length c]++#[])=#[.slice A e.length c] from rfl]
  have HB:=Lib.hid (Below.refl w.heap.size w);go_enter Try.func45,Try.ntmps45;go_wp2;go_ret
  exact ⟨ret_bool (by first|rfl|(apply decide_eq_decide.2; omega)),(by repeat (first|(with_reducible first|exact HB.out|apply ba_|apply bd_|apply be_)|exact HB.out))⟩
theorem insert1_any (A : Option Addr) (c : Nat) (e : List Int) (w : World) :
    Calls Try.prog 37 (#[.slice A e.length c]++#[]) w fun r w'=>r=.returned (.bool (decide ((e.length : Int)=0)))∧Below w.heap.size w w':=by
  rw [show (#[Value.slice A e.length c]++#[])=#[.slice A e.length c] from rfl]
  have HB:=Lib.hid (Below.refl w.heap.size w);go_enter Try.func37,Try.ntmps37;go_wp2;go_ret
  exact ⟨ret_bool (by first|rfl|(apply decide_eq_decide.2; omega)|(rw [Bool.eq_iff_iff]; simp)),(by repeat (first|(with_reducible first|exact HB.out|apply ba_|apply bd_|apply be_)|exact HB.out))⟩
theorem nought1_any (e : Int) (w : World) :
    Calls Try.prog 50 (#[.int .u8 e]++#[]) w fun r w'=>r=.returned (.bool (e != 0))∧Below w.heap.size w w':=by
  rw [show (#[Value.int .u8 e]++#[])=#[.int .u8 e] from rfl]
  have HB:=Lib.hid (Below.refl w.heap.size w);go_enter Try.func50,Try.ntmps50;go_wp2;go_ret
  exact ⟨ret_bool (by first|rfl|(rw [Bool.eq_iff_iff]; simp)),(by repeat (first|(with_reducible first|exact HB.out|apply ba_|apply bd_|apply be_)|exact HB.out))⟩
def containsFunc_leaf_Check_1.f (l0 : List (List Int)) : Option Bool:=if l0.length≤1000000 then some (l0.any fun e=>decide ((e.length : Int) > 255)) else none
theorem containsFunc_leaf_Check_1.calls (A0 : Option Addr) (c0 : Nat) (l0 : List (List Int)) (r : Bool) (w : World) (hr0 : Kd.C (Kd.slice 5 (Kd.int .u8)) w A0 l0.length l0) (hc0 : l0.length≤c0) (h : containsFunc_leaf_Check_1.f l0=some r) :
    Calls Try.prog 44 #[.slice A0 l0.length c0,.func (.func 45) #[] #[]] w fun e w'=>e=.returned (.bool r)∧Below w.heap.size w w':=by
  unfold containsFunc_leaf_Check_1.f at h
  split at h
  rotate_left
  · cases h
  rename_i hl
  injection h with h; subst h
  exact ContainsFunc_R A0 c0 l0 45 #[] _ w hr0 hl (enters_ Try.func45 (by kernel_rfl) rfl) (fun e he wx A c hb hc hr=>check1_any A c e wx)
def indexFunc_leaf_Insert_1.f (l0 : List (List Int)) : Option Int:=if l0.length≤1000000 then some (ixOf (l0.findIdx? fun e=>decide ((e.length : Int)=0))) else none
theorem indexFunc_leaf_Insert_1.calls (A0 : Option Addr) (c0 : Nat) (l0 : List (List Int)) (r : Int) (w : World) (hr0 : Kd.C (Kd.slice 5 (Kd.int .u8)) w A0 l0.length l0) (hc0 : l0.length≤c0) (h : indexFunc_leaf_Insert_1.f l0=some r) :
    Calls Try.prog 36 #[.slice A0 l0.length c0,.func (.func 37) #[] #[]] w fun e w'=>e=.returned (.int .i64 r)∧Below w.heap.size w w':=by
  unfold indexFunc_leaf_Insert_1.f at h
  split at h
  rotate_left
  · cases h
  rename_i hl
  injection h with h; subst h
  exact IndexFunc_R A0 c0 l0 37 #[] _ w hr0 hl (enters_ Try.func37 (by kernel_rfl) rfl) (fun e he wx A c hb hc hr=>insert1_any A c e wx)
def containsFunc_leaf_nought_1.f (l0 : List Int) : Option Bool:=if l0.length≤1000000 then some (l0.any fun e=>e != 0) else none
theorem containsFunc_leaf_nought_1.calls (A0 : Option Addr) (c0 : Nat) (l0 : List Int) (r : Bool) (w : World) (hr0 : Kd.C (Kd.int .u8) w A0 l0.length l0) (hc0 : l0.length≤c0) (h : containsFunc_leaf_nought_1.f l0=some r) :
    Calls Try.prog 49 #[.slice A0 l0.length c0,.func (.func 50) #[] #[]] w fun e w'=>e=.returned (.bool r)∧Below w.heap.size w w':=by
  unfold containsFunc_leaf_nought_1.f at h
  split at h
  rotate_left
  · cases h
  rename_i hl
  injection h with h; subst h
  exact ContainsFunc_B A0 c0 l0 50 #[] _ w hr0 hl (enters_ Try.func50 (by kernel_rfl) rfl) (fun e he wx hb=>nought1_any e wx)
end Go.Proofs.Ytjigckhopkclgaa.P
