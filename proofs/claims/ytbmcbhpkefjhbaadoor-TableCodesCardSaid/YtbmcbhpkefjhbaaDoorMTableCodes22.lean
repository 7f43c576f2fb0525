/- by wip/prune.py -/
import Derived.ChangeOld
import Derived.Deep.Slices
import Derived.Laws.Cover2
import Derived.OpenShut
import Derived.ProofKit
import Derived.ShutString
import Derived.WalkKit
import Derived.Test.YtbmcbhpkefjhbaaDoorMTableCodes4
import Derived.Test.YtbmcbhpkefjhbaaDoorMTableCodes8
import Derived.Test.YtbmcbhpkefjhbaaDoorMTableCodes9
set_option linter.unusedSimpArgs false
set_option linter.unusedVariables false
namespace Go.Proofs.YtbmcbhpkefjhbaaDoor.Op
open Go.RowKit Go.ChangeShapes Go.WideShapes YtbmcbhpkefjhbaaDoorW.PrintWords
def Opens {α : Type} (P : Program) (d : Kd α) (t : TypeId) (good : α→Prop) : Prop :=
  ∀ {H : Type} {enc : TypeId × Value→H} {w : World} {base : Nat} {sp : Nat→Bool} {held : Bool} {fuel : Nat} {cs : List Value} {x : DataW H × List MemPlace},DataW.trod enc P w base sp held fuel t cs=some x→∃ a,d.K w a cs∧good a
theorem opens_int {P : Program} {t : TypeId} {k : IntKind} (hu : P.underlying t=some (.int k)) : Opens P (Kd.int k) t (fun n=>(Lit.int k n).wf=true):=by
  intro H enc w base sp held fuel cs x h;obtain ⟨n,e,_,hw⟩:=DataW.trod_int hu h;exact ⟨n,e,hw⟩
theorem opens_slice {α : Type} {P : Program} {d : Kd α} {t e : TypeId} {good : α→Prop} (hu : P.underlying t=some (.slice e)) (hc : P.cellsOf e=d.sz) (h1 : 0<d.sz) (ho : Opens P d e good) (hi : Inhabited α) : Opens P (Kd.slice e d) t (fun l=>(∀ x ∈ l,good x)∧l.length≤maxLen):=by
  intro H enc w base sp held fuel cs x h
  rcases Deep.open_slice hu h with ⟨hcs,_⟩ | ⟨a,len,cap,m,n,D,Pl,hcs,hb,hl,hm,hmm,_,hx⟩
  · exact ⟨[],⟨none,0,hcs,Nat.le_refl _,⟨rfl,Nat.zero_le _,fun hp=>absurd hp (Nat.lt_irrefl _)⟩⟩,⟨(fun x hx=>by cases hx),Nat.zero_le _⟩⟩
  · have hlm : len≤m:=by rw [hmm]; split <;> omega
    have each : ∀ i,i<len→∃ q : α,good q∧∃ c : List Value,c.length=d.sz∧d.K w q c∧∀ j u,c[j]?=some u→w.cell? (a.add (i * d.sz + j))=some u:=by
      intro i hi
      obtain ⟨cs',h2,h3⟩:=hx i (by omega)
      rw [hc] at h2;obtain ⟨_,hlen,hcell⟩:=World.cells?_some h2;obtain ⟨q,hq,hg⟩:=ho h3
      refine ⟨q,hg,cs',hlen,hq,fun j u hj=>?_⟩
      have hjl:=(List.getElem?_eq_some_iff.1 hj).1
      have:=hcell j (by omega)
      rw [add_add] at this;rw [this,← hj]
    obtain ⟨q,hq⟩:=Deep.choose_lt each
    have hll : ((List.range len).map q).length=len:=by simp
    refine ⟨(List.range len).map q,⟨some a,cap,by rw [hll]; exact hcs,by rw [hll]; exact hl,⟨rfl,by rw [hll]; unfold maxLen at hm; omega,fun hp=>⟨a,rfl,fun j p hj=>?_⟩⟩⟩,?_,by rw [hll]; omega⟩
    · obtain ⟨hj1,hj2⟩:=List.getElem?_eq_some_iff.1 hj
      rw [hll] at hj1
      simp at hj2
      subst hj2;exact (hq j hj1).2
    · intro x hx
      obtain ⟨i,hi,rfl⟩:=List.mem_map.1 hx;exact (hq i (List.mem_range.1 hi)).1
theorem pair_step {α β : Type} {a : Kd α} {b : Kd β} {w : World} {x : α} {y : β} {cs : List Value} (o s : Nat) (ha : a.K w x ((cs.drop o).take s)) (hb : b.K w y (cs.drop (o + s))) : (Kd.pair a b).K w (x,y) (cs.drop o) :=
  ⟨(cs.drop o).take s,cs.drop (o + s),by rw [← List.drop_drop,List.take_append_drop],ha,hb⟩
theorem last_step {α : Type} {a : Kd α} {w : World} {x : α} {cs : List Value} (o s : Nat) (hl : cs.length≤o + s) (ha : a.K w x ((cs.drop o).take s)) : a.K w x (cs.drop o):=by
  rwa [List.take_of_length_le (by rw [List.length_drop]; omega)] at ha
end Go.Proofs.YtbmcbhpkefjhbaaDoor.Op
namespace Go.Proofs.YtbmcbhpkefjhbaaDoor.P
open Go.RowKit Go.ChangeShapes Go.WideShapes YtbmcbhpkefjhbaaDoor.Op YtbmcbhpkefjhbaaDoorW.PrintWords
def good_entry (x : S56) : Prop:=(Lit.int .i64 x.f0).wf=true∧(Lit.int .i64 x.f1).wf=true∧(Lit.int .i64 x.f2).wf=true∧(Lit.int .i64 x.f3).wf=true
set_option maxRecDepth 100000 in
theorem opens_entry : Opens Tryd.prog k56 56 good_entry:=by
  intro H enc w base sp held fuel cs x h;obtain ⟨ys,m,_,_,hlen,hl,hfld⟩:=DataW.trod_struct Tryd.underlying56 h
  rw [show Tryd.prog.cellsOf 56=4 by kernel_rfl] at hlen
  have hl' : ys.length=4:=hl;have h0 : DataW.trod enc Tryd.prog w base sp held m 3 ((cs.drop 0).take (Tryd.prog.cellsOf 3))=ys[0]?:=hfld 0 _ rfl
  rw [show Tryd.prog.cellsOf 3=1 by kernel_rfl,List.getElem?_eq_getElem (by omega)] at h0
  obtain ⟨x0,k0,g0⟩:=(opens_int Tryd.underlying3) h0;have h1 : DataW.trod enc Tryd.prog w base sp held m 3 ((cs.drop 1).take (Tryd.prog.cellsOf 3))=ys[1]?:=hfld 1 _ rfl
  rw [show Tryd.prog.cellsOf 3=1 by kernel_rfl,List.getElem?_eq_getElem (by omega)] at h1
  obtain ⟨x1,k1,g1⟩:=(opens_int Tryd.underlying3) h1;have h2 : DataW.trod enc Tryd.prog w base sp held m 3 ((cs.drop 2).take (Tryd.prog.cellsOf 3))=ys[2]?:=hfld 2 _ rfl
  rw [show Tryd.prog.cellsOf 3=1 by kernel_rfl,List.getElem?_eq_getElem (by omega)] at h2
  obtain ⟨x2,k2,g2⟩:=(opens_int Tryd.underlying3) h2;have h3 : DataW.trod enc Tryd.prog w base sp held m 3 ((cs.drop 3).take (Tryd.prog.cellsOf 3))=ys[3]?:=hfld 3 _ rfl
  rw [show Tryd.prog.cellsOf 3=1 by kernel_rfl,List.getElem?_eq_getElem (by omega)] at h3
  obtain ⟨x3,k3,g3⟩:=(opens_int Tryd.underlying3) h3;refine ⟨⟨x0,x1,x2,x3⟩,?_,⟨g0,g1,g2,g3⟩⟩
  have hk:=pair_step 0 1 k0 (pair_step 1 1 k1 (pair_step 2 1 k2 (last_step 3 1 (by omega) k3)))
  rw [List.drop_zero] at hk;exact hk
def goodEn (l : List S56) : Prop:=(∀ x ∈ l,good_entry x)∧l.length≤maxLen
set_option maxRecDepth 100000 in
theorem opens_ents : Opens Tryd.prog (Kd.slice 56 k56) 24 goodEn:=opens_slice Tryd.underlying24 (by kernel_rfl) (by decide) opens_entry ⟨z56⟩
theorem open_struct {α : Type} {P : Program} {d : Kd α} {t : TypeId} {fs : Array Field} {good : α→Prop} (hu : P.underlying t=some (.struct fs)) (ho : Opens P d t good) {H : Type} {enc : TypeId × Value→H} {W : World} {r : Reach} {b0 base : Nat} {sp : Nat→Bool} {held : Bool} {v : Value} {x : DataW H} {ps : List MemPlace} (hval : Value.okWide P W r b0 t v) (hd : DataW.Trod enc P W base sp held t v x ps) : ∃ cs,v=.agg cs∧∃ a,d.K W a cs.toList∧good a:=by
  unfold Value.okWide at hval
  simp only [hu] at hval
  obtain ⟨cs,rfl,hsz,_⟩:=hval;obtain ⟨fuel,hf⟩:=hd;obtain ⟨a,ha,hg⟩:=ho hf;exact ⟨cs,rfl,a,ha,hg⟩
def kTb : Kd (Int × Int × Int × List S56):=Kd.pair (Kd.int .i64) (Kd.pair (Kd.int .i64) (Kd.pair (Kd.int .i64) (Kd.slice 56 k56)))
set_option maxRecDepth 100000 in
theorem opens_table : Opens Tryd.prog kTb 26 (fun x=>goodEn x.2.2.2):=by
  intro H enc w base sp held fuel cs x h;obtain ⟨ys,m,_,_,hlen,hl,hfld⟩:=DataW.trod_struct Tryd.underlying26 h
  rw [show Tryd.prog.cellsOf 26=4 by kernel_rfl] at hlen
  have hl' : ys.length=4:=hl;have h0 : DataW.trod enc Tryd.prog w base sp held m 3 ((cs.drop 0).take (Tryd.prog.cellsOf 3))=ys[0]?:=hfld 0 _ rfl;have h1 : DataW.trod enc Tryd.prog w base sp held m 3 ((cs.drop 1).take (Tryd.prog.cellsOf 3))=ys[1]?:=hfld 1 _ rfl;have h2 : DataW.trod enc Tryd.prog w base sp held m 3 ((cs.drop 2).take (Tryd.prog.cellsOf 3))=ys[2]?:=hfld 2 _ rfl;have h3 : DataW.trod enc Tryd.prog w base sp held m 24 ((cs.drop 3).take (Tryd.prog.cellsOf 24))=ys[3]?:=hfld 3 _ rfl
  rw [show Tryd.prog.cellsOf 3=1 by kernel_rfl,List.getElem?_eq_getElem (by omega)] at h0
  rw [show Tryd.prog.cellsOf 3=1 by kernel_rfl,List.getElem?_eq_getElem (by omega)] at h1
  rw [show Tryd.prog.cellsOf 3=1 by kernel_rfl,List.getElem?_eq_getElem (by omega)] at h2
  rw [show Tryd.prog.cellsOf 24=1 by kernel_rfl,List.getElem?_eq_getElem (by omega)] at h3
  obtain ⟨x0,k0,g0⟩:=(opens_int Tryd.underlying3) h0;obtain ⟨x1,k1,g1⟩:=(opens_int Tryd.underlying3) h1;obtain ⟨x2,k2,g2⟩:=(opens_int Tryd.underlying3) h2;obtain ⟨x3,k3,g3⟩:=opens_ents h3;refine ⟨(x0,x1,x2,x3),?_,g3⟩
  have hk:=pair_step 0 1 k0 (pair_step 1 1 k1 (pair_step 2 1 k2 (last_step 3 1 (by omega) k3)))
  rw [List.drop_zero] at hk;exact hk
set_option maxRecDepth 100000 in
theorem open_table {H : Type} {enc : TypeId × Value→H} {W : World} {r : Reach} {b0 base : Nat} {sp : Nat→Bool} {held : Bool} {v : Value} {x : DataW H} {ps : List MemPlace} (hval : Value.okWide Tryd.prog W r b0 26 v) (hd : DataW.Trod enc Tryd.prog W base sp held 26 v x ps) :
    ∃ (a b c : Int) (E : List S56) (A : Option Addr) (d : Nat),v=.agg #[.int .i64 a,.int .i64 b,.int .i64 c,.slice A E.length d]∧E.length≤d∧Kd.C k56 W A E.length E:=by
  obtain ⟨cs,rfl,q,hq,hg⟩:=open_struct Tryd.underlying26 opens_table hval hd;obtain ⟨a,b,c,E⟩:=q;obtain ⟨c0,r0,e0,k0,c1,r1,e1,k1,c2,r2,e2,k2,⟨A,d,k3,i1,i2⟩⟩:=hq;refine ⟨a,b,c,E,A,d,?_,i1,i2⟩;obtain ⟨l⟩:=cs
  simp only at e0
  subst e0; subst e1; subst e2; subst k3
  cases k0; cases k1; cases k2
  rfl
end Go.Proofs.YtbmcbhpkefjhbaaDoor.P
