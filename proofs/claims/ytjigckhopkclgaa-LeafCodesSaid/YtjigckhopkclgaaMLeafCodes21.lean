/- by wip/prune.py -/
import Derived.ChangeOld
import Derived.Deep.Slices
import Derived.Laws.Cover2
import Derived.OpenShut
import Derived.ProofKit
import Derived.ShutString
import Derived.WalkKit
import Derived.Test.YtjigckhopkclgaaMLeafCodes3
import Derived.Test.YtjigckhopkclgaaMLeafCodes4
set_option linter.unusedSimpArgs false
set_option linter.unusedVariables false
namespace Go.Proofs.Ytjigckhopkclgaa.Op
open Go.RowKit Go.ChangeShapes Go.WideShapes YtjigckhopkclgaaW.PrintWords
def Opens {α : Type} (P : Program) (d : Kd α) (t : TypeId) (good : α→Prop) : Prop :=
  ∀ {H : Type} {enc : TypeId × Value→H} {w : World} {base : Nat} {sp : Nat→Bool} {held : Bool} {fuel : Nat} {cs : List Value} {x : DataW H × List MemPlace},DataW.trod enc P w base sp held fuel t cs=some x→∃ a,d.K w a cs∧good a
theorem opens_int {P : Program} {t : TypeId} {k : IntKind} (hu : P.underlying t=some (.int k)) : Opens P (Kd.int k) t (fun n=>(Lit.int k n).wf=true):=by
  intro H enc w base sp held fuel cs x h;obtain ⟨n,e,_,hw⟩:=DataW.trod_int hu h;exact ⟨n,e,hw⟩
theorem opens_slice {α : Type} {P : Program} {d : Kd α} {t e : TypeId} {good : α→Prop} (hu : P.underlying t=some (.slice e)) (hc : P.cellsOf e=d.sz) (h1 : 0<d.sz) (ho : Opens P d e good) (hi : Inhabited α) : Opens P (Kd.slice e d) t (fun l=>(∀ x ∈ l,good x)∧l.length≤maxLen):=by
  intro H enc w base sp held fuel cs x h
  rcases Deep.open_slice hu h with ⟨hcs,_⟩ | ⟨a,len,cap,m,n,D,Pl,hcs,hb,hl,hm,hmm,_,hx⟩
  · exact ⟨[],⟨none,0,hcs,Nat.le_refl _,⟨rfl,Nat.zero_le _,fun hp=>absurd hp (Nat.lt_irrefl _)⟩⟩,⟨(fun x hx=>by cases hx),Nat.zero_le _⟩⟩
  · have hlm : len≤m:=by rw [hmm]; split <;> omega
    have each : ∀ i,i<len→∃ q : α,good q∧∃ c : List Value,c.length=d.sz∧d.K w q c∧∀ j u,c[j]?=some u→w.cell? (a.add (i * d.sz + j))=some u:=by
      intro i hi
      obtain ⟨cs',h2,h3⟩:=hx i (by omega)
      rw [hc] at h2;obtain ⟨_,hlen,hcell⟩:=World.cells?_some h2;obtain ⟨q,hq,hg⟩:=ho h3
      refine ⟨q,hg,cs',hlen,hq,fun j u hj=>?_⟩
      have hjl:=(List.getElem?_eq_some_iff.1 hj).1
      have:=hcell j (by omega)
      rw [add_add] at this;rw [this,← hj]
    obtain ⟨q,hq⟩:=Deep.choose_lt each
    have hll : ((List.range len).map q).length=len:=by simp
    refine ⟨(List.range len).map q,⟨some a,cap,by rw [hll]; exact hcs,by rw [hll]; exact hl,⟨rfl,by rw [hll]; unfold maxLen at hm; omega,fun hp=>⟨a,rfl,fun j p hj=>?_⟩⟩⟩,?_,by rw [hll]; omega⟩
    · obtain ⟨hj1,hj2⟩:=List.getElem?_eq_some_iff.1 hj
      rw [hll] at hj1
      simp at hj2
      subst hj2;exact (hq j hj1).2
    · intro x hx
      obtain ⟨i,hi,rfl⟩:=List.mem_map.1 hx;exact (hq i (List.mem_range.1 hi)).1
theorem pair_step {α β : Type} {a : Kd α} {b : Kd β} {w : World} {x : α} {y : β} {cs : List Value} (o s : Nat) (ha : a.K w x ((cs.drop o).take s)) (hb : b.K w y (cs.drop (o + s))) : (Kd.pair a b).K w (x,y) (cs.drop o) :=
  ⟨(cs.drop o).take s,cs.drop (o + s),by rw [← List.drop_drop,List.take_append_drop],ha,hb⟩
theorem last_step {α : Type} {a : Kd α} {w : World} {x : α} {cs : List Value} (o s : Nat) (hl : cs.length≤o + s) (ha : a.K w x ((cs.drop o).take s)) : a.K w x (cs.drop o):=by
  rwa [List.take_of_length_le (by rw [List.length_drop]; omega)] at ha
end Go.Proofs.Ytjigckhopkclgaa.Op
namespace Go.Proofs.Ytjigckhopkclgaa.P
open Go.RowKit Go.ChangeShapes Go.WideShapes Ytjigckhopkclgaa.Op YtjigckhopkclgaaW.PrintWords
def goodB (l : List Int) : Prop:=(∀ x ∈ l,(Lit.int .u8 x).wf=true)∧l.length≤maxLen
def goodR (l : List (List Int)) : Prop:=(∀ x ∈ l,goodB x)∧l.length≤maxLen
def goodW (l : List Int) : Prop:=(∀ x ∈ l,(Lit.int .i64 x).wf=true)∧l.length≤maxLen
set_option maxRecDepth 100000 in
theorem opens_bytes : Opens Try.prog (Kd.slice 5 (Kd.int .u8)) 22 goodB:=opens_slice Try.underlying22 (by kernel_rfl) (by decide) (opens_int Try.underlying5) ⟨0⟩
set_option maxRecDepth 100000 in
theorem opens_rows : Opens Try.prog (Kd.slice 22 (Kd.slice 5 (Kd.int .u8))) 25 goodR:=opens_slice Try.underlying25 (by kernel_rfl) (by decide) opens_bytes ⟨[]⟩
set_option maxRecDepth 100000 in
theorem opens_ints : Opens Try.prog (Kd.slice 3 (Kd.int .i64)) 24 goodW:=opens_slice Try.underlying24 (by kernel_rfl) (by decide) (opens_int Try.underlying3) ⟨0⟩
theorem open_struct {α : Type} {P : Program} {d : Kd α} {t : TypeId} {fs : Array Field} {good : α→Prop} (hu : P.underlying t=some (.struct fs)) (ho : Opens P d t good) {H : Type} {enc : TypeId × Value→H} {W : World} {r : Reach} {b0 base : Nat} {sp : Nat→Bool} {held : Bool} {v : Value} {x : DataW H} {ps : List MemPlace} (hval : Value.okWide P W r b0 t v) (hd : DataW.Trod enc P W base sp held t v x ps) : ∃ cs,v=.agg cs∧∃ a,d.K W a cs.toList∧good a:=by
  unfold Value.okWide at hval
  simp only [hu] at hval
  obtain ⟨cs,rfl,hsz,_⟩:=hval;obtain ⟨fuel,hf⟩:=hd;obtain ⟨a,ha,hg⟩:=ho hf;exact ⟨cs,rfl,a,ha,hg⟩
def kLf : Kd (List Int × List (List Int)):=Kd.pair (Kd.slice 3 (Kd.int .i64)) (Kd.slice 22 (Kd.slice 5 (Kd.int .u8)))
set_option maxRecDepth 100000 in
theorem opens_leaf : Opens Try.prog kLf 27 (fun x=>goodW x.1∧goodR x.2):=by
  intro H enc w base sp held fuel cs x h;obtain ⟨ys,m,_,_,hlen,hl,hfld⟩:=DataW.trod_struct Try.underlying27 h
  rw [show Try.prog.cellsOf 27=2 by kernel_rfl] at hlen
  have hl' : ys.length=2:=hl;have h0 : DataW.trod enc Try.prog w base sp held m 24 ((cs.drop 0).take (Try.prog.cellsOf 24))=ys[0]?:=hfld 0 _ rfl;have h1 : DataW.trod enc Try.prog w base sp held m 25 ((cs.drop 1).take (Try.prog.cellsOf 25))=ys[1]?:=hfld 1 _ rfl
  rw [show Try.prog.cellsOf 24=1 by kernel_rfl,List.getElem?_eq_getElem (by omega)] at h0
  rw [show Try.prog.cellsOf 25=1 by kernel_rfl,List.getElem?_eq_getElem (by omega)] at h1
  obtain ⟨x0,k0,g0⟩:=opens_ints h0;obtain ⟨x1,k1,g1⟩:=opens_rows h1;refine ⟨(x0,x1),?_,g0,g1⟩
  have hk:=pair_step 0 1 k0 (last_step 1 1 (by omega) k1)
  rw [List.drop_zero] at hk;exact hk
set_option maxRecDepth 100000 in
theorem open_leaf {H : Type} {enc : TypeId × Value→H} {W : World} {r : Reach} {b0 base : Nat} {sp : Nat→Bool} {held : Bool} {v : Value} {x : DataW H} {ps : List MemPlace} (hval : Value.okWide Try.prog W r b0 27 v) (hd : DataW.Trod enc Try.prog W base sp held 27 v x ps) :
    ∃ (I : List Int) (S : List (List Int)) (A : Option Addr) (c : Nat) (B : Option Addr) (d : Nat),v=.agg #[.slice A I.length c,.slice B S.length d]∧I.length≤c∧Kd.C (Kd.int .i64) W A I.length I∧S.length≤d∧Kd.C (Kd.slice 5 (Kd.int .u8)) W B S.length S∧goodW I∧goodR S:=by
  obtain ⟨cs,rfl,a,ha,hg⟩:=open_struct Try.underlying27 opens_leaf hval hd;obtain ⟨I,S⟩:=a;obtain ⟨c0,c1,e,⟨A,c,rfl,i1,i2⟩,⟨B,d,rfl,s1,s2⟩⟩:=ha;refine ⟨I,S,A,c,B,d,?_,i1,i2,s1,s2,hg.1,hg.2⟩;obtain ⟨l⟩:=cs
  simp only at e
  rw [e]; rfl
end Go.Proofs.Ytjigckhopkclgaa.P
