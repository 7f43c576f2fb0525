/- by wip/prune.py -/
import Derived.Test.YtbmcbhpkefjhbaaDoorMTableCodes8
import Derived.Test.YtbmcbhpkefjhbaaDoorMTableCodes5
import Derived.Test.YtbmcbhpkefjhbaaDoorMTableCodes9
import Derived.Test.YtbmcbhpkefjhbaaDoorMTableCodes16
set_option linter.unusedSimpArgs false
set_option linter.unusedVariables false
namespace Go.Proofs.YtbmcbhpkefjhbaaDoor.Dsg
open Go.RowKit YtbmcbhpkefjhbaaDoor.Mem YtbmcbhpkefjhbaaDoorW.PrintWords YtbmcbhpkefjhbaaDoorW.PrintLast YtbmcbhpkefjhbaaDoorW.PrintMore
theorem info64 : (Tryd.prog.info? 3).map (fun i=>(i.zero,i.size,i.bytes))=some (some (.int .i64 0),1,8):=by kernel_rfl
end Go.Proofs.YtbmcbhpkefjhbaaDoor.Dsg
namespace Go.Proofs.YtbmcbhpkefjhbaaDoor.Pac
open Go.RowKit YtbmcbhpkefjhbaaDoor YtbmcbhpkefjhbaaDoor.Mem YtbmcbhpkefjhbaaDoorW.PrintWords YtbmcbhpkefjhbaaDoorW.PrintLast YtbmcbhpkefjhbaaDoorW.PrintMore
theorem _root_.Go.Proofs.YtbmcbhpkefjhbaaDoor.Dsg.RdI_at' {w : World} {A : Option Addr} {l : List Int} (h : Kd.C (Kd.int .i64) w A l.length l) {j : Nat} {e : Int} (hj : l[j]?=some e) : ∃ ad,A=some ad∧w.cell? (ad.add j)=some (.int .i64 e):=by
  obtain ⟨hjl,hje⟩:=List.getElem?_eq_some_iff.1 hj
  obtain ⟨ad,e1,hx⟩:=Kd.at_int h (j : Int) (by omega) (by omega)
  rw [Int.toNat_natCast] at hx;refine ⟨ad,e1,?_⟩;rw [hx]
  simp [rd,List.getD_eq_getElem?_getD,hj]
abbrev It.cs (a : It) : List Value:=[.int .i64 a.k,.int .i64 a.n,.float .f64 a.x,.string a.s]
def Kt : Kd It where
  sz:=4
  E:=[]
  K:=fun _ a cs=>cs=a.cs
  M:=fun _ _ _ a cs=>cs=a.cs
  K_len:=fun h=>by rw [h]; rfl
  K_one:=fun h u hu=>by rw [h] at hu; simp [It.cs] at hu; rcases hu with rfl|rfl|rfl|rfl <;> rfl
  K_below:=fun _ h=>h
  K_of_M:=fun h=>h
  M_mono:=fun _ h=>h
  M_bound:=fun h=>h
  M_move:=fun _ h=>h
  M_lower:=fun _ h=>h
theorem infoIt : (Tryd.prog.info? 51).map (fun i=>(i.zero,i.size,i.bytes))=some (some (.agg #[.int .i64 0,.int .i64 0,.float .f64 0,.string ⟨#[]⟩]),4,40):=by kernel_rfl
theorem add4 (ad : Addr) (n i : Nat) (hi : 0<i) : ad.add (n + i)=⟨(ad.add n).block,(ad.add n).off + i,none⟩:=by
  rw [show ad.add (n + i)=(ad.add n).add i from (add_add ad n i).symm]
  generalize ad.add n=p
  unfold Addr.add
  rw [if_neg (by omega)]
def GotT (w : World) (v : Value) (l : List It) : Prop:=∃ A c,v=.slice A l.length c∧l.length≤c∧RdT w A l
theorem GotT.nil (w : World) : GotT w (.slice none 0 0) []:=⟨none,0,rfl,Nat.le_refl _,fun j a h=>by simp at h⟩
def GotO (w : World) (base : Nat) (v : Value) (l : List It) : Prop:=Kd.R Kt 51 w base (fun _=>True) v l∧∀ a ∈ l,a.x<18446744073709551616
theorem GotO.nil (w : World) (base : Nat) : GotO w base (.slice none 0 0) []:=⟨Kd.R_nil _ _ _ _ _,fun a h=>by cases h⟩
def takes (b : List Int) : Nat→List Int→Option (List It × Nat)
  | p,[]=>some ([],p)
  | p,k :: ks=>match item1 b p k with
    | none=>none
    | some (a,q)=>match takes b q ks with
      | none=>none
      | some (l,r)=>some (a :: l,r)
def kindsOk (ks : List Int) : Bool:=ks.all (fun k=>decide (1≤k) && decide (k≤5))
def takeR (b ks : List Int) : List It × Int × Int :=
  if kindsOk ks=true then (match takes b 0 ks with|none=>([],0,4)|some (l,r)=>(l,(r : Int),0)) else ([],0,1)
def TakePost (b ks : List Int) (w : World) (e : Ending) (w' : World) : Prop:=∃ v,e=.returned (.tuple #[v,.int .i64 (takeR b ks).2.1,.int .i64 (takeR b ks).2.2])∧GotO w' w.heap.size v (takeR b ks).1∧Below w.heap.size w w'
theorem item1_le {b : List Int} {p q : Nat} {k : Int} {a : It} (h : item1 b p k=some (a,q)) : q≤b.length:=by
  unfold item1 at h
  split at h
  · split at h
    · rename_i h1; injection h with h; injection h with h2 h3; subst h3; exact h1.1
    · cases h
  · split at h
    · split at h
      · rename_i h1; injection h with h; injection h with h2 h3; subst h3; exact h1.2
      · cases h
    · split at h
      · rename_i h1; injection h with h; injection h with h2 h3; subst h3; exact h1.1
      · cases h
theorem item1_x {b : List Int} {p q : Nat} {k : Int} {a : It} (hb : Bytes b) (h : item1 b p k=some (a,q)) : a.x<18446744073709551616:=by
  unfold item1 at h
  split at h
  · split at h
    · rename_i h1; injection h with h; injection h with h2 h3; subst h2
      have:=num_bd ((hb.drop p).take 8)
      rw [show ((b.drop p).take 8).length=8 by rw [List.length_take,List.length_drop]; omega,show (256 : Int) ^ 8=18446744073709551616 by decide] at this
      simp only
      omega
    · cases h
  · split at h
    · split at h
      · injection h with h; injection h with h2 h3; subst h2; simp
      · cases h
    · split at h
      · injection h with h; injection h with h2 h3; subst h2; simp
      · cases h
def Took (b ks : List Int) (i : Nat) (l : List It) (p : Nat) : Prop:=l.length=i∧(∀ a ∈ l,a.x<18446744073709551616)∧p≤b.length∧takes b 0 ks=(match takes b p (ks.drop i) with|none=>none|some (m,r)=>some (l++m,r))
theorem Took.first (b ks : List Int) : Took b ks 0 [] 0:=by
  refine ⟨rfl,(fun a h=>by cases h),Nat.zero_le _,?_⟩
  rw [List.drop_zero]
  cases takes b 0 ks with
  | none=>rfl
  | some x=>rfl
theorem drop_cons {ks : List Int} {i : Nat} {k : Int} (h : ks[i]?=some k) : ks.drop i=k :: ks.drop (i + 1):=by
  obtain ⟨h1,h2⟩:=List.getElem?_eq_some_iff.1 h;rw [List.drop_eq_getElem_cons h1,h2]
theorem Took.step {b ks : List Int} {i : Nat} {l : List It} {p q : Nat} {k : Int} {a : It} (hb : Bytes b) (h : Took b ks i l p) (hk : ks[i]?=some k) (hi : item1 b p k=some (a,q)) : Took b ks (i + 1) (l++[a]) q:=by
  obtain ⟨h1,h2,h3,h4⟩:=h
  refine ⟨by rw [List.length_append,h1]; rfl,?_,item1_le hi,?_⟩
  · intro y hy
    rcases List.mem_append.1 hy with h|h
    · exact h2 y h
    · rw [List.mem_singleton.1 h]; exact item1_x hb hi
  · rw [h4,drop_cons hk]
    simp only [takes,hi]
    cases takes b q (ks.drop (i + 1)) with
    | none=>rfl
    | some x=>simp
theorem Took.stop {b ks : List Int} {i : Nat} {l : List It} {p : Nat} {k : Int} (h : Took b ks i l p) (hk : ks[i]?=some k) (hi : item1 b p k=none) : takes b 0 ks=none:=by
  rw [h.2.2.2,drop_cons hk]
  simp only [takes,hi]
theorem Took.last {b ks : List Int} {l : List It} {p : Nat} (h : Took b ks ks.length l p) : takes b 0 ks=some (l,p):=by
  rw [h.2.2.2,List.drop_length]
  simp [takes]
structure RS (w : World) (h : Nat) (v4 : Value) (v5 v6 : Int) : Prop where
  c4 : w.cell? ⟨h,0,none⟩=some v4
  c5 : w.cell? ⟨h + 1,0,none⟩=some (.int .i64 v5)
  c6 : w.cell? ⟨h + 2,0,none⟩=some (.int .i64 v6)
  f4 : w.frozen? ⟨h,0,none⟩=false
  f5 : w.frozen? ⟨h + 1,0,none⟩=false
  f6 : w.frozen? ⟨h + 2,0,none⟩=false
theorem RS.below {w w' : World} {h : Nat} {v4 : Value} {v5 v6 : Int} (r : RS w h v4 v5 v6) (hb : Below w.heap.size w w') : RS w' h v4 v5 v6 where
  c4:=(hb.cell (wb_ w _ r.c4)).trans r.c4
  c5:=(hb.cell (wb_ w _ r.c5)).trans r.c5
  c6:=(hb.cell (wb_ w _ r.c6)).trans r.c6
  f4:=(hb.frozen (wb_ w _ r.c4)).trans r.f4
  f5:=(hb.frozen (wb_ w _ r.c5)).trans r.f5
  f6:=(hb.frozen (wb_ w _ r.c6)).trans r.f6
theorem nb {a b i j : Nat} (h : a≠b) : (⟨a,i,none⟩ : Addr)≠⟨b,j,none⟩:=by intro e; injection e with e; exact h e
theorem RS.grown {w w' : World} {h g : Nat} {v4 : Value} {v5 v6 : Int} (r : RS w h v4 v5 v6) (hg : w.grownBy w' (some g)) (hh : h + 2<g∨g<h) : RS w' h v4 v5 v6 where
  c4:=hg.cell r.c4 (by intro e; injection e with e; simp only at e; omega)
  c5:=hg.cell r.c5 (by intro e; injection e with e; simp only at e; omega)
  c6:=hg.cell r.c6 (by intro e; injection e with e; simp only at e; omega)
  f4:=(hg.frozen_far ⟨h,0,none⟩ (wb_ w _ r.c4) (by intro e; injection e with e; simp only at e; omega)).trans r.f4
  f5:=(hg.frozen_far ⟨h + 1,0,none⟩ (wb_ w _ r.c5) (by intro e; injection e with e; simp only at e; omega)).trans r.f5
  f6:=(hg.frozen_far ⟨h + 2,0,none⟩ (wb_ w _ r.c6) (by intro e; injection e with e; simp only at e; omega)).trans r.f6
theorem RS.s4 {w : World} {h : Nat} {v4 : Value} {v5 v6 : Int} (r : RS w h v4 v5 v6) (v : Value) : RS (w.setCell ⟨h,0,none⟩ v) h v v5 v6 where
  c4:=World.cell?_setCell_same _ _ _ r.c4
  c5:=(World.cell?_setCell_other _ _ _ _ (nb (by omega))).trans r.c5
  c6:=(World.cell?_setCell_other _ _ _ _ (nb (by omega))).trans r.c6
  f4:=by rw [World.frozen?_setCell]; exact r.f4
  f5:=by rw [World.frozen?_setCell]; exact r.f5
  f6:=by rw [World.frozen?_setCell]; exact r.f6
theorem RS.s5 {w : World} {h : Nat} {v4 : Value} {v5 v6 : Int} (r : RS w h v4 v5 v6) (v : Int) : RS (w.setCell ⟨h + 1,0,none⟩ (.int .i64 v)) h v4 v v6 where
  c5:=World.cell?_setCell_same _ _ _ r.c5
  c4:=(World.cell?_setCell_other _ _ _ _ (nb (by omega))).trans r.c4
  c6:=(World.cell?_setCell_other _ _ _ _ (nb (by omega))).trans r.c6
  f4:=by rw [World.frozen?_setCell]; exact r.f4
  f5:=by rw [World.frozen?_setCell]; exact r.f5
  f6:=by rw [World.frozen?_setCell]; exact r.f6
theorem RS.s6 {w : World} {h : Nat} {v4 : Value} {v5 v6 : Int} (r : RS w h v4 v5 v6) (v : Int) : RS (w.setCell ⟨h + 2,0,none⟩ (.int .i64 v)) h v4 v5 v where
  c6:=World.cell?_setCell_same _ _ _ r.c6
  c4:=(World.cell?_setCell_other _ _ _ _ (nb (by omega))).trans r.c4
  c5:=(World.cell?_setCell_other _ _ _ _ (nb (by omega))).trans r.c5
  f4:=by rw [World.frozen?_setCell]; exact r.f4
  f5:=by rw [World.frozen?_setCell]; exact r.f5
  f6:=by rw [World.frozen?_setCell]; exact r.f6
abbrev rw3 (w : World) : World:=((w.alloc (.cells #[.slice none 0 0] 45)).alloc (.cells #[.int .i64 0] 3)).alloc (.cells #[.int .i64 0] 27)
theorem sz_alloc (w : World) (o : Obj) : (w.alloc o).heap.size=w.heap.size + 1:=by show (w.heap.push _).size=_; simp
theorem RS.first (w : World) : RS (rw3 w) w.heap.size (.slice none 0 0) 0 0:=by
  constructor
  · rw [World.cell?_alloc_lt _ _ _ (by simp only [sz_alloc]; omega),World.cell?_alloc_lt _ _ _ (by simp only [sz_alloc]; omega)]; exact World.cell?_alloc_new _ _ _ _
  · rw [World.cell?_alloc_lt _ _ _ (by simp only [sz_alloc]; omega),show w.heap.size + 1=(w.alloc (.cells #[.slice none 0 0] 45)).heap.size from (sz_alloc _ _).symm]; exact World.cell?_alloc_new _ _ _ _
  · rw [show w.heap.size + 2=((w.alloc (.cells #[.slice none 0 0] 45)).alloc (.cells #[.int .i64 0] 3)).heap.size by rw [sz_alloc,sz_alloc]]; exact World.cell?_alloc_new _ _ _ _
  · rw [World.frozen?_alloc_past _ _ _ (by simp only [sz_alloc]; omega),World.frozen?_alloc_past _ _ _ (by simp only [sz_alloc]; omega)]; exact frozen_new _ _ _ _
  · rw [World.frozen?_alloc_past _ _ _ (by simp only [sz_alloc]; omega),show w.heap.size + 1=(w.alloc (.cells #[.slice none 0 0] 45)).heap.size from (sz_alloc _ _).symm]; exact frozen_new _ _ _ _
  · rw [show w.heap.size + 2=((w.alloc (.cells #[.slice none 0 0] 45)).alloc (.cells #[.int .i64 0] 3)).heap.size by rw [sz_alloc,sz_alloc]]; exact frozen_new _ _ _ _
theorem RS.belowB {w w' : World} {h N : Nat} {v4 : Value} {v5 v6 : Int} (r : RS w h v4 v5 v6) (hb : Below N w w') (hN : h + 2<N) : RS w' h v4 v5 v6 where
  c4:=(hb.cell (by simp only; omega)).trans r.c4
  c5:=(hb.cell (by simp only; omega)).trans r.c5
  c6:=(hb.cell (by simp only; omega)).trans r.c6
  f4:=(hb.frozen (by simp only; omega)).trans r.f4
  f5:=(hb.frozen (by simp only; omega)).trans r.f5
  f6:=(hb.frozen (by simp only; omega)).trans r.f6
theorem RdB_belowB {w w' : World} {B : Option Addr} {b : List Int} {N : Nat} (h : RdB w B b) (hb : Below N w w') (hf : ∀ ad,B=some ad→0<b.length→ad.block<N) : RdB w' B b:=by
  obtain ⟨h1,h2,h3⟩:=Kd.reads_of_C (d:=(0 : Int)) h
  refine Kd.C_of_reads (h1:=fun _=>rfl) (d:=(0 : Int)) ⟨h1,h2,fun hp=>?_⟩
  obtain ⟨ad,e,hc⟩:=h3 hp
  refine ⟨ad,e,fun j hj=>(hb.cell ?_).trans (hc j hj)⟩
  rw [show (ad.add j).block=ad.block by unfold Addr.add; split <;> rfl]
  exact hf ad e hp
theorem TK.belowB {w w' : World} {g : Nat} {B : Option Addr} {c : Nat} {b : List Int} {p N : Nat} (t : TK w g B c b p) (hb : Below N w w') (hg : g<N) (hf : ∀ ad,B=some ad→0<b.length→ad.block<N) : TK w' g B c b p where
  c0:=(hb.cell (by simp only; omega)).trans t.c0
  c1:=(hb.cell (by simp only; omega)).trans t.c1
  fz:=(hb.frozen (by simp only; omega)).trans t.fz
  rd:=RdB_belowB t.rd hb hf
  far:=t.far
  cap:=t.cap
theorem TK.first {w : World} {B : Option Addr} {c : Nat} {b : List Int} (hr : RdB w B b) (hc : b.length≤c) : TK (w.alloc (.cells #[.slice B b.length c,.int .i64 0] 74)) w.heap.size B c b 0 where
  c0:=World.cell?_alloc_new _ _ _ _
  c1:=World.cell?_alloc_new _ _ _ _
  fz:=frozen_new _ _ _ _
  rd:=Kd.C_alloc hr _
  far:=fun ad e hp=>Nat.ne_of_lt (RdB.lt hr ad e hp)
  cap:=hc
theorem below_grown' {N g : Nat} {w w1 w2 : World} (h : Below N w w1) (hg : w1.grownBy w2 (some g)) (h1 : N≤w1.heap.size) (h2 : N≤g) : Below N w w2 :=
  h.trans ⟨hg.os,hg.tape,hg.output,hg.size,fun k hk=>hg.block k (by omega) (by intro e; injection e with e; omega)⟩
theorem goesP_ {P : Program} {ops : Array Oper} {Q : Exit → Act → World → Prop} {oi : Oper} {N : Option Tmp} {a : Act} {w : World} {K : Act → World → Prop} {f : FuncId} {fn : Func} {asx : Array Operand} {ts : Array TypeId} (hf : P.funcs[f]? = some fn) (hname : (fn.name == "runtime.NumGoroutine") = false) (hb : fn.body.isSome = true) (args : Array Value)
    (hw : Region.wanted oi (yielded ops a.tmps)=true) (hN : oi.dst=N) (hop : oi.op=.call { callee:=.value (.func f),args:=asx,argTypes:=ts }) (hargs : asx.map a.eval=args)
    (h : Calls P f args w fun e w'=>(∃ v,e=.returned v∧K (a.put N v) w')∨(∃ ch,e=.panicked ch∧Q (.panic ch) a w')) : if Region.wanted oi (yielded ops a.tmps)=true then Oper.wp P oi a w K Q else K (a.put N undef) w:=by
  have he:=enters_ hf hname hb args w
  have hrun : (execOp a.eval oi).run P w=.ok (.enter f args) w:=by
    unfold execOp
    simp [hop,resolve,Deferred.ofValue,invoke,Act.eval,hargs,he]
  rw [if_pos hw];subst hN
  unfold Oper.wp
  rw [hrun,Oper.upon_enter]
  refine h.mono fun e w'' hh=>?_
  rcases hh with ⟨v,rfl,hk⟩ | ⟨ch,rfl,hk⟩
  · exact hk
  · exact hk
abbrev dfr (h : Nat) : List Deferred:=[{ target:=Target.fn (Fn.func 39) #[.pointer (some ⟨h,0,none⟩),.pointer (some ⟨h + 1,0,none⟩),.pointer (some ⟨h + 2,0,none⟩)],args:=#[] }]
theorem take_results {w : World} {h : Nat} {A : Option Addr} {n c : Nat} {v5 v6 : Int} (r : RS w h (.slice A n c) v5 v6) (tmps : Array Value) (h4 : tmps[4]?=some (.pointer (some ⟨h,0,none⟩))) (h5 : tmps[5]?=some (.pointer (some ⟨h + 1,0,none⟩))) (h6 : tmps[6]?=some (.pointer (some ⟨h + 2,0,none⟩))) : (results Tryd.f22 tmps).run Tryd.prog w=.ok (.tuple #[.slice A n c,.int .i64 v5,.int .i64 v6]) w:=by
  have e4 : tmps.getD 4 undef=.pointer (some ⟨h,0,none⟩):=by simp [Array.getD_eq_getD_getElem?,h4]
  have e5 : tmps.getD 5 undef=.pointer (some ⟨h + 1,0,none⟩):=by simp [Array.getD_eq_getD_getElem?,h5]
  have e6 : tmps.getD 6 undef=.pointer (some ⟨h + 2,0,none⟩):=by simp [Array.getD_eq_getD_getElem?,h6]
  simp [results,Tryd.results22,go_sem,h4,h5,h6,e4,e5,e6,r.c4,r.c5,r.c6]
theorem take_panics {b ks : List Int} {w w3 : World} {A : Option Addr} {n c : Nat} {v5 v6 : Int} {x : Int} (act : Act) (hd : act.defers=dfr w.heap.size) (h4 : act.tmps[4]?=some (.pointer (some ⟨w.heap.size,0,none⟩))) (h5 : act.tmps[5]?=some (.pointer (some ⟨w.heap.size + 1,0,none⟩))) (h6 : act.tmps[6]?=some (.pointer (some ⟨w.heap.size + 2,0,none⟩)))
    (r : RS w3 w.heap.size (.slice A n c) v5 v6) (hB : Below w.heap.size w w3) (hres : takeR b ks=([],0,4)) : bodyPostD Tryd.prog Tryd.f22 (fun e w'=>TakePost b ks w e w') (.panic [{ v:=.iface 70 (.agg #[.int .i64 x]),recovered:=false }]) act w3:=by
  show Leaves _ _ _ _ _ _ _
  rw [hd]
  refine leaves_cons (f:=39) (args:=#[.pointer (some ⟨w.heap.size,0,none⟩),.pointer (some ⟨w.heap.size + 1,0,none⟩),.pointer (some ⟨w.heap.size + 2,0,none⟩)]) (by simp) (by simp [go_sem]) ?_
  refine (tk_catch w.heap.size x [] w3 _ _ _ r.c4 r.c5 r.c6 r.f4 r.f5 r.f6).mono ?_;rintro e u' w'' ⟨rfl,rfl,rfl⟩;have r5 : RS (caught w3 w.heap.size x) w.heap.size (.slice none 0 0) 0 4:=(((r.below (ba_ (Below.refl _ _) _)).s4 _).s5 _).s6 _
  have hb5 : Below w.heap.size w (caught w3 w.heap.size x):=(((ba_ hB _).setCell (p:=⟨w.heap.size,0,none⟩) (Nat.le_refl _) _).setCell (p:=⟨w.heap.size + 1,0,none⟩) (Nat.le_succ _) _).setCell (p:=⟨w.heap.size + 2,0,none⟩) (by simp only; omega) _
  simp only [settle]
  refine ⟨_,take_results r5 _ h4 h5 h6,.slice none 0 0,?_,?_,hb5⟩
  · rw [hres]
  · rw [hres]; exact GotO.nil _ _
theorem take_returns {b ks : List Int} {w w3 : World} {l : List It} {A : Option Addr} {c : Nat} {v5 v6 : Int} (act : Act) (hd : act.defers=dfr w.heap.size) (h4 : act.tmps[4]?=some (.pointer (some ⟨w.heap.size,0,none⟩))) (h5 : act.tmps[5]?=some (.pointer (some ⟨w.heap.size + 1,0,none⟩))) (h6 : act.tmps[6]?=some (.pointer (some ⟨w.heap.size + 2,0,none⟩)))
    (r : RS w3 w.heap.size (.slice A l.length c) v5 v6) (hB : Below w.heap.size w w3) (hG : Kd.R Kt 51 w3 w.heap.size (fun _=>True) (.slice A l.length c) l) (hl : ∀ a ∈ l,a.x<18446744073709551616) (hres : takeR b ks=(l,v5,v6)) : bodyPostD Tryd.prog Tryd.f22 (fun e w'=>TakePost b ks w e w') .ret act w3:=by
  show Leaves _ _ _ _ _ _ _
  rw [hd]
  refine leaves_cons (f:=39) (args:=#[.pointer (some ⟨w.heap.size,0,none⟩),.pointer (some ⟨w.heap.size + 1,0,none⟩),.pointer (some ⟨w.heap.size + 2,0,none⟩)]) (by simp) (by simp [go_sem]) ?_
  refine (tk_idle ⟨w.heap.size,0,none⟩ ⟨w.heap.size + 1,0,none⟩ ⟨w.heap.size + 2,0,none⟩ w3).mono ?_;rintro e u' w'' ⟨rfl,rfl,hb⟩
  simp only [settle]
  refine ⟨_,take_results (r.below hb) _ h4 h5 h6,.slice A l.length c,?_,?_,bp_ hB hb⟩
  · rw [hres]
  · rw [hres]; exact ⟨Kd.R_below hG hb,hl⟩
theorem leaves_tmps {P : Program} {fn : Func} {R : Ending→World→Prop} {t t' : Array Value} (ht : ∀ w,(results fn t).run P w=(results fn t').run P w) : ∀ (ds : List Deferred) (u : FrameMode) (w : World),Leaves P fn t R ds u w→Leaves P fn t' R ds u w:=by
  intro ds
  induction ds with
  | nil =>
    intro u w h
    cases u with
    | returning =>
      obtain ⟨v,h1,h2⟩:=h;exact ⟨v,(ht w) ▸ h1,h2⟩
    | panicking chain=>exact h
    | run=>exact h
  | cons d ds ih =>
    intro u w h;obtain ⟨hu,fv,cap,f,args,h1,h2,h3⟩:=h;refine ⟨hu,fv,cap,f,args,h1,h2,h3.mono ?_⟩;intro e u' w' hh
    cases e with
    | returned v=>exact ih _ _ hh
    | panicked chain=>exact ih _ _ hh
    | outgrown=>exact hh
theorem take_put {R : Ending→World→Prop} {d : Tmp} (hd : d≠4∧d≠5∧d≠6) {v : Value} {ch : List PanicEntry} {a : Act} {w : World} (h : bodyPostD Tryd.prog Tryd.f22 R (.panic ch) (a.put (some d) v) w) : bodyPostD Tryd.prog Tryd.f22 R (.panic ch) a w:=by
  refine leaves_tmps (t:=(a.put (some d) v).tmps) (t':=a.tmps) (fun w=>?_) _ _ _ h
  have e : ∀ j,j≠d→(a.put (some d) v).tmps.getD j undef=a.tmps.getD j undef:=by
    intro j hj
    simp [Act.put,Array.getD_eq_getD_getElem?,Array.getElem?_setIfInBounds,Ne.symm hj]
  have e2 : ∀ j : Nat,j≠d→(a.tmps.setIfInBounds d v)[j]?=a.tmps[j]?:=by
    intro j hj;rw [Array.getElem?_setIfInBounds,if_neg (Ne.symm hj)]
  simp [results,Tryd.results22,go_sem,e 4 (Ne.symm hd.1),e 5 (Ne.symm hd.2.1),e 6 (Ne.symm hd.2.2),e2 4 (Ne.symm hd.1),e2 5 (Ne.symm hd.2.1),e2 6 (Ne.symm hd.2.2)]
def Take12.T : Bool × List (List Nat × List Nat):=(true,[([],[]),([],[]),([],[]),([1,2],[1,2]),([3],[3]),([0,4,3],[0,4]),([5,5,0,1,2,3,4,5],[5])])
def Take12.B : List Nat:=[0,0,0,6,14,31,63]
theorem Take12.tab : rtab .any (opsOf Tryd.f22 12)=Take12.T:=by kernel_rfl
theorem Take12.bits : waitsOk Take12.T.2 Take12.B=true:=by kernel_rfl
def Take14.T : Bool × List (List Nat × List Nat):=(true,[([],[]),([],[]),([1],[1]),([2],[2]),([3],[3]),([0,0],[0]),([4,5,0,1,2,3,4,5],[4]),([6,0,1,2,3,4,5,6],[])])
def Take14.B : List Nat:=[0,0,2,6,14,1,63,127]
theorem Take14.tab : rtab .any (opsOf Tryd.f22 14)=Take14.T:=by kernel_rfl
theorem Take14.bits : waitsOk Take14.T.2 Take14.B=true:=by kernel_rfl
set_option maxRecDepth 100000 in
set_option maxHeartbeats 2000000 in
theorem Take_any (B : Option Addr) (c : Nat) (b : List Int) (K : Option Addr) (d : Nat) (ks : List Int) (w : World) (hr : RdB w B b) (hby : Bytes b) (hb : b.length≤1000000) (hc : b.length≤c) (hk : Kd.C (Kd.int .i64) w K ks.length ks) (hkl : ks.length≤1000000) :
    Calls Tryd.prog 22 #[.slice B b.length c,.slice K ks.length d] w fun e w'=>TakePost b ks w e w':=by
  have hmf : ∀ (fn : Fn) (first cap : Array Value) (w : World),(Instr.makeFunc fn first cap).run Tryd.prog w=.ok (.func fn first cap) w:=fun _ _ _ _=>rfl
  have HR:=Lib.hid hr;have HK:=Lib.hid hk;have HBy:=Lib.hid hby;clear hr hk hby;go_enter_defers Tryd.func22,Tryd.ntmps22;go_wp2
  rw [show w.heap.size + 1 + 1=w.heap.size + 2 from rfl]
  have HS:=Lib.hid (RS.first w);have HB : Hid (Below w.heap.size w (rw3 w)):=Lib.hid (ba_ (ba_ (ba_ (Below.refl _ _) _) _) _)
  have hsz0 : (rw3 w).heap.size=w.heap.size + 3:=by simp only [rw3,sz_alloc]
  have HSZ0:=Lib.hid hsz0;clear hsz0
  generalize hw0 : rw3 w=w0 at HS HB HSZ0
  simp only [rw3] at hw0
  rw [hw0];clear hw0
  go_loopg [8,14] ks.length (fun kk v8 v14 wq=>∃ i : Nat,i≤ks.length∧kk=ks.length - i∧v14=.int .i64 (i : Int)∧Hid (∀ (j : Nat) (x : Int),j<i→ks[j]?=some x→1≤x∧x≤5)∧wq=w0)
  case atStart=>exact ⟨0,Nat.zero_le _,rfl,rfl,Lib.hid (fun j x h=>absurd h (Nat.not_lt_zero _)),rfl⟩
  case round =>
    obtain ⟨i,hi,rfl,rfl,HO,rfl⟩:=hrel;have i0 : (0 : Int)≤(i : Int):=Int.natCast_nonneg _
    by_cases hlt : i<ks.length
    · have hd : decide (i<ks.length)=true:=dt_ hlt
      have i1 : (i : Int)<(ks.length : Int):=by omega
      obtain ⟨k,hk⟩ : ∃ k,ks[i]?=some k:=⟨_,List.getElem?_eq_getElem hlt⟩
      obtain ⟨ad,rfl,y⟩:=Dsg.RdI_at' (Kd.C_below HK.out HB.out) hk;have HKI:=Lib.hid hk
      by_cases hok : 1≤k∧k≤5
      · have e1 : decide (k<1)=false:=df_ (by omega)
        have e2 : decide ((5 : Int)<k)=false:=df_ (by omega)
        clear hk;go_wp2;go_roundg (ks.length - (i + 1))
        case measure=>omega
        case rel =>
          refine ⟨i + 1,by omega,rfl,by go_num,Lib.hid (fun j x hj hx=>?_),rfl⟩
          by_cases e : j=i
          · rw [e,HKI.out] at hx
            injection hx with hx
            rw [← hx];exact hok
          · exact HO.out j x (by omega) hx
      · have hbad : Hid (takeR b ks=([],0,1)):=Lib.hid (by
          unfold takeR kindsOk
          rw [if_neg];rw [List.all_eq_true];intro h;have:=h k (List.mem_of_getElem? hk)
          simp at this
          omega)
        have hcs : decide (k<1)=true∨(decide (k<1)=false∧decide ((5 : Int)<k)=true):=by
          by_cases h : k<1
          · exact .inl (dt_ h)
          · exact .inr ⟨df_ h,dt_ (by omega)⟩
        obtain ⟨c4,c5,c6,f4,f5,f6⟩:=HS.out;clear hk hok;have HS2:=Lib.hid (((HS.out.s4 (.slice none 0 0)).s5 0).s6 1)
        have HB2:=Lib.hid (((HB.out.setCell (p:=⟨w.heap.size,0,none⟩) (Nat.le_refl _) (.slice none 0 0)).setCell (p:=⟨w.heap.size + 1,0,none⟩) (Nat.le_succ _) (.int .i64 0)).setCell (p:=⟨w.heap.size + 2,0,none⟩) (by simp only; omega) (.int .i64 1))
        rcases hcs with e1 | ⟨e1,e2⟩
        all_goals go_wp2
        all_goals generalize ((wr.setCell _ _).setCell _ _).setCell _ _=w5 at HS2 HB2 ⊢
        all_goals refine ⟨_,take_results HS2.out _ rfl rfl rfl,.slice none 0 0,?_,?_,HB2.out⟩
        all_goals rw [hbad.out]
        all_goals exact GotO.nil _ _
    · have hd : decide (i<ks.length)=false:=df_ hlt
      obtain rfl : i=ks.length:=by omega
      clear hlt hd i0;have HRB:=Lib.hid (RdB_belowB HR.out HB.out (RdB.lt HR.out));have HTK:=Lib.hid (TK.first HRB.out hc);have HFAR:=Lib.hid (RdB.lt HR.out);have HS1:=Lib.hid (HS.out.below (ba_ (Below.refl _ _) (.cells #[.slice B b.length c,.int .i64 0] 74)));have HB1 : Hid (Below w.heap.size w (wr.alloc (.cells #[.slice B b.length c,.int .i64 0] 74))):=Lib.hid (ba_ HB.out _);have HSZ1:=Lib.hid (sz_alloc wr (.cells #[.slice B b.length c,.int .i64 0] 74));go_wp2;have hsz1:=HSZ1.out;clear HSZ1
      generalize wr.alloc (.cells #[.slice B b.length c,.int .i64 0] 74)=w1 at HTK HS1 HB1 hsz1 ⊢
      have hg3 : w.heap.size + 3≤wr.heap.size:=by have:=HSZ0.out; omega
      clear HSZ0
      generalize wr.heap.size=g at *
      have hsz1' : g + 1≤w1.heap.size:=by omega
      clear hsz1
      have HROW : Hid (Kd.R Kt 51 w1 (g + 1) (fun _=>True) (.slice none 0 0) []):=Lib.hid (Kd.R_nil _ _ _ _ _)
      have HKO : Hid (kindsOk ks=true):=Lib.hid (by
        unfold kindsOk
        rw [List.all_eq_true];intro x hx;obtain ⟨j,hj⟩:=List.mem_iff_getElem?.1 hx;have:=HO.out j x (List.getElem?_eq_some_iff.1 hj).1 hj
        simp
        omega)
      have HSZ : Hid (g + 1≤w1.heap.size):=Lib.hid hsz1';clear HS HB HRB;have HKW:=Lib.hid (Kd.C_below HK.out HB1.out)
      go_loopg [11,31] ks.length (fun kk v11 v31 wq=>∃ (i : Nat) (vl : Value) (l : List It) (p : Nat),i≤ks.length∧kk=ks.length - i∧v31=.int .i64 (i : Int)∧Hid (Took b ks i l p)∧Hid (RS wq w.heap.size vl 0 0)∧Hid (TK wq g B c b p)∧Hid (Kd.R Kt 51 wq (g + 1) (fun _=>True) vl l)∧Hid (Below w.heap.size w wq)∧Hid (g + 1≤wq.heap.size))
      case atStart=>exact ⟨0,_,[],0,Nat.zero_le _,rfl,rfl,Lib.hid (Took.first b ks),HS1,HTK,HROW,HB1,HSZ⟩
      case round =>
        clear HS1 HTK HROW HB1 HKW hsz1' HSZ;obtain ⟨i,vl,l,p,hi,rfl,rfl,HTO,HS,HT,HROW,HB,HSZ⟩:=hrel;have i0 : (0 : Int)≤(i : Int):=Int.natCast_nonneg _
        by_cases hlt : i<ks.length
        · have hd : decide (i<ks.length)=true:=dt_ hlt
          have i1 : (i : Int)<(ks.length : Int):=by omega
          obtain ⟨k,hk⟩ : ∃ k,ks[i]?=some k:=⟨_,List.getElem?_eq_getElem hlt⟩
          obtain ⟨ad,rfl,y⟩:=Dsg.RdI_at' (Kd.C_below HK.out HB.out) hk;have hok:=HO.out i k hlt hk;have HKI:=Lib.hid hk;clear hk;obtain ⟨A0,cl,rfl,hcl,_⟩:=Kd.R_reads HROW.out;have HRB:=Lib.hid (Kd.R_base HROW.out);have HLEN : Hid (l.length=i):=Lib.hid HTO.out.1;have hpb:=HTO.out.2.2.1
          have HPN : Hid (item1 b p k=none→takeR b ks=([],0,4)):=Lib.hid (fun h=>by
            unfold takeR
            rw [if_pos HKO.out,HTO.out.stop HKI.out h])
          go_wp2;clear y;have HBo:=Lib.hid (be_ (Below.refl wr.heap.size wr))
          have HSx : Hid (∀ wx,Below wr.heap.size wr wx→wx.cell? ⟨w.heap.size,0,none⟩=some (.slice A0 l.length cl)):=Lib.hid (fun wx h=>(HS.out.below h).c4)
          refine start_ (n:=7) (S:=fun wx=>wx.cell? ⟨w.heap.size,0,none⟩=some (.slice A0 l.length cl)) (ds:=[6]) #[false,false,false,false,false,false,false] (by kernel_rfl) rfl rfl (HSx.out _ HBo.out) (fun hHeld=>?_)
          refine with_tabW Take12.tab Take12.bits (fun HT_ HW_=>?_)
          generalize wr.drew=wD at HBo hHeld ⊢
          refine take_ (i:=0) (N:=(some 35)) (v:=?_) (a':=?_) #[true,false,false,false,false,false,false] rfl rfl (take_ofW HT_.out HW_.out (by kernel_rfl)) (fun _ _ _ h=>take_put (by decide) h) (Or.inl ⟨by rfl,?_⟩) hHeld ?_ ?_;rotate_left;(rintro w' s0;go_simp;with_reducible rfl);rotate_left;(simp only [Act.put,u1_,u2_,u3_,i64_w,i32_w];rfl)
          refine pure_ (i:=1) (N:=(some 36)) (v:=?_) (a':=?_) #[true,true,false,false,false,false,false] rfl rfl (any_of HT_.out (by kernel_rfl)) (fun _ _ _ h=>take_put (by decide) h) (Or.inl ⟨by rfl,?_⟩) ?_ ?_;rotate_left;(intro w';go_simp;with_reducible rfl);rotate_left;(simp only [Act.put,u1_,u2_,u3_,i64_w,i32_w];rfl)
          refine pure_ (i:=2) (N:=(some 37)) (v:=?_) (a':=?_) #[true,true,true,false,false,false,false] rfl rfl (any_of HT_.out (by kernel_rfl)) (fun _ _ _ h=>take_put (by decide) h) (Or.inl ⟨by rfl,?_⟩) ?_ ?_;rotate_left;(intro w';go_simp;with_reducible rfl);rotate_left;(simp only [Act.put,u1_,u2_,u3_,i64_w,i32_w];rfl)
          refine one_ (i:=3) (N:=(some 38)) #[true,true,true,true,false,false,false] rfl rfl (one_of HT_.out (by kernel_rfl)) (by decide) (fun K hK=>?_)
          have HT1:=Lib.hid (HT.out.below HBo.out);have HS1:=Lib.hid (HS.out.below HBo.out);have HB1:=Lib.hid (bp_ HB.out HBo.out);have HR1:=Lib.hid (Kd.R_below HROW.out HBo.out);have HZ1:=Lib.hid (Nat.le_trans HSZ.out (bz_ HBo.out))
          refine goesP_ Tryd.func40 (by kernel_rfl) rfl #[.pointer (some ⟨g,0,none⟩),.int .i64 k] (by rfl) rfl rfl (by (try simp only [List.map_toArray,List.map_cons,List.map_nil]); first|done|rfl) ?_
          refine (tk_item _ g B c b p k HT1.out HBy.out hb hpb hok).mono ?_;rintro e w3 ⟨hg,hpost⟩
          have HS3:=Lib.hid (HS1.out.grown hg (by omega))
          have HB3:=Lib.hid (below_grown' HB1.out hg (by have:=HZ1.out; omega) (by omega))
          have HR3:=Lib.hid (Kd.R_grown2 HR1.out rfl hg (fun k2 hk2 he=>by injection hk2 with hk2; have:=HRB.out k2 he.symm; omega))
          have HZ3:=Lib.hid (Nat.le_trans HZ1.out hg.size);clear hg
          rcases hpost with ⟨a,q,hi1,hT,rfl⟩ | ⟨hi1,pv,rfl⟩
          rotate_left;exact .inr ⟨_,rfl,take_panics _ rfl rfl rfl rfl HS3.out HB3.out (HPN.out hi1)⟩;refine .inl ⟨_,rfl,?_⟩;have HT3:=Lib.hid hT;have HTO3:=Lib.hid (HTO.out.step HBy.out HKI.out hi1);clear hT hi1
          refine hK.out _ _ (HS3.out.c4) (fun hHeld=>?_)
          clear hK K
          refine norm_ (a':=?_) ?_ ?_;rotate_left;(show Act.put _ (some 38) _=_;simp only [Act.put,u1_,u2_,u3_,i64_w,i32_w];rfl)
          refine one_ (i:=4) (N:=(some 39)) #[true,true,true,true,true,false,false] rfl rfl (one_of HT_.out (by kernel_rfl)) (by decide) (fun K hK=>?_)
          refine value_ (w1:=?_) (v:=?_) (by rfl) rfl ?_ ?_
          rotate_left 2
          · go_simp
            constructor
            · rfl
            · rfl
          refine hK.out _ _ ((HS3.out.below (ba_ (Below.refl _ _) _)).c4) (fun hHeld=>?_)
          clear hK K
          refine norm_ (a':=?_) ?_ ?_;rotate_left;(show Act.put _ (some 39) _=_;simp only [Act.put,u1_,u2_,u3_,i64_w,i32_w];rfl)
          refine one_ (i:=5) (N:=(some 40)) #[true,true,true,true,true,true,false] rfl rfl (one_of HT_.out (by kernel_rfl)) (by decide) (fun K hK=>?_)
          refine Kd.R_append_step Kt (w0:=w3) (g + 1) (by rfl) (.tmp 35) (.tmp 39) 45 51 (.agg #[.int .i64 0,.int .i64 0,.float .f64 0,.string ⟨#[]⟩]) 40 (by rfl) Tryd.underlying45 infoIt rfl (by decide) (by omega) (.slice A0 l.length cl) l a a.cs (fun _=>True) (fun _=>False) (by rfl) (by rfl) rfl (fun _ h=>h.elim) (fun _ _=>trivial) HR3.out (Below.refl _ _) HZ3.out (by have:=HLEN.out; omega) ?_
          intro v40 w40 ho hb4 hgr hat;obtain ⟨A4,c4,rfl,hc4,_⟩:=Kd.R_reads ho;have HO40:=Lib.hid ho
          have HS40:=Lib.hid (HS3.out.belowB hb4 (by omega))
          have HT40:=Lib.hid (HT3.out.belowB hb4 (by omega) (fun ad e h0=>by have:=HFAR.out ad e h0; omega))
          have HB40:=Lib.hid (HB3.out.trans ⟨hb4.os,hb4.tape,hb4.output,hb4.size,fun k2 hk2=>hb4.block k2 (by omega)⟩)
          have HZ40:=Lib.hid (Nat.le_trans HZ3.out hb4.size);clear ho hb4 hgr hat
          refine hK.out _ _ (HS40.out.c4) (fun hHeld=>?_)
          clear hK K
          refine norm_ (a':=?_) ?_ ?_;rotate_left;(show Act.put _ (some 40) _=_;simp only [Act.put,u1_,u2_,u3_,i64_w,i32_w];rfl)
          refine last_ (i:=6) (N:=none) #[true,true,true,true,true,true,true] rfl rfl (one_of HT_.out (by kernel_rfl)) (by decide) (fun K hK=>?_)
          have c40:=HS40.out.c4;have f40:=HS40.out.f4
          refine skip_ (w1:=w40.setCell ⟨w.heap.size,0,none⟩ (.slice A4 (l++[a]).length c4)) (by rfl) (by rfl) ?_ ?_
          (go_simp; try rfl);refine hK.out _ _ ?_;clear hK K;refine done_ (done_of HT_.out (by kernel_rfl)) ?_;have HS5:=Lib.hid (HS40.out.s4 (.slice A4 (l++[a]).length c4))
          have HT5:=Lib.hid (HT40.out.other (h:=w.heap.size) (by omega) (fun ad e h0=>Nat.ne_of_lt (HFAR.out ad e h0)) 0 (.slice A4 (l++[a]).length c4))
          have HR5:=Lib.hid (Kd.R_grown2 HO40.out rfl (grown_set w40 w.heap.size 0 (.slice A4 (l++[a]).length c4)) (fun k2 hk2 he=>by injection hk2 with hk2; have:=Kd.R_base HO40.out k2 he.symm; omega))
          have HB5:=Lib.hid (HB40.out.setCell (p:=⟨w.heap.size,0,none⟩) (Nat.le_refl _) (.slice A4 (l++[a]).length c4))
          have HZ5 : Hid (g + 1≤(w40.setCell ⟨w.heap.size,0,none⟩ (.slice A4 (l++[a]).length c4)).heap.size):=Lib.hid (by rw [World.size_setCell]; exact HZ40.out)
          simp only [List.length_append,List.length_singleton] at HS5 HT5 HR5 HB5 HZ5
          go_wp2;go_roundg (ks.length - (i + 1))
          case measure=>omega
          case rel=>exact ⟨i + 1,_,l++[a],q,by omega,rfl,by go_num,HTO3,HS5,HT5,HR5,HB5,HZ5⟩
        · have hd : decide (i<ks.length)=false:=df_ hlt
          obtain rfl : i=ks.length:=by omega
          obtain ⟨A0,cl,rfl,hcl,_⟩:=Kd.R_reads HROW.out
          have hres : Hid (takeR b ks=(l,(p : Int),0)):=Lib.hid (by
            unfold takeR
            rw [if_pos HKO.out,HTO.out.last])
          go_wp2;have HBo:=Lib.hid (be_ (Below.refl wr.heap.size wr))
          have HSx : Hid (∀ wx,Below wr.heap.size wr wx→wx.cell? ⟨w.heap.size,0,none⟩=some (.slice A0 l.length cl)∧wx.cell? ⟨g,1,none⟩=some (.int .i64 (p : Int))):=Lib.hid (fun wx h=>⟨(HS.out.below h).c4,(HT.out.below h).c1⟩)
          refine start_ (n:=8) (S:=fun wx=>wx.cell? ⟨w.heap.size,0,none⟩=some (.slice A0 l.length cl)∧wx.cell? ⟨g,1,none⟩=some (.int .i64 (p : Int))) (ds:=[6,7]) #[false,false,false,false,false,false,false,false] (by kernel_rfl) rfl rfl (HSx.out _ HBo.out) (fun hHeld=>?_)
          refine with_tabW Take14.tab Take14.bits (fun HT_ HW_=>?_)
          generalize wr.drew=wD at HBo hHeld ⊢
          refine take_ (i:=0) (N:=(some 42)) (v:=?_) (a':=?_) #[true,false,false,false,false,false,false,false] rfl rfl (take_ofW HT_.out HW_.out (by kernel_rfl)) (fun _ _ _ h=>take_put (by decide) h) (Or.inl ⟨by rfl,?_⟩) hHeld ?_ ?_;rotate_left;(rintro w' ⟨s0,s1⟩;go_simp;with_reducible rfl);rotate_left;(simp only [Act.put,u1_,u2_,u3_,i64_w,i32_w];rfl)
          refine pure_ (i:=1) (N:=(some 43)) (v:=?_) (a':=?_) #[true,true,false,false,false,false,false,false] rfl rfl (any_of HT_.out (by kernel_rfl)) (fun _ _ _ h=>take_put (by decide) h) (Or.inl ⟨by rfl,?_⟩) ?_ ?_;rotate_left;(intro w';go_simp;with_reducible rfl);rotate_left;(simp only [Act.put,u1_,u2_,u3_,i64_w,i32_w];rfl)
          refine pure_ (i:=2) (N:=(some 44)) (v:=?_) (a':=?_) #[true,true,true,false,false,false,false,false] rfl rfl (any_of HT_.out (by kernel_rfl)) (fun _ _ _ h=>take_put (by decide) h) (Or.inl ⟨by rfl,?_⟩) ?_ ?_;rotate_left;(intro w';go_simp;with_reducible rfl);rotate_left;(simp only [Act.put,u1_,u2_,u3_,i64_w,i32_w];rfl)
          refine pure_ (i:=3) (N:=(some 45)) (v:=?_) (a':=?_) #[true,true,true,true,false,false,false,false] rfl rfl (any_of HT_.out (by kernel_rfl)) (fun _ _ _ h=>take_put (by decide) h) (Or.inl ⟨by rfl,?_⟩) ?_ ?_;rotate_left;(intro w';go_simp;with_reducible rfl);rotate_left;(simp only [Act.put,u1_,u2_,u3_,i64_w,i32_w];rfl)
          refine take_ (i:=4) (N:=(some 46)) (v:=?_) (a':=?_) #[true,true,true,true,true,false,false,false] rfl rfl (take_ofW HT_.out HW_.out (by kernel_rfl)) (fun _ _ _ h=>take_put (by decide) h) (Or.inl ⟨by rfl,?_⟩) hHeld ?_ ?_;rotate_left;(rintro w' ⟨s0,s1⟩;go_simp;with_reducible rfl);rotate_left;(simp only [Act.put,u1_,u2_,u3_,i64_w,i32_w];rfl)
          refine one_ (i:=5) (N:=none) #[true,true,true,true,true,true,false,false] rfl rfl (one_of HT_.out (by kernel_rfl)) (by decide) (fun K hK=>?_)
          have HS1:=Lib.hid (HS.out.below HBo.out);have HB1:=Lib.hid (bp_ HB.out HBo.out);have HR1:=Lib.hid (Kd.R_below HROW.out HBo.out);have c4:=HS1.out.c4;have f4:=HS1.out.f4
          refine skip_ (w1:=wD.setCell ⟨w.heap.size,0,none⟩ (.slice A0 l.length cl)) (by rfl) (by rfl) ?_ ?_
          (go_simp; try rfl);clear c4 f4;have HS2:=Lib.hid (HS1.out.s4 (.slice A0 l.length cl));have HB2:=Lib.hid (HB1.out.setCell (p:=⟨w.heap.size,0,none⟩) (Nat.le_refl _) (.slice A0 l.length cl))
          have HT2:=Lib.hid ((HT.out.below HBo.out).other (h:=w.heap.size) (by omega) (fun ad e h0=>Nat.ne_of_lt (HFAR.out ad e h0)) 0 (.slice A0 l.length cl))
          have HR2:=Lib.hid (Kd.R_grown2 HR1.out rfl (grown_set wD w.heap.size 0 (.slice A0 l.length cl)) (fun k2 hk2 he=>by injection hk2 with hk2; have:=Kd.R_base HR1.out k2 he.symm; omega))
          generalize wD.setCell ⟨w.heap.size,0,none⟩ (.slice A0 l.length cl)=wE at HS2 HB2 HR2 HT2 ⊢
          refine hK.out _ _ (⟨HS2.out.c4,HT2.out.c1⟩) (fun hHeld=>?_)
          clear hK K
          refine last_ (i:=6) (N:=none) #[true,true,true,true,true,true,true,false] rfl rfl (one_of HT_.out (by kernel_rfl)) (by decide) (fun K hK=>?_)
          have c5:=HS2.out.c5;have f5:=HS2.out.f5
          refine skip_ (w1:=wE.setCell ⟨w.heap.size + 1,0,none⟩ (.int .i64 (p : Int))) (by rfl) (by rfl) ?_ ?_
          (go_simp; try rfl);clear c5 f5;have HS3:=Lib.hid (HS2.out.s5 (p : Int));have HB3:=Lib.hid (HB2.out.setCell (p:=⟨w.heap.size + 1,0,none⟩) (Nat.le_succ _) (.int .i64 (p : Int)))
          have HR3:=Lib.hid (Kd.R_grown2 HR2.out rfl (grown_set wE (w.heap.size + 1) 0 (.int .i64 (p : Int))) (fun k2 hk2 he=>by injection hk2 with hk2; have:=Kd.R_base HR2.out k2 he.symm; omega))
          generalize wE.setCell ⟨w.heap.size + 1,0,none⟩ (.int .i64 (p : Int))=wF at HS3 HB3 HR3 ⊢
          refine hK.out _ _ ?_;clear hK K
          refine last_ (i:=7) (N:=none) #[true,true,true,true,true,true,true,true] rfl rfl (one_of HT_.out (by kernel_rfl)) (by decide) (fun K hK=>?_)
          have c6:=HS3.out.c6;have f6:=HS3.out.f6
          refine skip_ (w1:=wF.setCell ⟨w.heap.size + 2,0,none⟩ (.int .i64 0)) (by rfl) (by rfl) ?_ ?_
          (go_simp; try rfl);clear c6 f6;have HS4:=Lib.hid (HS3.out.s6 0)
          have HB4:=Lib.hid (HB3.out.setCell (p:=⟨w.heap.size + 2,0,none⟩) (by simp only; omega) (.int .i64 0))
          have HR4:=Lib.hid (Kd.R_grown2 HR3.out rfl (grown_set wF (w.heap.size + 2) 0 (.int .i64 0)) (fun k2 hk2 he=>by injection hk2 with hk2; have:=Kd.R_base HR3.out k2 he.symm; omega))
          generalize wF.setCell ⟨w.heap.size + 2,0,none⟩ (.int .i64 0)=wG at HS4 HB4 HR4 ⊢
          refine hK.out _ _ ?_;clear hK K;refine done_ (done_of HT_.out (by kernel_rfl)) ?_;go_wp2
          exact take_returns _ rfl rfl rfl rfl HS4.out HB4.out (Kd.R_lower HR4.out (show w.heap.size≤g + 1 by omega)) HTO.out.2.1 hres.out
end Go.Proofs.YtbmcbhpkefjhbaaDoor.Pac
namespace Go.Proofs.YtbmcbhpkefjhbaaDoor.Pac
open Go.RowKit YtbmcbhpkefjhbaaDoor YtbmcbhpkefjhbaaDoor.Mem YtbmcbhpkefjhbaaDoorW.PrintWords YtbmcbhpkefjhbaaDoorW.PrintLast YtbmcbhpkefjhbaaDoorW.PrintMore
theorem bigs_bytes (u : Int) : ∀ n,Bytes (bigs u n):=by
  intro n
  induction n with
  | zero=>intro x hx; cases hx
  | succ n ih =>
    intro x hx
    rcases List.mem_cons.1 hx with rfl|h
    · omega
    · exact ih x h
theorem bytesOf_bytes (s : ByteArray) : Bytes (bytesOf s):=by
  intro x hx
  unfold bytesOf at hx
  obtain ⟨y,_,rfl⟩:=List.mem_map.1 hx;have:=y.toNat_lt;omega
theorem str_bytesOf (s : ByteArray) : strOfNums (bytesOf s)=s:=by
  obtain ⟨d⟩:=s;obtain ⟨d⟩:=d
  unfold strOfNums bytesOf
  have e : ((fun n : Int=>UInt8.ofNat n.toNat) ∘ fun b : UInt8=>((b.toNat : Nat) : Int))=id:=by
    funext b
    simp
  simp [e]
theorem foldl_bigs (u : Int) : ∀ (n : Nat) (acc : Int),(bigs u n).foldl (fun u c=>u * 256 + c) acc=acc * 256 ^ n + u % 256 ^ n:=by
  intro n
  induction n with
  | zero=>intro acc; simp [bigs,Int.emod_one]
  | succ n ih =>
    intro acc
    show (bigs u n).foldl _ (acc * 256 + u / 2 ^ (8 * n) % 256)=_
    rw [ih]
    have e : (2 : Int) ^ (8 * n)=256 ^ n:=by rw [Int.pow_mul]; rfl
    rw [e,Int.pow_succ]
    generalize hm : (256 : Int) ^ n=m
    have hm0 : 0<m:=by rw [← hm]; exact Int.pow_pos (by decide)
    have h1 : u % (m * 256)=m * (u / m % 256) + u % m:=by
      have a1:=Int.emod_add_mul_ediv u m;have a2:=Int.emod_add_mul_ediv (u / m) 256
      have a3:=Int.emod_nonneg u (show m≠0 by omega)
      have a4:=Int.emod_lt_of_pos u hm0
      have a5:=Int.emod_nonneg (u / m) (show (256 : Int)≠0 by decide)
      have a6:=Int.emod_lt_of_pos (u / m) (show (0 : Int)<256 by decide)
      have a7 : m * (u / m % 256)≤m * 255:=Int.mul_le_mul_of_nonneg_left (by omega) (by omega)
      have a8 : 0≤m * (u / m % 256):=Int.mul_nonneg (by omega) a5
      have a9 : u=m * (u / m % 256) + u % m + m * 256 * (u / m / 256):=by
        have : m * (u / m)=m * (u / m % 256) + m * 256 * (u / m / 256):=by
          rw [Int.mul_assoc,← Int.mul_add,a2]
        omega
      have b1 : u % (m * 256)=(m * (u / m % 256) + u % m + m * 256 * (u / m / 256)) % (m * 256):=congrArg (· % (m * 256)) a9
      rw [b1,Int.add_mul_emod_self_left,Int.emod_eq_of_lt (by omega) (by omega)]
    rw [h1,Int.add_mul,Int.mul_assoc,Int.mul_comm 256 m,Int.mul_comm (u / m % 256) m];omega
theorem num_bigs (u : Int) (n : Nat) (h0 : 0≤u) (h1 : u<256 ^ n) : num (bigs u n)=u:=by
  unfold num
  rw [foldl_bigs,Int.emod_eq_of_lt h0 h1];omega
def norm (a : It) : It:=⟨a.k,a.n,Flt.val a.x,a.s⟩
theorem val0 : Flt.val 0=0:=by kernel_rfl
theorem sz0 {s : ByteArray} (h : s.toList.isEmpty=true) : s=⟨#[]⟩:=by
  have h1 : s.toList=[]:=by simpa using h
  have h2:=str_bytesOf s
  have h3 : bytesOf s=[]:=by
    unfold bytesOf
    have : s.data.toList=s.toList:=by rw [Go.Lib.toList_data]
    rw [this,h1]; rfl
  rw [h3] at h2;rw [← h2]; rfl
theorem take_app {α : Type} (x y : List α) (n : Nat) (h : x.length=n) : (x++y).take n=x:=by rw [← h,List.take_left]
theorem item1_one {a : It} (hm : may a=true) (hx : a.x<18446744073709551616) (pre suf : List Int) : item1 (pre++one a++suf) pre.length a.k=some (norm a,pre.length + (one a).length):=by
  have hd : (pre++one a++suf).drop pre.length=one a++suf:=by rw [List.append_assoc,List.drop_left]
  have hl : (pre++one a++suf).length=pre.length + (one a).length + suf.length:=by rw [List.length_append,List.length_append]
  have hk:=may_kind hm;obtain ⟨k,n,x,s⟩:=a
  simp only at hk hx
  have hcs : k=1∨k=2∨k=3∨k=4∨k=5:=by omega
  have ints : ∀ (m : Nat),(k=1∨k=2∨k=3)→wid k=(m : Int)→one ⟨k,n,x,s⟩=bigs n m→0≤n→n<256 ^ m→x=0→s.toList.isEmpty=true→item1 (pre++one ⟨k,n,x,s⟩++suf) pre.length k=some (norm ⟨k,n,x,s⟩,pre.length + (one ⟨k,n,x,s⟩).length):=by
    intro m hk3 hw ho h0 h1 hx0 hs;have hs':=sz0 hs;subst hs';subst hx0
    have hon : (one ⟨k,n,0,⟨#[]⟩⟩).length=m:=by rw [ho,bigs_length]
    unfold item1
    rw [if_neg (by omega),if_neg (by omega),hw,Int.toNat_natCast,hd,take_app _ _ _ hon,ho,num_bigs n m h0 h1,if_pos ⟨by rw [← ho,hl]; omega,hm⟩,bigs_length]
    unfold norm
    rw [val0]
  rcases hcs with rfl|rfl|rfl|rfl|rfl
  · rw [may_1] at hm
    simp only [Bool.and_eq_true,decide_eq_true_eq,beq_iff_eq] at hm
    exact ints 1 (by omega) rfl rfl (by omega) (by rw [show (256 : Int) ^ 1=256 by decide]; omega) (by omega) hm.2
  · rw [may_2] at hm
    simp only [Bool.and_eq_true,decide_eq_true_eq,beq_iff_eq] at hm
    exact ints 2 (by omega) rfl rfl (by omega) (by rw [show (256 : Int) ^ 2=65536 by decide]; omega) (by omega) hm.2
  · rw [may_3] at hm
    simp only [Bool.and_eq_true,decide_eq_true_eq,beq_iff_eq] at hm
    exact ints 4 (by omega) rfl rfl (by omega) (by rw [show (256 : Int) ^ 4=4294967296 by decide]; omega) (by omega) hm.2
  · rw [may_4] at hm
    simp only [Bool.and_eq_true,beq_iff_eq] at hm
    obtain ⟨rfl,hs⟩:=hm;have hs':=sz0 hs;subst hs';have ho : one ⟨4,0,x,⟨#[]⟩⟩=bigs (Flt.val x : Int) 8:=rfl
    have hon : (one ⟨4,0,x,⟨#[]⟩⟩).length=8:=by rw [ho,bigs_length]
    have hv:=val_bd hx
    unfold item1
    rw [if_pos rfl,hd,take_app _ _ _ hon,ho,num_bigs _ 8 (Int.natCast_nonneg _) (by rw [show (256 : Int) ^ 8=18446744073709551616 by decide]; omega),Int.toNat_natCast,if_pos ⟨by rw [← ho,hl]; omega,Flt.val_val x⟩,bigs_length]
    rfl
  · rw [may_5] at hm
    simp only [Bool.and_eq_true,decide_eq_true_eq,beq_iff_eq] at hm
    obtain ⟨⟨rfl,hx0⟩,hs⟩:=hm
    obtain rfl : x=0:=by omega
    have ho : one ⟨5,0,0,s⟩=(s.size : Int) :: bytesOf s:=rfl
    have hon : (one ⟨5,0,0,s⟩).length=1 + s.size:=by rw [ho,List.length_cons,bytesOf_length]; omega
    have h1 : ((pre++one ⟨5,0,0,s⟩++suf).drop pre.length).take 1=[(s.size : Int)]:=by rw [hd,ho]; rfl
    have h2 : (pre++one ⟨5,0,0,s⟩++suf).drop (pre.length + 1)=bytesOf s++suf:=by rw [← List.drop_drop,hd,ho]; rfl
    have h3 : num [(s.size : Int)]=(s.size : Int):=by simp [num]
    unfold item1
    rw [if_neg (show ¬ ((5 : Int)=4) by decide),if_pos rfl,h1,h3,Int.toNat_natCast,h2,take_app _ _ _ (bytesOf_length s),str_bytesOf,if_pos ⟨by rw [hl]; omega,by rw [hl]; omega⟩,hon]
    unfold norm
    rw [val0,Nat.add_assoc]
theorem takes_ones : ∀ (l : List It),(∀ a ∈ l,may a=true)→(∀ a ∈ l,a.x<18446744073709551616)→∀ (pre suf : List Int),takes (pre++ones l++suf) pre.length (l.map (·.k))=some (l.map norm,pre.length + (ones l).length):=by
  intro l
  induction l with
  | nil=>intro _ _ pre suf; simp [takes,ones]
  | cons a l ih =>
    intro hm hx pre suf;have h1:=item1_one (hm a List.mem_cons_self) (hx a List.mem_cons_self) pre (ones l++suf)
    have h2:=ih (fun b hb=>hm b (List.mem_cons_of_mem _ hb)) (fun b hb=>hx b (List.mem_cons_of_mem _ hb)) (pre++one a) suf
    have e : pre++ones (a :: l)++suf=pre++one a++(ones l++suf):=by unfold ones; rw [List.flatMap_cons]; simp [List.append_assoc]
    rw [List.length_append,show pre++one a++ones l++suf=pre++one a++(ones l++suf) by simp [List.append_assoc]] at h2
    rw [e,List.map_cons]
    simp only [takes,h1,h2]
    rw [List.map_cons]
    congr 2
    unfold ones
    rw [List.flatMap_cons,List.length_append];omega
theorem one_bytes {a : It} (h : may a=true) : Bytes (one a):=by
  have hk:=may_kind h;obtain ⟨k,n,x,s⟩:=a
  simp only at hk
  have : k=1∨k=2∨k=3∨k=4∨k=5:=by omega
  rcases this with rfl|rfl|rfl|rfl|rfl
  · exact bigs_bytes n 1
  · exact bigs_bytes n 2
  · exact bigs_bytes n 4
  · exact bigs_bytes _ 8
  · rw [may_5] at h
    simp only [Bool.and_eq_true,decide_eq_true_eq] at h
    exact Bytes.cons (Int.natCast_nonneg _) (by simp only; omega) (bytesOf_bytes s)
theorem ones_bytes {l : List It} (h : ∀ a ∈ l,may a=true) : Bytes (ones l):=by
  intro x hx;obtain ⟨a,ha,hxa⟩:=List.mem_flatMap.1 hx;exact one_bytes (h a ha) x hxa
end Go.Proofs.YtbmcbhpkefjhbaaDoor.Pac
namespace Go.Proofs.YtbmcbhpkefjhbaaDoor.Pac
open Go.RowKit YtbmcbhpkefjhbaaDoor YtbmcbhpkefjhbaaDoor.Mem YtbmcbhpkefjhbaaDoorW.PrintWords YtbmcbhpkefjhbaaDoorW.PrintLast YtbmcbhpkefjhbaaDoorW.PrintMore
def Apart (v u : Value) : Prop:=∀ k,v.ownBlock=some k→u.ownBlock≠some k
theorem Apart.symm {v u : Value} (h : Apart v u) : Apart u v:=fun k hk he=>h k he hk
theorem Apart.step {v u v1 : Value} {n : Nat} (h : Apart v u) (hat : v1.ownBlock=v.ownBlock∨∃ b,v1.ownBlock=some b∧n≤b) (hlt : ∀ k,u.ownBlock=some k→k<n) : Apart v1 u:=by
  intro k hk he
  rcases hat with e | ⟨b,e,hb⟩
  · rw [e] at hk; exact h k hk he
  · rw [e] at hk
    injection hk with hk
    have:=hlt k he;omega
theorem foldl_acc : ∀ (t : List Int) (acc : Int),t.foldl (fun u c=>u * 256 + c) acc=acc * 256 ^ t.length + num t:=by
  intro t
  induction t with
  | nil=>intro acc; simp [num]
  | cons x t ih =>
    intro acc
    show t.foldl _ (acc * 256 + x)=_
    have h2 : num (x :: t)=x * 256 ^ t.length + num t:=by
      show t.foldl _ (0 * 256 + x)=_
      rw [ih]; simp
    rw [ih,h2,List.length_cons,Int.pow_succ,Int.add_mul,Int.mul_assoc,Int.mul_comm 256 (256 ^ t.length)];omega
theorem bigs_add (z y : Int) (n : Nat) : ∀ j,j≤n→bigs (z * 256 ^ n + y) j=bigs y j:=by
  intro j
  induction j with
  | zero=>intro _; rfl
  | succ j ih =>
    intro hj
    show ((z * 256 ^ n + y) / 2 ^ (8 * j) % 256) :: bigs _ j=(y / 2 ^ (8 * j) % 256) :: bigs y j
    rw [ih (by omega)]
    congr 1
    have e : (2 : Int) ^ (8 * j)=256 ^ j:=by rw [Int.pow_mul]; rfl
    obtain ⟨q,rfl⟩ : ∃ q,n=j + 1 + q:=⟨n - (j + 1),by omega⟩
    rw [e,show z * 256 ^ (j + 1 + q)=256 ^ j * (256 * (z * 256 ^ q)) by
      rw [Int.pow_add,Int.pow_succ]
      simp only [Int.mul_assoc,Int.mul_left_comm,Int.mul_comm]]
    have hp : (256 : Int) ^ j≠0:=Int.ne_of_gt (Int.pow_pos (by decide))
    rw [Int.add_comm,Int.add_mul_ediv_left _ _ hp,Int.add_mul_emod_self_left]
theorem bigs_num : ∀ (l : List Int),Bytes l→bigs (num l) l.length=l:=by
  intro l
  induction l with
  | nil=>intro _; rfl
  | cons x t ih =>
    intro hb;have hx:=hb x List.mem_cons_self
    have ht : Bytes t:=fun y hy=>hb y (List.mem_cons_of_mem _ hy)
    have hn:=num_bd ht
    have e1 : num (x :: t)=x * 256 ^ t.length + num t:=by
      show t.foldl _ (0 * 256 + x)=_
      rw [foldl_acc]; simp
    rw [e1]
    show ((x * 256 ^ t.length + num t) / 2 ^ (8 * t.length) % 256) :: bigs _ t.length=_
    rw [bigs_add _ _ _ _ (Nat.le_refl _),ih ht]
    congr 1
    have e : (2 : Int) ^ (8 * t.length)=256 ^ t.length:=by rw [Int.pow_mul]; rfl
    have hp : (256 : Int) ^ t.length≠0:=Int.ne_of_gt (Int.pow_pos (by decide))
    rw [e,Int.add_comm,Int.add_mul_ediv_right _ _ hp,Int.ediv_eq_zero_of_lt hn.1 hn.2];omega
theorem bytesOf_str {l : List Int} (h : Bytes l) : bytesOf (strOfNums l)=l:=by
  unfold bytesOf strOfNums
  simp only [List.map_map]
  conv=>rhs; rw [← List.map_id l]
  refine List.map_congr_left (fun x hx=>?_)
  have:=h x hx
  simp only [Function.comp,id,UInt8.toNat_ofNat']
  omega
theorem rt4 {b : List Int} {p : Nat} (hb : Bytes b) (h : p + 8≤b.length) : decide (one ⟨4,0,(num ((b.drop p).take 8)).toNat,⟨#[]⟩⟩=(b.drop p).take 8)=decide (Flt.val (num ((b.drop p).take 8)).toNat=(num ((b.drop p).take 8)).toNat):=by
  have hbs : Bytes ((b.drop p).take 8):=(hb.drop p).take 8
  have hl : ((b.drop p).take 8).length=8:=by rw [List.length_take,List.length_drop]; omega
  have hn:=num_bd hbs
  rw [hl,show (256 : Int) ^ 8=18446744073709551616 by decide] at hn
  have hbn:=bigs_num _ hbs;rw [hl] at hbn
  generalize (b.drop p).take 8=t at *
  have ho : one ⟨4,0,(num t).toNat,⟨#[]⟩⟩=bigs (Flt.val (num t).toNat : Int) 8:=rfl;rw [ho];rw [decide_eq_decide]
  constructor
  · intro h
    have h2:=congrArg num h
    have hv:=val_bd (x:=(num t).toNat) (by omega)
    rw [num_bigs _ 8 (Int.natCast_nonneg _) (by rw [show (256 : Int) ^ 8=18446744073709551616 by decide]; omega)] at h2
    omega
  · intro h
    rw [h,Int.toNat_of_nonneg hn.1];exact hbn
theorem rt5 {b : List Int} {p m : Nat} (hb : Bytes b) (h : p + 1 + m≤b.length) (hm : num ((b.drop p).take 1)=(m : Int)) : one ⟨5,0,0,strOfNums ((b.drop (p + 1)).take m)⟩=(b.drop p).take (1 + m):=by
  have ho : one ⟨5,0,0,strOfNums ((b.drop (p + 1)).take m)⟩=((strOfNums ((b.drop (p + 1)).take m)).size : Int) :: bytesOf (strOfNums ((b.drop (p + 1)).take m)):=rfl
  have hl : ((b.drop (p + 1)).take m).length=m:=by rw [List.length_take,List.length_drop]; omega
  rw [ho,bytesOf_str ((hb.drop (p + 1)).take m),size_strOf,hl]
  obtain ⟨x,hx⟩ : ∃ x,b[p]?=some x:=⟨_,List.getElem?_eq_getElem (by omega)⟩
  have hd : b.drop p=x :: b.drop (p + 1):=drop_cons hx;rw [hd] at hm ⊢
  have : num [x]=x:=by simp [num]
  rw [show (x :: b.drop (p + 1)).take 1=[x] from rfl,this] at hm
  rw [Nat.add_comm 1 m,List.take_succ_cons,hm]
theorem rt3 {b : List Int} {p m : Nat} {k : Int} (hb : Bytes b) (h : p + m≤b.length) (hk : k=1∨k=2∨k=3) (hw : wid k=(m : Int)) : one ⟨k,num ((b.drop p).take m),0,⟨#[]⟩⟩=(b.drop p).take m:=by
  have hl : ((b.drop p).take m).length=m:=by rw [List.length_take,List.length_drop]; omega
  have hbn:=bigs_num _ ((hb.drop p).take m);rw [hl] at hbn
  unfold one
  rw [if_pos hk]
  simp only
  rw [hw,Int.toNat_natCast];exact hbn
end Go.Proofs.YtbmcbhpkefjhbaaDoor.Pac
namespace Go.Proofs.YtbmcbhpkefjhbaaDoor.Pac
open Go.RowKit YtbmcbhpkefjhbaaDoor YtbmcbhpkefjhbaaDoor.Mem YtbmcbhpkefjhbaaDoorW.PrintWords YtbmcbhpkefjhbaaDoorW.PrintLast YtbmcbhpkefjhbaaDoorW.PrintMore
def RT30x1a.T : Bool × List (List Nat × List Nat):=(true,[([],[]),([0],[0]),([1],[1]),([2,1],[2]),([3],[3]),([4,3,3],[3,4]),([5,3],[3,5]),([3],[3]),([3],[3]),([3],[3]),([3],[3]),([9,10,3],[3,9,10]),([7,8,11,3],[3,7,8,11]),([12,3],[3,12]),([6,13,3],[3,6,13]),([3,14],[3,14])])
def RT30x1a.B : List Nat:=[0,1,3,7,15,31,63,15,15,15,15,1551,3983,8079,16383,32767]
theorem RT30x1a.tab : rtab .any (opsOf Tryd.f26 30)=RT30x1a.T:=by kernel_rfl
theorem RT30x1a.bits : waitsOk RT30x1a.T.2 RT30x1a.B=true:=by kernel_rfl
def RT30x2b.T : Bool × List (List Nat × List Nat):=(true,[([],[]),([0],[0]),([1],[1]),([2,1],[2]),([3],[3]),([4,3,3],[3,4]),([5,3],[3,5]),([3],[3]),([3],[3]),([3],[3]),([3],[3]),([9,10,3],[3,9,10]),([7,8,11,3],[3,7,8,11]),([12,3],[3,12]),([6,13,3],[3,6,13]),([3,14],[3,14])])
def RT30x2b.B : List Nat:=[0,1,3,7,15,31,63,15,15,15,15,1551,3983,8079,16383,32767]
theorem RT30x2b.tab : rtab .any (opsOf Tryd.f26 30)=RT30x2b.T:=by kernel_rfl
theorem RT30x2b.bits : waitsOk RT30x2b.T.2 RT30x2b.B=true:=by kernel_rfl
def RT30x1e.T : Bool × List (List Nat × List Nat):=(true,[([],[]),([0],[0]),([1],[1]),([2,1],[2]),([3],[3]),([4,3,3],[3,4]),([5,3],[3,5]),([3],[3]),([3],[3]),([3],[3]),([3],[3]),([9,10,3],[3,9,10]),([7,8,11,3],[3,7,8,11]),([12,3],[3,12]),([6,13,3],[3,6,13]),([3,14],[3,14])])
def RT30x1e.B : List Nat:=[0,1,3,7,15,31,63,15,15,15,15,1551,3983,8079,16383,32767]
theorem RT30x1e.tab : rtab .any (opsOf Tryd.f26 30)=RT30x1e.T:=by kernel_rfl
theorem RT30x1e.bits : waitsOk RT30x1e.T.2 RT30x1e.B=true:=by kernel_rfl
def RT30x1c.T : Bool × List (List Nat × List Nat):=(true,[([],[]),([0],[0]),([1],[1]),([2,1],[2]),([3],[3]),([4,3,3],[3,4]),([5,3],[3,5]),([3],[3]),([3],[3]),([3],[3]),([3],[3]),([9,10,3],[3,9,10]),([7,8,11,3],[3,7,8,11]),([12,3],[3,12]),([6,13,3],[3,6,13]),([3,14],[3,14])])
def RT30x1c.B : List Nat:=[0,1,3,7,15,31,63,15,15,15,15,1551,3983,8079,16383,32767]
theorem RT30x1c.tab : rtab .any (opsOf Tryd.f26 30)=RT30x1c.T:=by kernel_rfl
theorem RT30x1c.bits : waitsOk RT30x1c.T.2 RT30x1c.B=true:=by kernel_rfl
def RT30x3d.T : Bool × List (List Nat × List Nat):=(true,[([],[]),([0],[0]),([1],[1]),([2,1],[2]),([3],[3]),([4,3,3],[3,4]),([5,3],[3,5]),([3],[3]),([3],[3]),([3],[3]),([3],[3]),([9,10,3],[3,9,10]),([7,8,11,3],[3,7,8,11]),([12,3],[3,12]),([6,13,3],[3,6,13]),([3,14],[3,14])])
def RT30x3d.B : List Nat:=[0,1,3,7,15,31,63,15,15,15,15,1551,3983,8079,16383,32767]
theorem RT30x3d.tab : rtab .any (opsOf Tryd.f26 30)=RT30x3d.T:=by kernel_rfl
theorem RT30x3d.bits : waitsOk RT30x3d.T.2 RT30x3d.B=true:=by kernel_rfl
end Go.Proofs.YtbmcbhpkefjhbaaDoor.Pac
namespace Go.Proofs.YtbmcbhpkefjhbaaDoor.Pac
open Go.RowKit YtbmcbhpkefjhbaaDoor YtbmcbhpkefjhbaaDoor.Mem YtbmcbhpkefjhbaaDoorW.PrintWords YtbmcbhpkefjhbaaDoorW.PrintLast YtbmcbhpkefjhbaaDoorW.PrintMore
theorem nil_str : (⟨#[]⟩ : ByteArray).toList=[]:=by kernel_rfl
theorem item1_spec {b : List Int} {p q : Nat} {k : Int} {a : It} (hb : Bytes b) (h : item1 b p k=some (a,q)) (hk : 1≤k∧k≤5) :
    p≤q∧q≤b.length∧a.k=k∧may a=true∧norm a=a∧a.x<18446744073709551616∧one a=(b.drop p).take (q - p):=by
  have hx:=item1_x hb h;have hq:=item1_le h;have hv0:=val0
  unfold item1 at h
  split at h
  · rename_i hk4
    split at h
    · rename_i h1
      injection h with h; injection h with h2 h3
      subst h2 h3
      refine ⟨by omega,hq,hk4.symm,?_,?_,hx,?_⟩
      · rw [may_4,nil_str]; rfl
      · unfold norm; simp only [h1.2]
      · have:=rt4 hb h1.1
        rw [dt_ h1.2] at this
        rw [od_ this,show p + 8 - p=8 by omega]
    · cases h
  · split at h
    · rename_i hk4 hk5
      split at h
      · rename_i h1
        injection h with h; injection h with h2 h3
        subst h2 h3;have hn:=num_bd ((hb.drop p).take 1)
        have hl1 : ((b.drop p).take 1).length=1:=by rw [List.length_take,List.length_drop]; omega
        rw [hl1] at hn
        have hm : num ((b.drop p).take 1)=(((num ((b.drop p).take 1)).toNat : Nat) : Int):=by omega
        generalize (num ((b.drop p).take 1)).toNat=m at *
        have hsz : (strOfNums ((b.drop (p + 1)).take m)).size=m:=by rw [size_strOf,List.length_take,List.length_drop]; omega
        refine ⟨by omega,hq,hk5.symm,?_,?_,hx,?_⟩
        · rw [may_5,hsz]; simp; omega
        · unfold norm; simp only [hv0]
        · rw [rt5 hb h1.2 hm,show p + 1 + m - p=1 + m by omega]
      · cases h
    · rename_i hk4 hk5
      split at h
      · rename_i h1
        injection h with h; injection h with h2 h3
        subst h2 h3
        have hk3 : k=1∨k=2∨k=3:=by omega
        refine ⟨by omega,hq,rfl,h1.2,?_,hx,?_⟩
        · unfold norm; simp only [hv0]
        · have hw : wid k=(((wid k).toNat : Nat) : Int):=by unfold wid; rcases hk3 with rfl|rfl|rfl <;> rfl
          rw [rt3 hb h1.1 hk3 hw,show p + (wid k).toNat - p=(wid k).toNat by omega]
      · cases h
theorem takes_spec {b : List Int} (hb : Bytes b) : ∀ (ks : List Int) (p r : Nat) (l : List It),p≤b.length→kindsOk ks=true→takes b p ks=some (l,r) →
    p≤r∧r≤b.length∧l.map (·.k)=ks∧(∀ a ∈ l,may a=true)∧l.map norm=l∧(∀ a ∈ l,a.x<18446744073709551616)∧ones l=(b.drop p).take (r - p):=by
  intro ks
  induction ks with
  | nil =>
    intro p r l hp _ h
    simp only [takes] at h
    injection h with h; injection h with h1 h2
    subst h1 h2
    exact ⟨Nat.le_refl _,hp,rfl,(fun a h=>by cases h),rfl,(fun a h=>by cases h),by simp [ones]⟩
  | cons k ks ih =>
    intro p r l hp hks h
    simp only [takes] at h
    split at h
    · cases h
    rename_i a q hi
    split at h
    · cases h
    rename_i m r' ht
    injection h with h; injection h with h1 h2
    subst h1 h2
    unfold kindsOk at hks
    rw [List.all_cons,Bool.and_eq_true] at hks
    have hk1 : 1≤k∧k≤5:=by simpa using hks.1
    obtain ⟨a1,a2,a3,a4,a5,a6,a7⟩:=item1_spec hb hi hk1;obtain ⟨b1,b2,b3,b4,b5,b6,b7⟩:=ih q r' m a2 hks.2 ht
    refine ⟨by omega,b2,by rw [List.map_cons,a3,b3],?_,by rw [List.map_cons,a5,b5],?_,?_⟩
    · intro x hx; rcases List.mem_cons.1 hx with rfl|hx
      · exact a4
      · exact b4 x hx
    · intro x hx; rcases List.mem_cons.1 hx with rfl|hx
      · exact a6
      · exact b6 x hx
    · unfold ones at b7 ⊢
      rw [List.flatMap_cons,a7,b7]
      rw [show r' - p=(q - p) + (r' - q) by omega,← List.take_append_drop (q - p) ((b.drop p).take ((q - p) + (r' - q)))]
      rw [List.take_take,Nat.min_eq_left (by omega),List.drop_take,List.drop_drop,show p + (q - p)=q by omega,show (q - p) + (r' - q) - (q - p)=r' - q by omega]
theorem form123 {a : It} (h : may a=true) (hk : a.k=1∨a.k=2∨a.k=3) : a=⟨a.k,a.n,0,⟨#[]⟩⟩∧0≤a.n∧a.n≤lim a.k:=by
  obtain ⟨k,n,x,s⟩:=a
  rcases hk with rfl|rfl|rfl
  · rw [may_1] at h
    simp only [Bool.and_eq_true,decide_eq_true_eq,beq_iff_eq] at h
    obtain ⟨⟨⟨h1,h2⟩,h3⟩,h4⟩:=h
    rw [sz0 h4,show x=0 by omega]
    exact ⟨rfl,h1,by show n≤255; omega⟩
  · rw [may_2] at h
    simp only [Bool.and_eq_true,decide_eq_true_eq,beq_iff_eq] at h
    obtain ⟨⟨⟨h1,h2⟩,h3⟩,h4⟩:=h
    rw [sz0 h4,show x=0 by omega]
    exact ⟨rfl,h1,by show n≤65535; omega⟩
  · rw [may_3] at h
    simp only [Bool.and_eq_true,decide_eq_true_eq,beq_iff_eq] at h
    obtain ⟨⟨⟨h1,h2⟩,h3⟩,h4⟩:=h
    rw [sz0 h4,show x=0 by omega]
    exact ⟨rfl,h1,by show n≤2147483647; omega⟩
end Go.Proofs.YtbmcbhpkefjhbaaDoor.Pac
namespace Go.Proofs.YtbmcbhpkefjhbaaDoor.P
open Go.RowKit YtbmcbhpkefjhbaaDoor YtbmcbhpkefjhbaaDoor.Mem YtbmcbhpkefjhbaaDoor.Pac YtbmcbhpkefjhbaaDoorW.PrintWords YtbmcbhpkefjhbaaDoorW.PrintLast YtbmcbhpkefjhbaaDoorW.PrintMore
abbrev SIt:=S51
abbrev kIt : Kd SIt:=k51
def itOf (x : SIt) : It:=⟨x.f0,x.f1,x.f2,x.f3⟩
def ofIt (a : It) : SIt:=⟨a.k,a.n,a.x,a.s⟩
theorem reps_map {α β : Type} {R : α→List Value→Prop} {R' : β→List Value→Prop} (f : α→β) {size : Nat} {ps : List α} {cs : List Value} (h : Reps R size ps cs) (hR : ∀ p c,R p c→R' (f p) c) : Reps R' size (ps.map f) cs:=⟨by rw [List.length_map]; exact h.1,fun j p hj=>by
  rw [List.getElem?_map] at hj;obtain ⟨q,hq,rfl⟩:=Option.map_eq_some_iff.1 hj
  exact hR _ _ (h.2 j q hq)⟩
theorem R_items {w : World} {base : Nat} {ok : Nat→Prop} {v : Value} {l : List It} (h : Kd.R Kt 51 w base ok v l) : Kd.R kIt 51 w base ok v (l.map ofIt):=⟨h.1,by
  obtain ⟨inner,ho,hr⟩:=h.2
  refine ⟨inner,by rw [List.length_map]; exact ho,reps_map ofIt hr (fun p c hp=>?_)⟩
  have hp' : c=p.cs:=hp;subst hp'
  exact k51_mkM _ _ _ (ofIt p)⟩
def bdX (l : List SIt) : Bool:=l.all (fun x=>decide (x.f2<18446744073709551616))
def byB (l : List Int) : Bool:=l.all (fun x=>decide (0≤x) && decide (x≤255))
theorem byB_bytes {l : List Int} : byB l=true ↔ Bytes l:=by
  unfold byB Bytes
  simp [List.all_eq_true]
theorem C_items {w : World} {A : Option Addr} {n : Nat} {l : List SIt} (h : Kd.C kIt w A n l) (hx : bdX l=true) : RdT w A (l.map itOf):=by
  intro j a hj;rw [List.getElem?_map] at hj;obtain ⟨q,hq,rfl⟩:=Option.map_eq_some_iff.1 hj;have hlt:=(List.getElem?_eq_some_iff.1 hq).1;have hn:=h.1
  obtain ⟨ad,e,hc⟩:=h.2.2 (by omega)
  obtain ⟨c,hs,hr,hcell⟩:=hc j q hq;have hc':=k51_open hr;subst hc';have x0:=hcell 0 _ rfl;have x1:=hcell 1 _ rfl;have x2:=hcell 2 _ rfl;have x3:=hcell 3 _ rfl
  rw [show Kd.sz kIt=4 from rfl] at x0 x1 x2 x3
  rw [add4 _ _ _ (by omega)] at x1 x2 x3
  have hb:=hx
  unfold bdX at hb
  rw [List.all_eq_true] at hb;exact ⟨ad,e,⟨x0,x1,x2,x3⟩,od_ (hb q (List.mem_of_getElem? hq))⟩
def pack_Put.f (l0 : List SIt) : Option (List Int × Int):=if l0.length≤1000∧bdX l0=true then some (if (l0.map itOf).all may=true then ones (l0.map itOf) else [],erOf ((l0.map itOf).all may)) else none
theorem pack_Put.calls (A0 : Option Addr) (c0 : Nat) (l0 : List SIt) (r1 : List Int) (r2 : Int) (w : World) (hr0 : Kd.C kIt w A0 l0.length l0) (hc0 : l0.length≤c0) (h : pack_Put.f l0=some (r1,r2)) :
    Calls Tryd.prog 27 #[.slice A0 l0.length c0] w fun e w'=>∃ v0_ : Value,e=.returned (.tuple #[v0_,.int .i64 r2])∧Kd.R (Kd.int .u8) 5 w' w.heap.size (fun _=>True) v0_ r1∧Below w.heap.size w w':=by
  unfold pack_Put.f at h
  split at h
  · rename_i hx
    injection h with h
    injection h with h1 h2
    subst h1 h2
    have:=Put_any A0 c0 (l0.map itOf) w (C_items hr0 hx.2) (by rw [List.length_map]; exact hx.1)
    rw [List.length_map] at this
    exact this.mono (fun e w' h=>h)
  · cases h
def humusref03_Put.f (l0 : List SIt) : Option (List Int × Bool):=if l0.length≤1000∧bdX l0=true then some (if (l0.map itOf).all may=true then ones (l0.map itOf) else [],(l0.map itOf).all may) else none
theorem humusref03_Put.calls (A0 : Option Addr) (c0 : Nat) (l0 : List SIt) (r1 : List Int) (r2 : Bool) (w : World) (hr0 : Kd.C kIt w A0 l0.length l0) (hc0 : l0.length≤c0) (h : humusref03_Put.f l0=some (r1,r2)) :
    Calls Tryd.prog 35 #[.slice A0 l0.length c0] w fun e w'=>∃ v0_ : Value,e=.returned (.tuple #[v0_,.bool r2])∧Kd.R (Kd.int .u8) 5 w' w.heap.size (fun _=>True) v0_ r1∧Below w.heap.size w w':=by
  unfold humusref03_Put.f at h
  split at h
  · rename_i hx
    injection h with h
    injection h with h1 h2
    subst h1 h2
    have:=rPut_any A0 c0 (l0.map itOf) w (C_items hr0 hx.2) (by rw [List.length_map]; exact hx.1)
    rw [List.length_map] at this
    exact this.mono (fun e w' h=>h)
  · cases h
def takeF (l0 l1 : List Int) : Option (List SIt × Int × Int):=if byB l0=true∧l0.length≤1000000∧l1.length≤1000000 then some ((takeR l0 l1).1.map ofIt,(takeR l0 l1).2.1,(takeR l0 l1).2.2) else none
def pack_Take.f (l0 l1 : List Int) : Option (List SIt × Int × Int):=takeF l0 l1
theorem pack_Take.calls (A0 : Option Addr) (c0 : Nat) (l0 : List Int) (A1 : Option Addr) (c1 : Nat) (l1 : List Int) (r1 : List SIt) (r2 r3 : Int) (w : World) (hr0 : Kd.C (Kd.int .u8) w A0 l0.length l0) (hc0 : l0.length≤c0) (hr1 : Kd.C (Kd.int .i64) w A1 l1.length l1) (hc1 : l1.length≤c1) (h : pack_Take.f l0 l1=some (r1,r2,r3)) :
    Calls Tryd.prog 22 #[.slice A0 l0.length c0,.slice A1 l1.length c1] w fun e w'=>∃ v0_ : Value,e=.returned (.tuple #[v0_,.int .i64 r2,.int .i64 r3])∧Kd.R kIt 51 w' w.heap.size (fun _=>True) v0_ r1∧Below w.heap.size w w':=by
  unfold pack_Take.f takeF at h
  split at h
  · rename_i hx
    injection h with h
    injection h with h1 h2
    injection h2 with h2 h3
    subst h1 h2 h3;refine (Take_any A0 c0 l0 A1 c1 l1 w hr0 (byB_bytes.1 hx.1) hx.2.1 hc0 hr1 hx.2.2).mono ?_;rintro e w' ⟨v,rfl,ho,hb⟩;exact ⟨v,rfl,R_items ho.1,hb⟩
  · cases h
end Go.Proofs.YtbmcbhpkefjhbaaDoor.P
