/- by wip/prune.py -/
import Derived.Test.YtbmcbhpkefjhbaaDoorMTableDecodes4
import Derived.LoopIn
import Derived.LoopNIn
import Derived.OwnWalkIn
import Derived.RangeFuncBound
import Derived.RangeFuncCalls
import Derived.RangeFuncLeaves
import Derived.RangeFuncNested
import Derived.Shelf.Abstract
import Derived.Shelf.RegionOpen
import Derived.TacticsInMore
import Derived.WalkKit
import Derived.Test.YtbmcbhpkefjhbaaDoorMTableDecodes5
set_option linter.unusedSimpArgs false
set_option linter.unusedVariables false
namespace Go.Proofs.YtbmcbhpkefjhbaaDoor.P
open Go.RowKit Go.Shelf YtbmcbhpkefjhbaaDoor YtbmcbhpkefjhbaaDoorW.PrintWords YtbmcbhpkefjhbaaDoorW.PrintLast YtbmcbhpkefjhbaaDoorW.PrintMore
attribute [local go_sem] Oper.semAt_some
attribute [local go_sem] min2_int min_two
theorem upon_round {m l : Nat} {P : Program} {o : Oper} {a : Act} {next next' : Act→World→Prop} {Q : Exit→Act→World→Prop} (hn : ∀ a w,next a w→next' a w) : ∀ (r : Result Next),o.upon P a next Q r→o.uponIn (Fence.wide.inRound l) m P a next' Q r:=by
  intro r h
  unfold Oper.upon at h
  unfold Oper.uponIn
  split at h
  · exact hn _ _ h
  · exact hn _ _ h
  · exact hn _ _ h
  · refine ⟨fun hd=>(by cases hd),?_⟩
    refine CallsIn.inRound l (callsIn_wide.2 (h.mono ?_));rintro e w'' he
    cases e with
    | returned v=>exact hn _ _ he
    | panicked c=>exact he
    | outgrown=>exact he
  · refine ⟨fun hd=>(by cases hd),fun c cs _=>?_⟩
    obtain ⟨v,w',r,s⟩:=h c cs;exact ⟨v,w',hn _ _ r,stepsIn_wide.2 s⟩
  · exact h
  · exact h.elim
theorem wpOps_round {m l : Nat} {P : Program} {ops : Array Oper} {Q : Exit→Act→World→Prop} (hQ : LetsOut Q→False) (hd : ∀ (i : Nat) (o : Oper) (c : Call),ops[i]?=some o→o.op≠.defer c) : ∀ (is : List Nat) (a : Act) (w : World),wpOps P ops Q is a w→wpOpsIn (Fence.wide.inRound l) m P ops Q is a w:=by
  intro is
  induction is with
  | nil=>exact fun a w h=>h
  | cons i rest ih =>
    intro a w h
    simp only [wpOps] at h
    simp only [wpOpsIn]
    cases ho : ops[i]? with
    | none=>rw [ho] at h; exact ih a w h
    | some o =>
      rw [ho] at h
      simp only at h ⊢
      by_cases hw : Region.wanted o (yielded ops a.tmps)=true
      · rw [if_pos hw] at h ⊢
        rcases h with h | ⟨_,h⟩
        · refine ⟨fun f _=>trivial,?_⟩
          rw [Oper.semAt_eq _ _ _ (fun c=>hd i o c ho)]
          exact upon_round ih _ h
        · exact (hQ h).elim
      · rw [if_neg hw] at h ⊢
        exact ⟨fun f _=>trivial,ih _ _ h⟩
def noDefer (ops : Array Oper) : Bool:=ops.toList.all fun o=>match o.op with | .defer _=>false | _=>true
theorem noDefer_at {ops : Array Oper} (h : noDefer ops=true) (i : Nat) (o : Oper) (c : Call) (ho : ops[i]?=some o) : o.op≠.defer c:=by
  intro e
  have hm : o ∈ ops.toList:=by
    rw [← Array.getElem?_toList] at ho;exact List.mem_of_getElem? ho
  have:=List.all_eq_true.1 h o hm;rw [e] at this
  cases this
theorem startR_ {m l : Nat} {P : Program} {ops : Array Oper} {Q : Exit→Act→World→Prop} {S : World→Prop} {ds : List Nat} {id n : Nat} {a : Act} {w : World} (lst : Array Bool) (hm : P.follows .mixedOrders=true) (hn : ops.size=n) (hl : Array.replicate n false=lst) (hQ : LetsOut Q→False) (hd : noDefer ops=true) (hS : S w.drew) (h : S w.drew→wpAnyLast P .any ops Q S ds n lst a w.drew) : (Code.region id ops true).wpIn (Fence.wide.inRound l) m P Q a w:=by
  subst hn;subst hl
  exact wpIn_region_draw fun t=>by
    simp only [Region.schedule,hm,Bool.true_or,if_true]
    exact wpOps_round hQ (noDefer_at hd) _ _ _ (wpAny_sound ops.size t _ a _ (wpAny_of_last _ _ _ _ (h hS)))
theorem Chunk_any (A : Option Addr) (n c : Nat) (w : World) : Calls Tryd.prog 24 #[.slice A n c,.int .i64 4] w fun e w'=>∃ bs bn : Nat,e=.returned (.func (.func 42) #[] #[.pointer (some ⟨bs,0,none⟩),.pointer (some ⟨bn,0,none⟩)])∧w'.heap[bs]?=some (.cells #[.slice A n c] 45)∧w'.heap[bn]?=some (.cells #[.int .i64 4] 3)∧w.heap.size≤bs∧bs<w'.heap.size∧w.heap.size≤bn∧bn<w'.heap.size∧Below w.heap.size w w':=by
  go_enter Tryd.func24,Tryd.ntmps24;go_wp2;go_ret
  refine ⟨w.heap.size,w.heap.size + 1,rfl,?_,?_,Nat.le_refl _,by simp; omega,by simp,by simp,((Below.refl _ w).alloc (Nat.le_refl _) _).alloc (by simp) _⟩
  · exact (Below.heap_alloc _ _ _ (by simp)).trans (World.alloc_heap_new w _)
  · have:=World.alloc_heap_new (w.alloc (.cells #[.slice A n c] 45)) (.cells #[.int .i64 4] 3)
    rwa [World.size_alloc] at this
theorem cut_four (ad : Addr) (n c k : Nat) (hk : 4 * k + 4≤n) (hc : n≤c) : ∀ W : World,(Instr.slice 45 (.slice (some ad) n c) (some (.int .i64 (4 * (k : Int)))) (some (.int .i64 (4 * (k : Int) + 4))) (some (.int .i64 (4 * (k : Int) + 4)))).run Tryd.prog W=.ok (.slice (some (ad.add (4 * k * 4))) 4 4) W:=by
  intro W;obtain ⟨i0,hi0,_,hsz,_⟩:=info_parts info51
  have hel : Tryd.prog.elem 45=51:=by simp [Program.elem,Tryd.underlying45]
  have hu : Tryd.prog.underlying 45=some (.slice (Tryd.prog.elem 45)):=by rw [hel]; exact Tryd.underlying45
  rw [run_slice_lhm W 45 (some ad) n c hu .i64 .i64 .i64 (4 * (k : Int)) (4 * (k : Int) + 4) (4 * (k : Int) + 4) (by omega) (by omega) (Int.le_refl _) (by omega),hel]
  have e1 : (4 * (k : Int)).toNat=4 * k:=by omega
  have e2 : (4 * (k : Int) + 4).toNat=4 * k + 4:=by omega
  simp [sizeOf,typeInfo,hi0,sliced,Result.andThen,e1,e2,hsz]
def upto (N k : Nat) : List (Fin N):=(List.finRange N).take k
theorem upto_succ {N k : Nat} (h : k<N) : upto N (k + 1)=upto N k++[⟨k,h⟩]:=by
  unfold upto
  rw [List.take_add_one,List.getElem?_eq_getElem (by simpa using h)]
  simp
theorem upto_len {N k : Nat} (h : k≤N) : (upto N k).length=k:=by simp [upto,h]
theorem upto_all (N : Nat) : upto N N=List.finRange N:=by
  unfold upto
  exact List.take_of_length_le (by simp)
set_option maxRecDepth 100000 in
set_option maxHeartbeats 2000000 in
theorem Chunk1_in (n : Nat) (hn : 1≤n) (l Bs Bn : Nat) (ad : Addr) (c N : Nat) (hc : 4 * N≤c) (hN : N<1000000) (J Jx : List (Fin N)→World→Prop) (hJd : ∀ s W nq,J s W→J s (W.drewN nq)) (hY : ∀ pre (x : Fin N) W,J pre W→pre.length<N→YieldAt Fence.wide (n - 1) Tryd.prog l #[.slice (some (ad.add (4 * x.1 * 4))) 4 4] W fun e W'=>(e=.returned (.bool true)∧J (pre++[x]) W'∧(W'.heap[Bs]?=W.heap[Bs]?∧W'.heap[Bn]?=W.heap[Bn]?))∨(e=.returned (.bool false)∧Jx (pre++[x]) W')) (W : World) (hBs : W.heap[Bs]?=some (.cells #[.slice (some ad) (4 * N) c] 45)) (hBn : W.heap[Bn]?=some (.cells #[.int .i64 4] 3)) (h0 : J [] W) : CallsIn Fence.wide n Tryd.prog 42 #[.func (.yield l) #[] #[],.pointer (some ⟨Bs,0,none⟩),.pointer (some ⟨Bn,0,none⟩)] W fun e W'=>(∃ v,e=.returned v)∧((∃ ys,ys=List.finRange N∧J ys W')∨(∃ pre,True∧Jx pre W')):=by
  refine callsIn_of_wp Tryd.func42 rfl trivial ?_ rfl
  simp only [Tryd.ntmps42,List.size_toArray,List.length_cons,List.length_nil,Nat.reduceAdd,Nat.reduceSub,Array.replicate_succ,Array.replicate_zero,List.push_toArray,List.append_toArray,List.nil_append,List.cons_append]
  gi_wp2
  gi_loopw [4] (fun i wr=>∃ k : Nat,k≤N∧i=.int .i64 (4 * (k : Int))∧J (upto N k) wr∧wr.heap[Bs]?=some (.cells #[.slice (some ad) (4 * N) c] 45)∧wr.heap[Bn]?=some (.cells #[.int .i64 4] 3))
    (fun i _=>4 * N - (intOf i).toNat)
  case atStart=>exact ⟨0,Nat.zero_le _,rfl,h0,hBs,hBn⟩
  case round =>
    obtain ⟨k,hk,rfl,hJs,hs,hb⟩:=hrel;have hcs:=bc_ hs 0;have hcb:=bc_ hb 0
    by_cases hlt : k<N
    · have h1 : ((4 * (k : Int))<((4 * N : Nat) : Int))=True:=eq_true (by omega)
      obtain ⟨i0,hi0,_,hsz,_⟩:=info_parts info51
      have hcut:=cut_from (P:=Tryd.prog) 45 51 .i64 Tryd.underlying45 hi0 4 hsz (some ad) (4 * N) c (4 * (k : Int)) (by omega) (by omega)
      have hmn : (((4 * N - (4 * (k : Int)).toNat : Nat) : Int)<4)=False:=eq_false (by omega)
      gi_wp2
      refine wpIn_wide.2 ?_;go_quiet (fail)
      obtain ⟨fn,tmps,assign,body,hy,hR⟩:=hY (upto N k) ⟨k,hlt⟩ (wr.drewN nq) (hJd _ _ _ hJs) (by rw [upto_len hk]; exact hlt)
      dsimp only at hy
      have hs' : (wr.drewN nq).heap[Bs]?=some (.cells #[.slice (some ad) (4 * N) c] 45):=hs;have hb' : (wr.drewN nq).heap[Bn]?=some (.cells #[.int .i64 4] 3):=hb;have hcs':=bc_ hs' 0
      have hcut4:=cut_four ad (4 * N) c k (by omega) hc
      have hw4 : IntKind.i64.wrap (4 * (k : Int) + 4)=4 * (k : Int) + 4:=by rw [i64_w]; unfold wrap64; omega
      gi_wp2
      refine hR.mono ?_;rintro e W3 (⟨rfl,hJ3,hk3,hk4⟩ | ⟨rfl,hJx3⟩)
      · have hb3:=hk4.trans hb'
        have hs3:=hk3.trans hs';have hcb3:=bc_ hb3 0
        gi_wp2
        go_roundw
        case rel=>exact ⟨k + 1,by omega,by simp; omega,by rw [upto_succ hlt]; exact hJ3,hs3,hb3⟩
        case measure=>simp [intOf]; omega
      · gi_wp2
        refine bodyPost_ret (results_none rfl _ _ _) rfl ?_;exact ⟨⟨_,rfl⟩,.inr ⟨_,trivial,hJx3⟩⟩
    · obtain rfl : k=N:=by omega
      have h1 : ((4 * (k : Int))<((4 * k : Nat) : Int))=False:=eq_false (by omega)
      gi_wp2
      go_end0
      exact ⟨⟨_,rfl⟩,.inl ⟨_,rfl,by rw [← upto_all]; exact hJs⟩⟩
set_option maxHeartbeats 2000000 in
theorem range_four {assign body : Code} {ps : Array Tmp} {g : Operand} {Q : Exit→Act→World→Prop} {a : Act} {w : World} (bs bn : Nat) (ad : Addr) (c N gb : Nat) (n1 n2 n3 : Int) (E : Fin N→S56) (hc : 4 * N≤c) (hN : N<1000000) (hg : a.eval g=.func (.func 42) #[] #[.pointer (some ⟨bs,0,none⟩),.pointer (some ⟨bn,0,none⟩)]) (hps : ps.size=1) (hBs : w.heap[bs]?=some (.cells #[.slice (some ad) (4 * N) c] 45)) (hBn : w.heap[bn]?=some (.cells #[.int .i64 4] 3)) (hns : bs≠gb) (hnn : bn≠gb) (hBK : w.heap[gb]?=some (.cells #[.int .i64 n1,.int .i64 n2,.int .i64 n3,.slice none 0 0] 26)) (P1 : Fin N→World→Prop) (hP : ∀ x W,KeepBut w W gb none→P1 x W) (a₁ : Fin N→Act) (hassign : ∀ (l : Nat) (x : Fin N) (W : World) (K : Act→World→Prop),K (a₁ x) W→assign.wpIn (Fence.wide.inRound l) 1 Tryd.prog (Exit.then K (fun _ _ _=>False)) { tmps:=(ps.zip (#[.slice (some (ad.add (4 * x.1 * 4))) 4 4])).foldl (fun t (p,v)=>t.setIfInBounds p v) a.tmps,defers:=[] } W) (hbody : ∀ (l : Nat) (x : Fin N) (W : World) (u : Value) (xs : List S56),P1 x W→w.heap.size≤W.heap.size→xs.length<N→W.heap[gb]?=some (.cells #[.int .i64 n1,.int .i64 n2,.int .i64 n3,u] 26)→Kd.R k56 56 W w.heap.size (fun _=>True) u xs→body.wpIn (Fence.wide.inRound l) 1 Tryd.prog (fun e _ W'=>e=.normal∧∃ u',W'.heap[gb]?=some (.cells #[.int .i64 n1,.int .i64 n2,.int .i64 n3,u'] 26)∧Kd.R k56 56 W' w.heap.size (fun _=>True) u' (xs++[E x])∧KeepBut W W' gb u.ownBlock∧Below 0 W W') (a₁ x) W) (hdone : ∀ (D : Nat) (W : World) (u : Value),w.heap.size≤D→W.heap[D]?=some (.deferred (some []))→Below 0 w W→KeepBut w W gb none→W.heap[gb]?=some (.cells #[.int .i64 n1,.int .i64 n2,.int .i64 n3,u] 26)→Kd.R k56 56 W w.heap.size (fun _=>True) u ((List.finRange N).map E)→Q .normal { a with defers:={ target:=.collected D,args:=#[] } :: a.defers } W) :
    (Code.rangeFunc g ps assign body).wp Tryd.prog Q a w:=by
  refine (wpIn_wide (n:=3)).1 ?_;have hgb : gb<w.heap.size:=(Array.getElem?_eq_some_iff.1 hBK).1;have hbs : bs<w.heap.size:=(Array.getElem?_eq_some_iff.1 hBs).1;have hbn : bn<w.heap.size:=(Array.getElem?_eq_some_iff.1 hBn).1
  refine wpIn_rangeFunc_ownF (F:=Fence.wide) (n:=3) (w0:=w) (N:=N) (encs:=fun x : Fin N=>#[.slice (some (ad.add (4 * x.1 * 4))) 4 4])
    (Kp:=fun W W'=>W'.heap[bs]?=W.heap[bs]?∧W'.heap[bn]?=W.heap[bn]?) (S:=fun xs=>xs=List.finRange N) (Sp:=fun _=>True)
    rfl (by omega) hg trivial (enters_of Tryd.func42 (by kernel_rfl) rfl) ?seq ?kt ?kb (Below.refl _ _) (fun _=>by simp [hps])
    (fun pre W=>Below 0 w W∧KeepBut w W gb none∧∃ u,W.heap[gb]?=some (.cells #[.int .i64 n1,.int .i64 n2,.int .i64 n3,u] 26)∧Kd.R k56 56 W w.heap.size (fun _=>True) u (pre.map E))
    (fun _ _ _=>False) ?own (fun _ _ _ _ _ hs _ _=>hs) ?start a₁ hassign ?body ?done ?stop
  case seq =>
    intro l J Jx W hW hJ hJx hY h0
    exact Chunk1_in 2 (by omega) l bs bn ad c N hc hN J Jx (fun s W nq hs=>hJ s W _ none hs ⟨rfl,rfl,rfl,Nat.le_refl _,fun _ _ _=>rfl⟩ (fun r e=>by cases e)) hY W ((hW.block bs hbs).trans hBs) ((hW.block bn hbn).trans hBn) h0
  case kt=>exact fun h k=>⟨k.1.trans h.1,k.2.trans h.2⟩
  case kb =>
    intro W l o o' hl ho _ _
    exact ⟨(grownBy_putObj' W l o').block bs (by have:=(Array.getElem?_eq_some_iff.1 ho).1; omega) (fun e=>by injection e; omega),(grownBy_putObj' W l o').block bn (by have:=(Array.getElem?_eq_some_iff.1 ho).1; omega) (fun e=>by injection e; omega)⟩
  case own =>
    rintro s A B row ⟨h0,hk,u,hu,hR⟩ hgr hr
    have hrow : ∀ i,i<w.heap.size→some i≠row:=fun i hi e=>by have:=(hr i e.symm).1; omega
    refine ⟨⟨hgr.os.trans h0.os,hgr.tape.trans h0.tape,hgr.output.trans h0.output,Nat.le_trans h0.size hgr.size,fun k hk=>absurd hk (Nat.not_lt_zero k)⟩,⟨Nat.le_trans hk.1 hgr.size,fun i hi hne _=>(hgr.block i (Nat.lt_of_lt_of_le hi hk.1) (hrow i hi)).trans (hk.2 i hi hne (by simp))⟩,u,(hgr.block gb (Nat.lt_of_lt_of_le hgb hk.1) (hrow gb hgb)).trans hu,?_⟩
    refine Kd.R_mono (Kd.R_grown (Kd.R_bound hR) hgr (fun k hk e=>?_)) (fun _ _=>trivial)
    obtain ⟨_,_,_,q,_,cells,hcell⟩:=hk;obtain ⟨_,o,ho,hno⟩:=hr k e.symm;rw [hcell] at ho
    cases ho
    cases hno
  case start=>exact ⟨Below.refl _ _,⟨Nat.le_refl _,fun _ _ _ _=>rfl⟩,_,hBK,Kd.R_nil _ _ _ _ _⟩
  case body =>
    rintro l pre x W ⟨h0,hk,u,hu,hR⟩ hlen
    refine wpIn_mono (hbody l x W u (pre.map E) (hP x W hk) hk.1 (by simpa using hlen) hu hR) ?_
    rintro e _ W' ⟨rfl,u',hu',hR',hk',h0'⟩
    have hown : ∀ i,some i=u.ownBlock→w.heap.size≤i∧∃ cells,W.heap[i]?=some (.cells cells 56 (0,0)):=fun i e=>by
      obtain ⟨_,h2,_,_⟩:=(Kd.R_bound hR).1 i e.symm;obtain ⟨inner,ho,_⟩:=hR.2;exact ⟨h2,own_typed ho i e.symm⟩
    refine ⟨⟨hk'.1,fun i o hi hno=>?_⟩,⟨?_,?_⟩,h0.trans h0',⟨Nat.le_trans hk.1 hk'.1,fun i hi hne _=>?_⟩,u',hu',by rw [List.map_append]; exact hR'⟩
    · refine (hk'.2 i (Array.getElem?_eq_some_iff.1 hi).1 ?_ ?_).trans hi
      · rintro rfl; rw [hu] at hi; cases hi; cases hno
      · intro e; obtain ⟨_,cells,hcell⟩:=hown i e; rw [hcell] at hi; cases hi; cases hno
    · exact hk'.2 bs (Nat.lt_of_lt_of_le hbs hk.1) hns (fun e=>by have:=(hown bs e).1; omega)
    · exact hk'.2 bn (Nat.lt_of_lt_of_le hbn hk.1) hnn (fun e=>by have:=(hown bn e).1; omega)
    · exact (hk'.2 i (Nat.lt_of_lt_of_le hi hk.1) hne (fun e=>by have:=(hown i e).1; omega)).trans (hk.2 i hi hne (by simp))
  case done =>
    rintro D xs W hD rfl ⟨h0,hk,u,hu,hR⟩ hK;exact hdone D W u hD hK h0 hk hu hR
  case stop =>
    rintro D c' pre W _ _ h _;exact h.elim
def chE (y : List S51) (x : Nat) : S56:=⟨(rd_T51 y ((4 * x + 1 : Nat) : Int)).f1,(rd_T51 y ((4 * x : Nat) : Int)).f1,(rd_T51 y ((4 * x + 2 : Nat) : Int)).f1,(rd_T51 y ((4 * x + 3 : Nat) : Int)).f1⟩
def slices_Chunk_api_Item_api_Item.f (l : List S51) (n : Int) : Option (List S56) :=
  if n=4∧0<l.length∧l.length=4 * (l.length / 4)∧l.length / 4<1000000 then some ((List.finRange (l.length / 4)).map fun x=>chE l x.1) else none
theorem chunk_f {l : List S51} {n : Int} {r : List S56} (h : slices_Chunk_api_Item_api_Item.f l n=some r) : ∃ N,0<N∧l.length=4 * N∧N<1000000∧r=(List.finRange N).map fun x=>chE l x.1:=by
  unfold slices_Chunk_api_Item_api_Item.f at h
  split at h
  · rename_i hc
    obtain ⟨_,h1,h2,h3⟩:=hc
    exact ⟨l.length / 4,by omega,h2,h3,(Option.some.inj h).symm⟩
  · cases h
def chP (y : List S51) (ad : Addr) (x : Nat) (W : World) : Prop :=
  W.cell? ⟨(ad.add (4 * x * 4)).block,(ad.add (4 * x * 4)).off + 1,none⟩=some (.int .i64 (rd_T51 y ((4 * x : Nat) : Int)).f1) ∧
  W.cell? ⟨(ad.add (4 * x * 4)).block,(ad.add (4 * x * 4)).off + 4 + 1,none⟩=some (.int .i64 (rd_T51 y ((4 * x + 1 : Nat) : Int)).f1) ∧
  W.cell? ⟨(ad.add (4 * x * 4)).block,(ad.add (4 * x * 4)).off + 8 + 1,none⟩=some (.int .i64 (rd_T51 y ((4 * x + 2 : Nat) : Int)).f1) ∧
  W.cell? ⟨(ad.add (4 * x * 4)).block,(ad.add (4 * x * 4)).off + 12 + 1,none⟩=some (.int .i64 (rd_T51 y ((4 * x + 3 : Nat) : Int)).f1)
theorem chP_of {y : List S51} {ad : Addr} {N : Nat} {W : World} (hy : y.length=4 * N) (hC : Kd.C k51 W (some ad) y.length y) (x : Fin N) : chP y ad x.1 W:=by
  have hx:=x.2
  have key : ∀ j : Nat,j<4→W.cell? ⟨(ad.add (4 * x.1 * 4)).block,(ad.add (4 * x.1 * 4)).off + j * 4 + 1,none⟩=some (.int .i64 (rd_T51 y ((4 * x.1 + j : Nat) : Int)).f1):=by
    intro j hj
    obtain ⟨ad',e,_,h1,_,_⟩:=at_T51 hC ((4 * x.1 + j : Nat) : Int) (by omega) (by omega)
    cases e
    rw [Int.toNat_natCast] at h1
    have ho : ∀ n,(ad.add n).off=ad.off + n:=fun n=>by unfold Addr.add; split <;> simp_all
    have hb : ∀ n,(ad.add n).block=ad.block:=fun n=>by unfold Addr.add; split <;> rfl
    have e2 : (ad.add ((4 * x.1 + j) * 4)).off + 1=(ad.add (4 * x.1 * 4)).off + j * 4 + 1:=by rw [ho,ho]; omega
    have e3 : (ad.add ((4 * x.1 + j) * 4)).block=(ad.add (4 * x.1 * 4)).block:=by rw [hb,hb]
    rw [e2,e3] at h1;exact h1
  exact ⟨key 0 (by omega),key 1 (by omega),key 2 (by omega),key 3 (by omega)⟩
def bodyPostR (P : Program) (fn : Func) (R : Ending→World→Prop) : Exit→Act→World→Prop
  | .normal,a,w | .ret,a,w=>(a.defers=[]∧∃ v,(results fn a.tmps).run P w=.ok v w∧R (.returned v) w) ∨
      (∃ D v,a.defers=[{ target:=.collected D,args:=#[] }]∧w.heap[D]?=some (.deferred (some []))∧(results fn a.tmps).run P (w.putObj D (.deferred none))=.ok v (w.putObj D (.deferred none))∧R (.returned v) (w.putObj D (.deferred none)))
  | .panic chain,a,w=>a.defers=[]∧R (.panicked chain) w
  | .outgrown,_,w=>R .outgrown w
  | _,_,_=>False
theorem leavesR {P : Program} {fn : Func} {R : Ending→World→Prop} {a : Act} {w : World} (h : bodyPostR P fn R .ret a w) : LeavesInM Fence.wide 3 P fn a.tmps R a.defers .returning w:=by
  rcases h with ⟨hd,v,hr,hR⟩ | ⟨D,v,hd,hK,hr,hR⟩
  · rw [hd]; exact ⟨v,hr,hR⟩
  · rw [hd]; exact ⟨by simp,.inl ⟨D,_,rfl,run_takeDeferred hK,v,hr,hR⟩⟩
theorem calls_of_wp_r {P : Program} {f : FuncId} {fn : Func} {c : Code} {args : Array Value} {w : World} {R : Ending→World→Prop} (hf : P.funcs[f]?=some fn) (hb : fn.body=some c) (h : c.wp P (bodyPostR P fn R) { tmps:=args++Array.replicate (fn.ntmps - args.size) undef,defers:=[] } w) : Calls P f args w R:=by
  refine callsIn_wide.1 (callsIn_of_wp_marks (F:=Fence.wide) (n:=3) hf hb trivial (wpIn_mono (wpIn_wide.2 h) ?_) rfl);intro e a w he
  cases e with
  | normal=>exact leavesR he
  | ret=>exact leavesR he
  | panic chain=>obtain ⟨hd,hR⟩:=he; show LeavesInM _ _ _ _ _ _ a.defers _ _; rw [hd]; exact hR
  | outgrown=>exact he
  | exit id=>exact he
  | goto l=>exact he
theorem bodyPostR_ret {P : Program} {fn : Func} {R : Ending→World→Prop} {a : Act} {w : World} {v : Value} (hr : (results fn a.tmps).run P w=.ok v w) (hd : a.defers=[]) (hR : R (.returned v) w) : bodyPostR P fn R .ret a w:=.inl ⟨hd,v,hr,hR⟩
theorem bodyPostR_mark {P : Program} {fn : Func} {R : Ending→World→Prop} {a : Act} {w : World} {v : Value} {D : Nat} (hK : w.heap[D]?=some (.deferred (some []))) (hr : (results fn a.tmps).run P (w.putObj D (.deferred none))=.ok v (w.putObj D (.deferred none))) (hd : a.defers=[{ target:=.collected D,args:=#[] }]) (hR : R (.returned v) (w.putObj D (.deferred none))) : bodyPostR P fn R .ret a w:=.inr ⟨D,v,hd,hK,hr,hR⟩
theorem close_at {w : World} {D : Nat} {o : Obj} {i : Nat} (hi : i<w.heap.size) (hne : i≠D) : (w.putObj D o).heap[i]?=w.heap[i]?:=(grownBy_putObj' w D o).block i hi (fun e=>hne (by injection e))
theorem blk_close {w : World} {g D : Nat} {t : TypeId} {cs : Array Value} {x : Option (List Deferred)} {o : Obj} (h : w.heap[g]?=some (.cells cs t (0,0))) (hD : w.heap[D]?=some (.deferred x)) : (w.putObj D o).heap[g]?=some (.cells cs t (0,0)) :=
  (close_at (blk_lt h) (by rintro rfl; rw [h] at hD; cases hD)).trans h
theorem R_close {α : Type} {d : Kd α} {e : Nat} {w : World} {base : Nat} {v : Value} {xs : List α} {D : Nat} {x : Option (List Deferred)} {o : Obj} (h : Kd.R d e w base (fun _=>True) v xs) (hD : w.heap[D]?=some (.deferred x)) : Kd.R d e (w.putObj D o) base (fun _=>True) v xs:=by
  refine Kd.R_mono (Kd.R_move (Kd.R_bound h) (fun k hk=>?_)) (fun _ _=>trivial)
  obtain ⟨_,_,hlt,q,_,cells,hc⟩:=hk
  exact close_at hlt (by rintro rfl; rw [hc] at hD; cases hD)
theorem below_close {B : Nat} {w w1 : World} {D : Nat} {x : Option (List Deferred)} {o : Obj} (h : Below B w w1) (hD : w1.heap[D]?=some (.deferred x)) (hB : B≤D) (hs : B≤w.heap.size) : Below B w (w1.putObj D o) :=
  have hg:=grownBy_putObj' w1 D o
  ⟨hg.os.trans h.os,hg.tape.trans h.tape,hg.output.trans h.output,Nat.le_trans h.size hg.size,fun k hk=>(close_at (by have:=h.size; omega) (by omega)).trans (h.block k hk)⟩
theorem below_keep' {B : Nat} {w w1 w2 : World} {g : Nat} (h : Below B w w1) (h0 : Below 0 w1 w2) (hk : KeepBut w1 w2 g none) (hg : B≤g) (hs : B≤w.heap.size) : Below B w w2 :=
  ⟨h0.os.trans h.os,h0.tape.trans h.tape,h0.output.trans h.output,Nat.le_trans h.size h0.size,fun k hk'=>(hk.2 k (by have:=h.size; omega) (by omega) (by simp)).trans (h.block k hk')⟩
theorem keep_put {W W1 : World} {g : Nat} {row : Option Nat} {j : Nat} {v : Value} (hg : W.drew.grownBy W1 row) : KeepBut W (W1.setCell ⟨g,j,none⟩ v) g row∧Below 0 W (W1.setCell ⟨g,j,none⟩ v):=by
  have h1 : Below 0 W W.drew:=(Below.refl 0 W).drew;have h2 : Below 0 W1 (W1.setCell ⟨g,j,none⟩ v):=(Below.refl 0 W1).setCell (p:=⟨g,j,none⟩) (Nat.zero_le _) _;have hsz : W.heap.size≤W.drew.heap.size:=h1.size
  refine ⟨⟨Nat.le_trans hsz (Nat.le_trans hg.size h2.size),fun i hi hne hr=>?_⟩,⟨h2.os.trans (hg.os.trans h1.os),h2.tape.trans (hg.tape.trans h1.tape),h2.output.trans (hg.output.trans h1.output),Nat.le_trans hsz (Nat.le_trans hg.size h2.size),fun k hk=>absurd hk (Nat.not_lt_zero k)⟩⟩
  exact (Below.heap_setCell W1 ⟨g,j,none⟩ v i hne).trans (hg.block i (Nat.lt_of_lt_of_le hi hsz) hr)
end Go.Proofs.YtbmcbhpkefjhbaaDoor.P
