/- by wip/prune.py -/
import Derived.Below
import Derived.Lib.ConvBytes
import Derived.Lib.SlBytesConst
import Derived.Test.YtjigckhopkclgaaMLeafDecodes3
namespace Go.Proofs.YtjigckhopkclgaaW.PrintWords
open Go.RowKit
theorem conv_at_ {P : Program} (w : World) (t e : TypeId) (C : Array Value) (n c g : Nat) (ht : P.underlying t=some (.slice e)) (he : P.underlying e=some (.int .u8)) (hg : g=w.heap.size) : (convert t t (.slice (some ⟨g,0,none⟩) n c)).run P (w.alloc (.cells C e))=.ok (.slice (some ⟨g,0,none⟩) n c) (w.alloc (.cells C e (C.size,C.size + 1))):=by
  subst hg; exact Lib.run_convert_bytes_const w t e C n c ht he
theorem C_of_block {W : World} {g t : Nat} {fr : Nat × Nat} {xs : List Int} (h : W.heap[g]?=some (.cells (xs.map (Value.int .u8)).toArray t fr)) (hl : xs.length≤9223372036854775807) : Kd.C (Kd.int .u8) W (some ⟨g,0,none⟩) xs.length xs :=
  Kd.C_of_reads (enc:=Value.int .u8) (d:=(0 : Int)) (h1:=fun _=>rfl) ⟨rfl,hl,fun _=>⟨_,rfl,fun j hj=>by
    rw [add_plain]
    unfold World.cell?
    rw [h]
    simp [List.getD_eq_getElem?_getD,hj]⟩⟩
theorem V_litc {P : Program} {ops : Array Oper} {rest : List Oper} {o o2 : Oper} {a : Act} {Q : Exit→Act→World→Prop} {w0 W : World} (base e : Nat) (hgd : o.guard=none) {N : Tmp} (_hd : o.dst=some N) (hgd2 : o2.guard=none) (xs : List Int) (hrun : (execOp a.eval o).run P W=.ok (.value (.slice (some ⟨W.heap.size,0,none⟩) xs.length xs.length)) (W.alloc (.cells (xs.map (Value.int .u8)).toArray e))) (hrun2 : (execOp (a.put o.dst (.slice (some ⟨W.heap.size,0,none⟩) xs.length xs.length)).eval o2).run P (W.alloc (.cells (xs.map (Value.int .u8)).toArray e))=.ok (.value (.slice (some ⟨W.heap.size,0,none⟩) xs.length xs.length)) (W.alloc (.cells (xs.map (Value.int .u8)).toArray e ((xs.map (Value.int .u8)).toArray.size,(xs.map (Value.int .u8)).toArray.size + 1)))) (HB : Below base w0 W) (hbase : base≤W.heap.size) (hm : xs.length≤9223372036854775807) (h : ∀ v1 w1,Kd.V (Kd.int .u8) e w1 base (fun k=>W.heap.size≤k) v1 xs→Below base w0 w1→W.grownBy w1 none→(∃ b,v1.ownBlock=some b∧W.heap.size≤b)→wpList P ops Q rest ((a.put o.dst v1).put o2.dst v1) w1) : wpList P ops Q (o :: o2 :: rest) a W:=by
  refine Kd.event_run hgd hrun (Kd.event_run hgd2 hrun2 (h _ _ ⟨_,_,rfl,Nat.le_refl _,fun W' hW=>?_⟩ (HB.alloc hbase _) (World.grownBy_alloc W _ none) ⟨W.heap.size,by simp [Value.ownBlock],Nat.le_refl _⟩))
  refine C_of_block (t:=e) (fr:=((xs.map (Value.int .u8)).toArray.size,(xs.map (Value.int .u8)).toArray.size + 1)) ?_ hm
  rw [hW _ (Nat.le_refl _) (by show W.heap.size<(W.heap.push _).size; rw [Array.size_push]; exact Nat.lt_succ_self _)]
  show (W.heap.push _)[W.heap.size]?=_
  rw [Array.getElem?_push_size]
namespace Kd
end Kd
open Go.RowKit
theorem bytes_world_ (W : World) (e : TypeId) (s : ByteArray) : Lib.bytesWorld W e s=(W.drew).alloc (.cells (Lib.bytesCells W e s) e ((Lib.bytesCells W e s).size,(Lib.bytesCells W e s).size + 1)):=by
  unfold Lib.bytesWorld
  simp only [World.freeze,World.alloc,World.drew]
  rw [if_neg (by decide)]
  congr 1
  apply Array.ext
  · simp
  · intro i h1 h2
    simp [Array.getElem_modify,Array.getElem_push]
    by_cases hi : i<W.heap.size
    · rw [if_neg (by omega)]; simp [hi]
    · have h3 : i<W.heap.size + 1:=by simpa using h2
      obtain rfl : i=W.heap.size:=by omega
      simp
theorem conv_facts {P : Program} {w0 W : World} (base e : Nat) (s : ByteArray) (HB : Below base w0 W) (hbase : base≤W.heap.size) (hm : s.size≤9223372036854775807) : Kd.V (Kd.int .u8) e (Lib.bytesWorld W e s) base (fun k=>W.heap.size≤k) (.slice (some ⟨W.heap.size,0,none⟩) s.size (grownCap W s.size 0 e)) (bytesOf s)∧Below base w0 (Lib.bytesWorld W e s)∧W.grownBy (Lib.bytesWorld W e s) none∧(∃ b,(Value.slice (some ⟨W.heap.size,0,none⟩) s.size (grownCap W s.size 0 e)).ownBlock=some b∧W.heap.size≤b):=by
  have hB : Below base w0 (Lib.bytesWorld W e s):=by
    rw [bytes_world_]; exact (HB.drew).alloc hbase _
  have hg : W.grownBy (Lib.bytesWorld W e s) none:=by
    rw [bytes_world_];have h:=World.grownBy_alloc W (.cells (Lib.bytesCells W e s) e ((Lib.bytesCells W e s).size,(Lib.bytesCells W e s).size + 1)) none;exact ⟨h.os,h.tape,h.output,h.size,h.block⟩
  refine ⟨⟨some ⟨W.heap.size,0,none⟩,grownCap W s.size 0 e,by rw [bytesOf_length],by rw [bytesOf_length]; exact grownCap_ge _ _ _ _,fun W' hW=>?_⟩,hB,hg,⟨W.heap.size,by simp [Value.ownBlock],Nat.le_refl _⟩⟩
  have hh:=hW W.heap.size (Nat.le_refl _) (by rw [Lib.bytesWorld_size]; exact Nat.lt_succ_self _)
  refine Kd.C_of_reads (enc:=Value.int .u8) (d:=(0 : Int)) (h1:=fun _=>rfl) ⟨rfl,by rw [bytesOf_length]; exact hm,fun _=>⟨_,rfl,fun j hj=>?_⟩⟩
  have hr:=(bytes_reads W e s hm).2.2;rw [bytesOf_length] at hj
  obtain ⟨ad,ea,hc⟩:=hr (by omega)
  injection ea with ea
  subst ea;have:=hc j hj;rw [add_plain] at this ⊢;rw [← this]
  unfold World.cell?
  rw [hh]
theorem conv_run {P : Program} {W : World} {o : Oper} {a : Act} (e : Nat) (s : ByteArray) (src dst : TypeId) {u : TypeDesc} (hs : P.underlying src=some u) (hd2 : P.underlying dst=some (.slice e)) (he : P.underlying e=some (.int .u8)) (hrun0 : (execOp a.eval o).run P W=((convert src dst (.string s)).run P W).andThen fun v w'=>.ok (.value v) w') : (execOp a.eval o).run P W=.ok (.value (.slice (some ⟨W.heap.size,0,none⟩) s.size (grownCap W s.size 0 e))) (Lib.bytesWorld W e s):=by
  rw [hrun0,print_bytes src dst e hs hd2 he s W]; rfl
theorem V_conv {P : Program} {ops : Array Oper} {rest : List Oper} {o : Oper} {a : Act} {Q : Exit→Act→World→Prop} {w0 W : World} (base e : Nat) (hgd : o.guard=none) {N : Tmp} (_hd : o.dst=some N) (s : ByteArray) (src dst : TypeId) {u : TypeDesc} (hs : P.underlying src=some u) (hd2 : P.underlying dst=some (.slice e)) (he : P.underlying e=some (.int .u8)) (hrun0 : (execOp a.eval o).run P W=((convert src dst (.string s)).run P W).andThen fun v w'=>.ok (.value v) w') (HB : Below base w0 W) (hbase : base≤W.heap.size) (hm : s.size≤9223372036854775807) (h : ∀ v1 w1,Kd.V (Kd.int .u8) e w1 base (fun k=>W.heap.size≤k) v1 (bytesOf s)→Below base w0 w1→W.grownBy w1 none→(∃ b,v1.ownBlock=some b∧W.heap.size≤b)→wpList P ops Q rest (a.put o.dst v1) w1) : wpList P ops Q (o :: rest) a W :=
  have c:=conv_facts (P:=P) base e s HB hbase hm
  Kd.event_run hgd (conv_run e s src dst hs hd2 he hrun0) (h _ _ c.1 c.2.1 c.2.2.1 c.2.2.2)
theorem V_conv_step {P : Program} {ops : Array Oper} {o : Oper} {a : Act} {Q : Exit→Act→World→Prop} {Kc : Act→World→Prop} {w0 W : World} (base e : Nat) (hw : Region.wanted o (yielded ops a.tmps)=true) {N : Tmp} (_hd : o.dst=some N) (s : ByteArray) (src dst : TypeId) {u : TypeDesc} (hs : P.underlying src=some u) (hd2 : P.underlying dst=some (.slice e)) (he : P.underlying e=some (.int .u8)) (hrun0 : (execOp a.eval o).run P W=((convert src dst (.string s)).run P W).andThen fun v w'=>.ok (.value v) w') (HB : Below base w0 W) (hbase : base≤W.heap.size) (hm : s.size≤9223372036854775807) (h : ∀ v1 w1,Kd.V (Kd.int .u8) e w1 base (fun k=>W.heap.size≤k) v1 (bytesOf s)→Below base w0 w1→W.grownBy w1 none→(∃ b,v1.ownBlock=some b∧W.heap.size≤b)→Kc (a.put o.dst v1) w1) : if Region.wanted o (yielded ops a.tmps)=true then Oper.wp P o a W Kc Q else Kc (a.put o.dst undef) W :=
  have c:=conv_facts (P:=P) base e s HB hbase hm
  event_step hw (conv_run e s src dst hs hd2 he hrun0) (h _ _ c.1 c.2.1 c.2.2.1 c.2.2.2)
end Go.Proofs.YtjigckhopkclgaaW.PrintWords
