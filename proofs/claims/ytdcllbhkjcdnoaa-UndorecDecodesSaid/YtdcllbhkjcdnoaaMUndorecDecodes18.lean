/- by wip/prune.py -/
import Derived.Test.YtdcllbhkjcdnoaaMUndorecDecodes4
import Derived.Test.YtdcllbhkjcdnoaaMUndorecDecodes5
import Derived.Test.YtdcllbhkjcdnoaaMUndorecDecodes10
import Derived.Test.YtdcllbhkjcdnoaaMUndorecDecodes13
import Derived.Test.YtdcllbhkjcdnoaaMUndorecDecodes14
import Derived.Test.YtdcllbhkjcdnoaaMUndorecDecodes15
import Derived.Test.YtdcllbhkjcdnoaaMUndorecDecodes16
import Derived.Test.YtdcllbhkjcdnoaaMUndorecDecodes17
set_option linter.unusedSimpArgs false
set_option linter.unusedVariables false
namespace Go.Proofs.Ytdcllbhkjcdnoaa.P
open Go.RowKit Ytdcllbhkjcdnoaa Ytdcllbhkjcdnoaa.Mem Ytdcllbhkjcdnoaa.Pac YtdcllbhkjcdnoaaW.PrintWords YtdcllbhkjcdnoaaW.PrintLast YtdcllbhkjcdnoaaW.PrintMore
def headIt (ke : Nat) (d wr ce no n : Int) : List It:=[⟨1,d,0,⟨#[]⟩⟩,⟨4,0,ke,⟨#[]⟩⟩,⟨3,wr,0,⟨#[]⟩⟩,⟨2,ce,0,⟨#[]⟩⟩,⟨3,no,0,⟨#[]⟩⟩,⟨1,n,0,⟨#[]⟩⟩]
def colIt (co : List Nat) : List It:=co.map (fun x => ⟨4,0,x,⟨#[]⟩⟩)
def dN (de : Bool) : Int:=if de = true then 1 else 0
def rowIt (ke : Nat) (de : Bool) (co : List Nat) (wr ce no : Int) : List It:=headIt ke (dN de) wr ce no (co.length : Int) ++ colIt co
theorem mem6 {α : Type} {P : α → Prop} {a b c d e f : α} (ha : P a) (hb : P b) (hc : P c) (hd : P d) (he : P e) (hf : P f) : ∀ x ∈ [a,b,c,d,e,f],P x:=by
  intro x hx
  simp only [List.mem_cons,List.not_mem_nil,or_false] at hx
  rcases hx with rfl | rfl | rfl | rfl | rfl | rfl <;> assumption
theorem head_may {ke : Nat} {d wr ce no n : Int} (h1 : 0 ≤ d ∧ d < 256) (h2 : 0 ≤ wr ∧ wr ≤ 2147483647) (h3 : 0 ≤ ce ∧ ce < 65536) (h4 : 0 ≤ no ∧ no ≤ 2147483647) (h5 : 0 ≤ n ∧ n < 256) : ∀ a ∈ headIt ke d wr ce no n,may a = true:=by
  refine mem6 ?_ ?_ ?_ ?_ ?_ ?_
  · rw [may_1,nil_str]; simp; exact h1
  · rw [may_4,nil_str]; rfl
  · rw [may_3,nil_str]; simp; omega
  · rw [may_2,nil_str]; simp; exact h3
  · rw [may_3,nil_str]; simp; omega
  · rw [may_1,nil_str]; simp; exact h5
theorem col_may (co : List Nat) : ∀ a ∈ colIt co,may a = true:=by
  intro a ha;obtain ⟨x,_,rfl⟩:=List.mem_map.1 ha;rw [may_4,nil_str]; rfl
theorem dN_bd (de : Bool) : 0 ≤ dN de ∧ dN de < 256:=by cases de <;> decide
theorem rowIt_may {ke : Nat} {de : Bool} {co : List Nat} {wr ce no : Int} (h : mayRow ke de co wr ce no = true) : ∀ a ∈ rowIt ke de co wr ce no,may a = true:=by
  obtain ⟨h1,h2,h3,h4,h5,h6,h7,h8⟩:=mayRow_iff.1 h;intro a ha
  rcases List.mem_append.1 ha with ha | ha
  · exact head_may (dN_bd de) h5 h6 h7 (by omega) a ha
  · exact col_may co a ha
theorem rowIt_x {ke : Nat} {de : Bool} {co : List Nat} {wr ce no : Int} (hk : ke < 18446744073709551616) (hc : ∀ x ∈ co,x < 18446744073709551616) : ∀ a ∈ rowIt ke de co wr ce no,a.x < 18446744073709551616:=by
  intro a ha
  rcases List.mem_append.1 ha with ha | ha
  · exact mem6 (P:=fun a => a.x < 18446744073709551616) (show 0 < 18446744073709551616 by decide) hk (show 0 < 18446744073709551616 by decide) (show 0 < 18446744073709551616 by decide) (show 0 < 18446744073709551616 by decide) (show 0 < 18446744073709551616 by decide) a ha
  · obtain ⟨x,hx,rfl⟩:=List.mem_map.1 ha
    exact hc x hx
theorem val_of_key {x : Nat} (h : x = Flt.key x) : Flt.val x = x:=by
  unfold Flt.key at h
  split at h
  · subst h; exact val0
  · exact h.symm
theorem rowIt_norm {ke : Nat} {de : Bool} {co : List Nat} {wr ce no : Int} (h : mayRow ke de co wr ce no = true) : (rowIt ke de co wr ce no).map norm = rowIt ke de co wr ce no:=by
  obtain ⟨h1,h2,h3,h4,h5,h6,h7,h8⟩:=mayRow_iff.1 h
  unfold rowIt
  rw [List.map_append]
  congr 1
  · unfold headIt norm
    simp only [List.map_cons,List.map_nil,val0,val_of_key h1]
  · unfold colIt
    rw [List.map_map]
    refine List.map_congr_left (fun x hx => ?_)
    have hv:=od_ ((List.all_eq_true.1 h4) x hx)
    show (⟨4,0,Flt.val x,⟨#[]⟩⟩ : It) = _
    rw [← hv]
def headS (ke : Nat) (d wr ce no n : Int) : List SIt:=[⟨1,d,0,⟨#[]⟩⟩,⟨4,0,ke,⟨#[]⟩⟩,⟨3,wr,0,⟨#[]⟩⟩,⟨2,ce,0,⟨#[]⟩⟩,⟨3,no,0,⟨#[]⟩⟩,⟨1,n,0,⟨#[]⟩⟩]
def colS (co : List Nat) : List SIt:=co.map (fun x => ⟨4,0,x,⟨#[]⟩⟩)
theorem rowS_it (ke : Nat) (de : Bool) (co : List Nat) (wr ce no : Int) : (headS ke (dN de) wr ce no (co.length : Int) ++ colS co).map itOf = rowIt ke de co wr ce no:=by
  rw [List.map_append]
  unfold rowIt colS colIt
  rw [List.map_map];rfl
theorem bd_of {l : List SIt} (h : ∀ a ∈ l.map itOf,a.x < 18446744073709551616) : bdX l = true:=by
  unfold bdX
  rw [List.all_eq_true];intro x hx;exact dt_ (h (itOf x) (List.mem_map.2 ⟨x,hx,rfl⟩))
theorem put_rows {l : List SIt} (hl : l.length ≤ 1000) (hm : ∀ a ∈ l.map itOf,may a = true) (hx : ∀ a ∈ l.map itOf,a.x < 18446744073709551616) : pack_Put.f l = some (ones (l.map itOf),0) ∧ humusref03_Put.f l = some (ones (l.map itOf),true):=by
  have ha : (l.map itOf).all may = true:=by rw [List.all_eq_true]; exact hm
  unfold pack_Put.f humusref03_Put.f
  have hb : l.length ≤ 1000 ∧ bdX l = true:=⟨hl,bd_of hx⟩;rw [if_pos hb,if_pos hb,ha,if_pos rfl];exact ⟨rfl,rfl⟩
theorem colS_drop {co : List Nat} {i : Nat} (hi : i < co.length) : colS (co.drop i) = ⟨4,0,rdF co i,⟨#[]⟩⟩ :: colS (co.drop (i + 1)):=by
  rw [rdF_of (List.getElem?_eq_getElem hi),List.drop_eq_getElem_cons hi];rfl
theorem enc_l1 (co : List Nat) (hl : co.length ≤ 1000) (r : List Int × Int) : ∀ (d i k : Nat) (xs : List SIt),i + d = co.length → d < k → xs.length + d ≤ 2000 → pack_Put.f (xs ++ colS (co.drop i)) = some r → row_Encode.l1 k xs co (co.length : Int) (i : Int) = some r:=by
  intro d
  induction d with
  | zero =>
    intro i k xs hi hk hx h
    obtain ⟨k,rfl⟩ : ∃ m,k = m + 1:=⟨k - 1,by omega⟩
    obtain rfl : i = co.length:=by omega
    simp only [row_Encode.l1]
    rw [if_neg (by omega)]
    rw [List.drop_length,show colS [] = [] from rfl,List.append_nil] at h
    rw [h]; rfl
  | succ d ih =>
    intro i k xs hi hk hx h
    obtain ⟨k,rfl⟩ : ∃ m,k = m + 1:=⟨k - 1,by omega⟩
    simp only [row_Encode.l1]
    rw [if_pos (by omega),if_pos (by omega),if_pos (by omega),if_pos (by omega)]
    rw [show wrap64 ((i : Int) + 1) = ((i + 1 : Nat) : Int) by unfold wrap64; omega]
    rw [colS_drop (by omega),List.append_cons] at h
    exact ih (i + 1) k _ (by omega) (by omega) (by rw [List.length_append,List.length_singleton]; omega) h
theorem enc_l0 (k : Nat) (ke : Nat) (d wr ce no n : Int) (ke' : Nat) (de : Bool) (co : List Nat) (wr' ce' no' : Int) :
    row_Encode.l0 (k + 7) ([(⟨0,d,0,(⟨#[]⟩ : ByteArray)⟩ : SIt),(⟨0,0,ke,(⟨#[]⟩ : ByteArray)⟩ : SIt),(⟨0,wr,0,(⟨#[]⟩ : ByteArray)⟩ : SIt),(⟨0,ce,0,(⟨#[]⟩ : ByteArray)⟩ : SIt),(⟨0,no,0,(⟨#[]⟩ : ByteArray)⟩ : SIt),(⟨0,n,0,(⟨#[]⟩ : ByteArray)⟩ : SIt)] : List SIt) [1,4,3,2,3,1] 6 0 ke' de co wr' ce' no' = row_Encode.l1 k (headS ke d wr ce no n) co (co.length : Int) 0:=by
  unfold headS
  have w0 : wrap64 1 = 1:=by unfold wrap64; omega
  have w1 : wrap64 2 = 2:=by unfold wrap64; omega
  have w2 : wrap64 3 = 3:=by unfold wrap64; omega
  have w3 : wrap64 4 = 4:=by unfold wrap64; omega
  have w4 : wrap64 5 = 5:=by unfold wrap64; omega
  have w5 : wrap64 6 = 6:=by unfold wrap64; omega
  simp [row_Encode.l0,w0,w1,w2,w3,w4,w5,rd,rd_T86]
theorem row_Encode_ev {k : Nat} {ke : Nat} {de : Bool} {co : List Nat} {wr ce no : Int} (hk : co.length + 20 ≤ k) (hl : co.length ≤ 900) (hx : ke < 18446744073709551616) (hc : ∀ x ∈ co,x < 18446744073709551616) :
    row_Encode.f k ke de co wr ce no = some (if mayRow ke de co wr ce no = true then (ones (rowIt ke de co wr ce no),0) else ([],1)):=by
  unfold row_Encode.f
  rw [row_Check_ev (by omega) (by omega)]
  simp only [Option.bind_some]
  by_cases hm : mayRow ke de co wr ce no = true
  · rw [if_pos hm,if_pos hm,if_pos rfl]
    have hlen : co.length ≤ 4:=(mayRow_iff.1 hm).2.1
    obtain ⟨k,rfl⟩ : ∃ m,k = m + 8:=⟨k - 8,by omega⟩
    have hp:=(put_rows (l:=headS ke (dN de) wr ce no (co.length : Int) ++ colS co) (by rw [List.length_append]; show 6 + (co.map _).length ≤ 1000; rw [List.length_map]; omega) (by rw [rowS_it]; exact rowIt_may hm) (by rw [rowS_it]; exact rowIt_x hx hc)).1
    rw [rowS_it] at hp
    have hj : ∀ d,d = dN de → row_Encode.j0 (k + 8) d ke de co wr ce no = some (ones (rowIt ke de co wr ce no),0):=by
      rintro d rfl
      simp only [row_Encode.j0,row_head.f,Option.bind_some]
      rw [show (([1,4,3,2,3,1] : List Int).length : Int) = 6 from rfl,enc_l0]
      exact enc_l1 co (by omega) _ co.length 0 k _ (by omega) (by omega) (by show 6 + co.length ≤ 2000; omega) (by rw [List.drop_zero]; exact hp)
    cases de with
    | true => rw [if_pos rfl]; exact hj 1 rfl
    | false => rw [if_neg (by decide)]; exact hj 0 rfl
  · rw [if_neg hm,if_neg hm,if_neg (by decide)]
theorem byt_l0 (ke : Nat) (de : Bool) (co : List Nat) (wr ce no : Int) (hl : co.length ≤ 1000) (r : List Int × Bool) : ∀ (d i k : Nat) (xs : List SIt),i + d = co.length → d < k → xs.length + d ≤ 2000 → humusref03_Put.f (xs ++ colS (co.drop i)) = some r → humusref04_Bytes.l0 k xs (i : Int) ke de co wr ce no = some r.1:=by
  intro d
  induction d with
  | zero =>
    intro i k xs hi hk hx h
    obtain ⟨k,rfl⟩ : ∃ m,k = m + 1:=⟨k - 1,by omega⟩
    obtain rfl : i = co.length:=by omega
    simp only [humusref04_Bytes.l0]
    rw [if_neg (by omega)]
    rw [List.drop_length,show colS [] = [] from rfl,List.append_nil] at h
    rw [h]; rfl
  | succ d ih =>
    intro i k xs hi hk hx h
    obtain ⟨k,rfl⟩ : ∃ m,k = m + 1:=⟨k - 1,by omega⟩
    simp only [humusref04_Bytes.l0]
    rw [if_pos (by omega),if_pos (by omega),if_pos (by omega)]
    rw [show wrap64 ((i : Int) + 1) = ((i + 1 : Nat) : Int) by unfold wrap64; omega]
    rw [colS_drop (by omega),List.append_cons] at h
    exact ih (i + 1) k _ (by omega) (by omega) (by rw [List.length_append,List.length_singleton]; omega) h
theorem Bytes04_ev {k : Nat} {ke : Nat} {de : Bool} {co : List Nat} {wr ce no : Int} (hk : co.length + 3 ≤ k) (hx : ke < 18446744073709551616) (hc : ∀ x ∈ co,x < 18446744073709551616) (hm : mayRow ke de co wr ce no = true) :
    humusref04_Bytes.f k ke de co wr ce no = some (ones (rowIt ke de co wr ce no)):=by
  unfold humusref04_Bytes.f
  have hlen : co.length ≤ 4:=(mayRow_iff.1 hm).2.1
  obtain ⟨k,rfl⟩ : ∃ m,k = m + 1:=⟨k - 1,by omega⟩
  have hp:=(put_rows (l:=headS ke (dN de) wr ce no (co.length : Int) ++ colS co) (by rw [List.length_append]; show 6 + (co.map _).length ≤ 1000; rw [List.length_map]; omega) (by rw [rowS_it]; exact rowIt_may hm) (by rw [rowS_it]; exact rowIt_x hx hc)).2
  rw [rowS_it] at hp
  have hj : ∀ d,d = dN de → humusref04_Bytes.j0 (k + 1) d ke de co wr ce no = some (ones (rowIt ke de co wr ce no)):=by
    rintro d rfl
    simp only [humusref04_Bytes.j0]
    exact byt_l0 ke de co wr ce no (by omega) _ co.length 0 k (headS ke (dN de) wr ce no (co.length : Int)) (by omega) (by omega) (by show 6 + co.length ≤ 2000; omega) (by rw [List.drop_zero]; exact hp)
  cases de with
  | true => rw [if_pos rfl]; exact hj 1 rfl
  | false => rw [if_neg (by decide)]; exact hj 0 rfl
end Go.Proofs.Ytdcllbhkjcdnoaa.P
namespace Go.Proofs.Ytdcllbhkjcdnoaa.P
open Go.RowKit Ytdcllbhkjcdnoaa Ytdcllbhkjcdnoaa.Mem Ytdcllbhkjcdnoaa.Pac YtdcllbhkjcdnoaaW.PrintWords YtdcllbhkjcdnoaaW.PrintLast YtdcllbhkjcdnoaaW.PrintMore
abbrev DecT:=Nat × Bool × List Nat × Int × Int × Int × Int
def decErr : DecT:=(0,false,[],0,0,0,4)
theorem dec_l0 (x0 : List Int) (x5 x6 x8 : Int) (xs : List SIt) (ke : Nat) (de : Bool) (wr ce no : Int) (hl : xs.length ≤ 900) : ∀ (d i k : Nat) (co : List Nat),i + d = xs.length → d + 3 < k → co.length + d ≤ 900 →
    row_Decode.l0 k x0 x5 x6 x8 xs (xs.length : Int) (i : Int) ke de co wr ce no = some (if x6 = 0 ∧ wrap64 (x5 + x8) = (x0.length : Int) ∧ mayRow ke de (co ++ (xs.drop i).map (·.f2)) wr ce no = true then (ke,de,co ++ (xs.drop i).map (·.f2),wr,ce,no,0) else decErr):=by
  intro d
  induction d with
  | zero =>
    intro i k co hi hk hc
    obtain ⟨k,rfl⟩ : ∃ m,k = m + 1:=⟨k - 1,by omega⟩
    obtain rfl : i = xs.length:=by omega
    simp only [row_Decode.l0]
    rw [if_neg (by omega),List.drop_length,List.map_nil,List.append_nil]
    by_cases h6 : x6 = 0
    · rw [if_pos h6]
      by_cases h8 : wrap64 (x5 + x8) = (x0.length : Int)
      · rw [if_pos h8,row_Check_ev (by omega) (by omega)]
        simp only [Option.bind_some]
        by_cases hm : mayRow ke de co wr ce no = true
        · rw [if_pos hm,if_pos rfl,if_pos ⟨h6,h8,hm⟩]
        · rw [if_neg hm,if_neg (by decide),if_neg (fun h => hm h.2.2)]; rfl
      · rw [if_neg h8,if_neg (fun h => h8 h.2.1)]; rfl
    · rw [if_neg h6,if_neg (fun h => h6 h.1)]; rfl
  | succ d ih =>
    intro i k co hi hk hc
    obtain ⟨k,rfl⟩ : ∃ m,k = m + 1:=⟨k - 1,by omega⟩
    have hlt : i < xs.length:=by omega
    simp only [row_Decode.l0]
    rw [if_pos (by omega),if_pos (by omega),if_pos (by omega),if_pos (by omega)]
    rw [show wrap64 ((i : Int) + 1) = ((i + 1 : Nat) : Int) by unfold wrap64; omega]
    rw [ih (i + 1) k _ (by omega) (by omega) (by rw [List.length_append,List.length_singleton]; omega)]
    have e : co ++ [(rd_T86 xs (i : Int)).f2] ++ (xs.drop (i + 1)).map (·.f2) = co ++ (xs.drop i).map (·.f2):=by
      rw [List.drop_eq_getElem_cons hlt,List.map_cons,List.append_assoc]
      congr 1
      unfold rd_T86
      rw [Int.toNat_natCast,List.getD_eq_getElem?_getD,List.getElem?_eq_getElem hlt]; rfl
    rw [e]
theorem reps4 (m : Nat) : reps m [4] = List.replicate m 4:=by
  unfold reps
  induction m with
  | zero => rfl
  | succ m ih => rw [List.replicate_succ,List.flatten_cons,ih,List.replicate_succ]; rfl
theorem kinds_rep (m : Nat) : kindsOk (List.replicate m 4) = true:=by
  unfold kindsOk
  rw [List.all_eq_true];intro x hx;rw [List.eq_of_mem_replicate hx]; decide
theorem byB_drop {b : List Int} (h : byB b = true) (n : Nat) : byB (b.drop n) = true:=byB_bytes.2 ((byB_bytes.1 h).drop n)
theorem fin_if {A : Type} {n m c : Nat} {P : Prop} [Decidable P] (x y : A) : (if (0 : Int) = 0 ∧ ((n + m : Nat) : Int) = (c : Int) ∧ P then x else y) = (if n + m = c ∧ P then x else y):=by
  by_cases h : n + m = c ∧ P
  · rw [if_pos h,if_pos ⟨rfl,by omega,h.2⟩]
  · rw [if_neg h,if_neg (fun h2 => h ⟨by omega,h2.2.2⟩)]
set_option maxHeartbeats 4000000 in
theorem dec_any {k : Nat} {b : List Int} (hk : 40 ≤ k) (hb : byB b = true) (hl : b.length ≤ 100000) :
    row_Decode.f k b = some (match takes b 0 [1,4,3,2,3,1] with
      | some ([i0,i1,i2,i3,i4,i5],n) => if i0.n > 1 then decErr else if i5.n > 4 then decErr else
          (match takes (b.drop n) 0 (List.replicate i5.n.toNat 4) with
          | none => decErr
          | some (l2,m) => if n + m = b.length ∧ mayRow i1.x (i0.n == 1) (l2.map (·.x)) i2.n i3.n i4.n = true then (i1.x,(i0.n == 1),l2.map (·.x),i2.n,i3.n,i4.n,0) else decErr)
      | _ => decErr):=by
  have hby:=byB_bytes.1 hb
  obtain ⟨k,rfl⟩ : ∃ m,k = m + 2:=⟨k - 2,by omega⟩
  unfold row_Decode.f row_head.f
  simp only [Option.bind_some]
  unfold pack_Take.f takeF
  rw [if_pos ⟨hb,by omega,by decide⟩]
  simp only [Option.bind_some]
  have hj : ∀ l n,row_Decode.j0 (k + 2) b l n true = some decErr:=fun l n => by simp only [row_Decode.j0,if_true]; rfl
  unfold takeR
  rw [if_pos (show kindsOk [1,4,3,2,3,1] = true by decide)]
  cases ht : takes b 0 [1,4,3,2,3,1] with
  | none =>
    simp only
    rw [if_neg (by decide)]
    exact hj _ _
  | some p =>
    obtain ⟨l,n⟩:=p
    obtain ⟨t1,t2,t3,t4,t5,t6,t7⟩:=takes_spec hby _ _ _ _ (Nat.zero_le _) (by decide) ht
    have h6 : l.length = 6:=by rw [← List.length_map (f:=(·.k)),t3]; rfl
    obtain ⟨i0,i1,i2,i3,i4,i5,rfl⟩ : ∃ a b c d e f,l = [a,b,c,d,e,f]:=by
      match l,h6 with
      | [a,b,c,d,e,f],_ => exact ⟨a,b,c,d,e,f,rfl⟩
    simp only [List.map_cons,List.map_nil]
    rw [if_pos trivial];have r0 : rd_T86 [ofIt i0,ofIt i1,ofIt i2,ofIt i3,ofIt i4,ofIt i5] 0 = ofIt i0:=rfl;have r1 : rd_T86 [ofIt i0,ofIt i1,ofIt i2,ofIt i3,ofIt i4,ofIt i5] 1 = ofIt i1:=rfl;have r2 : rd_T86 [ofIt i0,ofIt i1,ofIt i2,ofIt i3,ofIt i4,ofIt i5] 2 = ofIt i2:=rfl;have r3 : rd_T86 [ofIt i0,ofIt i1,ofIt i2,ofIt i3,ofIt i4,ofIt i5] 3 = ofIt i3:=rfl;have r4 : rd_T86 [ofIt i0,ofIt i1,ofIt i2,ofIt i3,ofIt i4,ofIt i5] 4 = ofIt i4:=rfl;have r5 : rd_T86 [ofIt i0,ofIt i1,ofIt i2,ofIt i3,ofIt i4,ofIt i5] 5 = ofIt i5:=rfl;have hlen : (([ofIt i0,ofIt i1,ofIt i2,ofIt i3,ofIt i4,ofIt i5] : List SIt).length : Int) = 6:=rfl
    simp only [r0,r5,hlen]
    rw [if_pos (by decide)]
    have e0 : (ofIt i0).f1 = i0.n:=rfl;have e1 : (ofIt i1).f2 = i1.x:=rfl;have e2 : (ofIt i2).f1 = i2.n:=rfl;have e3 : (ofIt i3).f1 = i3.n:=rfl;have e4 : (ofIt i4).f1 = i4.n:=rfl;have e5 : (ofIt i5).f1 = i5.n:=rfl;rw [e0,e5]
    by_cases hn0 : i0.n > 1
    · rw [if_pos hn0,if_pos hn0]; exact hj _ _
    rw [if_neg hn0,if_neg hn0,if_pos (by decide)]
    by_cases hn5 : i5.n > 4
    · rw [if_pos hn5,dt_ hn5]; exact hj _ _
    rw [if_neg hn5,df_ hn5]
    have hm5 : may i5 = true:=t4 i5 (by simp)
    have hk5 : i5.k = 1:=by have:=congrArg (fun z => z[5]?) t3; simpa using this
    have h5:=(form123 hm5 (.inl hk5)).2.1
    simp only [row_Decode.j0]
    rw [if_neg (by decide),if_pos (by omega),if_pos (by omega),if_pos (show (5 : Int) < (([ofIt i0,ofIt i1,ofIt i2,ofIt i3,ofIt i4,ofIt i5] : List SIt).length : Int) by rw [hlen]; decide)]
    unfold slices_Repeat_int_int.f
    simp only [r0,r1,r2,r3,r4,r5,e0,e1,e2,e3,e4,e5,hlen]
    rw [if_pos ⟨h5,by omega,by decide⟩]
    simp only [Option.bind_some]
    unfold pack_Take.f takeF
    rw [reps4]
    rw [if_pos ⟨byB_drop hb _,by rw [List.length_drop]; omega,by rw [List.length_replicate]; omega⟩]
    simp only [Option.bind_some]
    rw [if_pos (by decide),if_pos (by decide),if_pos (by decide),if_pos (by decide),if_pos (by decide)]
    unfold takeR
    rw [if_pos (kinds_rep _),Int.toNat_natCast]
    cases ht2 : takes (b.drop n) 0 (List.replicate i5.n.toNat 4) with
    | none =>
      simp only [List.map_nil]
      have:=dec_l0 b (n : Int) 4 0 [] i1.x (i0.n == 1) i2.n i3.n i4.n (by decide) 0 0 (k + 1) [] rfl (by omega) (by decide)
      rw [if_neg (by intro h; exact absurd h.1 (by decide))] at this
      exact this
    | some q =>
      obtain ⟨l2,m⟩:=q;have hs2:=takes_spec (hby.drop n) _ _ _ _ (Nat.zero_le _) (kinds_rep _) ht2;have hl2:=takes_len (hby.drop n) (Nat.zero_le _) (kinds_rep _) ht2;rw [List.length_replicate] at hl2
      simp only
      have:=dec_l0 b (n : Int) 0 (m : Int) (l2.map ofIt) i1.x (i0.n == 1) i2.n i3.n i4.n (by rw [List.length_map]; omega) (l2.map ofIt).length 0 (k + 1) [] (by omega) (by rw [List.length_map]; omega) (by rw [List.length_map,List.length_nil]; omega)
      have ex : (l2.map ofIt).map (·.f2) = l2.map (·.x):=by rw [List.map_map]; rfl
      rw [List.drop_zero,List.nil_append,ex] at this;rw [List.length_drop] at hs2
      have hw : wrap64 ((n : Int) + (m : Int)) = ((n + m : Nat) : Int):=by unfold wrap64; omega
      rw [hw] at this;rw [fin_if] at this;exact this
set_option maxHeartbeats 4000000 in
theorem dec_two {b : List Int} (hb : byB b = true) (hl : b.length ≤ 100000) : (∀ k,40 ≤ k → row_Decode.f k b = some decErr) ∨ ∃ ke de co wr ce no,(∀ k,40 ≤ k → row_Decode.f k b = some (ke,de,co,wr,ce,no,0)) ∧ mayRow ke de co wr ce no = true ∧ ke < 18446744073709551616 ∧ (∀ x ∈ co,x < 18446744073709551616) ∧ b = ones (rowIt ke de co wr ce no):=by
  have hA:=fun k (hk : 40 ≤ k) => dec_any hk hb hl
  have hby:=byB_bytes.1 hb
  cases ht : takes b 0 [1,4,3,2,3,1] with
  | none => rw [ht] at hA; exact .inl hA
  | some p =>
    obtain ⟨l,n⟩:=p
    obtain ⟨t1,t2,t3,t4,t5,t6,t7⟩:=takes_spec hby _ _ _ _ (Nat.zero_le _) (by decide) ht
    have h6 : l.length = 6:=by rw [← List.length_map (f:=(·.k)),t3]; rfl
    obtain ⟨i0,i1,i2,i3,i4,i5,rfl⟩ : ∃ a b c d e f,l = [a,b,c,d,e,f]:=by
      match l,h6 with
      | [a,b,c,d,e,f],_ => exact ⟨a,b,c,d,e,f,rfl⟩
    rw [ht] at hA
    simp only at hA
    by_cases hn0 : i0.n > 1
    · left; simp only [if_pos hn0] at hA; exact hA
    by_cases hn5 : i5.n > 4
    · left; simp only [if_neg hn0,if_pos hn5] at hA; exact hA
    simp only [if_neg hn0,if_neg hn5] at hA
    simp only [List.map_cons,List.map_nil,List.cons.injEq,and_true] at t3
    obtain ⟨k0,k1,k2,k3,k4,k5⟩:=t3
    have f0:=form123 (t4 i0 (by simp)) (.inl k0)
    have f1:=form4 (t4 i1 (by simp)) k1
    have f2:=form123 (t4 i2 (by simp)) (.inr (.inr k2))
    have f3:=form123 (t4 i3 (by simp)) (.inr (.inl k3))
    have f4:=form123 (t4 i4 (by simp)) (.inr (.inr k4))
    have f5:=form123 (t4 i5 (by simp)) (.inl k5)
    cases ht2 : takes (b.drop n) 0 (List.replicate i5.n.toNat 4) with
    | none => rw [ht2] at hA; exact .inl hA
    | some q =>
      obtain ⟨l2,m⟩:=q;rw [ht2] at hA
      simp only at hA
      obtain ⟨s1,s2,s3,s4,s5,s6,s7⟩:=takes_spec (hby.drop n) _ _ _ _ (Nat.zero_le _) (kinds_rep _) ht2;have hl2:=takes_len (hby.drop n) (Nat.zero_le _) (kinds_rep _) ht2;rw [List.length_replicate] at hl2
      by_cases hc : n + m = b.length ∧ mayRow i1.x (i0.n == 1) (l2.map (·.x)) i2.n i3.n i4.n = true
      · right
        simp only [if_pos hc] at hA
        refine ⟨_,_,_,_,_,_,hA,hc.2,t6 i1 (by simp),?_,?_⟩
        · intro x hx
          obtain ⟨a,ha,rfl⟩:=List.mem_map.1 hx;exact s6 a ha
        · have hcol : colIt (l2.map (·.x)) = l2:=by
            unfold colIt
            rw [List.map_map]
            conv => rhs; rw [← List.map_id l2]
            refine List.map_congr_left (fun a ha => ?_)
            have hk : a.k = 4:=by
              have : a.k ∈ l2.map (·.k):=List.mem_map.2 ⟨a,ha,rfl⟩;rw [s3] at this;exact List.eq_of_mem_replicate this
            exact (form4 (s4 a ha) hk).symm
          have hd : dN (i0.n == 1) = i0.n:=by
            unfold dN
            have:=f0.2.1
            by_cases h1 : i0.n = 1
            · rw [if_pos (by simpa using h1),h1]
            · rw [if_neg (by simpa using h1)]; omega
          have hhead : headIt i1.x (dN (i0.n == 1)) i2.n i3.n i4.n ((l2.map (·.x)).length : Int) = [i0,i1,i2,i3,i4,i5]:=by
            rw [hd,List.length_map,hl2];have h5:=f5.2.1;rw [Int.toNat_of_nonneg h5]
            unfold headIt
            rw [← k0,← k1,← k2,← k3] at *;rw [f0.1,f1,f2.1,f3.1,f4.1,f5.1]
            simp only [k1,k4,k5]
          unfold rowIt
          rw [hhead,hcol,ones_append,t7,s7,List.drop_zero,Nat.sub_zero,Nat.sub_zero,List.drop_zero]
          rw [List.take_of_length_le (l:=b.drop n) (by rw [List.length_drop]; omega),List.take_append_drop]
      · left; simp only [if_neg hc] at hA; exact hA
end Go.Proofs.Ytdcllbhkjcdnoaa.P
namespace Go.Proofs.Ytdcllbhkjcdnoaa.P
open Go.RowKit Ytdcllbhkjcdnoaa Ytdcllbhkjcdnoaa.Mem Ytdcllbhkjcdnoaa.Pac YtdcllbhkjcdnoaaW.PrintWords YtdcllbhkjcdnoaaW.PrintLast YtdcllbhkjcdnoaaW.PrintMore
theorem colIt_k (co : List Nat) : (colIt co).map (·.k) = List.replicate co.length 4:=by
  unfold colIt
  rw [List.map_map]
  induction co with
  | nil => rfl
  | cons x co ih => rw [List.map_cons,ih,List.length_cons,List.replicate_succ]; rfl
theorem colIt_x (co : List Nat) : (colIt co).map (·.x) = co:=by
  unfold colIt
  rw [List.map_map]
  conv => rhs; rw [← List.map_id co]
  rfl
theorem rowIt_parts {ke : Nat} {de : Bool} {co : List Nat} {wr ce no : Int} (h : mayRow ke de co wr ce no = true) :
    (headIt ke (dN de) wr ce no (co.length : Int)).map norm = headIt ke (dN de) wr ce no (co.length : Int) ∧ (colIt co).map norm = colIt co:=by
  have:=rowIt_norm h
  unfold rowIt at this
  rw [List.map_append] at this
  exact List.append_inj this (by rw [List.length_map])
theorem ones_byB {l : List It} (h : ∀ a ∈ l,may a = true) : byB (ones l) = true:=byB_bytes.2 (ones_bytes h)
theorem dec_row {k : Nat} {ke : Nat} {de : Bool} {co : List Nat} {wr ce no : Int} (hk : 40 ≤ k) (hm : mayRow ke de co wr ce no = true) (hx : ke < 18446744073709551616) (hc : ∀ x ∈ co,x < 18446744073709551616) :
    row_Decode.f k (ones (rowIt ke de co wr ce no)) = some (ke,de,co,wr,ce,no,0):=by
  have hmay:=rowIt_may hm;have hxx:=rowIt_x (de:=de) (wr:=wr) (ce:=ce) (no:=no) hx hc;have hlen : co.length ≤ 4:=(mayRow_iff.1 hm).2.1
  have hll : (ones (rowIt ke de co wr ce no)).length ≤ 100000:=by
    have:=ones_length hmay
    have h2 : (rowIt ke de co wr ce no).length = 6 + co.length:=by
      unfold rowIt colIt
      rw [List.length_append,List.length_map]; rfl
    omega
  rw [dec_any hk (ones_byB hmay) hll];obtain ⟨n1,n2⟩:=rowIt_parts hm
  have hH:=takes_ones (headIt ke (dN de) wr ce no (co.length : Int)) (fun a ha => hmay a (List.mem_append.2 (.inl ha))) (fun a ha => hxx a (List.mem_append.2 (.inl ha))) [] (ones (colIt co))
  rw [n1,List.nil_append,List.length_nil,Nat.zero_add] at hH
  have hC:=takes_ones (colIt co) (fun a ha => hmay a (List.mem_append.2 (.inr ha))) (fun a ha => hxx a (List.mem_append.2 (.inr ha))) [] []
  rw [n2,List.nil_append,List.append_nil,List.length_nil,Nat.zero_add,colIt_k] at hC
  have hb : ones (rowIt ke de co wr ce no) = ones (headIt ke (dN de) wr ce no (co.length : Int)) ++ ones (colIt co):=by unfold rowIt; rw [ones_append]
  rw [hb];have hk6 : (headIt ke (dN de) wr ce no (co.length : Int)).map (·.k) = [1,4,3,2,3,1]:=rfl;rw [hk6] at hH;rw [hH]
  have hd : (dN de == 1) = de:=by cases de <;> rfl
  have hnot : ¬ (dN de > 1):=by cases de <;> decide
  congr 1
  unfold headIt
  simp only
  rw [if_neg hnot,if_neg (by omega),Int.toNat_natCast]
  rw [List.drop_left' rfl];rw [hC]
  simp only
  rw [hd,colIt_x,if_pos ⟨by rw [List.length_append],hm⟩]
abbrev RDecT:=Nat × Bool × List Nat × Int × Int × Int × Bool
def rdecErr : RDecT:=(0,false,[],0,0,0,false)
theorem rdec_l1 (x0 : List Int) (hb : byB x0 = true) (xs : List SIt) (ke : Nat) (de : Bool) (wr ce no : Int) (hl : xs.length ≤ 900) (hx : ke < 18446744073709551616) (hxs : ∀ a ∈ xs,a.f2 < 18446744073709551616) : ∀ (d i k : Nat) (co : List Nat),i + d = xs.length → d + 1010 < k → co.length + d ≤ 900 → (∀ x ∈ co,x < 18446744073709551616) →
    humusref04_Decode.l1 k x0 xs (i : Int) ke de co wr ce no = some (if mayRow ke de (co ++ (xs.drop i).map (·.f2)) wr ce no = true ∧ x0 = ones (rowIt ke de (co ++ (xs.drop i).map (·.f2)) wr ce no) then (ke,de,co ++ (xs.drop i).map (·.f2),wr,ce,no,true) else rdecErr):=by
  intro d
  induction d with
  | zero =>
    intro i k co hi hk hc hco
    obtain ⟨k,rfl⟩ : ∃ m,k = m + 1:=⟨k - 1,by omega⟩
    obtain rfl : i = xs.length:=by omega
    simp only [humusref04_Decode.l1]
    rw [if_neg (by omega),List.drop_length,List.map_nil,List.append_nil,May04_ev (by omega) hx (by omega)]
    simp only [Option.bind_some]
    by_cases hm : mayRow ke de co wr ce no = true
    · rw [if_pos hm,Bytes04_ev (by omega) hx hco hm]
      simp only [Option.bind_some]
      by_cases he : x0 = ones (rowIt ke de co wr ce no)
      · rw [if_pos (by rw [← he]),if_pos ⟨hm,he⟩]
      · rw [if_neg (fun h => he (str_inj (byB_bytes.1 hb) (ones_bytes (rowIt_may hm)) h.symm)),if_neg (fun h => he h.2)]; rfl
    · rw [if_neg hm,if_neg (fun h => hm h.1)]; rfl
  | succ d ih =>
    intro i k co hi hk hc hco
    obtain ⟨k,rfl⟩ : ∃ m,k = m + 1:=⟨k - 1,by omega⟩
    have hlt : i < xs.length:=by omega
    simp only [humusref04_Decode.l1]
    rw [if_pos (by omega),if_pos (by omega),if_pos (by omega)]
    rw [show wrap64 ((i : Int) + 1) = ((i + 1 : Nat) : Int) by unfold wrap64; omega]
    have ef : (rd_T86 xs (i : Int)).f2 = (xs[i]).f2:=by
      unfold rd_T86
      rw [Int.toNat_natCast,List.getD_eq_getElem?_getD,List.getElem?_eq_getElem hlt]; rfl
    rw [ih (i + 1) k _ (by omega) (by omega) (by rw [List.length_append,List.length_singleton]; omega) (by
      intro x hx
      rcases List.mem_append.1 hx with h | h
      · exact hco x h
      · rw [List.mem_singleton.1 h,ef]; exact hxs _ (List.getElem_mem hlt))]
    have e : co ++ [(rd_T86 xs (i : Int)).f2] ++ (xs.drop (i + 1)).map (·.f2) = co ++ (xs.drop i).map (·.f2):=by
      rw [List.drop_eq_getElem_cons hlt,List.map_cons,List.append_assoc,ef]; rfl
    rw [e]
def rfin (b : List Int) : Option (List It × Nat) → RDecT
  | some (i0 :: i1 :: i2 :: i3 :: i4 :: i5 :: r,_) => if mayRow i1.x (i0.n == 1) (r.map (·.x)) i2.n i3.n i4.n = true ∧ b = ones (rowIt i1.x (i0.n == 1) (r.map (·.x)) i2.n i3.n i4.n) then (i1.x,(i0.n == 1),r.map (·.x),i2.n,i3.n,i4.n,true) else rdecErr
  | _ => rdecErr
theorem rep_snoc (i : Nat) : ([1,4,3,2,3,1] ++ List.replicate i 4 : List Int) ++ [4] = [1,4,3,2,3,1] ++ List.replicate (i + 1) 4:=by
  rw [List.append_assoc,← List.replicate_succ']
theorem rdec_l0 (b : List Int) (hb : byB b = true) (h20 : 20 ≤ b.length) (hl : b.length ≤ 100000) (m : Nat) (hm : rd b 19 = (m : Int)) (hm4 : m ≤ 4) : ∀ (d i k : Nat),i + d = m → d + 1030 < k →
    humusref04_Decode.l0 k b ([1,4,3,2,3,1] ++ List.replicate i 4) (i : Int) = some (rfin b (takes b 0 ([1,4,3,2,3,1] ++ List.replicate m 4))):=by
  have hw : wrap64 (rd b 19) = (m : Int):=by rw [hm]; unfold wrap64; omega
  intro d
  induction d with
  | zero =>
    intro i k hi hk
    obtain ⟨k,rfl⟩ : ∃ m,k = m + 1:=⟨k - 1,by omega⟩
    obtain rfl : i = m:=by omega
    simp only [humusref04_Decode.l0]
    rw [if_pos (by omega),hw,if_neg (by omega)]
    have hko : kindsOk ([1,4,3,2,3,1] ++ List.replicate i 4) = true:=by
      unfold kindsOk
      rw [List.all_append,Bool.and_eq_true]
      exact ⟨by decide,kinds_rep i⟩
    unfold humusref03_Take.f takeF
    rw [if_pos ⟨hb,by omega,by rw [List.length_append,List.length_replicate]; show 6 + i ≤ _; omega⟩]
    simp only [Option.bind_some]
    unfold takeR
    rw [if_pos hko]
    cases ht : takes b 0 ([1,4,3,2,3,1] ++ List.replicate i 4) with
    | none =>
      simp only
      rw [if_neg (by decide)]; rfl
    | some p =>
      obtain ⟨l,n⟩:=p;obtain ⟨t1,t2,t3,t4,t5,t6,t7⟩:=takes_spec (byB_bytes.1 hb) _ _ _ _ (Nat.zero_le _) hko ht
      have hlen : l.length = 6 + i:=by rw [← List.length_map (f:=(·.k)),t3,List.length_append,List.length_replicate]; rfl
      obtain ⟨i0,i1,i2,i3,i4,i5,r,rfl⟩ : ∃ a b c d e f r,l = a :: b :: c :: d :: e :: f :: r:=by
        match l,hlen with
        | a :: b :: c :: d :: e :: f :: r,_ => exact ⟨a,b,c,d,e,f,r,rfl⟩
        | [],h => simp at h; omega
        | [_],h => simp at h; omega
        | [_,_],h => simp at h; omega
        | [_,_,_],h => simp at h; omega
        | [_,_,_,_],h => simp at h; omega
        | [_,_,_,_,_],h => simp at h; omega
      have hr : r.length = i:=by simp at hlen; omega
      have hfl : (((i0 :: i1 :: i2 :: i3 :: i4 :: i5 :: r).map ofIt).length : Int) = 6 + i:=by rw [List.length_map,hlen]; omega
      simp only [hfl]
      rw [if_pos trivial,if_pos (by omega),if_pos (by omega),if_pos (by omega),if_pos (by omega),if_pos (by omega)]
      have hL:=rdec_l1 b hb ((i0 :: i1 :: i2 :: i3 :: i4 :: i5 :: r).map ofIt) i1.x (i0.n == 1) i2.n i3.n i4.n (by rw [List.length_map,hlen]; omega) (t6 i1 (by simp)) (by
        intro a ha;obtain ⟨z,hz,rfl⟩:=List.mem_map.1 ha
        exact t6 z hz) i 6 k [] (by rw [List.length_map,hlen]) (by omega) (by rw [List.length_nil]; omega) (by intro x hx; cases hx)
      have ex : (((i0 :: i1 :: i2 :: i3 :: i4 :: i5 :: r).map ofIt).drop 6).map (·.f2) = r.map (·.x):=by
        show (r.map ofIt).map (·.f2) = _
        rw [List.map_map]; rfl
      rw [ex,List.nil_append] at hL;exact hL
  | succ d ih =>
    intro i k hi hk
    obtain ⟨k,rfl⟩ : ∃ m,k = m + 1:=⟨k - 1,by omega⟩
    simp only [humusref04_Decode.l0]
    rw [if_pos (by omega),hw,if_pos (by omega),if_pos (by rw [List.length_append,List.length_replicate]; show 6 + i < _; omega)]
    rw [show wrap64 ((i : Int) + 1) = ((i + 1 : Nat) : Int) by unfold wrap64; omega,rep_snoc]
    exact ih (i + 1) k (by omega) (by omega)
theorem rd_bd {b : List Int} (hb : byB b = true) {j : Nat} (hj : j < b.length) : 0 ≤ rd b (j : Int) ∧ rd b (j : Int) ≤ 255:=by
  have h:=byB_bytes.1 hb;have:=h.at_ j hj;exact this
theorem rdec_any {k : Nat} {b : List Int} (hk : 1100 ≤ k) (hb : byB b = true) (hl : b.length ≤ 100000) :
    humusref04_Decode.f k b = some (if b.length < 20 ∨ rd b 19 > 4 then rdecErr else rfin b (takes b 0 ([1,4,3,2,3,1] ++ List.replicate (rd b 19).toNat 4))):=by
  obtain ⟨k,rfl⟩ : ∃ m,k = m + 1:=⟨k - 1,by omega⟩
  unfold humusref04_Decode.f
  have hj : humusref04_Decode.j0 (k + 1) b true = some rdecErr:=by simp only [humusref04_Decode.j0,if_true]; rfl
  by_cases h20 : b.length < 20
  · rw [if_pos (by omega),if_pos (.inl h20),hj]
  rw [if_neg (by omega),if_pos (by omega)]
  have hbd:=rd_bd hb (j:=19) (by omega)
  by_cases h4 : rd b 19 > 4
  · rw [dt_ h4,if_pos (.inr h4),hj]
  rw [df_ h4,if_neg (by intro h; rcases h with h | h; exact h20 h; exact h4 h)]
  simp only [humusref04_Decode.j0]
  rw [if_neg (by decide)]
  have hbd' : 0 ≤ rd b 19:=hbd.1
  have:=rdec_l0 b hb (by omega) hl (rd b 19).toNat (by omega) (by omega) (rd b 19).toNat 0 k (by omega) (by omega)
  rw [List.replicate_zero,List.append_nil] at this;exact this
end Go.Proofs.Ytdcllbhkjcdnoaa.P
namespace Go.Proofs.Ytdcllbhkjcdnoaa.P
open Go.RowKit Ytdcllbhkjcdnoaa Ytdcllbhkjcdnoaa.Mem Ytdcllbhkjcdnoaa.Pac YtdcllbhkjcdnoaaW.PrintWords YtdcllbhkjcdnoaaW.PrintLast YtdcllbhkjcdnoaaW.PrintMore
theorem one1 (n : Int) : one ⟨1,n,0,⟨#[]⟩⟩ = [n % 256]:=by
  show bigs n 1 = _
  simp [bigs]
theorem head19 (ke : Nat) (d wr ce no n : Int) : ∃ pre : List Int,ones (headIt ke d wr ce no n) = pre ++ [n % 256] ∧ pre.length = 19:=by
  refine ⟨one ⟨1,d,0,⟨#[]⟩⟩ ++ (one ⟨4,0,ke,⟨#[]⟩⟩ ++ (one ⟨3,wr,0,⟨#[]⟩⟩ ++ (one ⟨2,ce,0,⟨#[]⟩⟩ ++ one ⟨3,no,0,⟨#[]⟩⟩))),?_,?_⟩
  · unfold headIt ones
    simp only [List.flatMap_cons,List.flatMap_nil,List.append_nil,List.append_assoc]
    rw [one1 n]
  · have h1 : (one ⟨1,d,0,⟨#[]⟩⟩).length = 1:=bigs_length _ _
    have h2 : (one ⟨4,0,ke,⟨#[]⟩⟩).length = 8:=bigs_length _ _
    have h3 : ∀ z,(one ⟨3,z,0,⟨#[]⟩⟩).length = 4:=fun z => bigs_length _ _
    have h4 : (one ⟨2,ce,0,⟨#[]⟩⟩).length = 2:=bigs_length _ _
    simp only [List.length_append,h1,h2,h3,h4]
theorem colIt_len (co : List Nat) : (ones (colIt co)).length = 8 * co.length:=by
  unfold colIt ones
  induction co with
  | nil => rfl
  | cons x co ih =>
    rw [List.map_cons,List.flatMap_cons,List.length_append,ih];have : (one ⟨4,0,x,⟨#[]⟩⟩).length = 8:=bigs_length _ _;rw [this,List.length_cons]; omega
theorem rowIt_len (ke : Nat) (de : Bool) (co : List Nat) (wr ce no : Int) : (ones (rowIt ke de co wr ce no)).length = 20 + 8 * co.length:=by
  unfold rowIt
  obtain ⟨pre,h1,h2⟩:=head19 ke (dN de) wr ce no (co.length : Int);rw [ones_append,List.length_append,h1,List.length_append,h2,colIt_len]; rfl
theorem rowIt_rd {ke : Nat} {de : Bool} {co : List Nat} {wr ce no : Int} (hl : co.length ≤ 255) : rd (ones (rowIt ke de co wr ce no)) 19 = (co.length : Int):=by
  unfold rowIt
  obtain ⟨pre,h1,h2⟩:=head19 ke (dN de) wr ce no (co.length : Int);rw [ones_append,h1,List.append_assoc]
  unfold rd
  rw [List.getD_eq_getElem?_getD,N19_,List.getElem?_append_right (by omega),h2]
  show ((co.length : Int) % 256) = _
  omega
theorem rdec_row {k : Nat} {ke : Nat} {de : Bool} {co : List Nat} {wr ce no : Int} (hk : 1100 ≤ k) (hm : mayRow ke de co wr ce no = true) (hx : ke < 18446744073709551616) (hc : ∀ x ∈ co,x < 18446744073709551616) :
    humusref04_Decode.f k (ones (rowIt ke de co wr ce no)) = some (ke,de,co,wr,ce,no,true):=by
  have hmay:=rowIt_may hm;have hxx:=rowIt_x (de:=de) (wr:=wr) (ce:=ce) (no:=no) hx hc;have hlen : co.length ≤ 4:=(mayRow_iff.1 hm).2.1;have hL:=rowIt_len ke de co wr ce no
  rw [rdec_any hk (ones_byB hmay) (by omega),rowIt_rd (by omega),if_neg (by omega),Int.toNat_natCast]
  have hT:=takes_ones (rowIt ke de co wr ce no) hmay hxx [] [];rw [rowIt_norm hm,List.nil_append,List.append_nil,List.length_nil,Nat.zero_add] at hT
  have hks : (rowIt ke de co wr ce no).map (·.k) = [1,4,3,2,3,1] ++ List.replicate co.length 4:=by
    unfold rowIt
    rw [List.map_append,colIt_k]; rfl
  rw [hks] at hT;rw [hT]
  have hd : (dN de == 1) = de:=by cases de <;> rfl
  have hr : rfin (ones (rowIt ke de co wr ce no)) (some (rowIt ke de co wr ce no,(ones (rowIt ke de co wr ce no)).length)) = (ke,de,co,wr,ce,no,true):=by
    show (if mayRow ke (dN de == 1) ((colIt co).map (·.x)) wr ce no = true ∧ ones (rowIt ke de co wr ce no) = ones (rowIt ke (dN de == 1) ((colIt co).map (·.x)) wr ce no) then (ke,(dN de == 1),(colIt co).map (·.x),wr,ce,no,true) else rdecErr) = _
    rw [hd,colIt_x,if_pos ⟨hm,rfl⟩]
  rw [hr]
theorem rdec_two {b : List Int} (hb : byB b = true) (hl : b.length ≤ 100000) : (∀ k,1100 ≤ k → humusref04_Decode.f k b = some rdecErr) ∨ ∃ ke de co wr ce no,(∀ k,1100 ≤ k → humusref04_Decode.f k b = some (ke,de,co,wr,ce,no,true)) ∧ mayRow ke de co wr ce no = true ∧ ke < 18446744073709551616 ∧ (∀ x ∈ co,x < 18446744073709551616) ∧ b = ones (rowIt ke de co wr ce no):=by
  have hA:=fun k (hk : 1100 ≤ k) => rdec_any hk hb hl
  by_cases h0 : b.length < 20 ∨ rd b 19 > 4
  · simp only [if_pos h0] at hA; exact .inl hA
  simp only [if_neg h0] at hA
  have hko : kindsOk ([1,4,3,2,3,1] ++ List.replicate (rd b 19).toNat 4) = true:=by
    unfold kindsOk
    rw [List.all_append,Bool.and_eq_true]
    exact ⟨by decide,kinds_rep _⟩
  cases ht : takes b 0 ([1,4,3,2,3,1] ++ List.replicate (rd b 19).toNat 4) with
  | none => rw [ht] at hA; exact .inl hA
  | some p =>
    obtain ⟨l,n⟩:=p;obtain ⟨t1,t2,t3,t4,t5,t6,t7⟩:=takes_spec (byB_bytes.1 hb) _ _ _ _ (Nat.zero_le _) hko ht;rw [ht] at hA
    match l,t6,hA with
    | i0 :: i1 :: i2 :: i3 :: i4 :: i5 :: r,t6,hA =>
      by_cases h : mayRow i1.x (i0.n == 1) (r.map (·.x)) i2.n i3.n i4.n = true ∧ b = ones (rowIt i1.x (i0.n == 1) (r.map (·.x)) i2.n i3.n i4.n)
      · right
        refine ⟨_,_,_,_,_,_,fun k hk => (hA k hk).trans (congrArg some (if_pos h)),h.1,t6 i1 (by simp),?_,h.2⟩
        intro x hx;obtain ⟨a,ha,rfl⟩:=List.mem_map.1 hx
        exact t6 a (by simp [ha])
      · left
        exact fun k hk => (hA k hk).trans (congrArg some (if_neg h))
    | [],_,hA => exact .inl hA
    | [_],_,hA => exact .inl hA
    | [_,_],_,hA => exact .inl hA
    | [_,_,_],_,hA => exact .inl hA
    | [_,_,_,_],_,hA => exact .inl hA
    | [_,_,_,_,_],_,hA => exact .inl hA
end Go.Proofs.Ytdcllbhkjcdnoaa.P
namespace Go.Proofs.Ytdcllbhkjcdnoaa.P
open Go.RowKit Ytdcllbhkjcdnoaa Ytdcllbhkjcdnoaa.Mem Ytdcllbhkjcdnoaa.Pac YtdcllbhkjcdnoaaW.PrintWords YtdcllbhkjcdnoaaW.PrintLast
def numsU (tx no pr pa sl : Int) : Bool:=decide (1 ≤ tx ∧ tx ≤ 2147483647 ∧ 1 ≤ no ∧ no ≤ 2147483647 ∧ 0 ≤ pr ∧ pr ≤ 65535 ∧ 0 ≤ pa ∧ pa ≤ 255 ∧ 0 ≤ sl ∧ sl ≤ 255)
def mayU (tx no pr ki pa sl : Int) (ke : Nat) (de : Bool) (co : List Nat) (wr ce nn : Int) : Bool :=
  numsU tx no pr pa sl && (if ki = 1 then sameRow ke de co wr ce nn 0 false [] 0 0 0 else if ki = 2 then mayRow ke de co wr ce nn else false)
theorem in_ev (a b c : Int) : undorec_in.f a b c = some (decide (b ≤ a ∧ a ≤ c)):=by
  unfold undorec_in.f
  by_cases h : a ≥ b
  · rw [if_pos h]; congr 1; rw [decide_eq_decide]; omega
  · rw [if_neg h]; congr 1; symm; rw [decide_eq_false_iff_not]; omega
theorem uCheck_j0 {k : Nat} (hk : 5 ≤ k) (z : Bool) {tx no pr ki pa sl : Int} {ke : Nat} {de : Bool} {co : List Nat} {wr ce nn : Int} (hl : co.length ≤ 1000000) :
    undorec_Check.j0 k z tx no pr ki pa sl ke de co wr ce nn = some (if (z && (if ki = 1 then sameRow ke de co wr ce nn 0 false [] 0 0 0 else if ki = 2 then mayRow ke de co wr ce nn else false)) = true then 0 else 1):=by
  obtain ⟨k,rfl⟩ : ∃ m,k = m + 3:=⟨k - 3,by omega⟩
  simp only [undorec_Check.j0,undorec_Check.j1]
  by_cases h1 : ki = 1
  · rw [if_pos h1,if_pos h1]
    cases z with
    | false => rfl
    | true =>
      rw [if_pos rfl,row_Same_ev hl]
      simp only [Option.bind_some,undorec_Check.j2,Bool.true_and]
      cases sameRow ke de co wr ce nn 0 false [] 0 0 0 <;> rfl
  · rw [if_neg h1,if_neg h1]
    by_cases h2 : ki = 2
    · rw [if_pos h2,if_pos h2]
      cases z with
      | false => rfl
      | true =>
        rw [if_pos rfl,row_Check_ev (by omega) hl]
        simp only [Option.bind_some,undorec_Check.j3,Bool.true_and]
        cases mayRow ke de co wr ce nn <;> rfl
    · rw [if_neg h2,if_neg h2,Bool.and_false]; rfl
theorem uCheck_ev {k : Nat} (hk : 5 ≤ k) {tx no pr ki pa sl : Int} {ke : Nat} {de : Bool} {co : List Nat} {wr ce nn : Int} (hl : co.length ≤ 1000000) :
    undorec_Check.f k tx no pr ki pa sl ke de co wr ce nn = some (if mayU tx no pr ki pa sl ke de co wr ce nn = true then 0 else 1):=by
  have hF : numsU tx no pr pa sl = false → undorec_Check.j0 k false tx no pr ki pa sl ke de co wr ce nn = some (if mayU tx no pr ki pa sl ke de co wr ce nn = true then 0 else 1):=by
    intro h;rw [uCheck_j0 hk false hl]
    unfold mayU
    rw [h]
  unfold undorec_Check.f
  simp only [in_ev,Option.bind_some]
  by_cases a1 : 1 ≤ tx ∧ tx ≤ 2147483647
  rotate_left
  · rw [if_neg (by simpa using a1)]; exact hF (by unfold numsU; rw [decide_eq_false_iff_not]; omega)
  rw [if_pos (dt_ a1)]
  by_cases a2 : 1 ≤ no ∧ no ≤ 2147483647
  rotate_left
  · rw [if_neg (by simpa using a2)]; exact hF (by unfold numsU; rw [decide_eq_false_iff_not]; omega)
  rw [if_pos (dt_ a2)]
  by_cases a3 : 0 ≤ pr ∧ pr ≤ 65535
  rotate_left
  · rw [if_neg (by simpa using a3)]; exact hF (by unfold numsU; rw [decide_eq_false_iff_not]; omega)
  rw [if_pos (dt_ a3)]
  by_cases a4 : 0 ≤ pa ∧ pa ≤ 255
  rotate_left
  · rw [if_neg (by simpa using a4)]; exact hF (by unfold numsU; rw [decide_eq_false_iff_not]; omega)
  rw [if_pos (dt_ a4),uCheck_j0 hk _ hl]
  unfold mayU
  rw [show numsU tx no pr pa sl = decide (0 ≤ sl ∧ sl ≤ 255) by unfold numsU; rw [decide_eq_decide]; omega]
theorem uMay_ev {k : Nat} {tx no pr ki pa sl : Int} {ke : Nat} {de : Bool} {co : List Nat} {wr ce nn : Int} (hk : co.length + 3 ≤ k) (hx : ke < 18446744073709551616) (hl : co.length ≤ 1000000) :
    humusref09_May.f k tx no pr ki pa sl ke de co wr ce nn = some (mayU tx no pr ki pa sl ke de co wr ce nn):=by
  obtain ⟨k,rfl⟩ : ∃ m,k = m + 1:=⟨k - 1,by omega⟩
  have hj : ∀ z : Bool,(z = true ↔ numsU tx no pr pa sl = false) → humusref09_May.j0 (k + 1) z tx no pr ki pa sl ke de co wr ce nn = some (mayU tx no pr ki pa sl ke de co wr ce nn):=by
    intro z hz
    simp only [humusref09_May.j0]
    unfold mayU
    cases hn : numsU tx no pr pa sl with
    | false => rw [if_pos (hz.2 hn)]; rfl
    | true =>
      rw [if_neg (fun h => by rw [hz.1 h] at hn; cases hn),Bool.true_and]
      by_cases h1 : ki = 1
      · rw [if_pos h1,if_pos h1,Same04_ev (by omega) hl]; rfl
      · rw [if_neg h1,if_neg h1]
        by_cases h2 : ki = 2
        · rw [if_pos h2,if_pos h2,May04_ev (by omega) hx hl]; rfl
        · rw [if_neg h2,if_neg h2]
  have hT : numsU tx no pr pa sl = false → humusref09_May.j0 (k + 1) true tx no pr ki pa sl ke de co wr ce nn = some (mayU tx no pr ki pa sl ke de co wr ce nn):=fun h => hj true ⟨fun _ => h,fun _ => rfl⟩
  unfold humusref09_May.f
  have hN : ∀ {p : Prop} [Decidable p],(p → ¬(1 ≤ tx ∧ tx ≤ 2147483647 ∧ 1 ≤ no ∧ no ≤ 2147483647 ∧ 0 ≤ pr ∧ pr ≤ 65535 ∧ 0 ≤ pa ∧ pa ≤ 255 ∧ 0 ≤ sl ∧ sl ≤ 255)) → p → numsU tx no pr pa sl = false:=fun h hp => by unfold numsU; rw [decide_eq_false_iff_not]; exact h hp
  by_cases a1 : tx < 1
  · rw [if_pos a1]; exact hT (hN (fun h => by omega) a1)
  rw [if_neg a1]
  by_cases a2 : tx > 2147483647
  · rw [if_pos a2]; exact hT (hN (fun h => by omega) a2)
  rw [if_neg a2]
  by_cases a3 : no < 1
  · rw [if_pos a3]; exact hT (hN (fun h => by omega) a3)
  rw [if_neg a3]
  by_cases a4 : no > 2147483647
  · rw [if_pos a4]; exact hT (hN (fun h => by omega) a4)
  rw [if_neg a4]
  by_cases a5 : pr < 0
  · rw [if_pos a5]; exact hT (hN (fun h => by omega) a5)
  rw [if_neg a5]
  by_cases a6 : pr > 65535
  · rw [if_pos a6]; exact hT (hN (fun h => by omega) a6)
  rw [if_neg a6]
  by_cases a7 : pa < 0
  · rw [if_pos a7]; exact hT (hN (fun h => by omega) a7)
  rw [if_neg a7]
  by_cases a8 : pa > 255
  · rw [if_pos a8]; exact hT (hN (fun h => by omega) a8)
  rw [if_neg a8]
  by_cases a9 : sl < 0
  · rw [if_pos a9]; exact hT (hN (fun h => by omega) a9)
  rw [if_neg a9];apply hj
  unfold numsU
  rw [decide_eq_true_iff,decide_eq_false_iff_not];omega
def sameU (tx no pr ki pa sl : Int) (ke : Nat) (de : Bool) (co : List Nat) (wr ce nn : Int) (tx' no' pr' ki' pa' sl' : Int) (ke' : Nat) (de' : Bool) (co' : List Nat) (wr' ce' nn' : Int) : Bool :=
  decide (tx = tx' ∧ no = no' ∧ pr = pr' ∧ ki = ki' ∧ pa = pa' ∧ sl = sl') && sameRow ke de co wr ce nn ke' de' co' wr' ce' nn'
theorem sameU_chain {tx no pr ki pa sl tx' no' pr' ki' pa' sl' : Int} (b : Bool) :
    (if tx = tx' then (if no = no' then (if pr = pr' then (if ki = ki' then (if pa = pa' then (if sl = sl' then some b else some false) else some false) else some false) else some false) else some false) else some false) = some (decide (tx = tx' ∧ no = no' ∧ pr = pr' ∧ ki = ki' ∧ pa = pa' ∧ sl = sl') && b):=by
  by_cases h : tx = tx' ∧ no = no' ∧ pr = pr' ∧ ki = ki' ∧ pa = pa' ∧ sl = sl'
  · rw [dt_ h,Bool.true_and]
    obtain ⟨h1,h2,h3,h4,h5,h6⟩:=h;rw [if_pos h1,if_pos h2,if_pos h3,if_pos h4,if_pos h5,if_pos h6]
  · rw [df_ h,Bool.false_and]
    repeat' split
    all_goals first | rfl | (exfalso; apply h; simp_all)
theorem rSameU_ev {k : Nat} {tx no pr ki pa sl : Int} {ke : Nat} {de : Bool} {co : List Nat} {wr ce nn : Int} {tx' no' pr' ki' pa' sl' : Int} {ke' : Nat} {de' : Bool} {co' : List Nat} {wr' ce' nn' : Int} (hk : co.length + 1 ≤ k) (hl : co.length ≤ 1000000) :
    humusref09_Same.f k tx no pr ki pa sl ke de co wr ce nn tx' no' pr' ki' pa' sl' ke' de' co' wr' ce' nn' = some (sameU tx no pr ki pa sl ke de co wr ce nn tx' no' pr' ki' pa' sl' ke' de' co' wr' ce' nn'):=by
  unfold humusref09_Same.f sameU
  rw [Same04_ev hk hl]
  simp only [Option.bind_some]
  exact sameU_chain _
theorem sameU_iff {tx no pr ki pa sl : Int} {ke : Nat} {de : Bool} {co : List Nat} {wr ce nn : Int} {tx' no' pr' ki' pa' sl' : Int} {ke' : Nat} {de' : Bool} {co' : List Nat} {wr' ce' nn' : Int} :
    sameU tx no pr ki pa sl ke de co wr ce nn tx' no' pr' ki' pa' sl' ke' de' co' wr' ce' nn' = true ↔ (tx = tx' ∧ no = no' ∧ pr = pr' ∧ ki = ki' ∧ pa = pa' ∧ sl = sl') ∧ (ke = ke' ∧ de = de' ∧ co = co' ∧ wr = wr' ∧ ce = ce' ∧ nn = nn'):=by
  unfold sameU sameRow
  rw [Bool.and_eq_true,decide_eq_true_iff,decide_eq_true_iff]
end Go.Proofs.Ytdcllbhkjcdnoaa.P
namespace Go.Proofs.Ytdcllbhkjcdnoaa.P
open Go.RowKit Ytdcllbhkjcdnoaa Ytdcllbhkjcdnoaa.Mem Ytdcllbhkjcdnoaa.Pac YtdcllbhkjcdnoaaW.PrintWords YtdcllbhkjcdnoaaW.PrintLast YtdcllbhkjcdnoaaW.PrintMore
def txtU (ki : Int) (ke : Nat) (de : Bool) (co : List Nat) (wr ce nn : Int) : List Int:=if ki = 2 then ones (rowIt ke de co wr ce nn) else []
def itU (tx no pr ki pa sl : Int) (s : ByteArray) : List It:=[⟨1,ki,0,⟨#[]⟩⟩,⟨3,tx,0,⟨#[]⟩⟩,⟨3,no,0,⟨#[]⟩⟩,⟨2,pr,0,⟨#[]⟩⟩,⟨1,pa,0,⟨#[]⟩⟩,⟨1,sl,0,⟨#[]⟩⟩,⟨5,0,0,s⟩]
def sU (tx no pr ki pa sl : Int) (s : ByteArray) : List SIt:=[⟨1,ki,0,⟨#[]⟩⟩,⟨3,tx,0,⟨#[]⟩⟩,⟨3,no,0,⟨#[]⟩⟩,⟨2,pr,0,⟨#[]⟩⟩,⟨1,pa,0,⟨#[]⟩⟩,⟨1,sl,0,⟨#[]⟩⟩,⟨5,0,0,s⟩]
theorem sU_it (tx no pr ki pa sl : Int) (s : ByteArray) : (sU tx no pr ki pa sl s).map itOf = itU tx no pr ki pa sl s:=rfl
def bytesU (tx no pr ki pa sl : Int) (ke : Nat) (de : Bool) (co : List Nat) (wr ce nn : Int) : List Int:=ones (itU tx no pr ki pa sl (strOfNums (txtU ki ke de co wr ce nn)))
theorem numsU_iff {tx no pr pa sl : Int} : numsU tx no pr pa sl = true ↔ 1 ≤ tx ∧ tx ≤ 2147483647 ∧ 1 ≤ no ∧ no ≤ 2147483647 ∧ 0 ≤ pr ∧ pr ≤ 65535 ∧ 0 ≤ pa ∧ pa ≤ 255 ∧ 0 ≤ sl ∧ sl ≤ 255:=by
  unfold numsU; rw [decide_eq_true_iff]
theorem mem7 {α : Type} {P : α → Prop} {a b c d e f g : α} (ha : P a) (hb : P b) (hc : P c) (hd : P d) (he : P e) (hf : P f) (hg : P g) : ∀ x ∈ [a,b,c,d,e,f,g],P x:=by
  intro x hx
  simp only [List.mem_cons,List.not_mem_nil,or_false] at hx
  rcases hx with rfl | rfl | rfl | rfl | rfl | rfl | rfl <;> assumption
theorem itU_may {tx no pr ki pa sl : Int} {s : ByteArray} (h : numsU tx no pr pa sl = true) (hk : ki = 1 ∨ ki = 2) (hs : s.size < 256) : ∀ a ∈ itU tx no pr ki pa sl s,may a = true:=by
  have h:=numsU_iff.1 h;refine mem7 ?_ ?_ ?_ ?_ ?_ ?_ ?_
  · rw [may_1,nil_str]; simp; omega
  · rw [may_3,nil_str]; simp; omega
  · rw [may_3,nil_str]; simp; omega
  · rw [may_2,nil_str]; simp; omega
  · rw [may_1,nil_str]; simp; omega
  · rw [may_1,nil_str]; simp; omega
  · rw [may_5]; simp; omega
theorem itU_x (tx no pr ki pa sl : Int) (s : ByteArray) : ∀ a ∈ itU tx no pr ki pa sl s,a.x < 18446744073709551616:=by
  have h0 : (0 : Nat) < 18446744073709551616:=by decide
  exact mem7 (P:=fun a : It => a.x < 18446744073709551616) h0 h0 h0 h0 h0 h0 h0
theorem itU_norm (tx no pr ki pa sl : Int) (s : ByteArray) : (itU tx no pr ki pa sl s).map norm = itU tx no pr ki pa sl s:=by
  unfold itU norm
  simp only [List.map_cons,List.map_nil,val0]
theorem mayU_iff {tx no pr ki pa sl : Int} {ke : Nat} {de : Bool} {co : List Nat} {wr ce nn : Int} : mayU tx no pr ki pa sl ke de co wr ce nn = true ↔ numsU tx no pr pa sl = true ∧ ((ki = 1 ∧ sameRow ke de co wr ce nn 0 false [] 0 0 0 = true) ∨ (ki = 2 ∧ mayRow ke de co wr ce nn = true)):=by
  unfold mayU
  rw [Bool.and_eq_true]
  by_cases h1 : ki = 1
  · rw [if_pos h1]
    constructor
    · rintro ⟨a,b⟩; exact ⟨a,.inl ⟨h1,b⟩⟩
    · rintro ⟨a,⟨_,b⟩ | ⟨b,_⟩⟩
      · exact ⟨a,b⟩
      · omega
  · rw [if_neg h1]
    by_cases h2 : ki = 2
    · rw [if_pos h2]
      constructor
      · rintro ⟨a,b⟩; exact ⟨a,.inr ⟨h2,b⟩⟩
      · rintro ⟨a,⟨b,_⟩ | ⟨_,b⟩⟩
        · omega
        · exact ⟨a,b⟩
    · rw [if_neg h2]
      constructor
      · rintro ⟨_,b⟩; cases b
      · rintro ⟨_,⟨b,_⟩ | ⟨b,_⟩⟩ <;> omega
theorem txtU_len {tx no pr ki pa sl : Int} {ke : Nat} {de : Bool} {co : List Nat} {wr ce nn : Int} (h : mayU tx no pr ki pa sl ke de co wr ce nn = true) : (txtU ki ke de co wr ce nn).length = (if ki = 2 then 20 + 8 * co.length else 0) ∧ (txtU ki ke de co wr ce nn).length ≤ 52:=by
  unfold txtU
  rcases (mayU_iff.1 h).2 with ⟨h1,_⟩ | ⟨h1,h2⟩
  · rw [if_neg (by omega),if_neg (by omega)]; exact ⟨rfl,by decide⟩
  · have:=(mayRow_iff.1 h2).2.1
    rw [if_pos h1,if_pos h1,rowIt_len]; exact ⟨rfl,by omega⟩
theorem uIt_may {tx no pr ki pa sl : Int} {ke : Nat} {de : Bool} {co : List Nat} {wr ce nn : Int} (h : mayU tx no pr ki pa sl ke de co wr ce nn = true) : ∀ a ∈ itU tx no pr ki pa sl (strOfNums (txtU ki ke de co wr ce nn)),may a = true :=
  itU_may (mayU_iff.1 h).1 (by rcases (mayU_iff.1 h).2 with ⟨h1,_⟩ | ⟨h1,_⟩ <;> omega) (by rw [size_strOf]; have:=(txtU_len h).2; omega)
theorem uEnc_l0 (k : Nat) (tx no pr ki pa sl : Int) (s : ByteArray) (r : List Int × Int) (h : pack_Put.f (sU tx no pr ki pa sl s) = some r) :
    undorec_Encode.l0 (k + 8) ([(⟨0,ki,0,(⟨#[]⟩ : ByteArray)⟩ : SIt),(⟨0,tx,0,(⟨#[]⟩ : ByteArray)⟩ : SIt),(⟨0,no,0,(⟨#[]⟩ : ByteArray)⟩ : SIt),(⟨0,pr,0,(⟨#[]⟩ : ByteArray)⟩ : SIt),(⟨0,pa,0,(⟨#[]⟩ : ByteArray)⟩ : SIt),(⟨0,sl,0,(⟨#[]⟩ : ByteArray)⟩ : SIt),(⟨0,0,0,s⟩ : SIt)] : List SIt) [1,3,3,2,1,1,5] 7 0 = some r:=by
  unfold sU at h
  have w0 : wrap64 1 = 1:=by unfold wrap64; omega
  have w1 : wrap64 2 = 2:=by unfold wrap64; omega
  have w2 : wrap64 3 = 3:=by unfold wrap64; omega
  have w3 : wrap64 4 = 4:=by unfold wrap64; omega
  have w4 : wrap64 5 = 5:=by unfold wrap64; omega
  have w5 : wrap64 6 = 6:=by unfold wrap64; omega
  have w6 : wrap64 7 = 7:=by unfold wrap64; omega
  simp [undorec_Encode.l0,w0,w1,w2,w3,w4,w5,w6,rd,rd_T86,h]
theorem uEncode_ev {k : Nat} {tx no pr ki pa sl : Int} {ke : Nat} {de : Bool} {co : List Nat} {wr ce nn : Int} (hk : co.length + 30 ≤ k) (hl : co.length ≤ 900) (hx : ke < 18446744073709551616) (hc : ∀ x ∈ co,x < 18446744073709551616) :
    undorec_Encode.f k tx no pr ki pa sl ke de co wr ce nn = some (if mayU tx no pr ki pa sl ke de co wr ce nn = true then (bytesU tx no pr ki pa sl ke de co wr ce nn,0) else ([],1)):=by
  unfold undorec_Encode.f
  rw [uCheck_ev (by omega) (by omega)]
  simp only [Option.bind_some]
  by_cases hm : mayU tx no pr ki pa sl ke de co wr ce nn = true
  rotate_left
  · rw [if_neg hm,if_neg hm,if_neg (by decide)]
  rw [if_pos hm,if_pos hm,if_pos rfl]
  obtain ⟨k,rfl⟩ : ∃ m,k = m + 9:=⟨k - 9,by omega⟩
  have hp:=(put_rows (l:=sU tx no pr ki pa sl (strOfNums (txtU ki ke de co wr ce nn))) (by show 7 ≤ 1000; decide) (by rw [sU_it]; exact uIt_may hm) (by rw [sU_it]; exact itU_x _ _ _ _ _ _ _)).1
  rw [sU_it] at hp
  have hj : ∀ t,t = txtU ki ke de co wr ce nn → undorec_Encode.j0 (k + 9) t tx no pr ki pa sl ke de co wr ce nn = some (bytesU tx no pr ki pa sl ke de co wr ce nn,0):=by
    rintro t rfl
    simp only [undorec_Encode.j0,undorec_parts.f,Option.bind_some]
    exact uEnc_l0 k tx no pr ki pa sl _ _ hp
  rcases (mayU_iff.1 hm).2 with ⟨h1,_⟩ | ⟨h1,h2⟩
  · rw [if_neg (by omega)]; exact hj _ (by unfold txtU; rw [if_neg (by omega)])
  · rw [if_pos h1,row_Encode_ev (by omega) hl hx hc,if_pos h2]
    simp only [Option.bind_some]
    exact hj _ (by unfold txtU; rw [if_pos h1])
theorem uBytes_ev {k : Nat} {tx no pr ki pa sl : Int} {ke : Nat} {de : Bool} {co : List Nat} {wr ce nn : Int} (hk : co.length + 3 ≤ k) (hx : ke < 18446744073709551616) (hc : ∀ x ∈ co,x < 18446744073709551616) (hm : mayU tx no pr ki pa sl ke de co wr ce nn = true) :
    humusref09_Bytes.f k tx no pr ki pa sl ke de co wr ce nn = some (bytesU tx no pr ki pa sl ke de co wr ce nn):=by
  have hp:=(put_rows (l:=sU tx no pr ki pa sl (strOfNums (txtU ki ke de co wr ce nn))) (by show 7 ≤ 1000; decide) (by rw [sU_it]; exact uIt_may hm) (by rw [sU_it]; exact itU_x _ _ _ _ _ _ _)).2
  rw [sU_it] at hp
  unfold humusref09_Bytes.f
  rcases (mayU_iff.1 hm).2 with ⟨h1,_⟩ | ⟨h1,h2⟩
  · rw [if_neg (by omega)]
    have ht : (⟨#[]⟩ : ByteArray) = strOfNums (txtU ki ke de co wr ce nn):=by unfold txtU; rw [if_neg (by omega)]; rfl
    have hq : humusref03_Put.f (sU tx no pr ki pa sl ⟨#[]⟩) = some (ones (itU tx no pr ki pa sl (strOfNums (txtU ki ke de co wr ce nn))),true):=by rw [ht]; exact hp
    unfold sU at hq
    rw [hq]; rfl
  · rw [if_pos h1,Bytes04_ev hk hx hc h2]
    simp only [Option.bind_some]
    have ht : ones (rowIt ke de co wr ce nn) = txtU ki ke de co wr ce nn:=by unfold txtU; rw [if_pos h1]
    rw [ht]
    unfold sU at hp
    rw [hp]; rfl
end Go.Proofs.Ytdcllbhkjcdnoaa.P
namespace Go.Proofs.Ytdcllbhkjcdnoaa.P
open Go.RowKit Ytdcllbhkjcdnoaa Ytdcllbhkjcdnoaa.Mem Ytdcllbhkjcdnoaa.Pac YtdcllbhkjcdnoaaW.PrintWords YtdcllbhkjcdnoaaW.PrintLast YtdcllbhkjcdnoaaW.PrintMore
abbrev UDecT:=Int × Int × Int × Int × Int × Int × Nat × Bool × List Nat × Int × Int × Int × Int
def uErr : UDecT:=(0,0,0,0,0,0,0,false,[],0,0,0,4)
theorem bytes_byB (s : ByteArray) : byB (bytesOf s) = true:=byB_bytes.2 (bytesOf_bytes s)
theorem uJ2 {k : Nat} (hk : 60 ≤ k) (l : List SIt) (h6 : 6 < l.length) (hs : ((rd_T86 l 6).f3).toList ≠ []) (z : Bool) {tx no pr ki pa sl : Int} (q7 : Nat) (q8 : Bool) (q10 q11 q12 : Int) {ke : Nat} {de : Bool} {co : List Nat} {wr ce nn : Int} (hl : co.length ≤ 1000000) :
    undorec_Decode.j2 k l z tx no pr ki pa sl q7 q8 q10 q11 q12 ke de co wr ce nn = some (if z = false ∧ mayU tx no pr ki pa sl ke de co wr ce nn = true ∧ ki ≠ 1 then (tx,no,pr,ki,pa,sl,ke,de,co,wr,ce,nn,0) else uErr):=by
  obtain ⟨k,rfl⟩ : ∃ m,k = m + 2:=⟨k - 2,by omega⟩
  simp only [undorec_Decode.j2]
  cases z with
  | true => rw [if_pos rfl,if_neg (fun h => by cases h.1)]; rfl
  | false =>
    rw [if_neg (by decide),uCheck_ev (by omega) hl]
    simp only [Option.bind_some]
    by_cases hm : mayU tx no pr ki pa sl ke de co wr ce nn = true
    · rw [if_pos hm,if_pos rfl,if_pos (by omega)]
      rw [show (((rd_T86 l 6).f3).toList == ([] : List UInt8)) = false from beq_eq_false_iff_ne.2 hs]
      simp only [undorec_Decode.j3]
      by_cases h1 : ki = 1
      · rw [show (ki == 1) = true from beq_iff_eq.2 h1,if_pos (by decide),if_neg (fun h => h.2.2 h1)]; rfl
      · rw [show (ki == 1) = false from beq_eq_false_iff_ne.2 h1,if_neg (by decide),if_pos ⟨trivial,hm,h1⟩]
    · rw [if_neg hm,if_neg (by decide),if_neg (fun h => hm h.2.1)]
      simp only [undorec_Decode.j3]
      rw [if_pos trivial]; rfl
theorem uJ1e {k : Nat} (hk : 60 ≤ k) (l : List SIt) (h6 : 6 < l.length) (hs : ((rd_T86 l 6).f3).toList = []) {tx no pr ki pa sl : Int} :
    undorec_Decode.j1 k l false tx no pr ki pa sl 0 false 0 0 0 = some (if mayU tx no pr ki pa sl 0 false [] 0 0 0 = true ∧ ki = 1 then (tx,no,pr,ki,pa,sl,0,false,[],0,0,0,0) else uErr):=by
  obtain ⟨k,rfl⟩ : ∃ m,k = m + 2:=⟨k - 2,by omega⟩
  simp only [undorec_Decode.j1]
  rw [if_neg (by decide),uCheck_ev (by omega) (by decide)]
  simp only [Option.bind_some]
  by_cases hm : mayU tx no pr ki pa sl 0 false [] 0 0 0 = true
  · rw [if_pos hm,if_pos rfl,if_pos (by omega),hs]
    simp only [undorec_Decode.j4]
    by_cases h1 : ki = 1
    · rw [show (ki == 1) = true from beq_iff_eq.2 h1,if_neg (by decide),if_pos ⟨hm,h1⟩]
    · rw [show (ki == 1) = false from beq_eq_false_iff_ne.2 h1,if_pos (by decide),if_neg (fun h => h1 h.2)]; rfl
  · rw [if_neg hm,if_neg (by decide),if_neg (fun h => hm h.1)]
    simp only [undorec_Decode.j4]
    rw [if_pos trivial]; rfl
end Go.Proofs.Ytdcllbhkjcdnoaa.P
namespace Go.Proofs.Ytdcllbhkjcdnoaa.P
open Go.RowKit Ytdcllbhkjcdnoaa Ytdcllbhkjcdnoaa.Mem Ytdcllbhkjcdnoaa.Pac YtdcllbhkjcdnoaaW.PrintWords YtdcllbhkjcdnoaaW.PrintLast YtdcllbhkjcdnoaaW.PrintMore
abbrev uKs : List Int:=[1,3,3,2,1,1,5]
theorem bytesOf_len_lt {s : ByteArray} (h : s.size < 256) : (bytesOf s).length ≤ 100000:=by rw [bytesOf_length]; omega
def uSay (k : Nat) (i0 i1 i2 i3 i4 i5 i6 : It) : Option UDecT :=
  if i6.s.toList = [] then some (if mayU i1.n i2.n i3.n i0.n i4.n i5.n 0 false [] 0 0 0 = true ∧ i0.n = 1 then (i1.n,i2.n,i3.n,i0.n,i4.n,i5.n,0,false,[],0,0,0,0) else uErr)
  else (row_Decode.f k (bytesOf i6.s)).bind fun r => if r.2.2.2.2.2.2 = 0 then some (if i0.n = 2 ∧ mayU i1.n i2.n i3.n i0.n i4.n i5.n r.1 r.2.1 r.2.2.1 r.2.2.2.1 r.2.2.2.2.1 r.2.2.2.2.2.1 = true then (i1.n,i2.n,i3.n,i0.n,i4.n,i5.n,r.1,r.2.1,r.2.2.1,r.2.2.2.1,r.2.2.2.2.1,r.2.2.2.2.2.1,0) else uErr) else some uErr
set_option maxHeartbeats 4000000 in
theorem uDec_any {k : Nat} {b : List Int} (hk : 100 ≤ k) (hb : byB b = true) (hl : b.length ≤ 100000) :
    undorec_Decode.f (k + 2) b = (match takes b 0 uKs with
      | some ([i0,i1,i2,i3,i4,i5,i6],n) => if n = b.length then uSay k i0 i1 i2 i3 i4 i5 i6 else some uErr
      | _ => some uErr):=by
  have hby:=byB_bytes.1 hb
  unfold undorec_Decode.f undorec_parts.f
  simp only [Option.bind_some]
  unfold pack_Take.f takeF
  rw [if_pos ⟨hb,by omega,by decide⟩]
  simp only [Option.bind_some]
  have hj : ∀ l,undorec_Decode.j0 (k + 2) l true = some uErr:=fun l => by simp only [undorec_Decode.j0,if_true]; rfl
  unfold takeR
  rw [if_pos (show kindsOk [1,3,3,2,1,1,5] = true by decide)]
  cases ht : takes b 0 [1,3,3,2,1,1,5] with
  | none =>
    simp only
    rw [if_neg (by decide)]
    exact hj _
  | some p =>
    obtain ⟨l,n⟩:=p
    obtain ⟨t1,t2,t3,t4,t5,t6,t7⟩:=takes_spec hby _ _ _ _ (Nat.zero_le _) (by decide) ht
    have h7 : l.length = 7:=by rw [← List.length_map (f:=(·.k)),t3]; rfl
    obtain ⟨i0,i1,i2,i3,i4,i5,i6,rfl⟩ : ∃ a b c d e f g,l = [a,b,c,d,e,f,g]:=by
      match l,h7 with
      | [a,b,c,d,e,f,g],_ => exact ⟨a,b,c,d,e,f,g,rfl⟩
    simp only [List.map_cons,List.map_nil]
    rw [if_pos trivial]
    have hk6 : i6.k = 5:=by have:=congrArg (fun z => z[6]?) t3; simpa using this
    have f6:=form5 (t4 i6 (by simp)) hk6
    by_cases hn : n = b.length
    rotate_left
    · rw [if_neg hn,show ((n : Int) != (b.length : Int)) = true from bne_iff_ne.2 (by omega)]; exact hj _
    rw [if_pos hn,show ((n : Int) != (b.length : Int)) = false from bne_eq_false_iff_eq.2 (by omega)]
    have hlen : (([ofIt i0,ofIt i1,ofIt i2,ofIt i3,ofIt i4,ofIt i5,ofIt i6] : List SIt).length : Int) = 7:=rfl
    simp only [undorec_Decode.j0,hlen]
    rw [if_neg (by decide),if_pos (by decide),if_pos (by decide),if_pos (by decide),if_pos (by decide),if_pos (by decide),if_pos (by decide),if_pos (by decide)]
    have e0 : (rd_T86 [ofIt i0,ofIt i1,ofIt i2,ofIt i3,ofIt i4,ofIt i5,ofIt i6] 0).f1 = i0.n:=rfl;have e1 : (rd_T86 [ofIt i0,ofIt i1,ofIt i2,ofIt i3,ofIt i4,ofIt i5,ofIt i6] 1).f1 = i1.n:=rfl;have e2 : (rd_T86 [ofIt i0,ofIt i1,ofIt i2,ofIt i3,ofIt i4,ofIt i5,ofIt i6] 2).f1 = i2.n:=rfl;have e3 : (rd_T86 [ofIt i0,ofIt i1,ofIt i2,ofIt i3,ofIt i4,ofIt i5,ofIt i6] 3).f1 = i3.n:=rfl;have e4 : (rd_T86 [ofIt i0,ofIt i1,ofIt i2,ofIt i3,ofIt i4,ofIt i5,ofIt i6] 4).f1 = i4.n:=rfl;have e5 : (rd_T86 [ofIt i0,ofIt i1,ofIt i2,ofIt i3,ofIt i4,ofIt i5,ofIt i6] 5).f1 = i5.n:=rfl;have e6 : (rd_T86 [ofIt i0,ofIt i1,ofIt i2,ofIt i3,ofIt i4,ofIt i5,ofIt i6] 6).f3 = i6.s:=rfl;rw [e0,e1,e2,e3,e4,e5,e6]
    unfold uSay
    by_cases hs : i6.s.toList = []
    · rw [if_pos hs,show (i6.s.toList != ([] : List UInt8)) = false from bne_eq_false_iff_eq.2 hs]
      exact uJ1e (k:=k + 1) (by omega) [ofIt i0,ofIt i1,ofIt i2,ofIt i3,ofIt i4,ofIt i5,ofIt i6] (show 6 < 7 by decide) (by rw [e6]; exact hs)
    · rw [if_neg hs,show (i6.s.toList != ([] : List UInt8)) = true from bne_iff_ne.2 hs]
      simp only [undorec_Decode.j1,hlen,e6]
      rw [if_pos trivial,if_pos (by decide)]
      unfold row_Decode_b.f
      rw [if_pos (by omega)]
      have hrow:=dec_two (bytes_byB i6.s) (bytesOf_len_lt f6.2)
      rcases hrow with hr | ⟨ke,de,co,wr,ce,no,hr,hm,hx,hc,_⟩
      · rw [hr k (by omega)]
        simp only [Option.bind_some,decErr]
        rw [if_neg (by decide),if_neg (by decide)]
        rw [uJ2 (k:=k) (by omega) [ofIt i0,ofIt i1,ofIt i2,ofIt i3,ofIt i4,ofIt i5,ofIt i6] (show 6 < 7 by decide) (by rw [e6]; exact hs) true 0 false 0 0 0 (co:=[]) (by decide),if_neg (fun h => by cases h.1)]
      · rw [hr k (by omega)]
        have hco:=(mayRow_iff.1 hm).2.1
        simp only [Option.bind_some]
        rw [if_pos trivial,if_pos trivial,uJ2 (k:=k) (by omega) [ofIt i0,ofIt i1,ofIt i2,ofIt i3,ofIt i4,ofIt i5,ofIt i6] (show 6 < 7 by decide) (by rw [e6]; exact hs) _ 0 false 0 0 0 (co:=co) (by omega)]
        congr 1
        by_cases h2 : i0.n = 2
        · rw [show (i0.n != 2) = false from bne_eq_false_iff_eq.2 h2]
          by_cases hmm : mayU i1.n i2.n i3.n i0.n i4.n i5.n ke de co wr ce no = true
          · rw [if_pos ⟨rfl,hmm,by omega⟩,if_pos ⟨h2,hmm⟩]
          · rw [if_neg (fun h => hmm h.2.1),if_neg (fun h => hmm h.2)]
        · rw [show (i0.n != 2) = true from bne_iff_ne.2 h2,if_neg (fun h => by cases h.1),if_neg (fun h => h2 h.1)]
end Go.Proofs.Ytdcllbhkjcdnoaa.P
namespace Go.Proofs.Ytdcllbhkjcdnoaa.P
open Go.RowKit Ytdcllbhkjcdnoaa Ytdcllbhkjcdnoaa.Mem Ytdcllbhkjcdnoaa.Pac YtdcllbhkjcdnoaaW.PrintWords YtdcllbhkjcdnoaaW.PrintLast YtdcllbhkjcdnoaaW.PrintMore
theorem itU_of {b : List Int} {i0 i1 i2 i3 i4 i5 i6 : It} (hb : Bytes b) (ht : takes b 0 uKs = some ([i0,i1,i2,i3,i4,i5,i6],b.length)) : itU i1.n i2.n i3.n i0.n i4.n i5.n i6.s = [i0,i1,i2,i3,i4,i5,i6] ∧ b = ones (itU i1.n i2.n i3.n i0.n i4.n i5.n i6.s) ∧ i6.s.size < 256:=by
  obtain ⟨t1,t2,t3,t4,t5,t6,t7⟩:=takes_spec hb _ _ _ _ (Nat.zero_le _) (by decide) ht
  simp only [List.map_cons,List.map_nil,List.cons.injEq,and_true] at t3
  obtain ⟨k0,k1,k2,k3,k4,k5,k6⟩:=t3
  have f0:=(form123 (t4 i0 (by simp)) (.inl k0)).1
  have f1:=(form123 (t4 i1 (by simp)) (.inr (.inr k1))).1
  have f2:=(form123 (t4 i2 (by simp)) (.inr (.inr k2))).1
  have f3:=(form123 (t4 i3 (by simp)) (.inr (.inl k3))).1
  have f4:=(form123 (t4 i4 (by simp)) (.inl k4)).1
  have f5:=(form123 (t4 i5 (by simp)) (.inl k5)).1
  have f6:=form5 (t4 i6 (by simp)) k6
  rw [k0] at f0; rw [k1] at f1; rw [k2] at f2; rw [k3] at f3; rw [k4] at f4; rw [k5] at f5
  have h : itU i1.n i2.n i3.n i0.n i4.n i5.n i6.s = [i0,i1,i2,i3,i4,i5,i6]:=by
    unfold itU
    rw [← f0,← f1,← f2,← f3,← f4,← f5,← f6.1]
  refine ⟨h,?_,f6.2⟩;rw [h,t7,List.drop_zero,Nat.sub_zero,List.take_length]
set_option maxHeartbeats 2000000 in
theorem uDec_two {b : List Int} (hb : byB b = true) (hl : b.length ≤ 100000) : (∀ k,102 ≤ k → undorec_Decode.f k b = some uErr) ∨ ∃ (tx no pr ki pa sl : Int) (ke : Nat) (de : Bool) (co : List Nat) (wr ce nn : Int),(∀ k,102 ≤ k → undorec_Decode.f k b = some (tx,no,pr,ki,pa,sl,ke,de,co,wr,ce,nn,0)) ∧ mayU tx no pr ki pa sl ke de co wr ce nn = true ∧ ke < 18446744073709551616 ∧ (∀ x ∈ co,x < 18446744073709551616) ∧ b = bytesU tx no pr ki pa sl ke de co wr ce nn:=by
  have hA : ∀ k,102 ≤ k → _:=fun k (hk : 102 ≤ k) => uDec_any (k:=k - 2) (by omega) hb hl
  have hk2 : ∀ k,102 ≤ k → k - 2 + 2 = k:=fun k hk => by omega
  have hby:=byB_bytes.1 hb
  cases ht : takes b 0 uKs with
  | none => left; intro k hk; have:=hA k hk; rw [hk2 k hk,ht] at this; exact this
  | some p =>
    obtain ⟨l,n⟩:=p
    have h7 : l.length = 7:=takes_len hby (Nat.zero_le _) (by decide) ht
    obtain ⟨i0,i1,i2,i3,i4,i5,i6,rfl⟩ : ∃ a b c d e f g,l = [a,b,c,d,e,f,g]:=by
      match l,h7 with
      | [a,b,c,d,e,f,g],_ => exact ⟨a,b,c,d,e,f,g,rfl⟩
    by_cases hn : n = b.length
    rotate_left
    · left; intro k hk; have:=hA k hk; rw [hk2 k hk,ht] at this; simp only at this; rw [if_neg hn] at this; exact this
    subst hn;obtain ⟨hi,hbb,hs⟩:=itU_of hby ht
    have hA' : ∀ k,102 ≤ k → undorec_Decode.f k b = uSay (k - 2) i0 i1 i2 i3 i4 i5 i6:=by
      intro k hk; have:=hA k hk; rw [hk2 k hk,ht] at this; simp only at this; rw [if_pos trivial] at this; exact this
    unfold uSay at hA'
    by_cases he : i6.s.toList = []
    · simp only [if_pos he] at hA'
      by_cases hm : mayU i1.n i2.n i3.n i0.n i4.n i5.n 0 false [] 0 0 0 = true ∧ i0.n = 1
      · right
        simp only [if_pos hm] at hA'
        refine ⟨_,_,_,_,_,_,_,_,_,_,_,_,hA',hm.1,by decide,(fun x hx => by cases hx),?_⟩
        unfold bytesU txtU
        rw [if_neg (by omega)]
        rw [sz0 (s:=i6.s) (by rw [he]; rfl)] at hbb
        exact hbb
      · left; simp only [if_neg hm] at hA'; exact hA'
    · simp only [if_neg he] at hA'
      rcases dec_two (bytes_byB i6.s) (bytesOf_len_lt hs) with hr | ⟨ke,de,co,wr,ce,nn,hr,hm,hx,hc,hbs⟩
      · left; intro k hk; rw [hA' k hk,hr (k - 2) (by omega)]; rfl
      · have hA2 : ∀ k,102 ≤ k → undorec_Decode.f k b = some (if i0.n = 2 ∧ mayU i1.n i2.n i3.n i0.n i4.n i5.n ke de co wr ce nn = true then (i1.n,i2.n,i3.n,i0.n,i4.n,i5.n,ke,de,co,wr,ce,nn,0) else uErr):=by
          intro k hk; rw [hA' k hk,hr (k - 2) (by omega)]; rfl
        by_cases h2 : i0.n = 2 ∧ mayU i1.n i2.n i3.n i0.n i4.n i5.n ke de co wr ce nn = true
        · right
          simp only [if_pos h2] at hA2
          refine ⟨_,_,_,_,_,_,_,_,_,_,_,_,hA2,h2.2,hx,hc,?_⟩
          unfold bytesU txtU
          rw [if_pos h2.1,← hbs,str_bytesOf];exact hbb
        · left; simp only [if_neg h2] at hA2; exact hA2
end Go.Proofs.Ytdcllbhkjcdnoaa.P
namespace Go.Proofs.Ytdcllbhkjcdnoaa.P
open Go.RowKit Ytdcllbhkjcdnoaa Ytdcllbhkjcdnoaa.Mem Ytdcllbhkjcdnoaa.Pac YtdcllbhkjcdnoaaW.PrintWords YtdcllbhkjcdnoaaW.PrintLast YtdcllbhkjcdnoaaW.PrintMore
theorem bytesU_len {tx no pr ki pa sl : Int} {ke : Nat} {de : Bool} {co : List Nat} {wr ce nn : Int} (hm : mayU tx no pr ki pa sl ke de co wr ce nn = true) : (bytesU tx no pr ki pa sl ke de co wr ce nn).length ≤ 100000:=by
  have:=ones_length (uIt_may hm);have h2 : (itU tx no pr ki pa sl (strOfNums (txtU ki ke de co wr ce nn))).length = 7:=rfl
  unfold bytesU
  omega
theorem uDec_und {k : Nat} {tx no pr ki pa sl : Int} {ke : Nat} {de : Bool} {co : List Nat} {wr ce nn : Int} (hk : 102 ≤ k) (hm : mayU tx no pr ki pa sl ke de co wr ce nn = true) (hx : ke < 18446744073709551616) (hc : ∀ x ∈ co,x < 18446744073709551616) :
    undorec_Decode.f k (bytesU tx no pr ki pa sl ke de co wr ce nn) = some (tx,no,pr,ki,pa,sl,ke,de,co,wr,ce,nn,0):=by
  obtain ⟨k,rfl⟩ : ∃ m,k = m + 2:=⟨k - 2,by omega⟩
  have hmay:=uIt_may hm
  rw [uDec_any (b:=bytesU tx no pr ki pa sl ke de co wr ce nn) (by omega) (ones_byB hmay) (bytesU_len hm)]
  have hH:=takes_ones (itU tx no pr ki pa sl (strOfNums (txtU ki ke de co wr ce nn))) hmay (itU_x _ _ _ _ _ _ _) [] []
  rw [itU_norm,List.nil_append,List.append_nil,List.length_nil,Nat.zero_add,show (itU tx no pr ki pa sl (strOfNums (txtU ki ke de co wr ce nn))).map (·.k) = uKs from rfl] at hH
  unfold bytesU
  rw [hH]
  unfold itU
  simp only
  rw [if_pos trivial]
  unfold uSay
  simp only
  rcases (mayU_iff.1 hm).2 with ⟨h1,h2⟩ | ⟨h1,h2⟩
  · have ht : txtU ki ke de co wr ce nn = []:=by unfold txtU; rw [if_neg (by omega)]
    have hz:=od_ h2;obtain ⟨rfl,rfl,rfl,rfl,rfl,rfl⟩:=hz
    rw [ht,show strOfNums [] = (⟨#[]⟩ : ByteArray) from rfl,if_pos nil_str,if_pos ⟨hm,h1⟩]
  · have ht : txtU ki ke de co wr ce nn = ones (rowIt ke de co wr ce nn):=by unfold txtU; rw [if_pos h1]
    have hne : (strOfNums (txtU ki ke de co wr ce nn)).toList ≠ []:=by
      intro h
      have h0:=sz0 (s:=strOfNums (txtU ki ke de co wr ce nn)) (by rw [h]; rfl)
      have h3:=congrArg ByteArray.size h0;rw [size_strOf,ht,rowIt_len] at h3
      exact absurd h3 (by show ¬ (20 + 8 * co.length = 0); omega)
    rw [if_neg hne,ht,bytesOf_str (ones_bytes (rowIt_may h2)),dec_row (by omega) h2 hx hc]
    simp only [Option.bind_some]
    rw [if_pos trivial,if_pos ⟨h1,hm⟩]
end Go.Proofs.Ytdcllbhkjcdnoaa.P
namespace Go.Proofs.Ytdcllbhkjcdnoaa.P
open Go.RowKit Ytdcllbhkjcdnoaa Ytdcllbhkjcdnoaa.Mem Ytdcllbhkjcdnoaa.Pac YtdcllbhkjcdnoaaW.PrintWords YtdcllbhkjcdnoaaW.PrintLast YtdcllbhkjcdnoaaW.PrintMore
abbrev RUDecT:=Int × Int × Int × Int × Int × Int × Nat × Bool × List Nat × Int × Int × Int × Bool
def rUErr : RUDecT:=(0,0,0,0,0,0,0,false,[],0,0,0,false)
theorem rU_j1 (k : Nat) (z : Bool) (tx no pr ki pa sl : Int) (ke : Nat) (de : Bool) (co : List Nat) (wr ce nn : Int) : humusref09_Decode.j1 (k + 1) z tx no pr ki pa sl ke de co wr ce nn = some (if z = true then rUErr else (tx,no,pr,ki,pa,sl,ke,de,co,wr,ce,nn,true)):=by
  simp only [humusref09_Decode.j1]
  cases z
  · rw [if_neg (by decide),if_neg (by decide)]
  · rw [if_pos rfl,if_pos rfl]; rfl
theorem rdec_row_any {s : List Int} (hb : byB s = true) (hl : s.length ≤ 100000) : ∃ (ke : Nat) (de : Bool) (co : List Nat) (wr ce nn : Int) (ok : Bool),(∀ k,1100 ≤ k → humusref04_Decode.f k s = some (ke,de,co,wr,ce,nn,ok)) ∧ ke < 18446744073709551616 ∧ (∀ x ∈ co,x < 18446744073709551616) ∧ co.length ≤ 4 ∧ (ok = false → ke = 0 ∧ de = false ∧ co = [] ∧ wr = 0 ∧ ce = 0 ∧ nn = 0) ∧ (ok = true → s = ones (rowIt ke de co wr ce nn)):=by
  rcases rdec_two hb hl with h | ⟨ke,de,co,wr,ce,no,h,hm,hx,hc,he⟩
  · exact ⟨0,false,[],0,0,0,false,h,by decide,(fun x hx => by cases hx),by decide,fun _ => ⟨rfl,rfl,rfl,rfl,rfl,rfl⟩,fun h => by cases h⟩
  · exact ⟨ke,de,co,wr,ce,no,true,h,hx,hc,(mayRow_iff.1 hm).2.1,(fun h => by cases h),fun _ => he⟩
set_option maxHeartbeats 4000000 in
theorem rU_say {b : List Int} (hb : byB b = true) (hl : b.length ≤ 100000) {i0 i1 i2 i3 i4 i5 i6 : It} {n : Nat} (ht : takes b 0 uKs = some ([i0,i1,i2,i3,i4,i5,i6],n)) {ke : Nat} {de : Bool} {co : List Nat} {wr ce nn : Int} {ok : Bool} (hr : ∀ k,1100 ≤ k → humusref04_Decode.f k (bytesOf i6.s) = some (ke,de,co,wr,ce,nn,ok)) (hx : ke < 18446744073709551616) (hc : ∀ x ∈ co,x < 18446744073709551616) (hl4 : co.length ≤ 4) (hs : i6.s.size < 256) :
    ∀ k,1200 ≤ k → humusref09_Decode.f k b = some (if mayU i1.n i2.n i3.n i0.n i4.n i5.n ke de co wr ce nn = true ∧ bytesU i1.n i2.n i3.n i0.n i4.n i5.n ke de co wr ce nn = b then (i1.n,i2.n,i3.n,i0.n,i4.n,i5.n,ke,de,co,wr,ce,nn,true) else rUErr):=by
  have hby:=byB_bytes.1 hb
  have hT : ∀ (k : Nat) (l : List SIt),humusref09_Decode.j0 (k + 1) b l true = some rUErr:=fun k l => by simp only [humusref09_Decode.j0,if_true]; rfl
  have hF : ∀ k,humusref09_Decode.f k b = humusref09_Decode.j0 k b ((takeR b uKs).1.map ofIt) ((takeR b uKs).2.2 != 0):=by
    intro k
    unfold humusref09_Decode.f humusref03_Take.f takeF
    rw [if_pos ⟨hb,by omega,by decide⟩]
    rfl
  unfold takeR at hF
  simp only [if_pos (show kindsOk uKs = true by decide)] at hF
  rw [ht] at hF
  simp only [List.map_cons,List.map_nil] at hF
  intro k hk
  obtain ⟨k,rfl⟩ : ∃ m,k = m + 2:=⟨k - 2,by omega⟩
  rw [hF];have hlen : (([ofIt i0,ofIt i1,ofIt i2,ofIt i3,ofIt i4,ofIt i5,ofIt i6] : List SIt).length : Int) = 7:=rfl
  simp only [humusref09_Decode.j0,hlen]
  rw [if_neg (by decide),if_pos (by decide),if_pos (by decide),if_pos (by decide),if_pos (by decide),if_pos (by decide),if_pos (by decide),if_pos (by decide)]
  have e0 : (rd_T86 [ofIt i0,ofIt i1,ofIt i2,ofIt i3,ofIt i4,ofIt i5,ofIt i6] 0).f1 = i0.n:=rfl;have e1 : (rd_T86 [ofIt i0,ofIt i1,ofIt i2,ofIt i3,ofIt i4,ofIt i5,ofIt i6] 1).f1 = i1.n:=rfl;have e2 : (rd_T86 [ofIt i0,ofIt i1,ofIt i2,ofIt i3,ofIt i4,ofIt i5,ofIt i6] 2).f1 = i2.n:=rfl;have e3 : (rd_T86 [ofIt i0,ofIt i1,ofIt i2,ofIt i3,ofIt i4,ofIt i5,ofIt i6] 3).f1 = i3.n:=rfl;have e4 : (rd_T86 [ofIt i0,ofIt i1,ofIt i2,ofIt i3,ofIt i4,ofIt i5,ofIt i6] 4).f1 = i4.n:=rfl;have e5 : (rd_T86 [ofIt i0,ofIt i1,ofIt i2,ofIt i3,ofIt i4,ofIt i5,ofIt i6] 5).f1 = i5.n:=rfl;have e6 : (rd_T86 [ofIt i0,ofIt i1,ofIt i2,ofIt i3,ofIt i4,ofIt i5,ofIt i6] 6).f3 = i6.s:=rfl;rw [e0,e1,e2,e3,e4,e5,e6]
  unfold humusref04_Decode_b.f
  rw [if_pos (by omega),hr (k + 1) (by omega)]
  simp only [Option.bind_some]
  rw [uMay_ev (by omega) hx (by omega)]
  simp only [Option.bind_some]
  by_cases hm : mayU i1.n i2.n i3.n i0.n i4.n i5.n ke de co wr ce nn = true
  · rw [if_pos hm,uBytes_ev (by omega) hx hc hm]
    simp only [Option.bind_some]
    rw [rU_j1];have hB : Bytes (bytesU i1.n i2.n i3.n i0.n i4.n i5.n ke de co wr ce nn):=ones_bytes (uIt_may hm)
    have hs : ((strOfNums (bytesU i1.n i2.n i3.n i0.n i4.n i5.n ke de co wr ce nn)).toList != (strOfNums b).toList) = !decide (bytesU i1.n i2.n i3.n i0.n i4.n i5.n ke de co wr ce nn = b):=by
      rw [← str_eq hB hby]; rfl
    rw [hs]
    by_cases he : bytesU i1.n i2.n i3.n i0.n i4.n i5.n ke de co wr ce nn = b
    · rw [dt_ he,if_neg (by decide),if_pos ⟨hm,he⟩]
    · rw [df_ he,if_pos (by decide),if_neg (fun h => he h.2)]
  · rw [if_neg hm,rU_j1,if_pos rfl,if_neg (fun h => hm h.1)]
set_option maxHeartbeats 4000000 in
theorem rU_two {b : List Int} (hb : byB b = true) (hl : b.length ≤ 100000) : (∀ k,1200 ≤ k → humusref09_Decode.f k b = some rUErr) ∨ ∃ (tx no pr ki pa sl : Int) (ke : Nat) (de : Bool) (co : List Nat) (wr ce nn : Int),(∀ k,1200 ≤ k → humusref09_Decode.f k b = some (tx,no,pr,ki,pa,sl,ke,de,co,wr,ce,nn,true)) ∧ mayU tx no pr ki pa sl ke de co wr ce nn = true ∧ ke < 18446744073709551616 ∧ (∀ x ∈ co,x < 18446744073709551616) ∧ b = bytesU tx no pr ki pa sl ke de co wr ce nn:=by
  have hby:=byB_bytes.1 hb
  have hT : ∀ (k : Nat) (l : List SIt),humusref09_Decode.j0 (k + 1) b l true = some rUErr:=fun k l => by simp only [humusref09_Decode.j0,if_true]; rfl
  have hF : ∀ k,humusref09_Decode.f k b = humusref09_Decode.j0 k b ((takeR b uKs).1.map ofIt) ((takeR b uKs).2.2 != 0):=by
    intro k
    unfold humusref09_Decode.f humusref03_Take.f takeF
    rw [if_pos ⟨hb,by omega,by decide⟩]
    rfl
  unfold takeR at hF
  simp only [if_pos (show kindsOk uKs = true by decide)] at hF
  cases ht : takes b 0 uKs with
  | none =>
    left; intro k hk
    obtain ⟨k,rfl⟩ : ∃ m,k = m + 1:=⟨k - 1,by omega⟩
    rw [hF,ht];exact hT _ _
  | some p =>
    obtain ⟨l,n⟩:=p
    obtain ⟨t1,t2,t3,t4,t5,t6,t7⟩:=takes_spec hby _ _ _ _ (Nat.zero_le _) (by decide) ht
    have h7 : l.length = 7:=takes_len hby (Nat.zero_le _) (by decide) ht
    obtain ⟨i0,i1,i2,i3,i4,i5,i6,rfl⟩ : ∃ a b c d e f g,l = [a,b,c,d,e,f,g]:=by
      match l,h7 with
      | [a,b,c,d,e,f,g],_ => exact ⟨a,b,c,d,e,f,g,rfl⟩
    have hk6 : i6.k = 5:=by have:=congrArg (fun z => z[6]?) t3; simpa using this
    have f6:=form5 (t4 i6 (by simp)) hk6
    rw [ht] at hF
    simp only [List.map_cons,List.map_nil] at hF
    obtain ⟨ke,de,co,wr,ce,nn,ok,hr,hx,hc,hl4,_,_⟩:=rdec_row_any (bytes_byB i6.s) (bytesOf_len_lt f6.2);have hG:=rU_say hb hl ht hr hx hc hl4 f6.2
    by_cases h : mayU i1.n i2.n i3.n i0.n i4.n i5.n ke de co wr ce nn = true ∧ bytesU i1.n i2.n i3.n i0.n i4.n i5.n ke de co wr ce nn = b
    · right
      simp only [if_pos h] at hG
      exact ⟨_,_,_,_,_,_,_,_,_,_,_,_,hG,h.1,hx,hc,h.2.symm⟩
    · left; simp only [if_neg h] at hG; exact hG
theorem rU_und {k : Nat} {tx no pr ki pa sl : Int} {ke : Nat} {de : Bool} {co : List Nat} {wr ce nn : Int} (hk : 1200 ≤ k) (hm : mayU tx no pr ki pa sl ke de co wr ce nn = true) (hx : ke < 18446744073709551616) (hc : ∀ x ∈ co,x < 18446744073709551616) :
    humusref09_Decode.f k (bytesU tx no pr ki pa sl ke de co wr ce nn) = some (tx,no,pr,ki,pa,sl,ke,de,co,wr,ce,nn,true):=by
  have hmay:=uIt_may hm;have hH:=takes_ones (itU tx no pr ki pa sl (strOfNums (txtU ki ke de co wr ce nn))) hmay (itU_x _ _ _ _ _ _ _) [] []
  rw [itU_norm,List.nil_append,List.append_nil,List.length_nil,Nat.zero_add,show (itU tx no pr ki pa sl (strOfNums (txtU ki ke de co wr ce nn))).map (·.k) = uKs from rfl] at hH
  have hr : ∀ k,1100 ≤ k → humusref04_Decode.f k (bytesOf (strOfNums (txtU ki ke de co wr ce nn))) = some (ke,de,co,wr,ce,nn,decide (ki = 2)):=by
    intro k hk
    rcases (mayU_iff.1 hm).2 with ⟨h1,h2⟩ | ⟨h1,h2⟩
    · have ht : txtU ki ke de co wr ce nn = []:=by unfold txtU; rw [if_neg (by omega)]
      obtain ⟨rfl,rfl,rfl,rfl,rfl,rfl⟩:=od_ h2
      rw [ht,bytesOf_str (fun x hx => by cases hx),rdec_any hk (by decide) (by decide),if_pos (.inl (by decide)),df_ (by omega)]
      rfl
    · have ht : txtU ki ke de co wr ce nn = ones (rowIt ke de co wr ce nn):=by unfold txtU; rw [if_pos h1]
      rw [ht,bytesOf_str (ones_bytes (rowIt_may h2)),rdec_row hk h2 hx hc,dt_ h1]
  have hl4 : co.length ≤ 4:=by
    rcases (mayU_iff.1 hm).2 with ⟨_,h⟩ | ⟨_,h⟩
    · rw [(od_ h).2.2.1]; decide
    · exact (mayRow_iff.1 h).2.1
  have:=rU_say (b:=bytesU tx no pr ki pa sl ke de co wr ce nn) (ones_byB hmay) (bytesU_len hm) hH hr hx hc hl4 (by show (strOfNums (txtU ki ke de co wr ce nn)).size < 256; rw [size_strOf]; have:=txtU_len hm; omega) k hk
  rw [this];exact congrArg some (if_pos ⟨hm,rfl⟩)
end Go.Proofs.Ytdcllbhkjcdnoaa.P
namespace Go.Proofs.Ytdcllbhkjcdnoaa.P
open Go.RowKit Ytdcllbhkjcdnoaa Ytdcllbhkjcdnoaa.Mem Ytdcllbhkjcdnoaa.Pac YtdcllbhkjcdnoaaW.PrintWords YtdcllbhkjcdnoaaW.PrintLast YtdcllbhkjcdnoaaW.PrintMore
theorem itU_len (tx no pr ki pa sl : Int) (s : ByteArray) : (ones (itU tx no pr ki pa sl s)).length = 14 + s.size:=by
  have h1 : ∀ n,(one ⟨1,n,0,⟨#[]⟩⟩).length = 1:=fun n => bigs_length _ _
  have h2 : ∀ n,(one ⟨2,n,0,⟨#[]⟩⟩).length = 2:=fun n => bigs_length _ _
  have h3 : ∀ n,(one ⟨3,n,0,⟨#[]⟩⟩).length = 4:=fun n => bigs_length _ _
  have h5 : (one ⟨5,0,0,s⟩).length = 1 + s.size:=by
    rw [show one ⟨5,0,0,s⟩ = (s.size : Int) :: bytesOf s from rfl,List.length_cons,bytesOf_length]; omega
  unfold itU ones
  simp only [List.flatMap_cons,List.flatMap_nil,List.length_append,List.length_nil,h1,h2,h3,h5]
  omega
theorem bytesU_size {tx no pr ki pa sl : Int} {ke : Nat} {de : Bool} {co : List Nat} {wr ce nn : Int} : (bytesU tx no pr ki pa sl ke de co wr ce nn).length = 14 + (if ki = 2 then 20 + 8 * co.length else 0):=by
  unfold bytesU
  rw [itU_len,size_strOf]
  unfold txtU
  split
  · rw [rowIt_len]
  · rfl
theorem awake09_ev {k : Nat} (hk : 110 ≤ k) : humuslaw09_awake.f k = some true:=by
  have hm : mayU 1 2 0 1 3 0 0 false [] 0 0 0 = true:=by decide
  unfold humuslaw09_awake.f
  rw [uEncode_ev (by show 0 + 30 ≤ k; omega) (by decide) (by decide) (fun x hx => by cases hx),if_pos hm]
  simp only [Option.bind_some]
  rw [uDec_und (by omega) hm (by decide) (fun x hx => by cases hx)]
  simp only [Option.bind_some]
  rw [if_pos trivial,if_pos trivial,if_pos (by rw [bytesU_size]; rfl),if_pos trivial]
  rfl
end Go.Proofs.Ytdcllbhkjcdnoaa.P
namespace Go.Proofs.Ytdcllbhkjcdnoaa.P
open Go.RowKit Ytdcllbhkjcdnoaa Ytdcllbhkjcdnoaa.Mem Ytdcllbhkjcdnoaa.Pac YtdcllbhkjcdnoaaW.PrintWords YtdcllbhkjcdnoaaW.PrintLast
theorem sameU_self {tx no pr ki pa sl : Int} {ke : Nat} {de : Bool} {co : List Nat} {wr ce nn : Int} : sameU tx no pr ki pa sl ke de co wr ce nn tx no pr ki pa sl ke de co wr ce nn = true :=
  sameU_iff.2 ⟨⟨rfl,rfl,rfl,rfl,rfl,rfl⟩,⟨rfl,rfl,rfl,rfl,rfl,rfl⟩⟩
theorem mayU_co {tx no pr ki pa sl : Int} {ke : Nat} {de : Bool} {co : List Nat} {wr ce nn : Int} (hm : mayU tx no pr ki pa sl ke de co wr ce nn = true) : co.length ≤ 4:=by
  rcases (mayU_iff.1 hm).2 with ⟨_,h⟩ | ⟨_,h⟩
  · unfold sameRow at h
    rw [decide_eq_true_iff] at h;rw [h.2.2.1]; decide
  · exact (mayRow_iff.1 h).2.1
theorem bytesU_inj {tx no pr ki pa sl : Int} {ke : Nat} {de : Bool} {co : List Nat} {wr ce nn : Int} {tx' no' pr' ki' pa' sl' : Int} {ke' : Nat} {de' : Bool} {co' : List Nat} {wr' ce' nn' : Int} (hm : mayU tx no pr ki pa sl ke de co wr ce nn = true) (hx : ke < 18446744073709551616) (hc : ∀ x ∈ co,x < 18446744073709551616) (hm' : mayU tx' no' pr' ki' pa' sl' ke' de' co' wr' ce' nn' = true) (hx' : ke' < 18446744073709551616) (hc' : ∀ x ∈ co',x < 18446744073709551616) :
    decide (bytesU tx no pr ki pa sl ke de co wr ce nn = bytesU tx' no' pr' ki' pa' sl' ke' de' co' wr' ce' nn') = sameU tx no pr ki pa sl ke de co wr ce nn tx' no' pr' ki' pa' sl' ke' de' co' wr' ce' nn':=by
  rw [Bool.eq_iff_iff,decide_eq_true_iff]
  constructor
  · intro h
    have h1:=uDec_und (k:=102) (by omega) hm hx hc
    rw [h,uDec_und (k:=102) (by omega) hm' hx' hc'] at h1
    injection h1 with h1
    simp only [Prod.mk.injEq] at h1
    obtain ⟨e1,e2,e3,e4,e5,e6,e7,e8,e9,e10,e11,e12,_⟩:=h1;exact sameU_iff.2 ⟨⟨e1.symm,e2.symm,e3.symm,e4.symm,e5.symm,e6.symm⟩,⟨e7.symm,e8.symm,e9.symm,e10.symm,e11.symm,e12.symm⟩⟩
  · intro h
    obtain ⟨⟨e1,e2,e3,e4,e5,e6⟩,⟨e7,e8,e9,e10,e11,e12⟩⟩:=sameU_iff.1 h;rw [e1,e2,e3,e4,e5,e6,e7,e8,e9,e10,e11,e12]
end Go.Proofs.Ytdcllbhkjcdnoaa.P
namespace Go.Proofs.Ytdcllbhkjcdnoaa.Pure
open Go.RowKit Ytdcllbhkjcdnoaa Ytdcllbhkjcdnoaa.P Ytdcllbhkjcdnoaa.Mem Ytdcllbhkjcdnoaa.Pac YtdcllbhkjcdnoaaW.PrintWords YtdcllbhkjcdnoaaW.PrintLast
theorem UndorecDecodes : humuslaw09_UndorecDecodes.Pure:=by
  intro b hm1 hm2 hw;refine ⟨2000,?_⟩
  unfold humuslaw09_UndorecDecodes.f
  by_cases hl : b.length > 1000
  · rw [if_pos (by omega),awake09_ev (by omega)]; rfl
  rw [if_neg (by omega)]
  simp only [Option.bind_some,List.nil_append]
  rw [if_pos (by rw [List.length_nil]; omega)]
  have hb : byB b = true:=byB_bytes.2 (wf_bytes hw)
  rcases uDec_two hb (by omega) with hP | ⟨tx,no,pr,ki,pa,sl,ke,de,co,wr,ce,nn,hP,hm,hx,hc,he⟩
  · rw [hP 2000 (by omega)]
    rcases rU_two hb (by omega) with hR | ⟨tx,no,pr,ki,pa,sl,ke,de,co,wr,ce,nn,hR,hm,hx,hc,he⟩
    · rw [hR 2000 (by omega)]
      unfold uErr rUErr
      simp only [Option.bind_some]
      rw [show (2000 : Nat) = 1999 + 1 from rfl]
      simp only [humuslaw09_UndorecDecodes.j0]
      rw [if_pos (by decide),if_pos trivial,rSameU_ev (by decide) (by decide),sameU_self]
      simp only [Option.bind_some]
      rw [if_pos trivial,awake09_ev (by omega)]
      rfl
    · exfalso
      have h1:=uDec_und (k:=2000) (by omega) hm hx hc
      rw [← he,hP 2000 (by omega)] at h1
      injection h1 with h1
      have:=congrArg (fun z : UDecT => z.2.2.2.2.2.2.2.2.2.2.2.2) h1
      exact absurd (show (4 : Int) = 0 from this) (by decide)
  · have h4:=mayU_co hm
    rw [hP 2000 (by omega)]
    rcases rU_two hb (by omega) with hR | ⟨tx',no',pr',ki',pa',sl',ke',de',co',wr',ce',nn',hR,hm',hx',hc',he'⟩
    · exfalso
      have h1:=rU_und (k:=2000) (by omega) hm hx hc
      rw [← he,hR 2000 (by omega)] at h1
      injection h1 with h1
      have:=congrArg (fun z : RUDecT => z.2.2.2.2.2.2.2.2.2.2.2.2) h1
      exact absurd (show false = true from this) (by decide)
    · have hs:=bytesU_inj hm hx hc hm' hx' hc'
      rw [← he,← he',dt_ rfl] at hs
      rw [hR 2000 (by omega)]
      simp only [Option.bind_some]
      rw [show (2000 : Nat) = 1999 + 1 from rfl]
      simp only [humuslaw09_UndorecDecodes.j0]
      rw [if_neg (by decide),if_pos trivial,rSameU_ev (by omega) (by omega),← hs]
      simp only [Option.bind_some]
      rw [if_pos trivial,awake09_ev (by omega)]
      rfl
end Go.Proofs.Ytdcllbhkjcdnoaa.Pure
