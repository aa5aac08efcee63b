/- duetref.sortWord, joined, LocalText: a text is told of each that is right; a symbolic walk (printed by mkp8.py). -/
-- TYPESA
import Derived.Test.YtmohkmfimcnfeaaDoorP7
set_option linter.unusedVariables false
set_option linter.unusedSimpArgs false
namespace Go.Proofs.YtmohkmfimcnfeaaDoor
open Go.RowKit Go.Sw
open Nat renaming reduceAdd → zn2

def sortWL (so : Int) : ByteArray:=if so = 1 then ⟨#[105,110,116]⟩ else if so = 2 then ⟨#[98,111,111,108]⟩ else ⟨#[116,101,120,116]⟩
theorem sortWL_size (so : Int) : (sortWL so).size ≤ 4:=by unfold sortWL;(repeat' split) <;> decide
set_option maxHeartbeats 4000000 in
set_option maxRecDepth 100000 in
theorem sortWord_fn (Γ : Gl) (so : Int) (h1 : 1 ≤ so) (h3 : so ≤ 3) : DFn Tryd.prog Γ 37 [iD so] (sD (sortWL so)):=by
 have m1 : 4 ≤ maxLen:=by unfold maxLen;omega
 rcases (show so = 1 ∨ so = 2 ∨ so = 3 by omega) with rfl | rfl | rfl
 · rw [show sortWL 1 = ⟨#[105,110,116]⟩ from rfl]
   refine fn_of_swp (N:=7) Tryd.func37 rfl (by decide) rfl rfl (by simp) (fun C h0=>?_)
   simp only [argE]
   repeat' (first|(with_reducible apply zz1)|((with_reducible apply zz2);rfl;intro K' hK';simp only [WA,simprocAttr,m1,List.getD_cons_zero,List.getD_cons_succ];(repeat (constructor;focus (clear hK';intros;simp_all;done)));(try (apply hK';clear hK' K')))|((with_reducible apply zz3);rfl;all_goals (intro h;try exact absurd h (by decide))))
   simp only [Kret,retL,retOne,oneV,WA,simprocAttr]
 · rw [show sortWL 2 = ⟨#[98,111,111,108]⟩ from rfl]
   refine fn_of_swp (N:=7) Tryd.func37 rfl (by decide) rfl rfl (by simp) (fun C h0=>?_)
   simp only [argE]
   repeat' (first|(with_reducible apply zz1)|((with_reducible apply zz2);rfl;intro K' hK';simp only [WA,simprocAttr,m1,List.getD_cons_zero,List.getD_cons_succ];(repeat (constructor;focus (clear hK';intros;simp_all;done)));(try (apply hK';clear hK' K')))|((with_reducible apply zz3);rfl;all_goals (intro h;try exact absurd h (by decide))))
   simp only [Kret,retL,retOne,oneV,WA,simprocAttr]
 · rw [show sortWL 3 = ⟨#[116,101,120,116]⟩ from rfl]
   refine fn_of_swp (N:=7) Tryd.func37 rfl (by decide) rfl rfl (by simp) (fun C h0=>?_)
   simp only [argE]
   repeat' (first|(with_reducible apply zz1)|((with_reducible apply zz2);rfl;intro K' hK';simp only [WA,simprocAttr,m1,List.getD_cons_zero,List.getD_cons_succ];(repeat (constructor;focus (clear hK';intros;simp_all;done)));(try (apply hK';clear hK' K')))|((with_reducible apply zz3);rfl;all_goals (intro h;try exact absurd h (by decide))))
   simp only [Kret,retL,retOne,oneV,WA,simprocAttr]
def itemL (s t : ByteArray) : ByteArray:=s ++ ⟨#[58]⟩ ++ t
def jnB (sep : ByteArray) : List ByteArray → Nat → ByteArray → ByteArray
 | [],_,s=>s
 | x :: l,j,s=>jnB sep l (j + 1) ((if 0 < j then s ++ sep else s) ++ x)
theorem jnB_size (sep : ByteArray) : ∀ (l : List ByteArray) (j : Nat) (s : ByteArray),(jnB sep l j s).size ≤ s.size + (l.map fun x=>x.size + sep.size).sum
 | [],j,s=>by simp [jnB]
 | x :: l,j,s=>by
  have:=jnB_size sep l (j + 1) ((if 0 < j then s ++ sep else s) ++ x)
  simp only [jnB,List.map_cons,List.sum_cons]
  have : ((if 0 < j then s ++ sep else s) ++ x).size ≤ s.size + sep.size + x.size:=by
   rw [ByteArray.size_append]
   split
   · rw [ByteArray.size_append];omega
   · omega
  omega
theorem jnB_snoc (sep : ByteArray) : ∀ (l : List ByteArray) (j : Nat) (s x : ByteArray),jnB sep (l ++ [x]) j s = (if 0 < j + l.length then jnB sep l j s ++ sep else jnB sep l j s) ++ x
 | [],j,s,x=>by simp [jnB]
 | y :: l,j,s,x=>by
  simp only [List.cons_append,jnB]
  rw [jnB_snoc sep l (j + 1)]
  simp only [List.length_cons]
  rw [show j + 1 + l.length = j + (l.length + 1) by omega]
set_option maxHeartbeats 4000000 in
set_option maxRecDepth 100000 in
theorem joined_fn (Γ : Gl) (sep : ByteArray) (xs : List ByteArray) (hn : xs.length ≤ 1000) (hz : (xs.map fun x=>x.size + sep.size).sum ≤ 1000000) : DFn Tryd.prog Γ 38 [.slc (xs.map sD),sD sep] (sD (jnB sep xs 0 noB)):=by
 refine fn_of_swp (N:=25) Tryd.func38 rfl (by decide) rfl rfl (by simp) (fun C h0=>?_)
 simp only [argE]
 repeat' (first|(with_reducible apply zz1)|((with_reducible apply zz2);rfl;intro K' hK';simp only [WA,simprocAttr];(repeat (constructor;focus (clear hK';intros;simp_all;done)));(try (apply hK';clear hK' K')))|((with_reducible apply zz3);rfl;all_goals (intro h;try exact absurd h (by decide))))
 refine swp_loop (α := Nat) (fun j=>[(0,.d (.slc (xs.map sD))),(1,.d (sD sep)),(5,.d (sD (jnB sep (xs.take j) 0 noB))),(6,.d (iD j))]) (fun _=>[])
  (fun j=>j ≤ xs.length) (fun j=>xs.length - j) 0 (Nat.zero_le _) (by simp only [List.take_zero,jnB];refine sub_of h0 ?_ ?_ ?_ <;> simp only [US,WA,simprocAttr]) (fun j hj=>?_)
 have hj : j ≤ xs.length:=hj
 have hb0 : (0 : Int) ≤ (j : Int):=by omega
 by_cases hlt : j < xs.length
 · obtain ⟨x,hx⟩ : ∃ x,xs[j]? = some x:=⟨xs[j],by simp [hlt]⟩
   have hget : (xs.map sD).getD j default = sD x:=by simp [List.getD,hx]
   have hb1 : (j : Int) < (xs.length : Int):=by omega
   have hw3 : IntKind.i64.wrap ((j : Int) + 1) = ((j + 1 : Nat) : Int):=by rw [wrap_in (by omega) (by omega)];omega
   have htk : xs.take (j + 1) = xs.take j ++ [x]:=by rw [List.take_add_one,hx];rfl
   have hst:=jnB_snoc sep (xs.take j) 0 noB x
   rw [List.length_take,Nat.min_eq_left hj,Nat.zero_add, ← htk] at hst
   have hsz:=jnB_size sep (xs.take (j + 1)) 0 noB
   have hle : ((xs.take (j + 1)).map fun x=>x.size + sep.size).sum ≤ (xs.map fun x=>x.size + sep.size).sum:=by
    conv=>rhs;rw [← List.take_append_drop (j + 1) xs]
    rw [List.map_append,List.sum_append];omega
   have e0 : noB.size = 0:=rfl
   rw [hst] at hsz
   generalize jnB sep (xs.take j) 0 noB = A at *
   by_cases h0j : 0 < j
   · rw [if_pos h0j] at hst hsz
     rw [ByteArray.size_append,ByteArray.size_append] at hsz
     have g0 : (0 : Int) < (j : Int):=by omega
     have m1 : A.size + sep.size ≤ maxLen:=by unfold maxLen;omega
     have m2 : (A ++ sep).size + x.size ≤ maxLen:=by rw [ByteArray.size_append];unfold maxLen;omega
     repeat' (first|(with_reducible apply zz1)|((with_reducible apply zz2);rfl;intro K' hK';simp only [WA,simprocAttr,List.length_map,hb1,g0,m1,m2,Int.toNat_natCast,hget,hb0,hw3];(repeat (constructor;focus (clear hK';intros;simp_all;done)));(try (apply hK';clear hK' K')))|((with_reducible apply zz3);rfl;all_goals (intro h;try exact absurd h (by decide))))
     refine ⟨j + 1,(by show j + 1 ≤ xs.length;omega),(by show xs.length - (j + 1) < xs.length - j;omega),by simp only [hst];refine sub_of h0 ?_ ?_ ?_ <;> simp only [US,WA,simprocAttr]⟩
   · rw [if_neg h0j] at hst hsz
     rw [ByteArray.size_append] at hsz
     have g0 : ¬ (0 : Int) < (j : Int):=by omega
     have m2 : A.size + x.size ≤ maxLen:=by unfold maxLen;omega
     repeat' (first|(with_reducible apply zz1)|((with_reducible apply zz2);rfl;intro K' hK';simp only [WA,simprocAttr,List.length_map,hb1,g0,m2,Int.toNat_natCast,hget,hb0,hw3];(repeat (constructor;focus (clear hK';intros;simp_all;done)));(try (apply hK';clear hK' K')))|((with_reducible apply zz3);rfl;all_goals (intro h;try exact absurd h (by decide))))
     refine ⟨j + 1,(by show j + 1 ≤ xs.length;omega),(by show xs.length - (j + 1) < xs.length - j;omega),by simp only [hst];refine sub_of h0 ?_ ?_ ?_ <;> simp only [US,WA,simprocAttr]⟩
 · have hb1 : ¬ (j : Int) < (xs.length : Int):=by omega
   rw [List.take_of_length_le (by omega)]
   repeat' (first|(with_reducible apply zz1)|((with_reducible apply zz2);rfl;intro K' hK';simp only [WA,simprocAttr,List.length_map,hb1];(repeat (constructor;focus (clear hK';intros;simp_all;done)));(try (apply hK';clear hK' K')))|((with_reducible apply zz3);rfl;all_goals (intro h;try exact absurd h (by decide))))
   simp only [Kret,retL,retOne,oneV,WA,simprocAttr]
set_option maxHeartbeats 8000000 in
set_option maxRecDepth 100000 in
theorem ltext_end (Γ : Gl) : DFn Tryd.prog Γ 17 [(Lt.mk 1 noB 0 noB [] []).d] (sD ⟨#[101,110,100]⟩):=by
 simp only [Lt.d,Lt.ds,List.map_nil]
 refine fn_of_swp (N:=97) Tryd.func17 rfl (by decide) rfl rfl (by simp) (fun C h0=>?_)
 simp only [argE]
 repeat' (first|(with_reducible apply zz1)|((with_reducible apply zz2);rfl;intro K' hK';simp only [WA,simprocAttr,Int.reduceBEq];(repeat (constructor;focus (clear hK';intros;simp_all;done)));(try (apply hK';clear hK' K')))|((with_reducible apply zz3);rfl;all_goals (intro h;try exact absurd h (by decide))))
 simp only [Kret,retL,retOne,oneV,WA,simprocAttr]
set_option maxHeartbeats 8000000 in
set_option maxRecDepth 100000 in
theorem ltext_var (Γ : Gl) (nm : ByteArray) : DFn Tryd.prog Γ 17 [(Lt.mk 9 noB 0 nm [] []).d] (sD nm):=by
 simp only [Lt.d,Lt.ds,List.map_nil]
 refine fn_of_swp (N:=97) Tryd.func17 rfl (by decide) rfl rfl (by simp) (fun C h0=>?_)
 simp only [argE]
 repeat' (first|(with_reducible apply zz1)|((with_reducible apply zz2);rfl;intro K' hK';simp only [WA,simprocAttr,Int.reduceBEq];(repeat (constructor;focus (clear hK';intros;simp_all;done)));(try (apply hK';clear hK' K')))|((with_reducible apply zz3);rfl;all_goals (intro h;try exact absurd h (by decide))))
 simp only [Kret,retL,retOne,oneV,WA,simprocAttr]
set_option maxHeartbeats 8000000 in
set_option maxRecDepth 100000 in
theorem ltext_bind (Γ : Gl) (nm : ByteArray) (x : Lt) (T : ByteArray) (hn : nm.size ≤ 8) (hT : T.size ≤ 1000000) (hx : DFn Tryd.prog Γ 17 [x.d] (sD T)) : DFn Tryd.prog Γ 17 [(Lt.mk 8 noB 0 nm [] [x]).d] (sD (⟨#[114,101,99,32]⟩ ++ nm ++ ⟨#[46]⟩ ++ T)):=by
 have b1 : (⟨#[114,101,99,32]⟩ : ByteArray).size = 4:=rfl
 have b2 : (⟨#[46]⟩ : ByteArray).size = 1:=rfl
 have z1 : (⟨#[114,101,99,32]⟩ ++ nm : ByteArray).size = 4 + nm.size:=by rw [ByteArray.size_append,b1]
 have z2 : (⟨#[114,101,99,32]⟩ ++ nm ++ ⟨#[46]⟩ : ByteArray).size = 4 + nm.size + 1:=by rw [ByteArray.size_append,z1,b2]
 have m1 : 4 + nm.size ≤ maxLen:=by unfold maxLen;omega
 have m2 : 4 + nm.size + 1 ≤ maxLen:=by unfold maxLen;omega
 have m3 : 4 + nm.size + 1 + T.size ≤ maxLen:=by unfold maxLen;omega
 obtain ⟨xk,xw,xs,xn,xls,xl⟩:=x
 simp only [Lt.d,Lt.ds,List.map_nil] at hx ⊢
 refine fn_of_swp (N:=97) Tryd.func17 rfl (by decide) rfl rfl (by simp) (fun C h0=>?_)
 simp only [argE]
 repeat' (first|(with_reducible apply zz1)|((with_reducible apply zz2);rfl;intro K' hK';simp only [WA,simprocAttr,Int.reduceBEq];(repeat (constructor;focus (clear hK';intros;simp_all;done)));(try (apply hK';clear hK' K')))|((with_reducible apply zz3);rfl;all_goals (intro h;try exact absurd h (by decide))))
 (with_reducible refine swp_draw ?_ ?_ ?_ ( [(8,sD T)]) (fun K' hK'=>?_)
  · kernel_rfl
  · rfl
  · rfl
  simp only [WA,simprocAttr,UG,hx,List.getD_cons_zero,List.length_cons,List.length_nil,List.map_cons,List.map_nil,b1,b2,z1,z2,m1,m2,m3 ]
  (try (apply hK';clear hK' K')))
 repeat' (first|(with_reducible apply zz1)|((with_reducible apply zz2);rfl;intro K' hK';simp only [WA,simprocAttr];(repeat (constructor;focus (clear hK';intros;simp_all;done)));(try (apply hK';clear hK' K')))|((with_reducible apply zz3);rfl;all_goals (intro h;try exact absurd h (by decide))))
 simp only [Kret,retL,retOne,oneV,WA,simprocAttr]
set_option maxHeartbeats 8000000 in
set_option maxRecDepth 100000 in
theorem ltext_pass2 (Γ : Gl) (wi : ByteArray) (so : Int) (x : Lt) (T : ByteArray) (hw : wi.size = 1) (h1 : 1 ≤ so) (h3 : so ≤ 3) (hT : T.size ≤ 1000000) (hx : DFn Tryd.prog Γ 17 [x.d] (sD T)) : DFn Tryd.prog Γ 17 [(Lt.mk 2 wi so noB [] [x]).d] (sD (wi ++ ⟨#[33]⟩ ++ sortWL so ++ ⟨#[46]⟩ ++ T)):=by
 have hs:=sortWord_fn Γ so h1 h3
 have hz:=sortWL_size so
 generalize sortWL so = Z at *
 have b1 : (⟨#[33]⟩ : ByteArray).size = 1:=rfl
 have b2 : (⟨#[46]⟩ : ByteArray).size = 1:=rfl
 have z1 : (wi ++ ⟨#[33]⟩ : ByteArray).size = 2:=by rw [ByteArray.size_append,hw,b1]
 have z2 : (wi ++ ⟨#[33]⟩ ++ Z : ByteArray).size = 2 + Z.size:=by rw [ByteArray.size_append,z1]
 have z3 : (wi ++ ⟨#[33]⟩ ++ Z ++ ⟨#[46]⟩ : ByteArray).size = 2 + Z.size + 1:=by rw [ByteArray.size_append,z2,b2]
 have m0 : 1 + 1 ≤ maxLen:=by unfold maxLen;omega
 have m1 : 2 + Z.size ≤ maxLen:=by unfold maxLen;omega
 have m2 : 2 + Z.size + 1 ≤ maxLen:=by unfold maxLen;omega
 have m3 : 2 + Z.size + 1 + T.size ≤ maxLen:=by unfold maxLen;omega
 obtain ⟨xk,xw,xs,xn,xls,xl⟩:=x
 simp only [Lt.d,Lt.ds,List.map_nil] at hx ⊢
 refine fn_of_swp (N:=97) Tryd.func17 rfl (by decide) rfl rfl (by simp) (fun C h0=>?_)
 simp only [argE]
 repeat' (first|(with_reducible apply zz1)|((with_reducible apply zz2);rfl;intro K' hK';simp only [WA,simprocAttr,Int.reduceBEq];(repeat (constructor;focus (clear hK';intros;simp_all;done)));(try (apply hK';clear hK' K')))|((with_reducible apply zz3);rfl;all_goals (intro h;try exact absurd h (by decide))))
 (with_reducible refine swp_draw ?_ ?_ ?_ ( [(5,sD Z),(12,sD T)]) (fun K' hK'=>?_)
  · kernel_rfl
  · rfl
  · rfl
  simp only [WA,simprocAttr,UG,hx,hs,List.getD_cons_zero,List.length_cons,List.length_nil,List.map_cons,List.map_nil,hw,b1,b2,z1,z2,z3,m0,m1,m2,m3 ]
  (try (apply hK';clear hK' K')))
 repeat' (first|(with_reducible apply zz1)|((with_reducible apply zz2);rfl;intro K' hK';simp only [WA,simprocAttr];(repeat (constructor;focus (clear hK';intros;simp_all;done)));(try (apply hK';clear hK' K')))|((with_reducible apply zz3);rfl;all_goals (intro h;try exact absurd h (by decide))))
 simp only [Kret,retL,retOne,oneV,WA,simprocAttr]
set_option maxHeartbeats 8000000 in
set_option maxRecDepth 100000 in
theorem ltext_pass3 (Γ : Gl) (wi : ByteArray) (so : Int) (x : Lt) (T : ByteArray) (hw : wi.size = 1) (h1 : 1 ≤ so) (h3 : so ≤ 3) (hT : T.size ≤ 1000000) (hx : DFn Tryd.prog Γ 17 [x.d] (sD T)) : DFn Tryd.prog Γ 17 [(Lt.mk 3 wi so noB [] [x]).d] (sD (wi ++ ⟨#[63]⟩ ++ sortWL so ++ ⟨#[46]⟩ ++ T)):=by
 have hs:=sortWord_fn Γ so h1 h3
 have hz:=sortWL_size so
 generalize sortWL so = Z at *
 have b1 : (⟨#[63]⟩ : ByteArray).size = 1:=rfl
 have b2 : (⟨#[46]⟩ : ByteArray).size = 1:=rfl
 have z1 : (wi ++ ⟨#[63]⟩ : ByteArray).size = 2:=by rw [ByteArray.size_append,hw,b1]
 have z2 : (wi ++ ⟨#[63]⟩ ++ Z : ByteArray).size = 2 + Z.size:=by rw [ByteArray.size_append,z1]
 have z3 : (wi ++ ⟨#[63]⟩ ++ Z ++ ⟨#[46]⟩ : ByteArray).size = 2 + Z.size + 1:=by rw [ByteArray.size_append,z2,b2]
 have m0 : 1 + 1 ≤ maxLen:=by unfold maxLen;omega
 have m1 : 2 + Z.size ≤ maxLen:=by unfold maxLen;omega
 have m2 : 2 + Z.size + 1 ≤ maxLen:=by unfold maxLen;omega
 have m3 : 2 + Z.size + 1 + T.size ≤ maxLen:=by unfold maxLen;omega
 obtain ⟨xk,xw,xs,xn,xls,xl⟩:=x
 simp only [Lt.d,Lt.ds,List.map_nil] at hx ⊢
 refine fn_of_swp (N:=97) Tryd.func17 rfl (by decide) rfl rfl (by simp) (fun C h0=>?_)
 simp only [argE]
 repeat' (first|(with_reducible apply zz1)|((with_reducible apply zz2);rfl;intro K' hK';simp only [WA,simprocAttr,Int.reduceBEq];(repeat (constructor;focus (clear hK';intros;simp_all;done)));(try (apply hK';clear hK' K')))|((with_reducible apply zz3);rfl;all_goals (intro h;try exact absurd h (by decide))))
 (with_reducible refine swp_draw ?_ ?_ ?_ ( [(5,sD Z),(12,sD T)]) (fun K' hK'=>?_)
  · kernel_rfl
  · rfl
  · rfl
  simp only [WA,simprocAttr,UG,hx,hs,List.getD_cons_zero,List.length_cons,List.length_nil,List.map_cons,List.map_nil,hw,b1,b2,z1,z2,z3,m0,m1,m2,m3 ]
  (try (apply hK';clear hK' K')))
 repeat' (first|(with_reducible apply zz1)|((with_reducible apply zz2);rfl;intro K' hK';simp only [WA,simprocAttr];(repeat (constructor;focus (clear hK';intros;simp_all;done)));(try (apply hK';clear hK' K')))|((with_reducible apply zz3);rfl;all_goals (intro h;try exact absurd h (by decide))))
 simp only [Kret,retL,retOne,oneV,WA,simprocAttr]
set_option maxHeartbeats 8000000 in
set_option maxRecDepth 100000 in
theorem ltext_pick6 (Γ : Gl) (wi : ByteArray) (ls : List ByteArray) (l : List Lt) (ts : List ByteArray) (hw : wi.size = 1) (h6 : ls.length ≤ 6) (hn : l.length = ls.length) (hls : ∀ s ∈ ls,s.size ≤ 8) (htl : ts.length = l.length) (hx : ∀ (j : Nat) x t,l[j]? = some x → ts[j]? = some t → DFn Tryd.prog Γ 17 [x.d] (sD t) ∧ t.size ≤ 100000)
 (hJ : ((List.zipWith itemL ls ts).map fun x : ByteArray=>x.size + (⟨#[44]⟩ : ByteArray).size).sum ≤ 1000000) : DFn Tryd.prog Γ 17 [(Lt.mk 6 wi 0 noB ls l).d] (sD (wi ++ ⟨#[43,123]⟩ ++ jnB ⟨#[44]⟩ (List.zipWith itemL ls ts) 0 noB ++ ⟨#[125]⟩)):=by
 have hll:=Lt.ds_len l
 have hzl : (List.zipWith itemL ls ts : List ByteArray).length = l.length:=by rw [List.length_zipWith];omega
 have hjn:=joined_fn Γ ⟨#[44]⟩ (List.zipWith itemL ls ts) (by rw [hzl];omega) hJ
 have hjz:=jnB_size ⟨#[44]⟩ (List.zipWith itemL ls ts) 0 noB
 simp only [Lt.d]
 refine fn_of_swp (N:=97) Tryd.func17 rfl (by decide) rfl rfl (by simp) (fun C h0=>?_)
 simp only [argE]
 repeat' (first|(with_reducible apply zz1)|((with_reducible apply zz2);rfl;intro K' hK';simp only [WA,simprocAttr,Int.reduceBEq,hll];(repeat (constructor;focus (clear hK';intros;simp_all;done)));(try (apply hK';clear hK' K')))|((with_reducible apply zz3);rfl;all_goals (intro h;try exact absurd h (by decide))))
 refine swp_nil 3 1 1 rfl rfl (by decide) ?_
 simp only [WA,simprocAttr]
 refine swp_loop (α := Nat) (fun j=>[(1,.ref 0 0),(3,.own 1),(4,.d (iD j))]) (fun j=>[(0,.cells [.d (iD 6),.d (sD wi),.d (iD 0),.d (sD noB),.d (.slc (ls.map sD)),.d (.slc (Lt.ds l))]),(1,.row 1 (((List.zipWith itemL ls ts).take j).map sD))])
  (fun j=>j ≤ l.length) (fun j=>l.length - j) 0 (Nat.zero_le _) (by refine sub_of h0 ?_ ?_ ?_ <;> simp only [US,WA,simprocAttr,hll]) (fun j hj=>?_)
 have hj : j ≤ l.length:=hj
 have hb0 : (0 : Int) ≤ (j : Int):=by omega
 by_cases hlt : j < l.length
 · obtain ⟨x,hxj⟩ : ∃ x,l[j]? = some x:=⟨l[j],by simp [hlt]⟩
   obtain ⟨s,hsj⟩ : ∃ s,ls[j]? = some s:=⟨ls[j]'(by omega),by simp⟩
   obtain ⟨W,hwj⟩ : ∃ t,ts[j]? = some t:=⟨ts[j]'(by omega),by simp⟩
   have hstep : (List.zipWith itemL ls ts).take (j + 1) = (List.zipWith itemL ls ts).take j ++ [s ++ ⟨#[58]⟩ ++ W]:=by
    rw [List.take_add_one,List.getElem?_zipWith,hsj,hwj];rfl
   obtain ⟨hcall,hwx⟩:=hx j x W hxj hwj
   have hget:=Lt.ds_get l j x hxj
   have hgs : (ls.map sD).getD j default = sD s:=by simp [List.getD,hsj]
   have hs8:=hls s (List.mem_of_getElem? hsj)
   have hb1 : (j : Int) < (l.length : Int):=by omega
   have hb2 : (j : Int) < (ls.length : Int):=by omega
   have hw3 : IntKind.i64.wrap ((j : Int) + 1) = ((j + 1 : Nat) : Int):=by rw [wrap_in (by omega) (by omega)];omega
   have hzt : (((List.zipWith itemL ls ts).take j).map sD).length = j:=by rw [List.length_map,List.length_take,hzl];omega
   generalize (List.zipWith itemL ls ts) = Z at *
   have b1 : (⟨#[58]⟩ : ByteArray).size = 1:=rfl
   have z1 : (s ++ ⟨#[58]⟩ : ByteArray).size = s.size + 1:=by rw [ByteArray.size_append,b1]
   have m1 : s.size + 1 ≤ maxLen:=by unfold maxLen;omega
   have m2 : s.size + 1 + W.size ≤ maxLen:=by unfold maxLen;omega
   have m2' : (s ++ ⟨#[58]⟩ : ByteArray).size + W.size ≤ maxLen:=by rw [z1];exact m2
   have m3 : (j + 1) * 16 ≤ 140737488355328:=by omega
   have m4 : j + 1 ≤ maxLen:=by unfold maxLen;omega
   obtain ⟨xk,xw,xs,xn,xls,xl⟩:=x
   simp only [Lt.d] at hget hcall
   repeat' (first|(with_reducible apply zz1)|((with_reducible apply zz2);rfl;intro K' hK';simp only [WA,simprocAttr,hll,hb1];(repeat (constructor;focus (clear hK';intros;simp_all;done)));(try (apply hK';clear hK' K')))|((with_reducible apply zz3);rfl;all_goals (intro h;try exact absurd h (by decide))))
   (with_reducible refine swp_drawX ?_ ?_ ?_ (⟨⟨[(12,sD W)],[]⟩,[],[],[],[]⟩) _ rfl (fun K' hK' gops fin hgops hfin=>?_)
    · kernel_rfl
    · rfl
    · rfl
    repeat' first
     | (refine vcX_dead rfl trivial (by simp only [WA,simprocAttr,UX,UA];rfl) (by simp only [List.nil_append,List.cons_append];rfl) (by simp only [zn2];rfl) ?_)
     | (refine vcX_step rfl rfl trivial (by simp only [WA,simprocAttr,UX,UA,Int.toNat_natCast,hcall,hget,hgs,hb0,hb1,hb2,List.length_map,hll,hzt,b1,z1,m1,m2,m3,m4 ];rfl) ?_ (by simp only [WA,simprocAttr,UX,UA];rfl) (by simp only [WA,simprocAttr,UX,UA];rfl) (by simp only [List.nil_append,List.cons_append];rfl) (by simp only [zn2];rfl) ?_;focus (first | trivial | ((repeat' apply And.intro) <;> first | trivial | assumption | (clear hK' hfin hgops;intros;simp_all;done))))
    (refine vcX_nil (by subst hfin;kernel_rfl) ?_)
    clear hfin hgops fin gops
    (try (apply hK';clear hK' K')))
   repeat' (first|(with_reducible apply zz1)|((with_reducible apply zz2);rfl;intro K' hK';simp only [WA,simprocAttr,hw3];(repeat (constructor;focus (clear hK';intros;simp_all;done)));(try (apply hK';clear hK' K')))|((with_reducible apply zz3);rfl;all_goals (intro h;try exact absurd h (by decide))))
   refine ⟨j + 1,(by show j + 1 ≤ l.length;omega),(by show l.length - (j + 1) < l.length - j;omega),by simp only [hstep,List.map_append,List.map_cons,List.map_nil];refine sub_of h0 ?_ ?_ ?_ <;> simp only [US,WA,simprocAttr]⟩
 · have hb1 : ¬ (j : Int) < (l.length : Int):=by omega
   have htk : (List.zipWith itemL ls ts).take j = List.zipWith itemL ls ts:=List.take_of_length_le (by rw [hzl];omega)
   have hjs : (jnB ⟨#[44]⟩ (List.zipWith itemL ls ts) 0 noB).size ≤ 1000000:=by
    have e0 : noB.size = 0:=rfl
    rw [e0] at hjz
    omega
   rw [htk]
   generalize jnB ⟨#[44]⟩ (List.zipWith itemL ls ts) 0 noB = J at *
   generalize (List.zipWith itemL ls ts) = Z at *
   have b1 : (⟨#[43,123]⟩ : ByteArray).size = 2:=rfl
   have b2 : (⟨#[125]⟩ : ByteArray).size = 1:=rfl
   have z1 : (wi ++ ⟨#[43,123]⟩ : ByteArray).size = 3:=by rw [ByteArray.size_append,hw,b1]
   have z2 : (wi ++ ⟨#[43,123]⟩ ++ J : ByteArray).size = 3 + J.size:=by rw [ByteArray.size_append,z1]
   have m0 : 1 + 2 ≤ maxLen:=by unfold maxLen;omega
   have m1 : 3 + J.size ≤ maxLen:=by unfold maxLen;omega
   have m2 : 3 + J.size + 1 ≤ maxLen:=by unfold maxLen;omega
   repeat' (first|(with_reducible apply zz1)|((with_reducible apply zz2);rfl;intro K' hK';simp only [WA,simprocAttr,hll,hb1,Int.reduceBEq];(repeat (constructor;focus (clear hK';intros;simp_all;done)));(try (apply hK';clear hK' K')))|((with_reducible apply zz3);rfl;all_goals (intro h;try exact absurd h (by decide))))
   refine swp_frz [1] h0 (by simp only [Option.isSome_some,UF,WA,simprocAttr]) ?_
   simp only [WA,simprocAttr,UF]
   (with_reducible refine swp_draw ?_ ?_ ?_ ( [(4,sD J)]) (fun K' hK'=>?_)
    · kernel_rfl
    · rfl
    · rfl
    simp only [WA,simprocAttr,UG,hjn,hw,b1,b2,z1,z2,m0,m1,m2 ]
    (try (apply hK';clear hK' K')))
   repeat' (first|(with_reducible apply zz1)|((with_reducible apply zz2);rfl;intro K' hK';simp only [WA,simprocAttr];(repeat (constructor;focus (clear hK';intros;simp_all;done)));(try (apply hK';clear hK' K')))|((with_reducible apply zz3);rfl;all_goals (intro h;try exact absurd h (by decide))))
   simp only [Kret,retL,retOne,oneV,WA,simprocAttr]
set_option maxHeartbeats 8000000 in
set_option maxRecDepth 100000 in
theorem ltext_pick7 (Γ : Gl) (wi : ByteArray) (ls : List ByteArray) (l : List Lt) (ts : List ByteArray) (hw : wi.size = 1) (h6 : ls.length ≤ 6) (hn : l.length = ls.length) (hls : ∀ s ∈ ls,s.size ≤ 8) (htl : ts.length = l.length) (hx : ∀ (j : Nat) x t,l[j]? = some x → ts[j]? = some t → DFn Tryd.prog Γ 17 [x.d] (sD t) ∧ t.size ≤ 100000)
 (hJ : ((List.zipWith itemL ls ts).map fun x : ByteArray=>x.size + (⟨#[44]⟩ : ByteArray).size).sum ≤ 1000000) : DFn Tryd.prog Γ 17 [(Lt.mk 7 wi 0 noB ls l).d] (sD (wi ++ ⟨#[38,123]⟩ ++ jnB ⟨#[44]⟩ (List.zipWith itemL ls ts) 0 noB ++ ⟨#[125]⟩)):=by
 have hll:=Lt.ds_len l
 have hzl : (List.zipWith itemL ls ts : List ByteArray).length = l.length:=by rw [List.length_zipWith];omega
 have hjn:=joined_fn Γ ⟨#[44]⟩ (List.zipWith itemL ls ts) (by rw [hzl];omega) hJ
 have hjz:=jnB_size ⟨#[44]⟩ (List.zipWith itemL ls ts) 0 noB
 simp only [Lt.d]
 refine fn_of_swp (N:=97) Tryd.func17 rfl (by decide) rfl rfl (by simp) (fun C h0=>?_)
 simp only [argE]
 repeat' (first|(with_reducible apply zz1)|((with_reducible apply zz2);rfl;intro K' hK';simp only [WA,simprocAttr,Int.reduceBEq,hll];(repeat (constructor;focus (clear hK';intros;simp_all;done)));(try (apply hK';clear hK' K')))|((with_reducible apply zz3);rfl;all_goals (intro h;try exact absurd h (by decide))))
 refine swp_nil 3 1 1 rfl rfl (by decide) ?_
 simp only [WA,simprocAttr]
 refine swp_loop (α := Nat) (fun j=>[(1,.ref 0 0),(3,.own 1),(4,.d (iD j))]) (fun j=>[(0,.cells [.d (iD 7),.d (sD wi),.d (iD 0),.d (sD noB),.d (.slc (ls.map sD)),.d (.slc (Lt.ds l))]),(1,.row 1 (((List.zipWith itemL ls ts).take j).map sD))])
  (fun j=>j ≤ l.length) (fun j=>l.length - j) 0 (Nat.zero_le _) (by refine sub_of h0 ?_ ?_ ?_ <;> simp only [US,WA,simprocAttr,hll]) (fun j hj=>?_)
 have hj : j ≤ l.length:=hj
 have hb0 : (0 : Int) ≤ (j : Int):=by omega
 by_cases hlt : j < l.length
 · obtain ⟨x,hxj⟩ : ∃ x,l[j]? = some x:=⟨l[j],by simp [hlt]⟩
   obtain ⟨s,hsj⟩ : ∃ s,ls[j]? = some s:=⟨ls[j]'(by omega),by simp⟩
   obtain ⟨W,hwj⟩ : ∃ t,ts[j]? = some t:=⟨ts[j]'(by omega),by simp⟩
   have hstep : (List.zipWith itemL ls ts).take (j + 1) = (List.zipWith itemL ls ts).take j ++ [s ++ ⟨#[58]⟩ ++ W]:=by
    rw [List.take_add_one,List.getElem?_zipWith,hsj,hwj];rfl
   obtain ⟨hcall,hwx⟩:=hx j x W hxj hwj
   have hget:=Lt.ds_get l j x hxj
   have hgs : (ls.map sD).getD j default = sD s:=by simp [List.getD,hsj]
   have hs8:=hls s (List.mem_of_getElem? hsj)
   have hb1 : (j : Int) < (l.length : Int):=by omega
   have hb2 : (j : Int) < (ls.length : Int):=by omega
   have hw3 : IntKind.i64.wrap ((j : Int) + 1) = ((j + 1 : Nat) : Int):=by rw [wrap_in (by omega) (by omega)];omega
   have hzt : (((List.zipWith itemL ls ts).take j).map sD).length = j:=by rw [List.length_map,List.length_take,hzl];omega
   generalize (List.zipWith itemL ls ts) = Z at *
   have b1 : (⟨#[58]⟩ : ByteArray).size = 1:=rfl
   have z1 : (s ++ ⟨#[58]⟩ : ByteArray).size = s.size + 1:=by rw [ByteArray.size_append,b1]
   have m1 : s.size + 1 ≤ maxLen:=by unfold maxLen;omega
   have m2 : s.size + 1 + W.size ≤ maxLen:=by unfold maxLen;omega
   have m2' : (s ++ ⟨#[58]⟩ : ByteArray).size + W.size ≤ maxLen:=by rw [z1];exact m2
   have m3 : (j + 1) * 16 ≤ 140737488355328:=by omega
   have m4 : j + 1 ≤ maxLen:=by unfold maxLen;omega
   obtain ⟨xk,xw,xs,xn,xls,xl⟩:=x
   simp only [Lt.d] at hget hcall
   repeat' (first|(with_reducible apply zz1)|((with_reducible apply zz2);rfl;intro K' hK';simp only [WA,simprocAttr,hll,hb1];(repeat (constructor;focus (clear hK';intros;simp_all;done)));(try (apply hK';clear hK' K')))|((with_reducible apply zz3);rfl;all_goals (intro h;try exact absurd h (by decide))))
   (with_reducible refine swp_drawX ?_ ?_ ?_ (⟨⟨[(12,sD W)],[]⟩,[],[],[],[]⟩) _ rfl (fun K' hK' gops fin hgops hfin=>?_)
    · kernel_rfl
    · rfl
    · rfl
    repeat' first
     | (refine vcX_dead rfl trivial (by simp only [WA,simprocAttr,UX,UA];rfl) (by simp only [List.nil_append,List.cons_append];rfl) (by simp only [zn2];rfl) ?_)
     | (refine vcX_step rfl rfl trivial (by simp only [WA,simprocAttr,UX,UA,Int.toNat_natCast,hcall,hget,hgs,hb0,hb1,hb2,List.length_map,hll,hzt,b1,z1,m1,m2,m3,m4 ];rfl) ?_ (by simp only [WA,simprocAttr,UX,UA];rfl) (by simp only [WA,simprocAttr,UX,UA];rfl) (by simp only [List.nil_append,List.cons_append];rfl) (by simp only [zn2];rfl) ?_;focus (first | trivial | ((repeat' apply And.intro) <;> first | trivial | assumption | (clear hK' hfin hgops;intros;simp_all;done))))
    (refine vcX_nil (by subst hfin;kernel_rfl) ?_)
    clear hfin hgops fin gops
    (try (apply hK';clear hK' K')))
   repeat' (first|(with_reducible apply zz1)|((with_reducible apply zz2);rfl;intro K' hK';simp only [WA,simprocAttr,hw3];(repeat (constructor;focus (clear hK';intros;simp_all;done)));(try (apply hK';clear hK' K')))|((with_reducible apply zz3);rfl;all_goals (intro h;try exact absurd h (by decide))))
   refine ⟨j + 1,(by show j + 1 ≤ l.length;omega),(by show l.length - (j + 1) < l.length - j;omega),by simp only [hstep,List.map_append,List.map_cons,List.map_nil];refine sub_of h0 ?_ ?_ ?_ <;> simp only [US,WA,simprocAttr]⟩
 · have hb1 : ¬ (j : Int) < (l.length : Int):=by omega
   have htk : (List.zipWith itemL ls ts).take j = List.zipWith itemL ls ts:=List.take_of_length_le (by rw [hzl];omega)
   have hjs : (jnB ⟨#[44]⟩ (List.zipWith itemL ls ts) 0 noB).size ≤ 1000000:=by
    have e0 : noB.size = 0:=rfl
    rw [e0] at hjz
    omega
   rw [htk]
   generalize jnB ⟨#[44]⟩ (List.zipWith itemL ls ts) 0 noB = J at *
   generalize (List.zipWith itemL ls ts) = Z at *
   have b1 : (⟨#[38,123]⟩ : ByteArray).size = 2:=rfl
   have b2 : (⟨#[125]⟩ : ByteArray).size = 1:=rfl
   have z1 : (wi ++ ⟨#[38,123]⟩ : ByteArray).size = 3:=by rw [ByteArray.size_append,hw,b1]
   have z2 : (wi ++ ⟨#[38,123]⟩ ++ J : ByteArray).size = 3 + J.size:=by rw [ByteArray.size_append,z1]
   have m0 : 1 + 2 ≤ maxLen:=by unfold maxLen;omega
   have m1 : 3 + J.size ≤ maxLen:=by unfold maxLen;omega
   have m2 : 3 + J.size + 1 ≤ maxLen:=by unfold maxLen;omega
   repeat' (first|(with_reducible apply zz1)|((with_reducible apply zz2);rfl;intro K' hK';simp only [WA,simprocAttr,hll,hb1,Int.reduceBEq];(repeat (constructor;focus (clear hK';intros;simp_all;done)));(try (apply hK';clear hK' K')))|((with_reducible apply zz3);rfl;all_goals (intro h;try exact absurd h (by decide))))
   refine swp_frz [1] h0 (by simp only [Option.isSome_some,UF,WA,simprocAttr]) ?_
   simp only [WA,simprocAttr,UF]
   (with_reducible refine swp_draw ?_ ?_ ?_ ( [(4,sD J)]) (fun K' hK'=>?_)
    · kernel_rfl
    · rfl
    · rfl
    simp only [WA,simprocAttr,UG,hjn,hw,b1,b2,z1,z2,m0,m1,m2 ]
    (try (apply hK';clear hK' K')))
   repeat' (first|(with_reducible apply zz1)|((with_reducible apply zz2);rfl;intro K' hK';simp only [WA,simprocAttr];(repeat (constructor;focus (clear hK';intros;simp_all;done)));(try (apply hK';clear hK' K')))|((with_reducible apply zz3);rfl;all_goals (intro h;try exact absurd h (by decide))))
   simp only [Kret,retL,retOne,oneV,WA,simprocAttr]
theorem ltext_ex (Γ : Gl) {x : Lt} (h : OkL x) : x.size ≤ 1000 → ∃ t : ByteArray,t.size ≤ 100 * x.size ∧ DFn Tryd.prog Γ 17 [x.d] (sD t):=by
 induction h with
 | nil=>intro _;exact ⟨_,by simp [Lt.size,Lt.sizes,ByteArray.size],ltext_end Γ⟩
 | pass k so wi x hk hw h1 h3 hx ih =>
  intro hz
  simp only [Lt.size,Lt.sizes] at hz
  obtain ⟨t,h1t,h2t⟩:=ih (by omega)
  have hw1:=role_size hw
  have hs4:=sortWL_size so
  rcases hk with rfl | rfl
  · refine ⟨_,?_,ltext_pass2 Γ wi so x t hw1 h1 h3 (by omega) h2t⟩
    have e1 : (⟨#[33]⟩ : ByteArray).size = 1:=rfl
    have e2 : (⟨#[46]⟩ : ByteArray).size = 1:=rfl
    simp only [ByteArray.size_append,e1,e2,Lt.size,Lt.sizes];omega
  · refine ⟨_,?_,ltext_pass3 Γ wi so x t hw1 h1 h3 (by omega) h2t⟩
    have e1 : (⟨#[63]⟩ : ByteArray).size = 1:=rfl
    have e2 : (⟨#[46]⟩ : ByteArray).size = 1:=rfl
    simp only [ByteArray.size_append,e1,e2,Lt.size,Lt.sizes];omega
 | pick k wi ls l hk hw hl hn h ih =>
  intro hz
  simp only [Lt.size] at hz
  have hw1:=role_size hw
  have h6:=labels_len hl
  have hn8 : ∀ s ∈ ls,s.size ≤ 8:=fun s hs=>(name_size (labels_names hl s hs)).1
  have all : ∀ (l : List Lt),Lt.sizes l ≤ 1000 → (∀ x ∈ l,x.size ≤ 1000 → ∃ t : ByteArray,t.size ≤ 100 * x.size ∧ DFn Tryd.prog Γ 17 [x.d] (sD t)) → ∃ ts : List ByteArray,ts.length = l.length ∧ (ts.map fun t=>t.size).sum ≤ 100 * Lt.sizes l ∧ ∀ (j : Nat) x t,l[j]? = some x → ts[j]? = some t → DFn Tryd.prog Γ 17 [x.d] (sD t) ∧ t.size ≤ 100000:=by
   intro l
   induction l with
   | nil=>intro _ _;exact ⟨[],rfl,by simp,fun j x t h=>by simp at h⟩
   | cons y l ihl =>
    intro hz hh
    simp only [Lt.sizes] at hz
    obtain ⟨ts,g1,g2,g3⟩:=ihl (by omega) fun x hx=>hh x (by simp [hx])
    obtain ⟨t,q1,q2⟩:=hh y (by simp) (by omega)
    refine ⟨t :: ts,by simp [g1],by simp only [List.map_cons,List.sum_cons,Lt.sizes];omega,fun j x u hx hu=>?_⟩
    cases j with
    | zero=>simp at hx hu;subst hx hu;exact ⟨q2,by omega⟩
    | succ j=>exact g3 j x u (by simpa using hx) (by simpa using hu)
  obtain ⟨ts,g1,g2,g3⟩:=all l (by omega) ih
  have zs : ∀ (ls ts : List ByteArray),ls.length = ts.length → (∀ s ∈ ls,s.size ≤ 8) → ((List.zipWith itemL ls ts).map fun x : ByteArray=>x.size + (⟨#[44]⟩ : ByteArray).size).sum ≤ 10 * ls.length + (ts.map fun t=>t.size).sum:=by
   intro ls
   induction ls with
   | nil=>intro ts _ _;simp
   | cons s ls ihs =>
    intro ts he h8
    match ts,he with
    | t :: ts,he =>
     have hi:=ihs ts (by simpa using he) fun s hs=>h8 s (by simp [hs])
     have:=h8 s (by simp)
     have e1 : (⟨#[58]⟩ : ByteArray).size = 1:=rfl
     have e2 : (⟨#[44]⟩ : ByteArray).size = 1:=rfl
     simp only [List.zipWith_cons_cons,List.map_cons,List.sum_cons,itemL,ByteArray.size_append,e1,e2,List.length_cons] at hi ⊢
     omega
  have hJ:=zs ls ts (by omega) hn8
  have hjz:=jnB_size ⟨#[44]⟩ (List.zipWith itemL ls ts) 0 noB
  have e0 : noB.size = 0:=rfl
  have e44 : (⟨#[44]⟩ : ByteArray).size = 1:=rfl
  have e125 : (⟨#[125]⟩ : ByteArray).size = 1:=rfl
  rw [e0] at hjz
  rcases hk with rfl | rfl
  · refine ⟨_,?_,ltext_pick6 Γ wi ls l ts hw1 h6 hn hn8 g1 g3 (by omega)⟩
    have e1 : (⟨#[43,123]⟩ : ByteArray).size = 2:=rfl
    simp only [ByteArray.size_append,e1,e125,Lt.size];omega
  · refine ⟨_,?_,ltext_pick7 Γ wi ls l ts hw1 h6 hn hn8 g1 g3 (by omega)⟩
    have e1 : (⟨#[38,123]⟩ : ByteArray).size = 2:=rfl
    simp only [ByteArray.size_append,e1,e125,Lt.size];omega
 | bind nm x hn hx ih =>
  intro hz
  simp only [Lt.size,Lt.sizes] at hz
  obtain ⟨t,h1t,h2t⟩:=ih (by omega)
  have h8:=(name_size (var_name hn)).1
  refine ⟨_,?_,ltext_bind Γ nm x t h8 (by omega) h2t⟩
  have e1 : (⟨#[114,101,99,32]⟩ : ByteArray).size = 4:=rfl
  have e2 : (⟨#[46]⟩ : ByteArray).size = 1:=rfl
  simp only [ByteArray.size_append,e1,e2,Lt.size,Lt.sizes];omega
 | var nm hn =>
  intro _
  have h8:=(name_size (var_name hn)).1
  exact ⟨_,by simp only [Lt.size,Lt.sizes];omega,ltext_var Γ nm⟩
end Go.Proofs.YtmohkmfimcnfeaaDoor
