/- Lists of texts; names: a symbolic walk. -/
-- TYPESA
import Derived.IntWalk
import Derived.Test.YtlnmkdbcdcknjaaDoorTA
import Derived.Test.YtlnmkdbcdcknjaaDoorSwD
import Derived.Test.YtlnmkdbcdcknjaaDoorShelfT
set_option linter.unusedVariables false
set_option linter.unusedSimpArgs false
namespace Go.Proofs.YtlnmkdbcdcknjaaDoor
open Go.RowKit Go.Sw
open Go.Sw renaming swp_seq → zw0, swp_block → zw1, swp_skip → zw2, swp_exit → zw4, swp_label → zw5, kseq_n → zw6, kseq_x → zw7, kseq_r → zw8, kblk_n → zw9, kblk_r → zw10, kblk_xs → zw11, kblk_xn → zw12, kloop_x → zw13, kloop_r → zw14, swp_cond → zw15, swp_regionP → zw16, swp_region → zw17

abbrev iD (n : Int) : D:=.v (.int .i64 n)
abbrev sD (s : ByteArray) : D:=.v (.string s)
def packS (l : List UInt8) : ByteArray:=⟨l.toArray⟩
theorem wrap_in {x : Int} (h1 : -9223372036854775808 ≤ x) (h2 : x < 9223372036854775808) : IntKind.i64.wrap x = x:=IntWalk.i64_in x ⟨h1,by omega⟩
theorem one_max : 1 ≤ maxLen:=by unfold maxLen;omega
theorem empty_toL : (⟨#[]⟩ : ByteArray).toList = []:=by decide +kernel

set_option maxHeartbeats 4000000 in
set_option maxRecDepth 100000 in
theorem cloneS_fn (Γ : Gl) (l : List ByteArray) (hl : l.length * 16 ≤ 140737488355328) : SFn Tryd.prog Γ 32 [.d (.slc (l.map sD))] [] (.own 0) [(0,.row 1 (l.map sD))]:=by
 refine sfn_of_swp (N:=8) Tryd.func32 rfl (by decide) rfl rfl (by simp) (fun C h0=>?_)
 simp only [argS]
 repeat' (first|(with_reducible first|apply zw0|apply zw1|apply zw2|apply zw4|apply zw5|apply zw6|apply zw7|apply zw8|apply zw9|apply zw10|apply zw11|apply zw13|apply zw14)|((with_reducible refine zw12 ?_ ?_);rfl)|((with_reducible refine zw16 ?_ ?_ (fun K' hK'=>?_));rfl;rfl;simp only [WA,simprocAttr];(repeat (constructor;focus (clear hK';intros;simp_all;done)));(try (apply hK';clear hK' K')))|((with_reducible refine zw15 ?_ ?_);rfl;refine ⟨_,rfl,fun h=>?_,fun h=>?_⟩ <;> try exact absurd h (by decide)))
 refine stop_nilcmp un22 rfl rfl trivial (fun b hb=>?_)
 simp only [WA,simprocAttr]
 refine hK' _ _ ?_
 clear hK' K'
 cases l with
 | nil =>
  repeat' (first|(with_reducible first|apply zw0|apply zw1|apply zw2|apply zw4|apply zw5|apply zw6|apply zw7|apply zw8|apply zw9|apply zw10|apply zw11|apply zw13|apply zw14)|((with_reducible refine zw12 ?_ ?_);rfl)|((with_reducible refine zw16 ?_ ?_ (fun K' hK'=>?_));rfl;rfl;simp only [WA,simprocAttr];(repeat (constructor;focus (clear hK';intros;simp_all;done)));(try (apply hK';clear hK' K')))|((with_reducible refine zw15 ?_ ?_);rfl;refine ⟨_,rfl,fun h=>?_,fun h=>?_⟩ <;> try exact absurd h (by decide)))
  · refine swp_nil 2 0 1 rfl rfl (by decide) ?_
    simp only [WA,simprocAttr]
    repeat' (first|(with_reducible apply zz1)|((with_reducible apply zz2);rfl;intro K' hK';simp only [WA,simprocAttr];(repeat (constructor;focus (clear hK';intros;simp_all;done)));(try (apply hK';clear hK' K')))|((with_reducible apply zz3);rfl;all_goals (intro h;try exact absurd h (by decide))))
    simp only [KretS,retL,retOne,oneV,US,WA,simprocAttr,h0,List.map_nil]
  · repeat' (first|(with_reducible first|apply zw0|apply zw1|apply zw2|apply zw4|apply zw5|apply zw6|apply zw7|apply zw8|apply zw9|apply zw10|apply zw11|apply zw13|apply zw14)|((with_reducible refine zw12 ?_ ?_);rfl)|((with_reducible refine zw16 ?_ ?_ (fun K' hK'=>?_));rfl;rfl;simp only [WA,simprocAttr];(repeat (constructor;focus (clear hK';intros;simp_all;done)));(try (apply hK';clear hK' K')))|((with_reducible refine zw15 ?_ ?_);rfl;refine ⟨_,rfl,fun h=>?_,fun h=>?_⟩ <;> try exact absurd h (by decide)))
    refine swp_ret ?_
    simp only [KretS,retL,retOne,oneV,US,WA,simprocAttr,h0,List.map_nil]
 | cons x l =>
  have hb:=hb (by simp)
  subst hb
  have hm1 : (l.length + 1) * 16 ≤ 140737488355328:=by simpa using hl
  have hm2 : l.length + 1 ≤ maxLen:=by unfold maxLen;omega
  have hfit : ∀ d ∈ (x :: l).map sD,D.fits 1 d:=by
   intro d hd
   obtain ⟨y, -,rfl⟩:=List.mem_map.1 hd
   exact ⟨rfl,trivial⟩
  simp only [List.map_cons] at hfit
  repeat' (first|(with_reducible apply zz1)|((with_reducible apply zz2);rfl;intro K' hK';simp only [WA,simprocAttr,List.length_map,hm1,hm2];(repeat (constructor;focus (clear hK';intros;simp_all;done)));(try (apply hK';clear hK' K')))|((with_reducible apply zz3);rfl;all_goals (intro h;try exact absurd h (by decide))))
  refine ⟨hfit,?_⟩
  refine hK' _ _ ?_
  clear hK' K'
  repeat' (first|(with_reducible apply zz1)|((with_reducible apply zz2);rfl;intro K' hK';simp only [WA,simprocAttr];(repeat (constructor;focus (clear hK';intros;simp_all;done)));(try (apply hK';clear hK' K')))|((with_reducible apply zz3);rfl;all_goals (intro h;try exact absurd h (by decide))))
  simp only [KretS,retL,retOne,oneV,US,WA,simprocAttr,h0,List.map_cons]
def idxS (s : List UInt8) : List ByteArray → Nat → Int
 | [],_ => -1
 | b :: l,j=>if s = b.toList then (j : Int) else idxS s l (j + 1)
theorem idxS_any (s : List UInt8) : ∀ (l : List ByteArray) (j : Nat),decide (0 ≤ idxS s l j) = l.any fun b=>s == b.toList
 | [],j=>rfl
 | b :: l,j=>by
  unfold idxS
  by_cases h : s = b.toList
  · rw [if_pos h];simp [h]
  · rw [if_neg h,idxS_any s l (j + 1)];simp [h]

set_option maxHeartbeats 4000000 in
set_option maxRecDepth 100000 in
theorem indexS_fn (Γ : Gl) (l : List ByteArray) (s : ByteArray) (hl : l.length ≤ 140737488355328) : DFn Tryd.prog Γ 34 [.slc (l.map sD),sD s] (iD (idxS s.toList l 0)):=by
 refine fn_of_swp (N:=19) Tryd.func34 rfl (by decide) rfl rfl (by simp) (fun C h0=>?_)
 simp only [argE]
 repeat' (first|(with_reducible apply zz1)|((with_reducible apply zz2);rfl;intro K' hK';simp only [WA,simprocAttr,List.length_map];(repeat (constructor;focus (clear hK';intros;simp_all;done)));(try (apply hK';clear hK' K')))|((with_reducible apply zz3);rfl;all_goals (intro h;try exact absurd h (by decide))))
 refine swp_loop (α := Nat) (fun j=>[(0,.d (.slc (l.map sD))),(1,.d (sD s)),(7,.d (iD l.length)),(8,.d (iD j))]) (fun _=>[])
  (fun j=>j ≤ l.length ∧ idxS s.toList l 0 = idxS s.toList (l.drop j) j) (fun j=>l.length - j) 0 ⟨Nat.zero_le _,rfl⟩ (by refine sub_of h0 ?_ ?_ ?_ <;> simp only [US,WA,simprocAttr,List.length_map]) (fun j hj=>?_)
 obtain ⟨hj,hch⟩:=hj
 have hb0 : (0 : Int) ≤ (j : Int):=by omega
 by_cases hlt : j < l.length
 · obtain ⟨b,hx⟩ : ∃ b,l[j]? = some b:=⟨l[j],by simp [hlt]⟩
   have hget : (l.map sD).getD j default = sD b:=by simp [List.getD,hx]
   have hb1 : (j : Int) < (l.length : Int):=by omega
   have hw3 : IntKind.i64.wrap ((j : Int) + 1) = ((j + 1 : Nat) : Int):=by rw [wrap_in (by omega) (by omega)];omega
   have hd : l.drop j = b :: l.drop (j + 1):=by
    obtain ⟨h1,h2⟩:=List.getElem?_eq_some_iff.1 hx
    rw [List.drop_eq_getElem_cons h1,h2]
   rw [hd] at hch
   simp only [idxS] at hch
   repeat' (first|(with_reducible apply zz1)|((with_reducible apply zz2);rfl;intro K' hK';simp only [WA,simprocAttr,Int.toNat_natCast,hget,List.length_map,hb0,hb1,hw3];(repeat (constructor;focus (clear hK';intros;simp_all;done)));(try (apply hK';clear hK' K')))|((with_reducible apply zz3);rfl;all_goals (intro h;try exact absurd h (by decide))))
   · simp only [Kret,retL,retOne,oneV,WA,simprocAttr]
     have h : s.toList = b.toList:=by simpa using h
     rw [hch,if_pos h]
   · have h : ¬ s.toList = b.toList:=by simpa using h
     rw [if_neg h] at hch
     refine ⟨j + 1,⟨(by show j + 1 ≤ l.length;omega),hch⟩,(by show l.length - (j + 1) < l.length - j;omega),by refine sub_of h0 ?_ ?_ ?_ <;> simp only [US,WA,simprocAttr]⟩
 · have hb1 : ¬ (j : Int) < (l.length : Int):=by omega
   repeat' (first|(with_reducible apply zz1)|((with_reducible apply zz2);rfl;intro K' hK';simp only [WA,simprocAttr,hb1];(repeat (constructor;focus (clear hK';intros;simp_all;done)));(try (apply hK';clear hK' K')))|((with_reducible apply zz3);rfl;all_goals (intro h;try exact absurd h (by decide))))
   simp only [Kret,retL,retOne,oneV,WA,simprocAttr]
   rw [hch,List.drop_of_length_le (by omega)]
   rfl

set_option maxHeartbeats 4000000 in
set_option maxRecDepth 100000 in
theorem containsS_fn (Γ : Gl) (l : List ByteArray) (s : ByteArray) (hl : l.length ≤ 140737488355328) : DFn Tryd.prog Γ 14 [.slc (l.map sD),sD s] (.v (.bool (l.any fun b=>s.toList == b.toList))):=by
 have hc:=indexS_fn Γ l s hl
 refine fn_of_swp (N:=9) Tryd.func14 rfl (by decide) rfl rfl (by simp) (fun C h0=>?_)
 simp only [argE]
 repeat' (first|(with_reducible apply zz1)|((with_reducible apply zz2);rfl;intro K' hK';simp only [WA,simprocAttr];(repeat (constructor;focus (clear hK';intros;simp_all;done)));(try (apply hK';clear hK' K')))|((with_reducible apply zz3);rfl;all_goals (intro h;try exact absurd h (by decide))))
 refine stop_callF rfl (by simp only [WA,simprocAttr]) rfl rfl (hc) ?_
 simp only [WA,simprocAttr,inX,dropS, ]
 (repeat (constructor;focus (clear hK';intros;simp_all;done)))
 (try (apply hK';clear hK' K'))
 repeat' (first|(with_reducible apply zz1)|((with_reducible apply zz2);rfl;intro K' hK';simp only [WA,simprocAttr];(repeat (constructor;focus (clear hK';intros;simp_all;done)));(try (apply hK';clear hK' K')))|((with_reducible apply zz3);rfl;all_goals (intro h;try exact absurd h (by decide))))
 simp only [Kret,retL,retOne,oneV,WA,simprocAttr]
 rw [← idxS_any s.toList l 0]
def abcS : ByteArray:=⟨#[97,98,99,100,101,102,103,104,105,106,107,108,109,110,111,112,113,114,115,116,117,118,119,120,121,122]⟩
theorem abc_ascii (j : Nat) (b : UInt8) (h : abcS.data.toList[j]? = some b) : b.toNat < 128:=by
 have hm:=List.mem_of_getElem? h
 have : ∀ b ∈ abcS.data.toList,b.toNat < 128:=by decide
 exact this b hm
def trimS (s : ByteArray) : ByteArray:=packS (Lib.trimS s.data.toList abcS.data.toList)
theorem trim_fn (Γ : Gl) (s : ByteArray) (hs : s.size ≤ 9223372036854775807) : DFn Tryd.prog Γ 60 [sD s,sD abcS] (sD (trimS s)) :=
 dfn_of (by kernel_rfl) rfl rfl fun w h=>Tryd.strings_Trim_ascii s abcS w hs (by decide) abc_ascii
def words5 : List ByteArray:=[⟨#[116,114,117,101]⟩,⟨#[102,97,108,115,101]⟩,⟨#[97,110,100]⟩,⟨#[111,114]⟩,⟨#[110,111,116]⟩]
def inL (l : List ByteArray) (s : ByteArray) : Bool:=l.any fun b=>s.toList == b.toList
def isNameB (s : ByteArray) : Bool:=if s.toList = [] then false else if 8 < s.size then false else if (trimS s).toList = [] then !(inL words5 s) else false

set_option maxHeartbeats 4000000 in
set_option maxRecDepth 100000 in
theorem isName_fn (Γ : Gl) (s : ByteArray) : DFn Tryd.prog Γ 39 [sD s] (.v (.bool (isNameB s))):=by
 by_cases e1 : s.toList = []
 · have g1 : (s.toList == ByteArray.toList ⟨#[]⟩) = true:=by rw [empty_toL,e1];rfl
   rw [show isNameB s = false from by unfold isNameB;rw [if_pos e1]]
   refine fn_of_swp (N:=19) Tryd.func39 rfl (by decide) rfl rfl (by simp) (fun C h0=>?_)
   simp only [argE]
   repeat' (first|(with_reducible apply zz1)|((with_reducible apply zz2);rfl;intro K' hK';simp only [WA,simprocAttr];(repeat (constructor;focus (clear hK';intros;simp_all;done)));(try (apply hK';clear hK' K')))|((with_reducible apply zz3);rfl;all_goals (intro h;try exact absurd h (by decide))))
   (with_reducible refine zw17 ?_ (fun K' hK'=>?_)
    · rfl
    simp only [WA,simprocAttr,g1,Bool.not_true,Bool.not_false,cond_true,cond_false]
    (repeat (constructor;focus (clear hK';intros;simp_all;done))))
   refine stop_unmet rfl rfl ?_
   simp only [WA,simprocAttr,g1,Bool.not_true,Bool.not_false,cond_true,cond_false]
   (try (apply hK';clear hK' K'))
   refine stop_unmet rfl rfl ?_
   simp only [WA,simprocAttr,g1,Bool.not_true,Bool.not_false,cond_true,cond_false]
   (try (apply hK';clear hK' K'))
   repeat' (first|(with_reducible apply zz1)|((with_reducible apply zz2);rfl;intro K' hK';simp only [WA,simprocAttr];(repeat (constructor;focus (clear hK';intros;simp_all;done)));(try (apply hK';clear hK' K')))|((with_reducible apply zz3);rfl;all_goals (intro h;try exact absurd h (by decide))))
   simp only [Kret,retL,retOne,oneV,WA,simprocAttr]
 have g1 : (s.toList == ByteArray.toList ⟨#[]⟩) = false:=by rw [empty_toL];simpa using e1
 by_cases e2 : 8 < s.size
 · have g2 : (8 : Int) < (s.size : Int):=by omega
   rw [show isNameB s = false from by unfold isNameB;rw [if_neg e1,if_pos e2]]
   refine fn_of_swp (N:=19) Tryd.func39 rfl (by decide) rfl rfl (by simp) (fun C h0=>?_)
   simp only [argE]
   repeat' (first|(with_reducible apply zz1)|((with_reducible apply zz2);rfl;intro K' hK';simp only [WA,simprocAttr];(repeat (constructor;focus (clear hK';intros;simp_all;done)));(try (apply hK';clear hK' K')))|((with_reducible apply zz3);rfl;all_goals (intro h;try exact absurd h (by decide))))
   (with_reducible refine zw17 ?_ (fun K' hK'=>?_)
    · rfl
    simp only [WA,simprocAttr,g1,g2,Bool.not_true,Bool.not_false,cond_true,cond_false]
    (repeat (constructor;focus (clear hK';intros;simp_all;done))))
   refine stop_unmet rfl rfl ?_
   simp only [WA,simprocAttr,g1,Bool.not_true,Bool.not_false,cond_true,cond_false]
   (try (apply hK';clear hK' K'))
   refine stop_unmet rfl rfl ?_
   simp only [WA,simprocAttr,g1,Bool.not_true,Bool.not_false,cond_true,cond_false]
   (try (apply hK';clear hK' K'))
   repeat' (first|(with_reducible apply zz1)|((with_reducible apply zz2);rfl;intro K' hK';simp only [WA,simprocAttr];(repeat (constructor;focus (clear hK';intros;simp_all;done)));(try (apply hK';clear hK' K')))|((with_reducible apply zz3);rfl;all_goals (intro h;try exact absurd h (by decide))))
   simp only [Kret,retL,retOne,oneV,WA,simprocAttr]
 have g2 : ¬ (8 : Int) < (s.size : Int):=by omega
 have ht:=trim_fn Γ s (by omega)
 have hc:=containsS_fn Γ words5 s (by decide)
 rw [show isNameB s = if (trimS s).toList = [] then !(inL words5 s) else false from by unfold isNameB;rw [if_neg e1,if_neg e2]]
 generalize trimS s = T at ht ⊢
 by_cases e3 : T.toList = []
 · have g3 : (T.toList == ByteArray.toList ⟨#[]⟩) = true:=by rw [empty_toL,e3];rfl
   rw [if_pos e3]
   simp only [words5,List.map_cons,List.map_nil] at hc
   unfold inL words5
   generalize (List.any [(⟨#[116,114,117,101]⟩ : ByteArray),⟨#[102,97,108,115,101]⟩,⟨#[97,110,100]⟩,⟨#[111,114]⟩,⟨#[110,111,116]⟩] fun b=>s.toList == b.toList) = B at hc ⊢
   refine fn_of_swp (N:=19) Tryd.func39 rfl (by decide) rfl rfl (by simp) (fun C h0=>?_)
   simp only [argE]
   repeat' (first|(with_reducible apply zz1)|((with_reducible apply zz2);rfl;intro K' hK';simp only [WA,simprocAttr];(repeat (constructor;focus (clear hK';intros;simp_all;done)));(try (apply hK';clear hK' K')))|((with_reducible apply zz3);rfl;all_goals (intro h;try exact absurd h (by decide))))
   (with_reducible refine zw17 ?_ (fun K' hK'=>?_)
    · rfl
    simp only [WA,simprocAttr,g1,g2,Bool.not_true,Bool.not_false,cond_true,cond_false]
    (repeat (constructor;focus (clear hK';intros;simp_all;done))))
   refine stop_guard rfl ?_
   refine stop_callF rfl (by simp only [WA,simprocAttr]) rfl rfl (ht) ?_
   simp only [WA,simprocAttr,inX,dropS,g3,Bool.not_true,Bool.not_false,cond_true,cond_false]
   (repeat (constructor;focus (clear hK';intros;simp_all;done)))
   (try (apply hK';clear hK' K'))
   repeat' (first|(with_reducible apply zz1)|((with_reducible apply zz2);rfl;intro K' hK';simp only [WA,simprocAttr,one_max];(repeat (constructor;focus (clear hK';intros;simp_all;done)));(try (apply hK';clear hK' K')))|((with_reducible apply zz3);rfl;all_goals (intro h;try exact absurd h (by decide))))
   -- TRACE
   refine stop_callF rfl (by simp only [WA,simprocAttr] <;> decide) rfl rfl (hc) ?_
   simp only [WA,simprocAttr,inX,dropS, ]
   (repeat (constructor;focus (clear hK';intros;simp_all;done)))
   (try (apply hK';clear hK' K'))
   repeat' (first|(with_reducible apply zz1)|((with_reducible apply zz2);rfl;intro K' hK';simp only [WA,simprocAttr];(repeat (constructor;focus (clear hK';intros;simp_all;done)));(try (apply hK';clear hK' K')))|((with_reducible apply zz3);rfl;all_goals (intro h;try exact absurd h (by decide))))
   simp only [Kret,retL,retOne,oneV,WA,simprocAttr]
 · have g3 : (T.toList == ByteArray.toList ⟨#[]⟩) = false:=by rw [empty_toL];simpa using e3
   rw [if_neg e3]
   refine fn_of_swp (N:=19) Tryd.func39 rfl (by decide) rfl rfl (by simp) (fun C h0=>?_)
   simp only [argE]
   repeat' (first|(with_reducible apply zz1)|((with_reducible apply zz2);rfl;intro K' hK';simp only [WA,simprocAttr];(repeat (constructor;focus (clear hK';intros;simp_all;done)));(try (apply hK';clear hK' K')))|((with_reducible apply zz3);rfl;all_goals (intro h;try exact absurd h (by decide))))
   (with_reducible refine zw17 ?_ (fun K' hK'=>?_)
    · rfl
    simp only [WA,simprocAttr,g1,g2,Bool.not_true,Bool.not_false,cond_true,cond_false]
    (repeat (constructor;focus (clear hK';intros;simp_all;done))))
   refine stop_guard rfl ?_
   refine stop_callF rfl (by simp only [WA,simprocAttr]) rfl rfl (ht) ?_
   simp only [WA,simprocAttr,inX,dropS,g3,Bool.not_true,Bool.not_false,cond_true,cond_false]
   (repeat (constructor;focus (clear hK';intros;simp_all;done)))
   (try (apply hK';clear hK' K'))
   repeat' (first|(with_reducible apply zz1)|((with_reducible apply zz2);rfl;intro K' hK';simp only [WA,simprocAttr];(repeat (constructor;focus (clear hK';intros;simp_all;done)));(try (apply hK';clear hK' K')))|((with_reducible apply zz3);rfl;all_goals (intro h;try exact absurd h (by decide))))
   simp only [Kret,retL,retOne,oneV,WA,simprocAttr]
end Go.Proofs.YtlnmkdbcdcknjaaDoor
