/- duetref's small, IsName, IsVar, Labels, part; a symbolic walk. -/
-- TYPESA
import Derived.Test.YtgecnlcbdbaneaaDoorHQ4
import Derived.Test.YtgecnlcbdbaneaaDoorSwD
set_option linter.unusedVariables false
set_option linter.unusedSimpArgs false
namespace Go.Proofs.YtgecnlcbdbaneaaDoor
open Go.RowKit Go.Sw

def letU (b : UInt8) : Bool:=if b.toNat < 97 then false else decide (b.toNat ≤ 122)
def smallB (s : ByteArray) : Bool:=if s.data.toList.all letU = true then (if 1 ≤ s.size then decide (s.size ≤ 8) else false) else false
theorem let_all : ∀ b : UInt8,letU b = isLet b:=by
 intro b
 have : ∀ n : Fin 256,letU (UInt8.ofNat n.val) = isLet (UInt8.ofNat n.val):=by decide +kernel
 have h:=this ⟨b.toNat,b.toNat_lt⟩
 simpa using h
theorem dw_all {p : UInt8 → Bool} : ∀ {l : List UInt8},(∀ b ∈ l,p b = true) → l.dropWhile p = []
 | [],_=>rfl
 | x :: l,h=>by
  rw [List.dropWhile_cons_of_pos (h x (by simp))]
  exact dw_all fun b hb=>h b (by simp [hb])
theorem trim_all {l : List UInt8} (h : ∀ b ∈ l,isLet b = true) : Lib.trimS l abcS.data.toList = []:=by
 unfold Lib.trimS Lib.trimLeftS Lib.trimRightS
 have e : l.reverse.dropWhile isLet = []:=dw_all fun b hb=>h b (by simpa using hb)
 show ((l.reverse.dropWhile isLet).reverse.dropWhile isLet) = []
 rw [e];rfl
theorem name_small (s : ByteArray) : (if smallB s = true then !(inL words5 s) else false) = isNameB s:=by
 unfold smallB isNameB
 have e1 : s.toList = [] ↔ s.size = 0:=by
  rw [Lib.toList_data]
  show s.data.toList = [] ↔ s.data.size = 0
  rw [← Array.length_toList,List.length_eq_zero_iff]
 have e2 : (trimS s).toList = [] ↔ s.data.toList.all letU = true:=by
  rw [Lib.toList_data]
  unfold trimS packS
  show Lib.trimS s.data.toList abcS.data.toList = [] ↔ _
  rw [List.all_eq_true]
  constructor
  · intro h b hb
    rw [let_all];exact trim_let h b hb
  · intro h
    exact trim_all fun b hb=>by rw [← let_all];exact h b hb
 by_cases h0 : s.size = 0
 · rw [if_pos (e1.2 h0)]
   have : ¬ 1 ≤ s.size:=by omega
   simp [this]
 · rw [if_neg (fun h=>h0 (e1.1 h))]
   by_cases h8 : 8 < s.size
   · rw [if_pos h8]
     have : ¬ s.size ≤ 8:=by omega
     simp [this]
   · rw [if_neg h8]
     by_cases ha : s.data.toList.all letU = true
     · rw [if_pos (e2.2 ha),if_pos ha]
       have h1 : 1 ≤ s.size:=by omega
       have h2 : s.size ≤ 8:=by omega
       simp [h1,h2]
     · rw [if_neg (fun h=>ha (e2.1 h)),if_neg ha]
       simp
set_option maxHeartbeats 4000000 in
set_option maxRecDepth 100000 in
theorem small_fn (Γ : Gl) (s : ByteArray) (hs : s.size ≤ 140737488355328) : DFn Tryd.prog Γ 98 [sD s] (.v (.bool (smallB s))):=by
 have hsz : s.data.toList.length = s.size:=by simp
 refine fn_of_swp (N:=28) Tryd.func98 rfl (by decide) rfl rfl (by simp) (fun C h0=>?_)
 simp only [argE]
 repeat' (first|(with_reducible apply zz1)|((with_reducible refine zz4 ?_ ?_);rfl)|((with_reducible refine zz2 ?_ (fun K' hK'=>?_));rfl;simp only [WA,simprocAttr];(repeat (refine And.intro ?_ ?_;focus (clear hK';intros;simp_all;done)));(try (refine hK' _ _ ?_;clear hK' K')))|((with_reducible refine zz3 ?_ ?_);rfl;refine ⟨_,rfl,fun h=>?_,fun h=>?_⟩ <;> try exact absurd h (by decide)))
 refine swp_loop (α := Nat) (fun j=>[(0,.d (sD s)),(3,.d (iD j))]) (fun _=>[])
  (fun j=>j ≤ s.size ∧ s.data.toList.all letU = (s.data.toList.drop j).all letU) (fun j=>s.size - j) 0 ⟨Nat.zero_le _,rfl⟩ (by refine sub_of h0 ?_ ?_ ?_ <;> simp only [US,WA,simprocAttr]) (fun j hj=>?_)
 obtain ⟨hj,hch⟩:=hj
 have hj0 : (0 : Int) ≤ (j : Int):=by omega
 by_cases hlt : j < s.size
 · obtain ⟨b,hx⟩ : ∃ b,s.data.toList[j]? = some b:=⟨s.data.toList[j]'(by omega),by simp⟩
   have hget : s.data.toList.getD j 0 = b:=by simp only [List.getD,hx,Option.getD_some]
   have hj1 : (j : Int) < (s.size : Int):=by omega
   have hw3 : IntKind.i64.wrap ((j : Int) + 1) = ((j + 1 : Nat) : Int):=by rw [wrap_in (by omega) (by omega)];omega
   have hd : s.data.toList.drop j = b :: s.data.toList.drop (j + 1):=by
    obtain ⟨h1,h2⟩:=List.getElem?_eq_some_iff.1 hx
    rw [List.drop_eq_getElem_cons h1,h2]
   rw [hd,List.all_cons] at hch
   by_cases h97 : b.toNat < 97
   · have g1 : ((b.toNat : Nat) : Int) < 97:=by omega
     have : smallB s = false:=by
      unfold smallB
      rw [hch]
      have : letU b = false:=by unfold letU;rw [if_pos h97]
      simp [this]
     rw [this]
     repeat' (first|(with_reducible apply zz1)|((with_reducible refine zz4 ?_ ?_);rfl)|((with_reducible refine zz2 ?_ (fun K' hK'=>?_));rfl;simp only [WA,simprocAttr,Int.toNat_natCast,hget,hj0,hj1,g1,Bool.not_true,Bool.not_false,cond_true,cond_false];(repeat (refine And.intro ?_ ?_;focus (clear hK';intros;simp_all;done)));(try (refine hK' _ _ ?_;clear hK' K')))|((with_reducible refine zz3 ?_ ?_);rfl;refine ⟨_,rfl,fun h=>?_,fun h=>?_⟩ <;> try exact absurd h (by decide)))
     simp only [Kret,retL,retOne,oneV,WA,simprocAttr]
   · have g1 : ¬ ((b.toNat : Nat) : Int) < 97:=by omega
     by_cases h122 : 122 < b.toNat
     · have g2 : (122 : Int) < ((b.toNat : Nat) : Int):=by omega
       have : smallB s = false:=by
        unfold smallB
        rw [hch]
        have : letU b = false:=by unfold letU;rw [if_neg h97];simpa using h122
        simp [this]
       rw [this]
       repeat' (first|(with_reducible apply zz1)|((with_reducible refine zz4 ?_ ?_);rfl)|((with_reducible refine zz2 ?_ (fun K' hK'=>?_));rfl;simp only [WA,simprocAttr,Int.toNat_natCast,hget,hj0,hj1,g1,g2,Bool.not_true,Bool.not_false,cond_true,cond_false];(repeat (refine And.intro ?_ ?_;focus (clear hK';intros;simp_all;done)));(try (refine hK' _ _ ?_;clear hK' K')))|((with_reducible refine zz3 ?_ ?_);rfl;refine ⟨_,rfl,fun h=>?_,fun h=>?_⟩ <;> try exact absurd h (by decide)))
       simp only [Kret,retL,retOne,oneV,WA,simprocAttr]
     · have g2 : ¬ (122 : Int) < ((b.toNat : Nat) : Int):=by omega
       have hl : letU b = true:=by unfold letU;rw [if_neg h97];simpa using h122
       rw [hl,Bool.true_and] at hch
       repeat' (first|(with_reducible apply zz1)|((with_reducible refine zz4 ?_ ?_);rfl)|((with_reducible refine zz2 ?_ (fun K' hK'=>?_));rfl;simp only [WA,simprocAttr,Int.toNat_natCast,hget,hj0,hj1,g1,g2,hw3,Bool.not_true,Bool.not_false,cond_true,cond_false];(repeat (refine And.intro ?_ ?_;focus (clear hK';intros;simp_all;done)));(try (refine hK' _ _ ?_;clear hK' K')))|((with_reducible refine zz3 ?_ ?_);rfl;refine ⟨_,rfl,fun h=>?_,fun h=>?_⟩ <;> try exact absurd h (by decide)))
       refine ⟨j + 1,⟨(by show j + 1 ≤ s.size;omega),hch⟩,(by show s.size - (j + 1) < s.size - j;omega),by refine sub_of h0 ?_ ?_ ?_ <;> simp only [US,WA,simprocAttr]⟩
 · have hj1 : ¬ (j : Int) < (s.size : Int):=by omega
   rw [List.drop_of_length_le (by omega)] at hch
   have hq : smallB s = (if 1 ≤ s.size then decide (s.size ≤ 8) else false):=by unfold smallB;rw [hch];rfl
   rw [hq]
   by_cases h1 : 1 ≤ s.size
   · have g1 : (1 : Int) ≤ (s.size : Int):=by omega
     rw [if_pos h1]
     have g2 : decide ((s.size : Int) ≤ 8) = decide (s.size ≤ 8):=by rw [decide_eq_decide];omega
     repeat' (first|(with_reducible apply zz1)|((with_reducible refine zz4 ?_ ?_);rfl)|((with_reducible refine zz2 ?_ (fun K' hK'=>?_));rfl;simp only [WA,simprocAttr,hj1,g1,g2,cond_true,cond_false];(repeat (refine And.intro ?_ ?_;focus (clear hK';intros;simp_all;done)));(try (refine hK' _ _ ?_;clear hK' K')))|((with_reducible refine zz3 ?_ ?_);rfl;refine ⟨_,rfl,fun h=>?_,fun h=>?_⟩ <;> try exact absurd h (by decide)))
     simp only [Kret,retL,retOne,oneV,WA,simprocAttr]
   · have g1 : ¬ (1 : Int) ≤ (s.size : Int):=by omega
     rw [if_neg h1]
     repeat' (first|(with_reducible apply zz1)|((with_reducible refine zz4 ?_ ?_);rfl)|((with_reducible refine zz2 ?_ (fun K' hK'=>?_));rfl;simp only [WA,simprocAttr,hj1,g1,cond_true,cond_false];(repeat (refine And.intro ?_ ?_;focus (clear hK';intros;simp_all;done)));(try (refine hK' _ _ ?_;clear hK' K')))|((with_reducible refine zz3 ?_ ?_);rfl;refine ⟨_,rfl,fun h=>?_,fun h=>?_⟩ <;> try exact absurd h (by decide)))
     simp only [Kret,retL,retOne,oneV,WA,simprocAttr]
set_option maxHeartbeats 4000000 in
set_option maxRecDepth 100000 in
theorem rIsName_fn (Γ : Gl) (s : ByteArray) (hs : s.size ≤ 140737488355328) : DFn Tryd.prog Γ 90 [sD s] (.v (.bool (isNameB s))):=by
 have h1:=small_fn Γ s hs
 have h2:=containsS_fn Γ words5 s (by decide)
 rw [← name_small s]
 show DFn Tryd.prog Γ _ _ (.v (.bool (if smallB s = true then !(words5.any fun b=>s.toList == b.toList) else false)))
 generalize (words5.any fun b=>s.toList == b.toList) = c at *
 simp only [words5,List.map_cons,List.map_nil] at h2
 cases hb : smallB s with
 | false =>
  rw [hb] at h1
  rw [if_neg (by decide)]
  refine fn_of_swp (N:=11) Tryd.func90 rfl (by decide) rfl rfl (by simp) (fun C h0=>?_)
  simp only [argE]
  repeat' (first|(with_reducible apply zz1)|((with_reducible refine zz4 ?_ ?_);rfl)|((with_reducible refine zz2 ?_ (fun K' hK'=>?_));rfl;simp only [WA,simprocAttr];(repeat (refine And.intro ?_ ?_;focus (clear hK';intros;simp_all;done)));(try (refine hK' _ _ ?_;clear hK' K')))|((with_reducible refine zz3 ?_ ?_);rfl;refine ⟨_,rfl,fun h=>?_,fun h=>?_⟩ <;> try exact absurd h (by decide)))
  (with_reducible refine swp_region ?_ (fun K' hK'=>?_)
   · rfl
   simp only [WA,simprocAttr]
   (repeat (refine And.intro ?_ ?_;focus (clear hK';intros;simp_all;done))))
  refine stop_callFS rfl (by simp only [WA,simprocAttr]) rfl rfl (h1) ?_
  refine vcTo_ok 1 rfl ?_
  simp only [WA,simprocAttr,vcTo]
  (repeat (refine And.intro ?_ ?_;focus (clear hK';intros;simp_all;done)))
  refine stop_unmet rfl rfl ?_
  simp only [WA,simprocAttr,Bool.not_true,Bool.not_false,cond_true,cond_false]
  (try (refine hK' _ _ ?_;clear hK' K'))
  refine stop_unmetB rfl rfl ?_
  simp only [WA,simprocAttr,Bool.not_true,Bool.not_false,cond_true,cond_false]
  (try (refine hK' _ _ ?_;clear hK' K'))
  repeat' (first|(with_reducible apply zz1)|((with_reducible refine zz4 ?_ ?_);rfl)|((with_reducible refine zz2 ?_ (fun K' hK'=>?_));rfl;simp only [WA,simprocAttr];(repeat (refine And.intro ?_ ?_;focus (clear hK';intros;simp_all;done)));(try (refine hK' _ _ ?_;clear hK' K')))|((with_reducible refine zz3 ?_ ?_);rfl;refine ⟨_,rfl,fun h=>?_,fun h=>?_⟩ <;> try exact absurd h (by decide)))
  simp only [Kret,retL,retOne,oneV,WA,simprocAttr]
 | true =>
  rw [hb] at h1
  rw [if_pos rfl]
  refine fn_of_swp (N:=11) Tryd.func90 rfl (by decide) rfl rfl (by simp) (fun C h0=>?_)
  simp only [argE]
  repeat' (first|(with_reducible apply zz1)|((with_reducible refine zz4 ?_ ?_);rfl)|((with_reducible refine zz2 ?_ (fun K' hK'=>?_));rfl;simp only [WA,simprocAttr];(repeat (refine And.intro ?_ ?_;focus (clear hK';intros;simp_all;done)));(try (refine hK' _ _ ?_;clear hK' K')))|((with_reducible refine zz3 ?_ ?_);rfl;refine ⟨_,rfl,fun h=>?_,fun h=>?_⟩ <;> try exact absurd h (by decide)))
  (with_reducible refine swp_region ?_ (fun K' hK'=>?_)
   · rfl
   simp only [WA,simprocAttr]
   (repeat (refine And.intro ?_ ?_;focus (clear hK';intros;simp_all;done))))
  refine stop_callF rfl (by simp only [WA,simprocAttr]) rfl rfl (h1) ?_
  simp only [WA,simprocAttr,inX,dropS,Bool.not_true,Bool.not_false,cond_true,cond_false]
  (repeat (refine And.intro ?_ ?_;focus (clear hK';intros;simp_all;done)))
  (try (refine hK' _ _ ?_;clear hK' K'))
  refine stop_frz [0] h0 (by simp only [Option.isSome_some,UF,WA,simprocAttr]) ?_
  simp only [WA,simprocAttr,UF]
  refine stop_guard rfl ?_
  refine stop_callF rfl (by simp only [WA,simprocAttr] <;> decide) rfl rfl (h2) ?_
  simp only [WA,simprocAttr,inX,dropS, ]
  (repeat (refine And.intro ?_ ?_;focus (clear hK';intros;simp_all;done)))
  (try (refine hK' _ _ ?_;clear hK' K'))
  repeat' (first|(with_reducible apply zz1)|((with_reducible refine zz4 ?_ ?_);rfl)|((with_reducible refine zz2 ?_ (fun K' hK'=>?_));rfl;simp only [WA,simprocAttr];(repeat (refine And.intro ?_ ?_;focus (clear hK';intros;simp_all;done)));(try (refine hK' _ _ ?_;clear hK' K')))|((with_reducible refine zz3 ?_ ?_);rfl;refine ⟨_,rfl,fun h=>?_,fun h=>?_⟩ <;> try exact absurd h (by decide)))
  simp only [Kret,retL,retOne,oneV,WA,simprocAttr]
set_option maxHeartbeats 4000000 in
set_option maxRecDepth 100000 in
theorem rIsVar_fn (Γ : Gl) (s : ByteArray) (hs : s.size ≤ 140737488355328) : DFn Tryd.prog Γ 79 [sD s] (.v (.bool (isVarB s))):=by
 have hn:=rIsName_fn Γ s hs
 unfold isVarB
 cases e1 : isNameB s with
 | false =>
  rw [e1] at hn
  rw [if_neg (by decide)]
  refine fn_of_swp (N:=13) Tryd.func79 rfl (by decide) rfl rfl (by simp) (fun C h0=>?_)
  simp only [argE]
  repeat' (first|(with_reducible apply zz1)|((with_reducible refine zz4 ?_ ?_);rfl)|((with_reducible refine zz2 ?_ (fun K' hK'=>?_));rfl;simp only [WA,simprocAttr];(repeat (refine And.intro ?_ ?_;focus (clear hK';intros;simp_all;done)));(try (refine hK' _ _ ?_;clear hK' K')))|((with_reducible refine zz3 ?_ ?_);rfl;refine ⟨_,rfl,fun h=>?_,fun h=>?_⟩ <;> try exact absurd h (by decide)))
  refine stop_callF rfl (by simp only [WA,simprocAttr]) rfl rfl (hn) ?_
  simp only [WA,simprocAttr,inX,dropS,Bool.not_true,Bool.not_false,cond_true,cond_false]
  (repeat (refine And.intro ?_ ?_;focus (clear hK';intros;simp_all;done)))
  (try (refine hK' _ _ ?_;clear hK' K'))
  repeat' (first|(with_reducible apply zz1)|((with_reducible refine zz4 ?_ ?_);rfl)|((with_reducible refine zz2 ?_ (fun K' hK'=>?_));rfl;simp only [WA,simprocAttr];(repeat (refine And.intro ?_ ?_;focus (clear hK';intros;simp_all;done)));(try (refine hK' _ _ ?_;clear hK' K')))|((with_reducible refine zz3 ?_ ?_);rfl;refine ⟨_,rfl,fun h=>?_,fun h=>?_⟩ <;> try exact absurd h (by decide)))
  simp only [Kret,retL,retOne,oneV,WA,simprocAttr]
 | true =>
  rw [e1] at hn
  rw [if_pos rfl]
  cases e2 : (s.toList == ByteArray.toList endS) with
  | true =>
   rw [if_pos rfl]
   have e2' : (s.toList != ByteArray.toList endS) = false:=by rw [bne,e2];rfl
   refine fn_of_swp (N:=13) Tryd.func79 rfl (by decide) rfl rfl (by simp) (fun C h0=>?_)
   simp only [argE]
   repeat' (first|(with_reducible apply zz1)|((with_reducible refine zz4 ?_ ?_);rfl)|((with_reducible refine zz2 ?_ (fun K' hK'=>?_));rfl;simp only [WA,simprocAttr];(repeat (refine And.intro ?_ ?_;focus (clear hK';intros;simp_all;done)));(try (refine hK' _ _ ?_;clear hK' K')))|((with_reducible refine zz3 ?_ ?_);rfl;refine ⟨_,rfl,fun h=>?_,fun h=>?_⟩ <;> try exact absurd h (by decide)))
   refine stop_callF rfl (by simp only [WA,simprocAttr]) rfl rfl (hn) ?_
   simp only [WA,simprocAttr,inX,dropS,e2,e2',Bool.not_true,Bool.not_false,cond_true,cond_false]
   (repeat (refine And.intro ?_ ?_;focus (clear hK';intros;simp_all;done)))
   (try (refine hK' _ _ ?_;clear hK' K'))
   repeat' (first|(with_reducible apply zz1)|((with_reducible refine zz4 ?_ ?_);rfl)|((with_reducible refine zz2 ?_ (fun K' hK'=>?_));rfl;simp only [WA,simprocAttr];(repeat (refine And.intro ?_ ?_;focus (clear hK';intros;simp_all;done)));(try (refine hK' _ _ ?_;clear hK' K')))|((with_reducible refine zz3 ?_ ?_);rfl;refine ⟨_,rfl,fun h=>?_,fun h=>?_⟩ <;> try exact absurd h (by decide)))
   simp only [Kret,retL,retOne,oneV,WA,simprocAttr]
  | false =>
   rw [if_neg (by decide)]
   have e2' : (s.toList != ByteArray.toList endS) = true:=by rw [bne,e2];rfl
   refine fn_of_swp (N:=13) Tryd.func79 rfl (by decide) rfl rfl (by simp) (fun C h0=>?_)
   simp only [argE]
   repeat' (first|(with_reducible apply zz1)|((with_reducible refine zz4 ?_ ?_);rfl)|((with_reducible refine zz2 ?_ (fun K' hK'=>?_));rfl;simp only [WA,simprocAttr];(repeat (refine And.intro ?_ ?_;focus (clear hK';intros;simp_all;done)));(try (refine hK' _ _ ?_;clear hK' K')))|((with_reducible refine zz3 ?_ ?_);rfl;refine ⟨_,rfl,fun h=>?_,fun h=>?_⟩ <;> try exact absurd h (by decide)))
   refine stop_callF rfl (by simp only [WA,simprocAttr]) rfl rfl (hn) ?_
   simp only [WA,simprocAttr,inX,dropS,e2,e2',Bool.not_true,Bool.not_false,cond_true,cond_false]
   (repeat (refine And.intro ?_ ?_;focus (clear hK';intros;simp_all;done)))
   (try (refine hK' _ _ ?_;clear hK' K'))
   repeat' (first|(with_reducible apply zz1)|((with_reducible refine zz4 ?_ ?_);rfl)|((with_reducible refine zz2 ?_ (fun K' hK'=>?_));rfl;simp only [WA,simprocAttr];(repeat (refine And.intro ?_ ?_;focus (clear hK';intros;simp_all;done)));(try (refine hK' _ _ ?_;clear hK' K')))|((with_reducible refine zz3 ?_ ?_);rfl;refine ⟨_,rfl,fun h=>?_,fun h=>?_⟩ <;> try exact absurd h (by decide)))
   simp only [Kret,retL,retOne,oneV,WA,simprocAttr]
theorem lab_bad {ls : List ByteArray} (h : labAll ls = false) : labelsB ls = false:=by
 unfold labelsB
 rw [h]
 split
 · rfl
 · split <;> rfl
set_option maxHeartbeats 8000000 in
set_option maxRecDepth 100000 in
theorem rLabels_fn (Γ : Gl) (ls : List ByteArray) (hlen : ls.length ≤ 140737488355328) (hsz : ∀ x ∈ ls,x.size ≤ 140737488355328) : DFn Tryd.prog Γ 78 [.slc (ls.map sD)] (.v (.bool (labelsB ls))):=by
 refine fn_of_swp (N:=40) Tryd.func78 rfl (by decide) rfl rfl (by simp) (fun C h0=>?_)
 simp only [argE]
 repeat' (first|(with_reducible apply zz1)|((with_reducible refine zz4 ?_ ?_);rfl)|((with_reducible refine zz2 ?_ (fun K' hK'=>?_));rfl;simp only [WA,simprocAttr];(repeat (refine And.intro ?_ ?_;focus (clear hK';intros;simp_all;done)));(try (refine hK' _ _ ?_;clear hK' K')))|((with_reducible refine zz3 ?_ ?_);rfl;refine ⟨_,rfl,fun h=>?_,fun h=>?_⟩ <;> try exact absurd h (by decide)))
 refine swp_loop (α := Nat) (fun j=>[(0,.d (.slc (ls.map sD))),(3,.d (iD j))]) (fun _=>[])
  (fun j=>j ≤ ls.length ∧ labAll ls = labRest ls j) (fun j=>ls.length - j) 0 ⟨Nat.zero_le _,rfl⟩ (by refine sub_of h0 ?_ ?_ ?_ <;> simp only [US,WA,simprocAttr,List.length_map]) (fun j hj=>?_)
 obtain ⟨hj,hch⟩:=hj
 have hb0 : (0 : Int) ≤ (j : Int):=by omega
 by_cases hlt : j < ls.length
 · obtain ⟨b, hx⟩ : ∃ b,ls[j]? = some b:=⟨ls[j],by simp [hlt]⟩
   have hget : (ls.map sD).getD j default = sD b:=by simp [List.getD,hx]
   have hb1 : (j : Int) < (ls.length : Int):=by omega
   have hw3 : IntKind.i64.wrap ((j : Int) + 1) = ((j + 1 : Nat) : Int):=by rw [wrap_in (by omega) (by omega)];omega
   have hd : ls.drop j = b :: ls.drop (j + 1):=by
    obtain ⟨h1,h2⟩:=List.getElem?_eq_some_iff.1 hx
    rw [List.drop_eq_getElem_cons h1,h2]
   have hgb : ls.getD j ⟨#[]⟩ = b:=by simp [List.getD,hx]
   have hnext : labRest ls (j + 1) = labGo b (ls.drop (j + 1)):=by simp only [labRest,hgb]
   have hn:=rIsName_fn Γ b (hsz b (List.mem_of_getElem? hx))
   -- what stands ahead (at the first place: what stands there)
   obtain ⟨q,m,hpos,hw1,hgp,htn⟩ : ∃ (q : ByteArray) (m : Int),(decide ((0 : Int) < (j : Int)) = decide (0 < j)) ∧ IntKind.i64.wrap ((j : Int) - 1) = m ∧ (ls.map sD).getD m.toNat default = sD q ∧ (0 < j → 0 ≤ m ∧ m < (ls.length : Int) ∧ labRest ls j = labGo q (b :: ls.drop (j + 1))):=by
    cases j with
    | zero=>exact ⟨b, -1,rfl,by decide,(by rw [show (-1 : Int).toNat = 0 from rfl];exact hget),fun h=>absurd h (Nat.lt_irrefl _)⟩
    | succ k =>
     obtain ⟨p,hp⟩ : ∃ p,ls[k]? = some p:=⟨ls[k]'(by omega),by simp⟩
     refine ⟨p,k,by rw [decide_eq_decide];omega,by rw [wrap_in (by omega) (by omega)];omega,by simp [List.getD,hp],fun _=>⟨by omega,by omega,?_⟩⟩
     rw [labRest,hd,show ls.getD k ⟨#[]⟩ = p from by simp [List.getD,hp]]
   have h0r : ¬ 0 < j → labRest ls j = labAll (b :: ls.drop (j + 1)):=fun h=>by
    obtain rfl : j = 0:=by omega
    rw [labRest, ← hd,List.drop_zero]
   cases eN : isNameB b with
   | false =>
    rw [eN] at hn
    have hres : labRest ls j = false:=by
     by_cases hz : 0 < j
     · rw [(htn hz).2.2,labGo,eN];rfl
     · rw [h0r hz,labAll,eN];rfl
    rw [lab_bad (hch.trans hres)]
    repeat' (first|(with_reducible apply zz1)|((with_reducible refine zz4 ?_ ?_);rfl)|((with_reducible refine zz2 ?_ (fun K' hK'=>?_));rfl;simp only [WA,simprocAttr,List.length_map,hb1];(repeat (refine And.intro ?_ ?_;focus (clear hK';intros;simp_all;done)));(try (refine hK' _ _ ?_;clear hK' K')))|((with_reducible refine zz3 ?_ ?_);rfl;refine ⟨_,rfl,fun h=>?_,fun h=>?_⟩ <;> try exact absurd h (by decide)))
    (with_reducible refine swp_draw ?_ ?_ ?_ ( [(4,.v (.bool false))]) (fun K' hK'=>?_)
     · kernel_rfl
     · rfl
     · rfl
     simp only [WA,simprocAttr,UG,hn,hget,hb0,hb1,hw1,hgp,Int.toNat_natCast,List.length_map,Bool.not_true,Bool.not_false,Bool.false_and,false_implies,cond_true,cond_false ]
     (try (refine hK' _ _ ?_;clear hK' K')))
    repeat' (first|(with_reducible apply zz1)|((with_reducible refine zz4 ?_ ?_);rfl)|((with_reducible refine zz2 ?_ (fun K' hK'=>?_));rfl;simp only [WA,simprocAttr];(repeat (refine And.intro ?_ ?_;focus (clear hK';intros;simp_all;done)));(try (refine hK' _ _ ?_;clear hK' K')))|((with_reducible refine zz3 ?_ ?_);rfl;refine ⟨_,rfl,fun h=>?_,fun h=>?_⟩ <;> try exact absurd h (by decide)))
    simp only [Kret,retL,retOne,oneV,WA,simprocAttr]
   | true =>
    rw [eN] at hn
    by_cases hz : 0 < j
    · obtain ⟨hm0,hm1,hr⟩:=htn hz
      have hp1 : (0 : Int) < (j : Int):=by omega
      cases eL : Op.bytesLess q.toList b.toList with
      | true =>
       have hle : leB b q = false:=by
        unfold leB
        cases h1 : Op.bytesLess b.toList q.toList with
        | true=>have:=less_trans _ _ _ eL h1;rw [less_irr] at this;cases this
        | false =>
         rw [Bool.false_or]
         rw [beq_eq_false_iff_ne]
         intro e;rw [e,less_irr] at eL;cases eL
       have hres : labRest ls j = labRest ls (j + 1):=by rw [hr,hnext,labGo,eN,hle];rfl
       repeat' (first|(with_reducible apply zz1)|((with_reducible refine zz4 ?_ ?_);rfl)|((with_reducible refine zz2 ?_ (fun K' hK'=>?_));rfl;simp only [WA,simprocAttr,List.length_map,hb1];(repeat (refine And.intro ?_ ?_;focus (clear hK';intros;simp_all;done)));(try (refine hK' _ _ ?_;clear hK' K')))|((with_reducible refine zz3 ?_ ?_);rfl;refine ⟨_,rfl,fun h=>?_,fun h=>?_⟩ <;> try exact absurd h (by decide)))
       (with_reducible refine swp_draw ?_ ?_ ?_ ( [(4,.v (.bool true))]) (fun K' hK'=>?_)
        · kernel_rfl
        · rfl
        · rfl
        simp only [WA,simprocAttr,UG,hn,hget,hb0,hb1,hp1,hw1,hgp,hm0,hm1,eL,Int.toNat_natCast,List.length_map,Bool.not_true,Bool.not_false,Bool.true_and,Bool.false_and,false_implies,cond_true,cond_false ]
        (try (refine hK' _ _ ?_;clear hK' K')))
       repeat' (first|(with_reducible apply zz1)|((with_reducible refine zz4 ?_ ?_);rfl)|((with_reducible refine zz2 ?_ (fun K' hK'=>?_));rfl;simp only [WA,simprocAttr,hw3];(repeat (refine And.intro ?_ ?_;focus (clear hK';intros;simp_all;done)));(try (refine hK' _ _ ?_;clear hK' K')))|((with_reducible refine zz3 ?_ ?_);rfl;refine ⟨_,rfl,fun h=>?_,fun h=>?_⟩ <;> try exact absurd h (by decide)))
       refine ⟨j + 1,⟨(by show j + 1 ≤ ls.length;omega),by rw [hch,hres]⟩,(by show ls.length - (j + 1) < ls.length - j;omega),by refine sub_of h0 ?_ ?_ ?_ <;> simp only [US,WA,simprocAttr]⟩
      | false =>
       have hle : leB b q = true:=by
        unfold leB
        rcases less_total q.toList b.toList with h | h | h
        · rw [h] at eL;cases eL
        · rw [h];simp
        · rw [h];rfl
       have hres : labRest ls j = false:=by rw [hr,labGo,eN,hle];rfl
       rw [lab_bad (hch.trans hres)]
       repeat' (first|(with_reducible apply zz1)|((with_reducible refine zz4 ?_ ?_);rfl)|((with_reducible refine zz2 ?_ (fun K' hK'=>?_));rfl;simp only [WA,simprocAttr,List.length_map,hb1];(repeat (refine And.intro ?_ ?_;focus (clear hK';intros;simp_all;done)));(try (refine hK' _ _ ?_;clear hK' K')))|((with_reducible refine zz3 ?_ ?_);rfl;refine ⟨_,rfl,fun h=>?_,fun h=>?_⟩ <;> try exact absurd h (by decide)))
       (with_reducible refine swp_draw ?_ ?_ ?_ ( [(4,.v (.bool true))]) (fun K' hK'=>?_)
        · kernel_rfl
        · rfl
        · rfl
        simp only [WA,simprocAttr,UG,hn,hget,hb0,hb1,hp1,hw1,hgp,hm0,hm1,eL,Int.toNat_natCast,List.length_map,Bool.not_true,Bool.not_false,Bool.true_and,Bool.false_and,false_implies,cond_true,cond_false ]
        (try (refine hK' _ _ ?_;clear hK' K')))
       repeat' (first|(with_reducible apply zz1)|((with_reducible refine zz4 ?_ ?_);rfl)|((with_reducible refine zz2 ?_ (fun K' hK'=>?_));rfl;simp only [WA,simprocAttr];(repeat (refine And.intro ?_ ?_;focus (clear hK';intros;simp_all;done)));(try (refine hK' _ _ ?_;clear hK' K')))|((with_reducible refine zz3 ?_ ?_);rfl;refine ⟨_,rfl,fun h=>?_,fun h=>?_⟩ <;> try exact absurd h (by decide)))
       simp only [Kret,retL,retOne,oneV,WA,simprocAttr]
    · have hp1 : ¬ (0 : Int) < (j : Int):=by omega
      have hres : labRest ls j = labRest ls (j + 1):=by rw [h0r hz,hnext,labAll,eN];rfl
      repeat' (first|(with_reducible apply zz1)|((with_reducible refine zz4 ?_ ?_);rfl)|((with_reducible refine zz2 ?_ (fun K' hK'=>?_));rfl;simp only [WA,simprocAttr,List.length_map,hb1];(repeat (refine And.intro ?_ ?_;focus (clear hK';intros;simp_all;done)));(try (refine hK' _ _ ?_;clear hK' K')))|((with_reducible refine zz3 ?_ ?_);rfl;refine ⟨_,rfl,fun h=>?_,fun h=>?_⟩ <;> try exact absurd h (by decide)))
      (with_reducible refine swp_draw ?_ ?_ ?_ ( [(4,.v (.bool true))]) (fun K' hK'=>?_)
       · kernel_rfl
       · rfl
       · rfl
       simp only [WA,simprocAttr,UG,hn,hget,hb0,hb1,hp1,hw1,hgp,Int.toNat_natCast,List.length_map,Bool.not_true,Bool.not_false,Bool.true_and,Bool.false_and,Bool.and_false,false_implies,cond_true,cond_false ]
       (try (refine hK' _ _ ?_;clear hK' K')))
      repeat' (first|(with_reducible apply zz1)|((with_reducible refine zz4 ?_ ?_);rfl)|((with_reducible refine zz2 ?_ (fun K' hK'=>?_));rfl;simp only [WA,simprocAttr,hw3];(repeat (refine And.intro ?_ ?_;focus (clear hK';intros;simp_all;done)));(try (refine hK' _ _ ?_;clear hK' K')))|((with_reducible refine zz3 ?_ ?_);rfl;refine ⟨_,rfl,fun h=>?_,fun h=>?_⟩ <;> try exact absurd h (by decide)))
      refine ⟨j + 1,⟨(by show j + 1 ≤ ls.length;omega),by rw [hch,hres]⟩,(by show ls.length - (j + 1) < ls.length - j;omega),by refine sub_of h0 ?_ ?_ ?_ <;> simp only [US,WA,simprocAttr]⟩
 · have hb1 : ¬ (j : Int) < (ls.length : Int):=by omega
   have hres : labRest ls j = true:=by
    have hd : ls.drop j = []:=List.drop_of_length_le (by omega)
    cases j with
    | zero=>rw [List.drop_zero] at hd;rw [labRest,hd];rfl
    | succ k=>rw [labRest,hd];rfl
   unfold labelsB
   rw [hch,hres]
   by_cases h1 : ls.length < 1
   · have g1 : ¬ (0 : Int) < (ls.length : Int):=by omega
     rw [if_pos h1]
     repeat' (first|(with_reducible apply zz1)|((with_reducible refine zz4 ?_ ?_);rfl)|((with_reducible refine zz2 ?_ (fun K' hK'=>?_));rfl;simp only [WA,simprocAttr,hb1,g1,List.length_map,cond_true,cond_false];(repeat (refine And.intro ?_ ?_;focus (clear hK';intros;simp_all;done)));(try (refine hK' _ _ ?_;clear hK' K')))|((with_reducible refine zz3 ?_ ?_);rfl;refine ⟨_,rfl,fun h=>?_,fun h=>?_⟩ <;> try exact absurd h (by decide)))
     simp only [Kret,retL,retOne,oneV,WA,simprocAttr]
   · have g1 : (0 : Int) < (ls.length : Int):=by omega
     rw [if_neg h1]
     by_cases h2 : 6 < ls.length
     · have g2 : ¬ (ls.length : Int) < 7:=by omega
       rw [if_pos h2]
       repeat' (first|(with_reducible apply zz1)|((with_reducible refine zz4 ?_ ?_);rfl)|((with_reducible refine zz2 ?_ (fun K' hK'=>?_));rfl;simp only [WA,simprocAttr,hb1,g1,g2,List.length_map,cond_true,cond_false];(repeat (refine And.intro ?_ ?_;focus (clear hK';intros;simp_all;done)));(try (refine hK' _ _ ?_;clear hK' K')))|((with_reducible refine zz3 ?_ ?_);rfl;refine ⟨_,rfl,fun h=>?_,fun h=>?_⟩ <;> try exact absurd h (by decide)))
       simp only [Kret,retL,retOne,oneV,WA,simprocAttr]
     · have g2 : (ls.length : Int) < 7:=by omega
       rw [if_neg h2]
       repeat' (first|(with_reducible apply zz1)|((with_reducible refine zz4 ?_ ?_);rfl)|((with_reducible refine zz2 ?_ (fun K' hK'=>?_));rfl;simp only [WA,simprocAttr,hb1,g1,g2,List.length_map,cond_true,cond_false];(repeat (refine And.intro ?_ ?_;focus (clear hK';intros;simp_all;done)));(try (refine hK' _ _ ?_;clear hK' K')))|((with_reducible refine zz3 ?_ ?_);rfl;refine ⟨_,rfl,fun h=>?_,fun h=>?_⟩ <;> try exact absurd h (by decide)))
       simp only [Kret,retL,retOne,oneV,WA,simprocAttr]
structure SzN (nm : ByteArray) (ls : List ByteArray) (l : List Tp) : Prop where
 zn : nm.size ≤ 140737488355328
 zl : ls.length ≤ 140737488355328
 zb : ∀ x ∈ ls,x.size ≤ 140737488355328
 zk : l.length ≤ 140737488355328
set_option maxHeartbeats 8000000 in
set_option maxRecDepth 100000 in
theorem part_fn (Γ : Gl) (k so : Int) (nm : ByteArray) (ls : List ByteArray) (l : List Tp) (hz : SzN nm ls l) : DFn Tryd.prog Γ 61 [(Tp.mk k so nm ls l).d] (.v (.bool (shapedB (.mk k so nm ls l)))):=by
 have hll:=Tp.ds_len l
 have hL:=rLabels_fn Γ ls hz.zl hz.zb
 have hV:=rIsVar_fn Γ nm hz.zn
 have z2:=hz.zl
 have z4:=hz.zk
 have w1 : IntKind.i64.wrap ((ls.length : Int) + (l.length : Int)) = (ls.length : Int) + (l.length : Int):=wrap_in (by omega) (by omega)
 obtain ⟨R,hR⟩ : ∃ R,shapedB (.mk k so nm ls l) = R:=⟨_,rfl⟩
 rw [hR]
 simp only [shapedB,kindOf] at hR
 simp only [Tp.d]
 have q1 : ((ls.length : Int) == 0) = decide (ls.length = 0):=by
  rw [Bool.eq_iff_iff,beq_iff_eq,decide_eq_true_iff];omega
 have q2 : ((l.length : Int) == 1) = decide (l.length = 1):=by
  rw [Bool.eq_iff_iff,beq_iff_eq,decide_eq_true_iff];omega
 have q3 : ((l.length : Int) == 2) = decide (l.length = 2):=by
  rw [Bool.eq_iff_iff,beq_iff_eq,decide_eq_true_iff];omega
 have q4 : ((ls.length : Int) + (l.length : Int) == 0) = decide (ls.length + l.length = 0):=by
  rw [Bool.eq_iff_iff,beq_iff_eq,decide_eq_true_iff];omega
 have q5 : ((l.length : Int) == (ls.length : Int)) = decide (l.length = ls.length):=by
  rw [Bool.eq_iff_iff,beq_iff_eq,decide_eq_true_iff];omega
 by_cases h1 : k = 1
 · subst h1
   simp only [if_true,shapeB,sortB,emptyB,if_false,Bool.false_eq_true] at hR
   refine fn_of_swp (N:=147) Tryd.func61 rfl (by decide) rfl rfl (by simp) (fun C h0=>?_)
   simp only [argE]
   repeat' (first|(with_reducible apply zz1)|((with_reducible refine zz4 ?_ ?_);rfl)|((with_reducible refine zz2 ?_ (fun K' hK'=>?_));rfl;simp only [WA,simprocAttr,Int.reduceBEq,hll,w1,List.length_map];(repeat (refine And.intro ?_ ?_;focus (clear hK';intros;simp_all;done)));(try (refine hK' _ _ ?_;clear hK' K')))|((with_reducible refine zz3 ?_ ?_);rfl;refine ⟨_,rfl,fun h=>?_,fun h=>?_⟩ <;> try exact absurd h (by decide)))
   simp only [Kret,retL,retOne,oneV,WA,simprocAttr]
   rw [← hR,q4]
   refine congrArg (fun b=>some (D.v (Value.bool b))) ?_
   generalize (nm.toList == ByteArray.toList ⟨#[]⟩) = em
   by_cases a1 : so = 0 <;> by_cases a2 : l.length = 0 <;> by_cases a3 : ls.length = 0 <;> cases em <;> simp [a1,a2,a3]
 by_cases h23 : k = 2 ∨ k = 3
 · have hk : kindOf k ls.length = some (1,true,false,false):=by unfold kindOf;rw [if_neg h1,if_pos h23]
   simp only [kindOf] at hk
   rw [hk] at hR
   simp only [if_true,shapeB,sortB,emptyB,if_false,Bool.false_eq_true] at hR
   refine fn_of_swp (N:=147) Tryd.func61 rfl (by decide) rfl rfl (by simp) (fun C h0=>?_)
   simp only [argE]
   rcases h23 with rfl | rfl
   all_goals
    repeat' (first|(with_reducible apply zz1)|((with_reducible refine zz4 ?_ ?_);rfl)|((with_reducible refine zz2 ?_ (fun K' hK'=>?_));rfl;simp only [WA,simprocAttr,Int.reduceBEq,hll,w1,List.length_map];(repeat (refine And.intro ?_ ?_;focus (clear hK';intros;simp_all;done)));(try (refine hK' _ _ ?_;clear hK' K')))|((with_reducible refine zz3 ?_ ?_);rfl;refine ⟨_,rfl,fun h=>?_,fun h=>?_⟩ <;> try exact absurd h (by decide)))
    simp only [Kret,retL,retOne,oneV,WA,simprocAttr]
    rw [← hR,q1,q2]
    refine congrArg (fun b=>some (D.v (Value.bool b))) ?_
    generalize (nm.toList == ByteArray.toList ⟨#[]⟩) = em
    by_cases c1 : so = 1
    · subst c1;by_cases a2 : l.length = 1 <;> by_cases a3 : ls.length = 0 <;> cases em <;> simp [a2,a3]
    by_cases c2 : so = 2
    · subst c2;by_cases a2 : l.length = 1 <;> by_cases a3 : ls.length = 0 <;> cases em <;> simp [a2,a3]
    by_cases c3 : so = 3
    · subst c3;by_cases a2 : l.length = 1 <;> by_cases a3 : ls.length = 0 <;> cases em <;> simp [a2,a3]
    have c4 : ¬ (1 ≤ so ∧ so ≤ 3):=by omega
    by_cases c5 : 1 ≤ so
    · have c6 : ¬ so ≤ 3:=by omega
      simp [c1,c2,c3,c6]
    · simp [c1,c2,c3,c5]
 by_cases h45 : k = 4 ∨ k = 5
 · have hk : kindOf k ls.length = some (2,false,false,false):=by unfold kindOf;rw [if_neg h1,if_neg h23,if_pos h45]
   simp only [kindOf] at hk
   rw [hk] at hR
   simp only [if_true,shapeB,sortB,emptyB,if_false,Bool.false_eq_true] at hR
   refine fn_of_swp (N:=147) Tryd.func61 rfl (by decide) rfl rfl (by simp) (fun C h0=>?_)
   simp only [argE]
   rcases h45 with rfl | rfl
   all_goals
    repeat' (first|(with_reducible apply zz1)|((with_reducible refine zz4 ?_ ?_);rfl)|((with_reducible refine zz2 ?_ (fun K' hK'=>?_));rfl;simp only [WA,simprocAttr,Int.reduceBEq,hll,w1,List.length_map];(repeat (refine And.intro ?_ ?_;focus (clear hK';intros;simp_all;done)));(try (refine hK' _ _ ?_;clear hK' K')))|((with_reducible refine zz3 ?_ ?_);rfl;refine ⟨_,rfl,fun h=>?_,fun h=>?_⟩ <;> try exact absurd h (by decide)))
    simp only [Kret,retL,retOne,oneV,WA,simprocAttr]
    rw [← hR,q1,q3]
    refine congrArg (fun b=>some (D.v (Value.bool b))) ?_
    generalize (nm.toList == ByteArray.toList ⟨#[]⟩) = em
    by_cases a1 : so = 0 <;> by_cases a2 : l.length = 2 <;> by_cases a3 : ls.length = 0 <;> cases em <;> simp [a1,a2,a3]
 by_cases h67 : k = 6 ∨ k = 7
 · have hk : kindOf k ls.length = some (ls.length,false,false,true):=by unfold kindOf;rw [if_neg h1,if_neg h23,if_neg h45,if_pos h67]
   simp only [kindOf] at hk
   rw [hk] at hR
   simp only [if_true,shapeB,sortB,emptyB,if_false,Bool.false_eq_true] at hR
   generalize labelsB ls = lb at *
   refine fn_of_swp (N:=147) Tryd.func61 rfl (by decide) rfl rfl (by simp) (fun C h0=>?_)
   simp only [argE]
   rcases h67 with rfl | rfl
   all_goals
    repeat' (first|(with_reducible apply zz1)|((with_reducible refine zz4 ?_ ?_);rfl)|((with_reducible refine zz2 ?_ (fun K' hK'=>?_));rfl;simp only [WA,simprocAttr,Int.reduceBEq,hll,w1,List.length_map];(repeat (refine And.intro ?_ ?_;focus (clear hK';intros;simp_all;done)));(try (refine hK' _ _ ?_;clear hK' K')))|((with_reducible refine zz3 ?_ ?_);rfl;refine ⟨_,rfl,fun h=>?_,fun h=>?_⟩ <;> try exact absurd h (by decide)))
    (with_reducible refine swp_regionA ?_ ( [(10,.v (.bool lb))]) (fun K' hK'=>?_)
     · rfl
     simp only [WA,simprocAttr,UG,hL,hll,List.length_map ]
     (repeat (refine And.intro ?_ ?_;focus (clear hK';intros;simp_all;done)))
     (try (refine hK' _ _ ?_;clear hK' K')))
    repeat' (first|(with_reducible apply zz1)|((with_reducible refine zz4 ?_ ?_);rfl)|((with_reducible refine zz2 ?_ (fun K' hK'=>?_));rfl;simp only [WA,simprocAttr];(repeat (refine And.intro ?_ ?_;focus (clear hK';intros;simp_all;done)));(try (refine hK' _ _ ?_;clear hK' K')))|((with_reducible refine zz3 ?_ ?_);rfl;refine ⟨_,rfl,fun h=>?_,fun h=>?_⟩ <;> try exact absurd h (by decide)))
    simp only [Kret,retL,retOne,oneV,WA,simprocAttr]
    rw [← hR,q5]
    refine congrArg (fun b=>some (D.v (Value.bool b))) ?_
    generalize (nm.toList == ByteArray.toList ⟨#[]⟩) = em
    by_cases a1 : so = 0 <;> by_cases a2 : l.length = ls.length <;> cases lb <;> cases em <;> simp [a1,a2]
 by_cases h8 : k = 8
 · subst h8
   simp only [if_true,shapeB,sortB,emptyB,if_false,Bool.false_eq_true,reduceCtorEq,Int.reduceEq,or_self] at hR
   generalize isVarB nm = lb at *
   refine fn_of_swp (N:=147) Tryd.func61 rfl (by decide) rfl rfl (by simp) (fun C h0=>?_)
   simp only [argE]
   repeat' (first|(with_reducible apply zz1)|((with_reducible refine zz4 ?_ ?_);rfl)|((with_reducible refine zz2 ?_ (fun K' hK'=>?_));rfl;simp only [WA,simprocAttr,Int.reduceBEq,hll,w1,List.length_map];(repeat (refine And.intro ?_ ?_;focus (clear hK';intros;simp_all;done)));(try (refine hK' _ _ ?_;clear hK' K')))|((with_reducible refine zz3 ?_ ?_);rfl;refine ⟨_,rfl,fun h=>?_,fun h=>?_⟩ <;> try exact absurd h (by decide)))
   (with_reducible refine swp_regionA ?_ ( [(5,.v (.bool lb))]) (fun K' hK'=>?_)
    · rfl
    simp only [WA,simprocAttr,UG,hV,hll,List.length_map ]
    (repeat (refine And.intro ?_ ?_;focus (clear hK';intros;simp_all;done)))
    (try (refine hK' _ _ ?_;clear hK' K')))
   repeat' (first|(with_reducible apply zz1)|((with_reducible refine zz4 ?_ ?_);rfl)|((with_reducible refine zz2 ?_ (fun K' hK'=>?_));rfl;simp only [WA,simprocAttr];(repeat (refine And.intro ?_ ?_;focus (clear hK';intros;simp_all;done)));(try (refine hK' _ _ ?_;clear hK' K')))|((with_reducible refine zz3 ?_ ?_);rfl;refine ⟨_,rfl,fun h=>?_,fun h=>?_⟩ <;> try exact absurd h (by decide)))
   simp only [Kret,retL,retOne,oneV,WA,simprocAttr]
   rw [← hR,q1,q2]
   refine congrArg (fun b=>some (D.v (Value.bool b))) ?_
   by_cases a1 : so = 0 <;> by_cases a2 : l.length = 1 <;> by_cases a3 : ls.length = 0 <;> cases lb <;> simp [a1,a2,a3]
 by_cases h9 : k = 9
 · subst h9
   simp only [if_true,shapeB,sortB,emptyB,if_false,Bool.false_eq_true,reduceCtorEq,Int.reduceEq,or_self] at hR
   generalize isVarB nm = lb at *
   refine fn_of_swp (N:=147) Tryd.func61 rfl (by decide) rfl rfl (by simp) (fun C h0=>?_)
   simp only [argE]
   repeat' (first|(with_reducible apply zz1)|((with_reducible refine zz4 ?_ ?_);rfl)|((with_reducible refine zz2 ?_ (fun K' hK'=>?_));rfl;simp only [WA,simprocAttr,Int.reduceBEq,hll,w1,List.length_map];(repeat (refine And.intro ?_ ?_;focus (clear hK';intros;simp_all;done)));(try (refine hK' _ _ ?_;clear hK' K')))|((with_reducible refine zz3 ?_ ?_);rfl;refine ⟨_,rfl,fun h=>?_,fun h=>?_⟩ <;> try exact absurd h (by decide)))
   (with_reducible refine swp_regionA ?_ ( [(5,.v (.bool lb))]) (fun K' hK'=>?_)
    · rfl
    simp only [WA,simprocAttr,UG,hV,hll,w1,List.length_map ]
    (repeat (refine And.intro ?_ ?_;focus (clear hK';intros;simp_all;done)))
    (try (refine hK' _ _ ?_;clear hK' K')))
   repeat' (first|(with_reducible apply zz1)|((with_reducible refine zz4 ?_ ?_);rfl)|((with_reducible refine zz2 ?_ (fun K' hK'=>?_));rfl;simp only [WA,simprocAttr];(repeat (refine And.intro ?_ ?_;focus (clear hK';intros;simp_all;done)));(try (refine hK' _ _ ?_;clear hK' K')))|((with_reducible refine zz3 ?_ ?_);rfl;refine ⟨_,rfl,fun h=>?_,fun h=>?_⟩ <;> try exact absurd h (by decide)))
   simp only [Kret,retL,retOne,oneV,WA,simprocAttr]
   rw [← hR,q4]
   refine congrArg (fun b=>some (D.v (Value.bool b))) ?_
   by_cases a1 : so = 0 <;> by_cases a2 : l.length = 0 <;> by_cases a3 : ls.length = 0 <;> cases lb <;> simp [a1,a2,a3]
 have hk : kindOf k ls.length = none:=by unfold kindOf;rw [if_neg h1,if_neg h23,if_neg h45,if_neg h67,if_neg h8,if_neg h9]
 simp only [kindOf] at hk
 rw [hk] at hR
 subst hR
 have g1 : (k == 1) = false:=by rw [beq_eq_false_iff_ne];omega
 have g2 : (k == 2) = false:=by rw [beq_eq_false_iff_ne];omega
 have g3 : (k == 3) = false:=by rw [beq_eq_false_iff_ne];omega
 have g4 : (k == 4) = false:=by rw [beq_eq_false_iff_ne];omega
 have g5 : (k == 5) = false:=by rw [beq_eq_false_iff_ne];omega
 have g6 : (k == 6) = false:=by rw [beq_eq_false_iff_ne];omega
 have g7 : (k == 7) = false:=by rw [beq_eq_false_iff_ne];omega
 have g8 : (k == 8) = false:=by rw [beq_eq_false_iff_ne];omega
 have g9 : (k == 9) = false:=by rw [beq_eq_false_iff_ne];omega
 refine fn_of_swp (N:=147) Tryd.func61 rfl (by decide) rfl rfl (by simp) (fun C h0=>?_)
 simp only [argE]
 repeat' (first|(with_reducible apply zz1)|((with_reducible refine zz4 ?_ ?_);rfl)|((with_reducible refine zz2 ?_ (fun K' hK'=>?_));rfl;simp only [WA,simprocAttr,g1,g2,g3,g4,g5,g6,g7,g8,g9];(repeat (refine And.intro ?_ ?_;focus (clear hK';intros;simp_all;done)));(try (refine hK' _ _ ?_;clear hK' K')))|((with_reducible refine zz3 ?_ ?_);rfl;refine ⟨_,rfl,fun h=>?_,fun h=>?_⟩ <;> try exact absurd h (by decide)))
 simp only [Kret,retL,retOne,oneV,WA,simprocAttr]
end Go.Proofs.YtgecnlcbdbaneaaDoor
