/- slices.Clone of texts and of numbers, strconv.Itoa of small numbers, as contracts of plain data; a symbolic walk. -/
-- TYPESA
import Derived.Test.YtdcplkefmpjppaaGreatDoorU5
import Derived.Test.YtdcplkefmpjppaaGreatDoorSwD
import Derived.Test.YtdcplkefmpjppaaGreatDoorShelfI
set_option linter.unusedVariables false
set_option linter.unusedSimpArgs false
namespace Go.Proofs.YtdcplkefmpjppaaGreatDoor
open Go.RowKit Go.Sw
open Go.Sw renaming swp_seq → zw0, swp_block → zw1, swp_skip → zw2, swp_exit → zw4, swp_label → zw5, kseq_n → zw6, kseq_x → zw7, kseq_r → zw8, kblk_n → zw9, kblk_r → zw10, kblk_xs → zw11, kblk_xn → zw12, kloop_x → zw13, kloop_r → zw14, swp_cond → zw15, swp_regionP → zw16

set_option maxHeartbeats 4000000 in
set_option maxRecDepth 100000 in
theorem cloneS_d (Γ : Gl) (l : List ByteArray) (hl : l.length * 16 ≤ 140737488355328) : DFn Tryz.prog Γ 36 [.slc (l.map sD)] (.slc (l.map sD)):=by
 refine fn_of_swp (N:=8) Tryz.func36 rfl (by decide) rfl rfl (by simp) (fun C h0=>?_)
 simp only [argE]
 repeat' (first|(with_reducible first|apply zw0|apply zw1|apply zw2|apply zw4|apply zw5|apply zw6|apply zw7|apply zw8|apply zw9|apply zw10|apply zw11|apply zw13|apply zw14)|((with_reducible refine zw12 ?_ ?_);rfl)|((with_reducible refine zw16 ?_ ?_ (fun K' hK'=>?_));rfl;rfl;simp only [WA,simprocAttr];(repeat (constructor;focus (clear hK';intros;simp_all;done)));(try (apply hK';clear hK' K')))|((with_reducible refine zw15 ?_ ?_);rfl;refine ⟨_,rfl,fun h=>?_,fun h=>?_⟩ <;> try exact absurd h (by decide)))
 refine stop_nilcmp un22 rfl rfl trivial (fun b hb=>?_)
 simp only [WA,simprocAttr]
 refine hK' _ _ ?_
 clear hK' K'
 cases l with
 | nil =>
  repeat' (first|(with_reducible apply zz1)|((with_reducible apply zz2);rfl;intro K' hK';simp only [WA,simprocAttr];(repeat (constructor;focus (clear hK';intros;simp_all;done)));(try (apply hK';clear hK' K')))|((with_reducible apply zz3);rfl;all_goals (intro h;try exact absurd h (by decide))))
  · simp only [Kret,retL,retOne,oneV,WA,simprocAttr,List.map_nil]
  · simp only [Kret,retL,retOne,oneV,WA,simprocAttr,List.map_nil]
 | cons x l =>
  have hb:=hb (by simp)
  subst hb
  have hm1 : (l.length + 1) * 16 ≤ 140737488355328:=by simpa using hl
  have hm2 : l.length + 1 ≤ maxLen:=by unfold maxLen;omega
  have hfit : ∀ d ∈ (x :: l).map sD,D.fits 1 d:=by
   intro d hd
   obtain ⟨y, -,rfl⟩:=List.mem_map.1 hd
   exact ⟨rfl,trivial⟩
  simp only [List.map_cons] at hfit
  repeat' (first|(with_reducible apply zz1)|((with_reducible apply zz2);rfl;intro K' hK';simp only [WA,simprocAttr,List.length_map,hm1,hm2];(repeat (constructor;focus (clear hK';intros;simp_all;done)));(try (apply hK';clear hK' K')))|((with_reducible apply zz3);rfl;all_goals (intro h;try exact absurd h (by decide))))
  refine ⟨hfit,?_⟩
  refine hK' _ _ ?_
  clear hK' K'
  repeat' (first|(with_reducible apply zz1)|((with_reducible apply zz2);rfl;intro K' hK';simp only [WA,simprocAttr];(repeat (constructor;focus (clear hK';intros;simp_all;done)));(try (apply hK';clear hK' K')))|((with_reducible apply zz3);rfl;all_goals (intro h;try exact absurd h (by decide))))
  simp only [Kret,retL,retOne,oneV,WA,simprocAttr,List.map_cons]

set_option maxHeartbeats 4000000 in
set_option maxRecDepth 100000 in
theorem cloneI_fn (Γ : Gl) (l : List Int) (hl : l.length * 8 ≤ 140737488355328) : SFn Tryz.prog Γ 77 [.d (.slc (l.map iD))] [] (.own 0) [(0,.row 1 (l.map iD))]:=by
 refine sfn_of_swp (N:=8) Tryz.func77 rfl (by decide) rfl rfl (by simp) (fun C h0=>?_)
 simp only [argS]
 repeat' (first|(with_reducible first|apply zw0|apply zw1|apply zw2|apply zw4|apply zw5|apply zw6|apply zw7|apply zw8|apply zw9|apply zw10|apply zw11|apply zw13|apply zw14)|((with_reducible refine zw12 ?_ ?_);rfl)|((with_reducible refine zw16 ?_ ?_ (fun K' hK'=>?_));rfl;rfl;simp only [WA,simprocAttr];(repeat (constructor;focus (clear hK';intros;simp_all;done)));(try (apply hK';clear hK' K')))|((with_reducible refine zw15 ?_ ?_);rfl;refine ⟨_,rfl,fun h=>?_,fun h=>?_⟩ <;> try exact absurd h (by decide)))
 refine stop_nilcmp un44 rfl rfl trivial (fun b hb=>?_)
 simp only [WA,simprocAttr]
 refine hK' _ _ ?_
 clear hK' K'
 cases l with
 | nil =>
  repeat' (first|(with_reducible first|apply zw0|apply zw1|apply zw2|apply zw4|apply zw5|apply zw6|apply zw7|apply zw8|apply zw9|apply zw10|apply zw11|apply zw13|apply zw14)|((with_reducible refine zw12 ?_ ?_);rfl)|((with_reducible refine zw16 ?_ ?_ (fun K' hK'=>?_));rfl;rfl;simp only [WA,simprocAttr];(repeat (constructor;focus (clear hK';intros;simp_all;done)));(try (apply hK';clear hK' K')))|((with_reducible refine zw15 ?_ ?_);rfl;refine ⟨_,rfl,fun h=>?_,fun h=>?_⟩ <;> try exact absurd h (by decide)))
  · refine swp_nil 2 0 1 rfl rfl (by decide) ?_
    simp only [WA,simprocAttr]
    repeat' (first|(with_reducible apply zz1)|((with_reducible apply zz2);rfl;intro K' hK';simp only [WA,simprocAttr];(repeat (constructor;focus (clear hK';intros;simp_all;done)));(try (apply hK';clear hK' K')))|((with_reducible apply zz3);rfl;all_goals (intro h;try exact absurd h (by decide))))
    simp only [KretS,retL,retOne,oneV,US,WA,simprocAttr,h0,List.map_nil]
  · repeat' (first|(with_reducible first|apply zw0|apply zw1|apply zw2|apply zw4|apply zw5|apply zw6|apply zw7|apply zw8|apply zw9|apply zw10|apply zw11|apply zw13|apply zw14)|((with_reducible refine zw12 ?_ ?_);rfl)|((with_reducible refine zw16 ?_ ?_ (fun K' hK'=>?_));rfl;rfl;simp only [WA,simprocAttr];(repeat (constructor;focus (clear hK';intros;simp_all;done)));(try (apply hK';clear hK' K')))|((with_reducible refine zw15 ?_ ?_);rfl;refine ⟨_,rfl,fun h=>?_,fun h=>?_⟩ <;> try exact absurd h (by decide)))
    refine swp_ret ?_
    simp only [KretS,retL,retOne,oneV,US,WA,simprocAttr,h0,List.map_nil]
 | cons x l =>
  have hb:=hb (by simp)
  subst hb
  have hm1 : (l.length + 1) * 8 ≤ 140737488355328:=by simpa using hl
  have hm2 : l.length + 1 ≤ maxLen:=by unfold maxLen;omega
  have hfit : ∀ d ∈ (x :: l).map iD,D.fits 1 d:=by
   intro d hd
   obtain ⟨y, -,rfl⟩:=List.mem_map.1 hd
   exact ⟨rfl,trivial⟩
  simp only [List.map_cons] at hfit
  repeat' (first|(with_reducible apply zz1)|((with_reducible apply zz2);rfl;intro K' hK';simp only [WA,simprocAttr,List.length_map,hm1,hm2];(repeat (constructor;focus (clear hK';intros;simp_all;done)));(try (apply hK';clear hK' K')))|((with_reducible apply zz3);rfl;all_goals (intro h;try exact absurd h (by decide))))
  refine ⟨hfit,?_⟩
  refine hK' _ _ ?_
  clear hK' K'
  repeat' (first|(with_reducible apply zz1)|((with_reducible apply zz2);rfl;intro K' hK';simp only [WA,simprocAttr];(repeat (constructor;focus (clear hK';intros;simp_all;done)));(try (apply hK';clear hK' K')))|((with_reducible apply zz3);rfl;all_goals (intro h;try exact absurd h (by decide))))
  simp only [KretS,retL,retOne,oneV,US,WA,simprocAttr,h0,List.map_cons]
def numS (n : Int) : ByteArray:=packS (Lib.decDigits n.toNat)
theorem itoa_fn (Γ : Gl) (n : Int) (h0 : 0 ≤ n) (h1 : n < 100) : DFn Tryz.prog Γ 89 [iD n] (sD (numS n)) :=
 dfn_of (by kernel_rfl) rfl rfl fun w h=>by
  have:=Tryz.strconv_Itoa_small n.toNat (by omega) w
  rw [show ((n.toNat : Nat) : Int) = n by omega] at this
  exact this.mono fun e w' ⟨he,hw⟩=>⟨he,by subst hw;exact Below.refl _ _⟩
end Go.Proofs.YtdcplkefmpjppaaGreatDoor
