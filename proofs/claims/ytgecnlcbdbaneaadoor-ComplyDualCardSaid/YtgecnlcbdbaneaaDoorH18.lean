/- dual.Of, below.Graphs, the law BelowDual; a symbolic walk. -/
-- TYPESA
import Derived.Test.YtgecnlcbdbaneaaDoorH17
import Derived.Test.YtgecnlcbdbaneaaDoorH15
import Derived.Test.YtgecnlcbdbaneaaDoorHG
set_option linter.unusedVariables false
set_option linter.unusedSimpArgs false
namespace Go.Proofs.YtgecnlcbdbaneaaDoor
open Go.RowKit Go.Sw
open Nat renaming reduceBEq → zn0, reduceLeDiff → zn1, reduceAdd → zn2, reduceSub → zn3, reduceMul → zn4
open Int renaming reduceLE → zi0, reduceLT → zi1, reduceToNat → zi2
open Go.Sw renaming swp_seq → zw0, swp_block → zw1, swp_skip → zw2, swp_ret → zw3, swp_exit → zw4, swp_label → zw5, kseq_n → zw6, kseq_x → zw7, kseq_r → zw8, kblk_n → zw9, kblk_r → zw10, kblk_xs → zw11, kblk_xn → zw12, kloop_x → zw13, kloop_r → zw14, swp_cond → zw15, swp_regionP → zw16

def dG (x : Tp) : List Nd:=if tCheck x = 0 then leastP (dualRaw (ofP x)) else []
theorem dG_good {x : Tp} (h : tCheck x = 0) : 0 < (dG x).length ∧ (dG x).length ≤ 120 ∧ (∀ n ∈ dG x,NdG (dG x).length n) ∧ ShG (dG x) ∧ ∀ n,obs (dG x) n 0 = dT n (trT x n):=by
  obtain ⟨a1,a2,a3⟩:=ofP_good h
  have hd:=dual_good a3 (ofP_sh h)
  have hl:=dualRaw_len (ofP x)
  have:=least_good (g:=dualRaw (ofP x)) (by omega) hd.1
  unfold dG
  rw [if_pos h]
  refine ⟨this.1,by omega,this.2.2,least_sh hd.1 (by omega) hd.2,fun n=>?_⟩
  rw [least_obs hd.1 (by omega),obs_dual a3 n 0 (by decide) (by omega),ofP_obs h]
set_option maxHeartbeats 8000000 in
set_option maxRecDepth 100000 in
theorem dOf_fn (Γ : Gl) (hΓ : PowT Γ) (x : Tp) : DFn Tryd.prog Γ 22 [x.d] (.tup [.slc ((dG x).map Nd.d),iD (tCheck x)]):=by
  have ho:=of_fn Γ x
  unfold OfFn at ho
  have hd : tCheck x = 0 → DFn Tryd.prog Γ 27 [.slc ((ofP x).map Nd.d)] (.tup [.slc ((dG x).map Nd.d),iD 0]):=fun h=>by
    obtain ⟨a1,a2,a3⟩:=ofP_good h
    have:=dual_fn Γ hΓ (ofP x) a1 (by omega) a3 (ofP_sh h)
    unfold dG
    rw [if_pos h]
    exact this
  have hz : tCheck x ≠ 0 → (dG x).map Nd.d = []:=fun h=>by unfold dG;rw [if_neg h];rfl
  generalize (dG x).map Nd.d = B at *
  generalize (ofP x).map Nd.d = A at *
  generalize tCheck x = c at *
  obtain ⟨k,so,nm,ls,l⟩:=x
  simp only [Tp.d] at ho ⊢
  by_cases hc : c = 0
  · have hd':=hd hc
    clear hd
    subst hc
    refine fn_of_swp (N:=18) Tryd.func22 rfl (by decide) rfl rfl (by simp) (fun C h0=>?_)
    simp only [argE]
    repeat' (first|(with_reducible first|apply zw0|apply zw1|apply zw2|apply zw3|apply zw4|apply zw5|apply zw6|apply zw7|apply zw8|apply zw9|apply zw10|apply zw11|apply zw13|apply zw14)|((with_reducible refine zw12 ?_ ?_);rfl)|((with_reducible refine zw16 ?_ ?_ (fun K' hK'=>?_));rfl;rfl;simp only [UN,LM,zn0,zn1,zi0,zi1,zi2,zn2,zn3,zn4,reduceCtorEq,TAS];(repeat (refine And.intro ?_ ?_;focus (clear hK';intros;simp_all;done)));(try (refine hK' _ _ ?_;clear hK' K')))|((with_reducible refine zw15 ?_ ?_);rfl;refine ⟨_,rfl,fun h=>?_,fun h=>?_⟩ <;> try exact absurd h (by decide)))
    refine stop_call h0 rfl (by simp only [UN,LM,zn0,zn1,zi0,zi1,zi2,zn2,zn3,zn4,reduceCtorEq]) rfl (by simp only [keepS,UN,LM,zn0,zn1,zi0,zi1,zi2,zn2,zn3,zn4,reduceCtorEq]) (ho) ?_
    simp only [UN,LM,zn0,zn1,zi0,zi1,zi2,zn2,zn3,zn4,reduceCtorEq,TAS,inX,dropS, ]
    (repeat (refine And.intro ?_ ?_;focus (clear hK';intros;simp_all;done)))
    (try (refine hK' _ _ ?_;clear hK' K'))
    repeat' (first|(with_reducible first|apply zw0|apply zw1|apply zw2|apply zw3|apply zw4|apply zw5|apply zw6|apply zw7|apply zw8|apply zw9|apply zw10|apply zw11|apply zw13|apply zw14)|((with_reducible refine zw12 ?_ ?_);rfl)|((with_reducible refine zw16 ?_ ?_ (fun K' hK'=>?_));rfl;rfl;simp only [UN,LM,zn0,zn1,zi0,zi1,zi2,zn2,zn3,zn4,reduceCtorEq,TAS,bne_self_eq_false];(repeat (refine And.intro ?_ ?_;focus (clear hK';intros;simp_all;done)));(try (refine hK' _ _ ?_;clear hK' K')))|((with_reducible refine zw15 ?_ ?_);rfl;refine ⟨_,rfl,fun h=>?_,fun h=>?_⟩ <;> try exact absurd h (by decide)))
    refine stop_call h0 rfl (by simp only [UN,LM,zn0,zn1,zi0,zi1,zi2,zn2,zn3,zn4,reduceCtorEq]) rfl (by simp only [keepS,UN,LM,zn0,zn1,zi0,zi1,zi2,zn2,zn3,zn4,reduceCtorEq]) (hd') ?_
    simp only [UN,LM,zn0,zn1,zi0,zi1,zi2,zn2,zn3,zn4,reduceCtorEq,TAS,inX,dropS, ]
    (repeat (refine And.intro ?_ ?_;focus (clear hK';intros;simp_all;done)))
    (try (refine hK' _ _ ?_;clear hK' K'))
    repeat' (first|(with_reducible first|apply zw0|apply zw1|apply zw2|apply zw3|apply zw4|apply zw5|apply zw6|apply zw7|apply zw8|apply zw9|apply zw10|apply zw11|apply zw13|apply zw14)|((with_reducible refine zw12 ?_ ?_);rfl)|((with_reducible refine zw16 ?_ ?_ (fun K' hK'=>?_));rfl;rfl;simp only [UN,LM,zn0,zn1,zi0,zi1,zi2,zn2,zn3,zn4,reduceCtorEq,TAS];(repeat (refine And.intro ?_ ?_;focus (clear hK';intros;simp_all;done)));(try (refine hK' _ _ ?_;clear hK' K')))|((with_reducible refine zw15 ?_ ?_);rfl;refine ⟨_,rfl,fun h=>?_,fun h=>?_⟩ <;> try exact absurd h (by decide)))
    simp only [Kret,retL,retOne,oneV,UN,LM,zn0,zn1,zi0,zi1,zi2,zn2,zn3,zn4,reduceCtorEq,TAS]
  · have g1 : (c != 0) = true:=by simpa using hc
    rw [hz hc]
    refine fn_of_swp (N:=18) Tryd.func22 rfl (by decide) rfl rfl (by simp) (fun C h0=>?_)
    simp only [argE]
    repeat' (first|(with_reducible first|apply zw0|apply zw1|apply zw2|apply zw3|apply zw4|apply zw5|apply zw6|apply zw7|apply zw8|apply zw9|apply zw10|apply zw11|apply zw13|apply zw14)|((with_reducible refine zw12 ?_ ?_);rfl)|((with_reducible refine zw16 ?_ ?_ (fun K' hK'=>?_));rfl;rfl;simp only [UN,LM,zn0,zn1,zi0,zi1,zi2,zn2,zn3,zn4,reduceCtorEq,TAS];(repeat (refine And.intro ?_ ?_;focus (clear hK';intros;simp_all;done)));(try (refine hK' _ _ ?_;clear hK' K')))|((with_reducible refine zw15 ?_ ?_);rfl;refine ⟨_,rfl,fun h=>?_,fun h=>?_⟩ <;> try exact absurd h (by decide)))
    refine stop_call h0 rfl (by simp only [UN,LM,zn0,zn1,zi0,zi1,zi2,zn2,zn3,zn4,reduceCtorEq]) rfl (by simp only [keepS,UN,LM,zn0,zn1,zi0,zi1,zi2,zn2,zn3,zn4,reduceCtorEq]) (ho) ?_
    simp only [UN,LM,zn0,zn1,zi0,zi1,zi2,zn2,zn3,zn4,reduceCtorEq,TAS,inX,dropS, ]
    (repeat (refine And.intro ?_ ?_;focus (clear hK';intros;simp_all;done)))
    (try (refine hK' _ _ ?_;clear hK' K'))
    repeat' (first|(with_reducible first|apply zw0|apply zw1|apply zw2|apply zw3|apply zw4|apply zw5|apply zw6|apply zw7|apply zw8|apply zw9|apply zw10|apply zw11|apply zw13|apply zw14)|((with_reducible refine zw12 ?_ ?_);rfl)|((with_reducible refine zw16 ?_ ?_ (fun K' hK'=>?_));rfl;rfl;simp only [UN,LM,zn0,zn1,zi0,zi1,zi2,zn2,zn3,zn4,reduceCtorEq,TAS,g1];(repeat (refine And.intro ?_ ?_;focus (clear hK';intros;simp_all;done)));(try (refine hK' _ _ ?_;clear hK' K')))|((with_reducible refine zw15 ?_ ?_);rfl;refine ⟨_,rfl,fun h=>?_,fun h=>?_⟩ <;> try exact absurd h (by decide)))
    simp only [Kret,retL,retOne,oneV,UN,LM,zn0,zn1,zi0,zi1,zi2,zn2,zn3,zn4,reduceCtorEq,TAS]
set_option maxHeartbeats 8000000 in
set_option maxRecDepth 100000 in
theorem graphs_fn (Γ : Gl) (a b : List Nd) (a0 : 0 < a.length) (b0 : 0 < b.length) (a1 : a.length ≤ 200) (b1 : b.length ≤ 200) (ha : ∀ n ∈ a,NdG a.length n) (hb : ∀ n ∈ b,NdG b.length n) (sa : ShG a) (sb : ShG b) :
    DFn Tryd.prog Γ 25 [.slc (a.map Nd.d),.slc (b.map Nd.d)] (.tup [bD (whyP a b).isNone,iD 0]):=by
  have hc1:=gcheck_fn Γ a a0 a1 ha sa
  have hc2:=gcheck_fn Γ b b0 b1 hb sb
  have hw:=why_fn Γ a b (by omega) (by omega) a0 b0 (fits_ok a0 b0 ha hb)
  generalize whyP a b = r at *
  generalize a.map Nd.d = A at *
  generalize b.map Nd.d = B at *
  cases r with
  | none =>
    simp only [whyA] at hw
    refine fn_of_swp (N:=29) Tryd.func25 rfl (by decide) rfl rfl (by simp) (fun C h0=>?_)
    simp only [argE]
    repeat' (first|(with_reducible first|apply zw0|apply zw1|apply zw2|apply zw3|apply zw4|apply zw5|apply zw6|apply zw7|apply zw8|apply zw9|apply zw10|apply zw11|apply zw13|apply zw14)|((with_reducible refine zw12 ?_ ?_);rfl)|((with_reducible refine zw16 ?_ ?_ (fun K' hK'=>?_));rfl;rfl;simp only [UN,LM,zn0,zn1,zi0,zi1,zi2,zn2,zn3,zn4,reduceCtorEq,TAS];(repeat (refine And.intro ?_ ?_;focus (clear hK';intros;simp_all;done)));(try (refine hK' _ _ ?_;clear hK' K')))|((with_reducible refine zw15 ?_ ?_);rfl;refine ⟨_,rfl,fun h=>?_,fun h=>?_⟩ <;> try exact absurd h (by decide)))
    refine stop_callF rfl (by simp only [UN,LM,zn0,zn1,zi0,zi1,zi2,zn2,zn3,zn4,reduceCtorEq]) rfl rfl (hc1) ?_
    simp only [UN,LM,zn0,zn1,zi0,zi1,zi2,zn2,zn3,zn4,reduceCtorEq,TAS,inX,dropS,bne_self_eq_false]
    (repeat (refine And.intro ?_ ?_;focus (clear hK';intros;simp_all;done)))
    (try (refine hK' _ _ ?_;clear hK' K'))
    repeat' (first|(with_reducible first|apply zw0|apply zw1|apply zw2|apply zw3|apply zw4|apply zw5|apply zw6|apply zw7|apply zw8|apply zw9|apply zw10|apply zw11|apply zw13|apply zw14)|((with_reducible refine zw12 ?_ ?_);rfl)|((with_reducible refine zw16 ?_ ?_ (fun K' hK'=>?_));rfl;rfl;simp only [UN,LM,zn0,zn1,zi0,zi1,zi2,zn2,zn3,zn4,reduceCtorEq,TAS,bne_self_eq_false];(repeat (refine And.intro ?_ ?_;focus (clear hK';intros;simp_all;done)));(try (refine hK' _ _ ?_;clear hK' K')))|((with_reducible refine zw15 ?_ ?_);rfl;refine ⟨_,rfl,fun h=>?_,fun h=>?_⟩ <;> try exact absurd h (by decide)))
    refine stop_callF rfl (by simp only [UN,LM,zn0,zn1,zi0,zi1,zi2,zn2,zn3,zn4,reduceCtorEq]) rfl rfl (hc2) ?_
    simp only [UN,LM,zn0,zn1,zi0,zi1,zi2,zn2,zn3,zn4,reduceCtorEq,TAS,inX,dropS,bne_self_eq_false]
    (repeat (refine And.intro ?_ ?_;focus (clear hK';intros;simp_all;done)))
    (try (refine hK' _ _ ?_;clear hK' K'))
    repeat' (first|(with_reducible first|apply zw0|apply zw1|apply zw2|apply zw3|apply zw4|apply zw5|apply zw6|apply zw7|apply zw8|apply zw9|apply zw10|apply zw11|apply zw13|apply zw14)|((with_reducible refine zw12 ?_ ?_);rfl)|((with_reducible refine zw16 ?_ ?_ (fun K' hK'=>?_));rfl;rfl;simp only [UN,LM,zn0,zn1,zi0,zi1,zi2,zn2,zn3,zn4,reduceCtorEq,TAS,bne_self_eq_false];(repeat (refine And.intro ?_ ?_;focus (clear hK';intros;simp_all;done)));(try (refine hK' _ _ ?_;clear hK' K')))|((with_reducible refine zw15 ?_ ?_);rfl;refine ⟨_,rfl,fun h=>?_,fun h=>?_⟩ <;> try exact absurd h (by decide)))
    refine stop_call h0 rfl (by simp only [UN,LM,zn0,zn1,zi0,zi1,zi2,zn2,zn3,zn4,reduceCtorEq]) rfl (by simp only [keepS,UN,LM,zn0,zn1,zi0,zi1,zi2,zn2,zn3,zn4,reduceCtorEq]) (hw) ?_
    simp only [UN,LM,zn0,zn1,zi0,zi1,zi2,zn2,zn3,zn4,reduceCtorEq,TAS,inX,dropS, ]
    (repeat (refine And.intro ?_ ?_;focus (clear hK';intros;simp_all;done)))
    (try (refine hK' _ _ ?_;clear hK' K'))
    repeat' (first|(with_reducible first|apply zw0|apply zw1|apply zw2|apply zw3|apply zw4|apply zw5|apply zw6|apply zw7|apply zw8|apply zw9|apply zw10|apply zw11|apply zw13|apply zw14)|((with_reducible refine zw12 ?_ ?_);rfl)|((with_reducible refine zw16 ?_ ?_ (fun K' hK'=>?_));rfl;rfl;simp only [UN,LM,zn0,zn1,zi0,zi1,zi2,zn2,zn3,zn4,reduceCtorEq,TAS];(repeat (refine And.intro ?_ ?_;focus (clear hK';intros;simp_all;done)));(try (refine hK' _ _ ?_;clear hK' K')))|((with_reducible refine zw15 ?_ ?_);rfl;refine ⟨_,rfl,fun h=>?_,fun h=>?_⟩ <;> try exact absurd h (by decide)))
    simp only [Kret,retL,retOne,oneV,UN,LM,zn0,zn1,zi0,zi1,zi2,zn2,zn3,zn4,reduceCtorEq,TAS]
    rfl
  | some w =>
    simp only [whyA] at hw
    refine fn_of_swp (N:=29) Tryd.func25 rfl (by decide) rfl rfl (by simp) (fun C h0=>?_)
    simp only [argE]
    repeat' (first|(with_reducible first|apply zw0|apply zw1|apply zw2|apply zw3|apply zw4|apply zw5|apply zw6|apply zw7|apply zw8|apply zw9|apply zw10|apply zw11|apply zw13|apply zw14)|((with_reducible refine zw12 ?_ ?_);rfl)|((with_reducible refine zw16 ?_ ?_ (fun K' hK'=>?_));rfl;rfl;simp only [UN,LM,zn0,zn1,zi0,zi1,zi2,zn2,zn3,zn4,reduceCtorEq,TAS];(repeat (refine And.intro ?_ ?_;focus (clear hK';intros;simp_all;done)));(try (refine hK' _ _ ?_;clear hK' K')))|((with_reducible refine zw15 ?_ ?_);rfl;refine ⟨_,rfl,fun h=>?_,fun h=>?_⟩ <;> try exact absurd h (by decide)))
    refine stop_callF rfl (by simp only [UN,LM,zn0,zn1,zi0,zi1,zi2,zn2,zn3,zn4,reduceCtorEq]) rfl rfl (hc1) ?_
    simp only [UN,LM,zn0,zn1,zi0,zi1,zi2,zn2,zn3,zn4,reduceCtorEq,TAS,inX,dropS,bne_self_eq_false]
    (repeat (refine And.intro ?_ ?_;focus (clear hK';intros;simp_all;done)))
    (try (refine hK' _ _ ?_;clear hK' K'))
    repeat' (first|(with_reducible first|apply zw0|apply zw1|apply zw2|apply zw3|apply zw4|apply zw5|apply zw6|apply zw7|apply zw8|apply zw9|apply zw10|apply zw11|apply zw13|apply zw14)|((with_reducible refine zw12 ?_ ?_);rfl)|((with_reducible refine zw16 ?_ ?_ (fun K' hK'=>?_));rfl;rfl;simp only [UN,LM,zn0,zn1,zi0,zi1,zi2,zn2,zn3,zn4,reduceCtorEq,TAS,bne_self_eq_false];(repeat (refine And.intro ?_ ?_;focus (clear hK';intros;simp_all;done)));(try (refine hK' _ _ ?_;clear hK' K')))|((with_reducible refine zw15 ?_ ?_);rfl;refine ⟨_,rfl,fun h=>?_,fun h=>?_⟩ <;> try exact absurd h (by decide)))
    refine stop_callF rfl (by simp only [UN,LM,zn0,zn1,zi0,zi1,zi2,zn2,zn3,zn4,reduceCtorEq]) rfl rfl (hc2) ?_
    simp only [UN,LM,zn0,zn1,zi0,zi1,zi2,zn2,zn3,zn4,reduceCtorEq,TAS,inX,dropS,bne_self_eq_false]
    (repeat (refine And.intro ?_ ?_;focus (clear hK';intros;simp_all;done)))
    (try (refine hK' _ _ ?_;clear hK' K'))
    repeat' (first|(with_reducible first|apply zw0|apply zw1|apply zw2|apply zw3|apply zw4|apply zw5|apply zw6|apply zw7|apply zw8|apply zw9|apply zw10|apply zw11|apply zw13|apply zw14)|((with_reducible refine zw12 ?_ ?_);rfl)|((with_reducible refine zw16 ?_ ?_ (fun K' hK'=>?_));rfl;rfl;simp only [UN,LM,zn0,zn1,zi0,zi1,zi2,zn2,zn3,zn4,reduceCtorEq,TAS,bne_self_eq_false];(repeat (refine And.intro ?_ ?_;focus (clear hK';intros;simp_all;done)));(try (refine hK' _ _ ?_;clear hK' K')))|((with_reducible refine zw15 ?_ ?_);rfl;refine ⟨_,rfl,fun h=>?_,fun h=>?_⟩ <;> try exact absurd h (by decide)))
    refine stop_call h0 rfl (by simp only [UN,LM,zn0,zn1,zi0,zi1,zi2,zn2,zn3,zn4,reduceCtorEq]) rfl (by simp only [keepS,UN,LM,zn0,zn1,zi0,zi1,zi2,zn2,zn3,zn4,reduceCtorEq]) (hw) ?_
    simp only [UN,LM,zn0,zn1,zi0,zi1,zi2,zn2,zn3,zn4,reduceCtorEq,TAS,inX,dropS, ]
    (repeat (refine And.intro ?_ ?_;focus (clear hK';intros;simp_all;done)))
    (try (refine hK' _ _ ?_;clear hK' K'))
    repeat' (first|(with_reducible first|apply zw0|apply zw1|apply zw2|apply zw3|apply zw4|apply zw5|apply zw6|apply zw7|apply zw8|apply zw9|apply zw10|apply zw11|apply zw13|apply zw14)|((with_reducible refine zw12 ?_ ?_);rfl)|((with_reducible refine zw16 ?_ ?_ (fun K' hK'=>?_));rfl;rfl;simp only [UN,LM,zn0,zn1,zi0,zi1,zi2,zn2,zn3,zn4,reduceCtorEq,TAS];(repeat (refine And.intro ?_ ?_;focus (clear hK';intros;simp_all;done)));(try (refine hK' _ _ ?_;clear hK' K')))|((with_reducible refine zw15 ?_ ?_);rfl;refine ⟨_,rfl,fun h=>?_,fun h=>?_⟩ <;> try exact absurd h (by decide)))
    simp only [Kret,retL,retOne,oneV,UN,LM,zn0,zn1,zi0,zi1,zi2,zn2,zn3,zn4,reduceCtorEq,TAS]
    rfl
end Go.Proofs.YtgecnlcbdbaneaaDoor
