/- graph.Of; a symbolic walk. -/
-- TYPESA
import Derived.Test.YtgecnlcbdbaneaaDoorH3
set_option linter.unusedVariables false
set_option linter.unusedSimpArgs false
namespace Go.Proofs.YtgecnlcbdbaneaaDoor
open Go.RowKit Go.Sw
open Nat renaming reduceBEq → zn0, reduceLeDiff → zn1, reduceAdd → zn2, reduceSub → zn3, reduceMul → zn4
open Int renaming reduceLE → zi0, reduceLT → zi1, reduceToNat → zi2
open Go.Sw renaming swp_seq → zw0, swp_block → zw1, swp_skip → zw2, swp_ret → zw3, swp_exit → zw4, swp_label → zw5, kseq_n → zw6, kseq_x → zw7, kseq_r → zw8, kblk_n → zw9, kblk_r → zw10, kblk_xs → zw11, kblk_xn → zw12, kloop_x → zw13, kloop_r → zw14, swp_cond → zw15, swp_regionP → zw16

def rawP (x : Tp) : List Nd:=(addT x [] [] []).2
def ofP (x : Tp) : List Nd:=if tCheck x = 0 then leastP (rawP x) else []
set_option maxHeartbeats 8000000 in
set_option maxRecDepth 100000 in
theorem of_fn0 (Γ : Gl) (x : Tp) (hadd : tCheck x = 0 → AddS Γ x ∧ clT x [] ∧ x.size ≤ 60) (hls : tCheck x = 0 → DFn Tryd.prog Γ 46 [.slc ((rawP x).map Nd.d)] (.slc ((leastP (rawP x)).map Nd.d))) :
    DFn Tryd.prog Γ 12 [x.d] (.tup [.slc ((ofP x).map Nd.d),iD (tCheck x)]):=by
  have hck:=TCheck_fn Γ x
  unfold ofP
  by_cases hc : tCheck x = 0
  · rw [if_pos hc]
    obtain ⟨h1,h2,h3⟩:=hadd hc
    have hl:=hls hc
    have ha : SFn Tryd.prog Γ 45 [.ref 1 0,.d x.d,.d (.slc []),.d (.slc [])] [(1,.cells [.own 2]),(2,.row 4 [])] (.d (iD (addT x [] [] []).1)) [(1,.cells [.own 2]),(2,.row 4 ((addT x [] [] []).2.map Nd.d))]:=(h1 [] [] [] rfl (by simp;omega) (by simp;omega) h2).up 1
    unfold rawP at hl ⊢
    generalize addT x [] [] [] = A at ha hl
    obtain ⟨n,G⟩:=A
    simp only at ha hl ⊢
    rw [hc] at hck ⊢
    generalize leastP G = R at hl ⊢
    obtain ⟨k,so,nm,ls,l⟩:=x
    simp only [Tp.d] at hck ha ⊢
    clear h1 h2 h3 hadd hls hc
    refine fn_of_swp (N:=21) Tryd.func12 rfl (by decide) rfl rfl (by simp) (fun C h0=>?_)
    simp only [argE]
    repeat' (first|(with_reducible first|apply zw0|apply zw1|apply zw2|apply zw3|apply zw4|apply zw5|apply zw6|apply zw7|apply zw8|apply zw9|apply zw10|apply zw11|apply zw13|apply zw14)|((with_reducible refine zw12 ?_ ?_);rfl)|((with_reducible refine zw16 ?_ ?_ (fun K' hK'=>?_));rfl;rfl;simp only [UN,LM,zn0,zn1,zi0,zi1,zi2,zn2,zn3,zn4,reduceCtorEq,TAS];(repeat (refine And.intro ?_ ?_;focus (clear hK';intros;simp_all;done)));(try (refine hK' _ _ ?_;clear hK' K')))|((with_reducible refine zw15 ?_ ?_);rfl;refine ⟨_,rfl,fun h=>?_,fun h=>?_⟩ <;> try exact absurd h (by decide)))
    refine stop_callF rfl (by simp only [UN,LM,zn0,zn1,zi0,zi1,zi2,zn2,zn3,zn4,reduceCtorEq]) rfl rfl (hck) ?_
    simp only [UN,LM,zn0,zn1,zi0,zi1,zi2,zn2,zn3,zn4,reduceCtorEq,TAS,inX,dropS, ]
    (repeat (refine And.intro ?_ ?_;focus (clear hK';intros;simp_all;done)))
    (try (refine hK' _ _ ?_;clear hK' K'))
    repeat' (first|(with_reducible first|apply zw0|apply zw1|apply zw2|apply zw3|apply zw4|apply zw5|apply zw6|apply zw7|apply zw8|apply zw9|apply zw10|apply zw11|apply zw13|apply zw14)|((with_reducible refine zw12 ?_ ?_);rfl)|((with_reducible refine zw16 ?_ ?_ (fun K' hK'=>?_));rfl;rfl;simp only [UN,LM,zn0,zn1,zi0,zi1,zi2,zn2,zn3,zn4,reduceCtorEq,TAS];(repeat (refine And.intro ?_ ?_;focus (clear hK';intros;simp_all;done)));(try (refine hK' _ _ ?_;clear hK' K')))|((with_reducible refine zw15 ?_ ?_);rfl;refine ⟨_,rfl,fun h=>?_,fun h=>?_⟩ <;> try exact absurd h (by decide)))
    refine stop_sub (sub_nilB 1 0 2 4 rfl rfl rfl (by decide)) ?_
    simp only [UN,LM,zn0,zn1,zi0,zi1,zi2,zn2,zn3,zn4,reduceCtorEq]
    refine stop_cS rfl (by simp only [UA,UN,LM,zn0,zn1,zi0,zi1,zi2,zn2,zn3,zn4,reduceCtorEq]) (ha) ?_
    simp only [UN,LM,zn0,zn1,zi0,zi1,zi2,zn2,zn3,zn4,reduceCtorEq,TAS,UM, ]
    (try (refine hK' _ _ ?_;clear hK' K'))
    repeat' (first|(with_reducible first|apply zw0|apply zw1|apply zw2|apply zw3|apply zw4|apply zw5|apply zw6|apply zw7|apply zw8|apply zw9|apply zw10|apply zw11|apply zw13|apply zw14)|((with_reducible refine zw12 ?_ ?_);rfl)|((with_reducible refine zw16 ?_ ?_ (fun K' hK'=>?_));rfl;rfl;simp only [UN,LM,zn0,zn1,zi0,zi1,zi2,zn2,zn3,zn4,reduceCtorEq,TAS];(repeat (refine And.intro ?_ ?_;focus (clear hK';intros;simp_all;done)));(try (refine hK' _ _ ?_;clear hK' K')))|((with_reducible refine zw15 ?_ ?_);rfl;refine ⟨_,rfl,fun h=>?_,fun h=>?_⟩ <;> try exact absurd h (by decide)))
    refine stop_frz [2] h0 (by simp only [Option.isSome_some,SV.frz,SV.frzs,Box.frz,frzE,frzS,inX,keepS,UN,LM,zn0,zn1,zi0,zi1,zi2,zn2,zn3,zn4,reduceCtorEq]) ?_
    simp only [UN,LM,zn0,zn1,zi0,zi1,zi2,zn2,zn3,zn4,reduceCtorEq,TAS,SV.frz,SV.frzs,Box.frz,frzE,frzS,inX,keepS]
    refine stop_call h0 rfl (by simp only [UN,LM,zn0,zn1,zi0,zi1,zi2,zn2,zn3,zn4,reduceCtorEq]) rfl (by simp only [keepS,UN,LM,zn0,zn1,zi0,zi1,zi2,zn2,zn3,zn4,reduceCtorEq]) (hl) ?_
    simp only [UN,LM,zn0,zn1,zi0,zi1,zi2,zn2,zn3,zn4,reduceCtorEq,TAS,inX,dropS, ]
    (repeat (refine And.intro ?_ ?_;focus (clear hK';intros;simp_all;done)))
    (try (refine hK' _ _ ?_;clear hK' K'))
    repeat' (first|(with_reducible first|apply zw0|apply zw1|apply zw2|apply zw3|apply zw4|apply zw5|apply zw6|apply zw7|apply zw8|apply zw9|apply zw10|apply zw11|apply zw13|apply zw14)|((with_reducible refine zw12 ?_ ?_);rfl)|((with_reducible refine zw16 ?_ ?_ (fun K' hK'=>?_));rfl;rfl;simp only [UN,LM,zn0,zn1,zi0,zi1,zi2,zn2,zn3,zn4,reduceCtorEq,TAS];(repeat (refine And.intro ?_ ?_;focus (clear hK';intros;simp_all;done)));(try (refine hK' _ _ ?_;clear hK' K')))|((with_reducible refine zw15 ?_ ?_);rfl;refine ⟨_,rfl,fun h=>?_,fun h=>?_⟩ <;> try exact absurd h (by decide)))
    simp only [Kret,retL,retOne,oneV,UN,LM,zn0,zn1,zi0,zi1,zi2,zn2,zn3,zn4,reduceCtorEq,TAS]
  · rw [if_neg hc]
    have g1 : (tCheck x != 0) = true:=by simpa using hc
    generalize tCheck x = r at hck g1 ⊢
    clear hadd hls hc
    obtain ⟨k,so,nm,ls,l⟩:=x
    simp only [Tp.d] at hck ⊢
    refine fn_of_swp (N:=21) Tryd.func12 rfl (by decide) rfl rfl (by simp) (fun C h0=>?_)
    simp only [argE]
    repeat' (first|(with_reducible first|apply zw0|apply zw1|apply zw2|apply zw3|apply zw4|apply zw5|apply zw6|apply zw7|apply zw8|apply zw9|apply zw10|apply zw11|apply zw13|apply zw14)|((with_reducible refine zw12 ?_ ?_);rfl)|((with_reducible refine zw16 ?_ ?_ (fun K' hK'=>?_));rfl;rfl;simp only [UN,LM,zn0,zn1,zi0,zi1,zi2,zn2,zn3,zn4,reduceCtorEq,TAS];(repeat (refine And.intro ?_ ?_;focus (clear hK';intros;simp_all;done)));(try (refine hK' _ _ ?_;clear hK' K')))|((with_reducible refine zw15 ?_ ?_);rfl;refine ⟨_,rfl,fun h=>?_,fun h=>?_⟩ <;> try exact absurd h (by decide)))
    refine stop_callF rfl (by simp only [UN,LM,zn0,zn1,zi0,zi1,zi2,zn2,zn3,zn4,reduceCtorEq]) rfl rfl (hck) ?_
    simp only [UN,LM,zn0,zn1,zi0,zi1,zi2,zn2,zn3,zn4,reduceCtorEq,TAS,inX,dropS, ]
    (repeat (refine And.intro ?_ ?_;focus (clear hK';intros;simp_all;done)))
    (try (refine hK' _ _ ?_;clear hK' K'))
    repeat' (first|(with_reducible first|apply zw0|apply zw1|apply zw2|apply zw3|apply zw4|apply zw5|apply zw6|apply zw7|apply zw8|apply zw9|apply zw10|apply zw11|apply zw13|apply zw14)|((with_reducible refine zw12 ?_ ?_);rfl)|((with_reducible refine zw16 ?_ ?_ (fun K' hK'=>?_));rfl;rfl;simp only [UN,LM,zn0,zn1,zi0,zi1,zi2,zn2,zn3,zn4,reduceCtorEq,TAS,g1];(repeat (refine And.intro ?_ ?_;focus (clear hK';intros;simp_all;done)));(try (refine hK' _ _ ?_;clear hK' K')))|((with_reducible refine zw15 ?_ ?_);rfl;refine ⟨_,rfl,fun h=>?_,fun h=>?_⟩ <;> try exact absurd h (by decide)))
    simp only [Kret,retL,retOne,oneV,UN,LM,zn0,zn1,zi0,zi1,zi2,zn2,zn3,zn4,reduceCtorEq,TAS,List.map_nil]
end Go.Proofs.YtgecnlcbdbaneaaDoor
