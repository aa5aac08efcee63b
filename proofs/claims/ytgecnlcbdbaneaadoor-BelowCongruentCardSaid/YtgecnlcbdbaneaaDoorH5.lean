/- graph.Of; a symbolic walk. -/
-- TYPESA
import Derived.Test.YtgecnlcbdbaneaaDoorH4
set_option linter.unusedVariables false
set_option linter.unusedSimpArgs false
namespace Go.Proofs.YtgecnlcbdbaneaaDoor
open Go.RowKit Go.Sw

def rawP (x : Tp) : List Nd:=(addT x [] [] []).2
def ofP (x : Tp) : List Nd:=if tCheck x = 0 then leastP (rawP x) else []
set_option maxHeartbeats 8000000 in
set_option maxRecDepth 100000 in
theorem of_fn0 (Γ : Gl) (x : Tp) (hadd : tCheck x = 0 → AddS Γ x ∧ clT x [] ∧ x.size ≤ 60) (hls : tCheck x = 0 → DFn Tryd.prog Γ 46 [.slc ((rawP x).map Nd.d)] (.slc ((leastP (rawP x)).map Nd.d))) :
 DFn Tryd.prog Γ 12 [x.d] (.tup [.slc ((ofP x).map Nd.d),iD (tCheck x)]):=by
 have hck:=TCheck_fn Γ x
 unfold ofP
 by_cases hc : tCheck x = 0
 · rw [if_pos hc]
   obtain ⟨h1,h2,h3⟩:=hadd hc
   have hl:=hls hc
   have ha : SFn Tryd.prog Γ 45 [.ref 1 0,.d x.d,.d (.slc []),.d (.slc [])] [(1,.cells [.own 2]),(2,.row 4 [])] (.d (iD (addT x [] [] []).1)) [(1,.cells [.own 2]),(2,.row 4 ((addT x [] [] []).2.map Nd.d))]:=(h1 [] [] [] rfl (by simp;omega) (by simp;omega) h2).up 1
   unfold rawP at hl ⊢
   generalize addT x [] [] [] = A at ha hl
   obtain ⟨n,G⟩:=A
   simp only at ha hl ⊢
   rw [hc] at hck ⊢
   generalize leastP G = R at hl ⊢
   obtain ⟨k,so,nm,ls,l⟩:=x
   simp only [Tp.d] at hck ha ⊢
   clear h1 h2 h3 hadd hls hc
   refine fn_of_swp (N:=21) Tryd.func12 rfl (by decide) rfl rfl (by simp) (fun C h0=>?_)
   simp only [argE]
   repeat' (first|(with_reducible apply zz1)|((with_reducible refine zz4 ?_ ?_);rfl)|((with_reducible refine zz2 ?_ (fun K' hK'=>?_));rfl;simp only [WA,simprocAttr];(repeat (refine And.intro ?_ ?_;focus (clear hK';intros;simp_all;done)));(try (refine hK' _ _ ?_;clear hK' K')))|((with_reducible refine zz3 ?_ ?_);rfl;refine ⟨_,rfl,fun h=>?_,fun h=>?_⟩ <;> try exact absurd h (by decide)))
   refine stop_callF rfl (by simp only [WA,simprocAttr]) rfl rfl (hck) ?_
   simp only [WA,simprocAttr,inX,dropS, ]
   (repeat (refine And.intro ?_ ?_;focus (clear hK';intros;simp_all;done)))
   (try (refine hK' _ _ ?_;clear hK' K'))
   repeat' (first|(with_reducible apply zz1)|((with_reducible refine zz4 ?_ ?_);rfl)|((with_reducible refine zz2 ?_ (fun K' hK'=>?_));rfl;simp only [WA,simprocAttr];(repeat (refine And.intro ?_ ?_;focus (clear hK';intros;simp_all;done)));(try (refine hK' _ _ ?_;clear hK' K')))|((with_reducible refine zz3 ?_ ?_);rfl;refine ⟨_,rfl,fun h=>?_,fun h=>?_⟩ <;> try exact absurd h (by decide)))
   refine stop_sub (sub_nilB 1 0 2 4 rfl rfl rfl (by decide)) ?_
   simp only [WA,simprocAttr]
   refine stop_cS rfl (by simp only [UA,WA,simprocAttr]) (ha) ?_
   simp only [WA,simprocAttr,UM, ]
   (try (refine hK' _ _ ?_;clear hK' K'))
   repeat' (first|(with_reducible apply zz1)|((with_reducible refine zz4 ?_ ?_);rfl)|((with_reducible refine zz2 ?_ (fun K' hK'=>?_));rfl;simp only [WA,simprocAttr];(repeat (refine And.intro ?_ ?_;focus (clear hK';intros;simp_all;done)));(try (refine hK' _ _ ?_;clear hK' K')))|((with_reducible refine zz3 ?_ ?_);rfl;refine ⟨_,rfl,fun h=>?_,fun h=>?_⟩ <;> try exact absurd h (by decide)))
   refine stop_frz [2] h0 (by simp only [Option.isSome_some,UF,WA,simprocAttr]) ?_
   simp only [WA,simprocAttr,UF]
   refine stop_call h0 rfl (by simp only [WA,simprocAttr]) rfl (by simp only [keepS,Option.isSome_some,WA,simprocAttr]) (hl) ?_
   simp only [WA,simprocAttr,inX,dropS, ]
   (repeat (refine And.intro ?_ ?_;focus (clear hK';intros;simp_all;done)))
   (try (refine hK' _ _ ?_;clear hK' K'))
   repeat' (first|(with_reducible apply zz1)|((with_reducible refine zz4 ?_ ?_);rfl)|((with_reducible refine zz2 ?_ (fun K' hK'=>?_));rfl;simp only [WA,simprocAttr];(repeat (refine And.intro ?_ ?_;focus (clear hK';intros;simp_all;done)));(try (refine hK' _ _ ?_;clear hK' K')))|((with_reducible refine zz3 ?_ ?_);rfl;refine ⟨_,rfl,fun h=>?_,fun h=>?_⟩ <;> try exact absurd h (by decide)))
   simp only [Kret,retL,retOne,oneV,WA,simprocAttr]
 · rw [if_neg hc]
   have g1 : (tCheck x != 0) = true:=by simpa using hc
   generalize tCheck x = r at hck g1 ⊢
   clear hadd hls hc
   obtain ⟨k,so,nm,ls,l⟩:=x
   simp only [Tp.d] at hck ⊢
   refine fn_of_swp (N:=21) Tryd.func12 rfl (by decide) rfl rfl (by simp) (fun C h0=>?_)
   simp only [argE]
   repeat' (first|(with_reducible apply zz1)|((with_reducible refine zz4 ?_ ?_);rfl)|((with_reducible refine zz2 ?_ (fun K' hK'=>?_));rfl;simp only [WA,simprocAttr];(repeat (refine And.intro ?_ ?_;focus (clear hK';intros;simp_all;done)));(try (refine hK' _ _ ?_;clear hK' K')))|((with_reducible refine zz3 ?_ ?_);rfl;refine ⟨_,rfl,fun h=>?_,fun h=>?_⟩ <;> try exact absurd h (by decide)))
   refine stop_callF rfl (by simp only [WA,simprocAttr]) rfl rfl (hck) ?_
   simp only [WA,simprocAttr,inX,dropS, ]
   (repeat (refine And.intro ?_ ?_;focus (clear hK';intros;simp_all;done)))
   (try (refine hK' _ _ ?_;clear hK' K'))
   repeat' (first|(with_reducible apply zz1)|((with_reducible refine zz4 ?_ ?_);rfl)|((with_reducible refine zz2 ?_ (fun K' hK'=>?_));rfl;simp only [WA,simprocAttr,g1];(repeat (refine And.intro ?_ ?_;focus (clear hK';intros;simp_all;done)));(try (refine hK' _ _ ?_;clear hK' K')))|((with_reducible refine zz3 ?_ ?_);rfl;refine ⟨_,rfl,fun h=>?_,fun h=>?_⟩ <;> try exact absurd h (by decide)))
   simp only [Kret,retL,retOne,oneV,WA,simprocAttr,List.map_nil]
end Go.Proofs.YtgecnlcbdbaneaaDoor
