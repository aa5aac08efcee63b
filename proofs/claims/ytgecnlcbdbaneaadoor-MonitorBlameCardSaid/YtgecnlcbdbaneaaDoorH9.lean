/- below.of, Is, Why; a symbolic walk. -/
-- TYPESA
import Derived.Test.YtgecnlcbdbaneaaDoorH8
set_option linter.unusedVariables false
set_option linter.unusedSimpArgs false
namespace Go.Proofs.YtgecnlcbdbaneaaDoor
open Go.RowKit Go.Sw

def bErr (x y : Tp) : Int:=if tCheck x = 0 then tCheck y else tCheck x
def OfFn (Γ : Gl) (x : Tp) : Prop:=DFn Tryd.prog Γ 12 [x.d] (.tup [.slc ((ofP x).map Nd.d),iD (tCheck x)])
def bothD (x y : Tp) : D:=if tCheck x = 0 then .agg [.slc ((ofP x).map Nd.d),.slc ((ofP y).map Nd.d)] else .agg [.slc [],.slc []]
set_option maxHeartbeats 8000000 in
set_option maxRecDepth 100000 in
theorem of2_fn (Γ : Gl) (x y : Tp) (hx : OfFn Γ x) (hy : OfFn Γ y) : DFn Tryd.prog Γ 66 [x.d,y.d] (.tup [bothD x y,iD (bErr x y)]):=by
 unfold OfFn at hx hy
 unfold bothD bErr
 generalize (ofP x).map Nd.d = A at hx ⊢
 generalize (ofP y).map Nd.d = B at hy ⊢
 generalize tCheck x = c at hx ⊢
 generalize tCheck y = d at hy ⊢
 obtain ⟨k,so,nm,ls,l⟩:=x
 obtain ⟨k',so',nm',ls',l'⟩:=y
 simp only [Tp.d] at hx hy ⊢
 by_cases hc : c = 0
 · rw [if_pos hc,if_pos hc]
   have g1 : (c != 0) = false:=by simpa using hc
   refine fn_of_swp (N:=28) Tryd.func66 rfl (by decide) rfl rfl (by simp) (fun C h0=>?_)
   simp only [argE]
   repeat' (first|(with_reducible apply zz1)|((with_reducible apply zz2);rfl;intro K' hK';simp only [WA,simprocAttr];(repeat (constructor;focus (clear hK';intros;simp_all;done)));(try (apply hK';clear hK' K')))|((with_reducible apply zz3);rfl;all_goals (intro h;try exact absurd h (by decide))))
   refine stop_call h0 rfl (by simp only [WA,simprocAttr]) rfl (by simp only [keepS,Option.isSome_some,WA,simprocAttr]) (hx) ?_
   simp only [WA,simprocAttr,inX,dropS, ]
   (repeat (constructor;focus (clear hK';intros;simp_all;done)))
   (try (apply hK';clear hK' K'))
   repeat' (first|(with_reducible apply zz1)|((with_reducible apply zz2);rfl;intro K' hK';simp only [WA,simprocAttr];(repeat (constructor;focus (clear hK';intros;simp_all;done)));(try (apply hK';clear hK' K')))|((with_reducible apply zz3);rfl;all_goals (intro h;try exact absurd h (by decide))))
   refine stop_call h0 rfl (by simp only [WA,simprocAttr]) rfl (by simp only [keepS,Option.isSome_some,WA,simprocAttr]) (hy) ?_
   simp only [WA,simprocAttr,inX,dropS, ]
   (repeat (constructor;focus (clear hK';intros;simp_all;done)))
   (try (apply hK';clear hK' K'))
   repeat' (first|(with_reducible apply zz1)|((with_reducible apply zz2);rfl;intro K' hK';simp only [WA,simprocAttr,g1];(repeat (constructor;focus (clear hK';intros;simp_all;done)));(try (apply hK';clear hK' K')))|((with_reducible apply zz3);rfl;all_goals (intro h;try exact absurd h (by decide))))
   simp only [Kret,retL,retOne,oneV,WA,simprocAttr]
 · rw [if_neg hc,if_neg hc]
   have g1 : (c != 0) = true:=by simpa using hc
   refine fn_of_swp (N:=28) Tryd.func66 rfl (by decide) rfl rfl (by simp) (fun C h0=>?_)
   simp only [argE]
   repeat' (first|(with_reducible apply zz1)|((with_reducible apply zz2);rfl;intro K' hK';simp only [WA,simprocAttr];(repeat (constructor;focus (clear hK';intros;simp_all;done)));(try (apply hK';clear hK' K')))|((with_reducible apply zz3);rfl;all_goals (intro h;try exact absurd h (by decide))))
   refine stop_call h0 rfl (by simp only [WA,simprocAttr]) rfl (by simp only [keepS,Option.isSome_some,WA,simprocAttr]) (hx) ?_
   simp only [WA,simprocAttr,inX,dropS, ]
   (repeat (constructor;focus (clear hK';intros;simp_all;done)))
   (try (apply hK';clear hK' K'))
   repeat' (first|(with_reducible apply zz1)|((with_reducible apply zz2);rfl;intro K' hK';simp only [WA,simprocAttr];(repeat (constructor;focus (clear hK';intros;simp_all;done)));(try (apply hK';clear hK' K')))|((with_reducible apply zz3);rfl;all_goals (intro h;try exact absurd h (by decide))))
   refine stop_call h0 rfl (by simp only [WA,simprocAttr]) rfl (by simp only [keepS,Option.isSome_some,WA,simprocAttr]) (hy) ?_
   simp only [WA,simprocAttr,inX,dropS, ]
   (repeat (constructor;focus (clear hK';intros;simp_all;done)))
   (try (apply hK';clear hK' K'))
   repeat' (first|(with_reducible apply zz1)|((with_reducible apply zz2);rfl;intro K' hK';simp only [WA,simprocAttr,g1];(repeat (constructor;focus (clear hK';intros;simp_all;done)));(try (apply hK';clear hK' K')))|((with_reducible apply zz3);rfl;all_goals (intro h;try exact absurd h (by decide))))
   simp only [Kret,retL,retOne,oneV,WA,simprocAttr]
def isP (x y : Tp) : Bool:=if bErr x y = 0 then (whyP (ofP x) (ofP y)).isNone else false
def wyE (x y : Tp) : Int:=if bErr x y = 0 then (match whyP (ofP x) (ofP y) with | some _=>0 | none=>8) else bErr x y
def wyL (x y : Tp) : List ByteArray:=if bErr x y = 0 then (match whyP (ofP x) (ofP y) with | some l=>l | none=>[]) else []
theorem bErr_zero {x y : Tp} (h : bErr x y = 0) : tCheck x = 0 ∧ tCheck y = 0:=by
 unfold bErr at h
 split at h
 · rename_i h1;exact ⟨h1,h⟩
 · rename_i h1;exact absurd h h1
def WyFn (Γ : Gl) (x y : Tp) : Prop:=DFn Tryd.prog Γ 60 [.agg [.slc ((ofP x).map Nd.d),.slc ((ofP y).map Nd.d)]] (whyA (whyP (ofP x) (ofP y)))
theorem both_shape (x y : Tp) : ∃ A B,bothD x y = .agg [.slc A,.slc B]:=by
 unfold bothD
 split
 · exact ⟨_,_,rfl⟩
 · exact ⟨_,_,rfl⟩
set_option maxHeartbeats 8000000 in
set_option maxRecDepth 100000 in
theorem is_fn (Γ : Gl) (x y : Tp) (hx : OfFn Γ x) (hy : OfFn Γ y) (hw : bErr x y = 0 → WyFn Γ x y) : DFn Tryd.prog Γ 30 [x.d,y.d] (.tup [bD (isP x y),iD (bErr x y)]):=by
 have ho:=of2_fn Γ x y hx hy
 unfold isP
 by_cases hc : bErr x y = 0
 · have hw:=hw hc
   rw [if_pos hc]
   unfold WyFn at hw
   have hb : bothD x y = .agg [.slc ((ofP x).map Nd.d),.slc ((ofP y).map Nd.d)]:=by unfold bothD;rw [if_pos (bErr_zero hc).1]
   rw [hb] at ho
   have g1 : (bErr x y != 0) = false:=by simpa using hc
   generalize bErr x y = c at ho g1 ⊢
   generalize whyP (ofP x) (ofP y) = r at hw ⊢
   generalize (ofP x).map Nd.d = A at ho hw
   generalize (ofP y).map Nd.d = B at ho hw
   obtain rfl : c = 0:=by simpa using g1
   obtain ⟨k,so,nm,ls,l⟩:=x
   obtain ⟨k',so',nm',ls',l'⟩:=y
   simp only [Tp.d] at ho ⊢
   cases r with
   | none =>
    simp only [whyA] at hw
    refine fn_of_swp (N:=26) Tryd.func30 rfl (by decide) rfl rfl (by simp) (fun C h0=>?_)
    simp only [argE]
    repeat' (first|(with_reducible apply zz1)|((with_reducible apply zz2);rfl;intro K' hK';simp only [WA,simprocAttr];(repeat (constructor;focus (clear hK';intros;simp_all;done)));(try (apply hK';clear hK' K')))|((with_reducible apply zz3);rfl;all_goals (intro h;try exact absurd h (by decide))))
    refine stop_call h0 rfl (by simp only [WA,simprocAttr]) rfl (by simp only [keepS,Option.isSome_some,WA,simprocAttr]) (ho) ?_
    simp only [WA,simprocAttr,inX,dropS, ]
    (repeat (constructor;focus (clear hK';intros;simp_all;done)))
    (try (apply hK';clear hK' K'))
    repeat' (first|(with_reducible apply zz1)|((with_reducible apply zz2);rfl;intro K' hK';simp only [WA,simprocAttr,g1];(repeat (constructor;focus (clear hK';intros;simp_all;done)));(try (apply hK';clear hK' K')))|((with_reducible apply zz3);rfl;all_goals (intro h;try exact absurd h (by decide))))
    refine stop_call h0 rfl (by simp only [WA,simprocAttr]) rfl (by simp only [keepS,Option.isSome_some,WA,simprocAttr]) (hw) ?_
    simp only [WA,simprocAttr,inX,dropS, ]
    (repeat (constructor;focus (clear hK';intros;simp_all;done)))
    (try (apply hK';clear hK' K'))
    repeat' (first|(with_reducible apply zz1)|((with_reducible apply zz2);rfl;intro K' hK';simp only [WA,simprocAttr];(repeat (constructor;focus (clear hK';intros;simp_all;done)));(try (apply hK';clear hK' K')))|((with_reducible apply zz3);rfl;all_goals (intro h;try exact absurd h (by decide))))
    simp only [Kret,retL,retOne,oneV,WA,simprocAttr]
    rfl
   | some w =>
    simp only [whyA] at hw
    refine fn_of_swp (N:=26) Tryd.func30 rfl (by decide) rfl rfl (by simp) (fun C h0=>?_)
    simp only [argE]
    repeat' (first|(with_reducible apply zz1)|((with_reducible apply zz2);rfl;intro K' hK';simp only [WA,simprocAttr];(repeat (constructor;focus (clear hK';intros;simp_all;done)));(try (apply hK';clear hK' K')))|((with_reducible apply zz3);rfl;all_goals (intro h;try exact absurd h (by decide))))
    refine stop_call h0 rfl (by simp only [WA,simprocAttr]) rfl (by simp only [keepS,Option.isSome_some,WA,simprocAttr]) (ho) ?_
    simp only [WA,simprocAttr,inX,dropS, ]
    (repeat (constructor;focus (clear hK';intros;simp_all;done)))
    (try (apply hK';clear hK' K'))
    repeat' (first|(with_reducible apply zz1)|((with_reducible apply zz2);rfl;intro K' hK';simp only [WA,simprocAttr,g1];(repeat (constructor;focus (clear hK';intros;simp_all;done)));(try (apply hK';clear hK' K')))|((with_reducible apply zz3);rfl;all_goals (intro h;try exact absurd h (by decide))))
    refine stop_call h0 rfl (by simp only [WA,simprocAttr]) rfl (by simp only [keepS,Option.isSome_some,WA,simprocAttr]) (hw) ?_
    simp only [WA,simprocAttr,inX,dropS, ]
    (repeat (constructor;focus (clear hK';intros;simp_all;done)))
    (try (apply hK';clear hK' K'))
    repeat' (first|(with_reducible apply zz1)|((with_reducible apply zz2);rfl;intro K' hK';simp only [WA,simprocAttr];(repeat (constructor;focus (clear hK';intros;simp_all;done)));(try (apply hK';clear hK' K')))|((with_reducible apply zz3);rfl;all_goals (intro h;try exact absurd h (by decide))))
    simp only [Kret,retL,retOne,oneV,WA,simprocAttr]
    rfl
 · rw [if_neg hc]
   obtain ⟨A,B,hb⟩:=both_shape x y
   rw [hb] at ho
   have g1 : (bErr x y != 0) = true:=by simpa using hc
   generalize bErr x y = c at ho g1 ⊢
   obtain ⟨k,so,nm,ls,l⟩:=x
   obtain ⟨k',so',nm',ls',l'⟩:=y
   simp only [Tp.d] at ho ⊢
   refine fn_of_swp (N:=26) Tryd.func30 rfl (by decide) rfl rfl (by simp) (fun C h0=>?_)
   simp only [argE]
   repeat' (first|(with_reducible apply zz1)|((with_reducible apply zz2);rfl;intro K' hK';simp only [WA,simprocAttr];(repeat (constructor;focus (clear hK';intros;simp_all;done)));(try (apply hK';clear hK' K')))|((with_reducible apply zz3);rfl;all_goals (intro h;try exact absurd h (by decide))))
   refine stop_call h0 rfl (by simp only [WA,simprocAttr]) rfl (by simp only [keepS,Option.isSome_some,WA,simprocAttr]) (ho) ?_
   simp only [WA,simprocAttr,inX,dropS, ]
   (repeat (constructor;focus (clear hK';intros;simp_all;done)))
   (try (apply hK';clear hK' K'))
   repeat' (first|(with_reducible apply zz1)|((with_reducible apply zz2);rfl;intro K' hK';simp only [WA,simprocAttr,g1];(repeat (constructor;focus (clear hK';intros;simp_all;done)));(try (apply hK';clear hK' K')))|((with_reducible apply zz3);rfl;all_goals (intro h;try exact absurd h (by decide))))
   simp only [Kret,retL,retOne,oneV,WA,simprocAttr]
end Go.Proofs.YtgecnlcbdbaneaaDoor
