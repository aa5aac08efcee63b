/- What is below stays so, whatever comes ahead of it: plain; the closures that put it ahead. -/
-- TYPESC
import Derived.Test.YtgecnlcbdbaneaaDoorHQ7
import Derived.Test.YtgecnlcbdbaneaaDoorH27
import Derived.Test.YtgecnlcbdbaneaaDoorSwD
import Derived.Test.YtgecnlcbdbaneaaDoorH21
import Derived.Test.YtgecnlcbdbaneaaDoorTC
set_option linter.unusedVariables false
set_option linter.unusedSimpArgs false
namespace Go.Proofs.YtgecnlcbdbaneaaDoor
open Go.RowKit Go.Sw
open Go.Sw renaming swp_seq → zw0, swp_block → zw1, swp_skip → zw2, swp_exit → zw4, swp_label → zw5, kseq_n → zw6, kseq_x → zw7, kseq_r → zw8, kblk_n → zw9, kblk_r → zw10, kblk_xs → zw11, kblk_xn → zw12, kloop_x → zw13, kloop_r → zw14, swp_cond → zw15, swp_regionP → zw16

abbrev aS : ByteArray:=⟨#[97]⟩
abbrev bS : ByteArray:=⟨#[98]⟩
abbrev qqS : ByteArray:=⟨#[113,113]⟩
def c1T (x : Tp) : Tp:=.mk 2 1 noB [] [x]
def c2T (x : Tp) : Tp:=.mk 3 3 noB [] [x]
def c3T (x : Tp) : Tp:=.mk 4 0 noB [] [endT,x]
def c4T (x : Tp) : Tp:=.mk 5 0 noB [] [x,endT]
def c5T (x : Tp) : Tp:=.mk 6 0 noB [aS,bS] [x,endT]
def c6T (x : Tp) : Tp:=.mk 7 0 noB [aS,bS] [endT,x]
def c7T (x : Tp) : Tp:=.mk 8 0 qqS [] [x]
def gvT (x : Tp) : Tp:=.mk 4 0 noB [] [x,endT]
theorem isP_den {x y : Tp} (hx : tCheck x = 0) (hy : tCheck y = 0) : isP x y = true ↔ ∀ n,subT n (den x eps n) (den y eps n):=by
 rw [is_iff (bErr_of hx hy),trT_den hx eps,trT_den hy eps]
theorem cong_of {x y u v : Tp} (hx : tCheck x = 0) (hy : tCheck y = 0) (hu : tCheck u = 0) (hv : tCheck v = 0) (h : ∀ n,subT (n + 1) (den u eps (n + 1)) (den v eps (n + 1)) ↔ subT n (den x eps n) (den y eps n)) : isP u v = isP x y:=by
 rw [Bool.eq_iff_iff,isP_den hu hv,isP_den hx hy]
 constructor
 · exact fun k n=>(h n).1 (k (n + 1))
 · intro k n
   cases n with
   | zero=>exact trivial
   | succ n=>exact (h n).2 (k n)
theorem kidA (p q : Tr) : kidL [aS,bS] [p,q] aS = p ∧ kidL [aS,bS] [p,q] bS = q:=⟨kidL_at (i:=0) (by decide) rfl rfl,kidL_at (i:=1) (by decide) rfl rfl⟩
theorem cong1 {x y : Tp} (hx : tCheck x = 0) (hy : tCheck y = 0) (hu : tCheck (c1T x) = 0) (hv : tCheck (c1T y) = 0) : isP (c1T x) (c1T y) = isP x y:=cong_of hx hy hu hv fun n=>by
 unfold c1T
 rw [(den_node (by decide) (by decide) eps n).1,(den_node (by decide) (by decide) eps n).1]
 simp only [subT,List.map_cons,List.map_nil,kid,List.getD_cons_zero]
 simp
theorem cong2 {x y : Tp} (hx : tCheck x = 0) (hy : tCheck y = 0) (hu : tCheck (c2T x) = 0) (hv : tCheck (c2T y) = 0) : isP (c2T x) (c2T y) = isP x y:=cong_of hx hy hu hv fun n=>by
 unfold c2T
 rw [(den_node (by decide) (by decide) eps n).1,(den_node (by decide) (by decide) eps n).1]
 simp only [subT,List.map_cons,List.map_nil,kid,List.getD_cons_zero]
 simp
theorem cong3 {x y : Tp} (hx : tCheck x = 0) (hy : tCheck y = 0) (hu : tCheck (c3T x) = 0) (hv : tCheck (c3T y) = 0) : isP (c3T x) (c3T y) = isP x y:=cong_of hx hy hu hv fun n=>by
 unfold c3T
 rw [(den_node (by decide) (by decide) eps n).1,(den_node (by decide) (by decide) eps n).1]
 have he:=sub_refl n (den endT eps n)
 simp only [subT,List.map_cons,List.map_nil,kid,List.getD_cons_zero,List.getD_cons_succ]
 simp [he]
theorem cong4 {x y : Tp} (hx : tCheck x = 0) (hy : tCheck y = 0) (hu : tCheck (c4T x) = 0) (hv : tCheck (c4T y) = 0) : isP (c4T x) (c4T y) = isP x y:=cong_of hx hy hu hv fun n=>by
 unfold c4T
 rw [(den_node (by decide) (by decide) eps n).1,(den_node (by decide) (by decide) eps n).1]
 have he:=sub_refl n (den endT eps n)
 simp only [subT,List.map_cons,List.map_nil,kid,List.getD_cons_zero,List.getD_cons_succ]
 simp [he]
theorem cong5 {x y : Tp} (hx : tCheck x = 0) (hy : tCheck y = 0) (hu : tCheck (c5T x) = 0) (hv : tCheck (c5T y) = 0) : isP (c5T x) (c5T y) = isP x y:=cong_of hx hy hu hv fun n=>by
 unfold c5T
 rw [(den_node (by decide) (by decide) eps n).1,(den_node (by decide) (by decide) eps n).1]
 have he:=sub_refl n (den endT eps n)
 have k1:=kidA (den x eps n) (den endT eps n)
 have k2:=kidA (den y eps n) (den endT eps n)
 simp only [subT,List.map_cons,List.map_nil,List.mem_cons,List.not_mem_nil,or_false,forall_eq_or_imp,forall_eq,k1.1,k1.2,k2.1,k2.2]
 simp [he]
theorem cong6 {x y : Tp} (hx : tCheck x = 0) (hy : tCheck y = 0) (hu : tCheck (c6T x) = 0) (hv : tCheck (c6T y) = 0) : isP (c6T x) (c6T y) = isP x y:=cong_of hx hy hu hv fun n=>by
 unfold c6T
 rw [(den_node (by decide) (by decide) eps n).1,(den_node (by decide) (by decide) eps n).1]
 have he:=sub_refl n (den endT eps n)
 have k1:=kidA (den endT eps n) (den x eps n)
 have k2:=kidA (den endT eps n) (den y eps n)
 simp only [subT,List.map_cons,List.map_nil,List.mem_cons,List.not_mem_nil,or_false,forall_eq_or_imp,forall_eq,k1.1,k1.2,k2.1,k2.2]
 simp [he]
theorem den_qq {x : Tp} (hx : tCheck x = 0) (hu : tCheck (c7T x) = 0) : den (c7T x) eps = den x eps:=by
 obtain ⟨h1,h2,h3,h4, -, -, -⟩:=rec_parts hu
 unfold c7T
 rw [den_unfold h1 h3 h4]
 exact den_closed hx _ _
theorem cong7 {x y : Tp} (hx : tCheck x = 0) (hy : tCheck y = 0) (hu : tCheck (c7T x) = 0) (hv : tCheck (c7T y) = 0) : isP (c7T x) (c7T y) = isP x y:=by
 rw [Bool.eq_iff_iff,isP_den hu hv,isP_den hx hy,den_qq hx hu,den_qq hy hv]
theorem cong8 {x y : Tp} (hx : tCheck x = 0) (hy : tCheck y = 0) (hu : tCheck (gvT y) = 0) (hv : tCheck (gvT x) = 0) : isP (gvT y) (gvT x) = isP x y:=cong_of hx hy hu hv fun n=>by
 unfold gvT
 rw [(den_node (by decide) (by decide) eps n).1,(den_node (by decide) (by decide) eps n).1]
 have he:=sub_refl n (den endT eps n)
 simp only [subT,List.map_cons,List.map_nil,kid,List.getD_cons_zero,List.getD_cons_succ]
 simp [he]
def endD : D:=.agg [iD 1,iD 0,sD noB,.slc [],.slc []]
def CloF (Γ : Gl) (f : FuncId) (caps : List SV) (c : Tp → Tp) : Prop := ∀ x : Tp,SFn Tryd.prog Γ f (.d x.d :: caps) [] (.d (c x).d) []
set_option maxHeartbeats 4000000 in
set_option maxRecDepth 100000 in
theorem clo1 (Γ : Gl) : CloF Γ 38 [] c1T:=fun x=>by
 simp only [c1T,Tp.d,Tp.ds]
 generalize hX : x.d = X
 obtain ⟨k,so,nm,ls,l⟩:=x
 simp only [Tp.d] at hX
 refine sfn_of_swp (N:=6) Tryd.func38 rfl (by decide) rfl rfl (by simp) (fun C h0=>?_)
 subst hX
 simp only [argS]
 repeat' (first|(with_reducible first|apply zw0|apply zw1|apply zw2|apply zw4|apply zw5|apply zw6|apply zw7|apply zw8|apply zw9|apply zw10|apply zw11|apply zw13|apply zw14)|((with_reducible refine zw12 ?_ ?_);rfl)|((with_reducible refine zw16 ?_ ?_ (fun K' hK'=>?_));rfl;rfl;simp only [WC,simprocAttr];(repeat (refine And.intro ?_ ?_;focus (clear hK';intros;simp_all;done)));(try (refine hK' _ _ ?_;clear hK' K')))|((with_reducible refine zw15 ?_ ?_);rfl;refine ⟨_,rfl,fun h=>?_,fun h=>?_⟩ <;> try exact absurd h (by decide)))
 refine swp_frz [2] h0 (by simp only [Option.isSome_some,UF,WC,simprocAttr]) ?_
 simp only [WC,simprocAttr,UF]
 repeat' (first|(with_reducible apply zz1)|((with_reducible refine zz4 ?_ ?_);rfl)|((with_reducible refine zz2 ?_ (fun K' hK'=>?_));rfl;simp only [WC,simprocAttr];(repeat (refine And.intro ?_ ?_;focus (clear hK';intros;simp_all;done)));(try (refine hK' _ _ ?_;clear hK' K')))|((with_reducible refine zz3 ?_ ?_);rfl;refine ⟨_,rfl,fun h=>?_,fun h=>?_⟩ <;> try exact absurd h (by decide)))
 simp only [KretS,retL,retOne,oneV,US,WC,simprocAttr,h0]
set_option maxHeartbeats 4000000 in
set_option maxRecDepth 100000 in
theorem clo2 (Γ : Gl) : CloF Γ 39 [] c2T:=fun x=>by
 simp only [c2T,Tp.d,Tp.ds]
 generalize hX : x.d = X
 obtain ⟨k,so,nm,ls,l⟩:=x
 simp only [Tp.d] at hX
 refine sfn_of_swp (N:=6) Tryd.func39 rfl (by decide) rfl rfl (by simp) (fun C h0=>?_)
 subst hX
 simp only [argS]
 repeat' (first|(with_reducible first|apply zw0|apply zw1|apply zw2|apply zw4|apply zw5|apply zw6|apply zw7|apply zw8|apply zw9|apply zw10|apply zw11|apply zw13|apply zw14)|((with_reducible refine zw12 ?_ ?_);rfl)|((with_reducible refine zw16 ?_ ?_ (fun K' hK'=>?_));rfl;rfl;simp only [WC,simprocAttr];(repeat (refine And.intro ?_ ?_;focus (clear hK';intros;simp_all;done)));(try (refine hK' _ _ ?_;clear hK' K')))|((with_reducible refine zw15 ?_ ?_);rfl;refine ⟨_,rfl,fun h=>?_,fun h=>?_⟩ <;> try exact absurd h (by decide)))
 refine swp_frz [2] h0 (by simp only [Option.isSome_some,UF,WC,simprocAttr]) ?_
 simp only [WC,simprocAttr,UF]
 repeat' (first|(with_reducible apply zz1)|((with_reducible refine zz4 ?_ ?_);rfl)|((with_reducible refine zz2 ?_ (fun K' hK'=>?_));rfl;simp only [WC,simprocAttr];(repeat (refine And.intro ?_ ?_;focus (clear hK';intros;simp_all;done)));(try (refine hK' _ _ ?_;clear hK' K')))|((with_reducible refine zz3 ?_ ?_);rfl;refine ⟨_,rfl,fun h=>?_,fun h=>?_⟩ <;> try exact absurd h (by decide)))
 simp only [KretS,retL,retOne,oneV,US,WC,simprocAttr,h0]
set_option maxHeartbeats 4000000 in
set_option maxRecDepth 100000 in
theorem clo3 (Γ : Gl) : CloF Γ 40 [.fptr endD 0] c3T:=fun x=>by
 simp only [c3T,endT,endD,Tp.d,Tp.ds,List.map_nil]
 generalize hX : x.d = X
 obtain ⟨k,so,nm,ls,l⟩:=x
 simp only [Tp.d] at hX
 refine sfn_of_swp (N:=8) Tryd.func40 rfl (by decide) rfl rfl (by simp) (fun C h0=>?_)
 subst hX
 simp only [argS]
 repeat' (first|(with_reducible first|apply zw0|apply zw1|apply zw2|apply zw4|apply zw5|apply zw6|apply zw7|apply zw8|apply zw9|apply zw10|apply zw11|apply zw13|apply zw14)|((with_reducible refine zw12 ?_ ?_);rfl)|((with_reducible refine zw16 ?_ ?_ (fun K' hK'=>?_));rfl;rfl;simp only [WC,simprocAttr];(repeat (refine And.intro ?_ ?_;focus (clear hK';intros;simp_all;done)));(try (refine hK' _ _ ?_;clear hK' K')))|((with_reducible refine zw15 ?_ ?_);rfl;refine ⟨_,rfl,fun h=>?_,fun h=>?_⟩ <;> try exact absurd h (by decide)))
 refine swp_frz [2] h0 (by simp only [Option.isSome_some,UF,WC,simprocAttr]) ?_
 simp only [WC,simprocAttr,UF]
 repeat' (first|(with_reducible apply zz1)|((with_reducible refine zz4 ?_ ?_);rfl)|((with_reducible refine zz2 ?_ (fun K' hK'=>?_));rfl;simp only [WC,simprocAttr];(repeat (refine And.intro ?_ ?_;focus (clear hK';intros;simp_all;done)));(try (refine hK' _ _ ?_;clear hK' K')))|((with_reducible refine zz3 ?_ ?_);rfl;refine ⟨_,rfl,fun h=>?_,fun h=>?_⟩ <;> try exact absurd h (by decide)))
 simp only [KretS,retL,retOne,oneV,US,WC,simprocAttr,h0]
set_option maxHeartbeats 4000000 in
set_option maxRecDepth 100000 in
theorem clo4 (Γ : Gl) : CloF Γ 41 [.fptr endD 0] c4T:=fun x=>by
 simp only [c4T,endT,endD,Tp.d,Tp.ds,List.map_nil]
 generalize hX : x.d = X
 obtain ⟨k,so,nm,ls,l⟩:=x
 simp only [Tp.d] at hX
 refine sfn_of_swp (N:=8) Tryd.func41 rfl (by decide) rfl rfl (by simp) (fun C h0=>?_)
 subst hX
 simp only [argS]
 repeat' (first|(with_reducible first|apply zw0|apply zw1|apply zw2|apply zw4|apply zw5|apply zw6|apply zw7|apply zw8|apply zw9|apply zw10|apply zw11|apply zw13|apply zw14)|((with_reducible refine zw12 ?_ ?_);rfl)|((with_reducible refine zw16 ?_ ?_ (fun K' hK'=>?_));rfl;rfl;simp only [WC,simprocAttr];(repeat (refine And.intro ?_ ?_;focus (clear hK';intros;simp_all;done)));(try (refine hK' _ _ ?_;clear hK' K')))|((with_reducible refine zw15 ?_ ?_);rfl;refine ⟨_,rfl,fun h=>?_,fun h=>?_⟩ <;> try exact absurd h (by decide)))
 refine swp_frz [2] h0 (by simp only [Option.isSome_some,UF,WC,simprocAttr]) ?_
 simp only [WC,simprocAttr,UF]
 repeat' (first|(with_reducible apply zz1)|((with_reducible refine zz4 ?_ ?_);rfl)|((with_reducible refine zz2 ?_ (fun K' hK'=>?_));rfl;simp only [WC,simprocAttr];(repeat (refine And.intro ?_ ?_;focus (clear hK';intros;simp_all;done)));(try (refine hK' _ _ ?_;clear hK' K')))|((with_reducible refine zz3 ?_ ?_);rfl;refine ⟨_,rfl,fun h=>?_,fun h=>?_⟩ <;> try exact absurd h (by decide)))
 simp only [KretS,retL,retOne,oneV,US,WC,simprocAttr,h0]
set_option maxHeartbeats 4000000 in
set_option maxRecDepth 100000 in
theorem clo5 (Γ : Gl) : CloF Γ 42 [.fptr endD 0] c5T:=fun x=>by
 simp only [c5T,endT,endD,Tp.d,Tp.ds,List.map_nil,List.map_cons]
 generalize hX : x.d = X
 obtain ⟨k,so,nm,ls,l⟩:=x
 simp only [Tp.d] at hX
 refine sfn_of_swp (N:=9) Tryd.func42 rfl (by decide) rfl rfl (by simp) (fun C h0=>?_)
 subst hX
 simp only [argS]
 repeat' (first|(with_reducible first|apply zw0|apply zw1|apply zw2|apply zw4|apply zw5|apply zw6|apply zw7|apply zw8|apply zw9|apply zw10|apply zw11|apply zw13|apply zw14)|((with_reducible refine zw12 ?_ ?_);rfl)|((with_reducible refine zw16 ?_ ?_ (fun K' hK'=>?_));rfl;rfl;simp only [WC,simprocAttr];(repeat (refine And.intro ?_ ?_;focus (clear hK';intros;simp_all;done)));(try (refine hK' _ _ ?_;clear hK' K')))|((with_reducible refine zw15 ?_ ?_);rfl;refine ⟨_,rfl,fun h=>?_,fun h=>?_⟩ <;> try exact absurd h (by decide)))
 refine swp_frz [2,3] h0 (by simp only [Option.isSome_some,UF,WC,simprocAttr]) ?_
 simp only [WC,simprocAttr,UF]
 repeat' (first|(with_reducible apply zz1)|((with_reducible refine zz4 ?_ ?_);rfl)|((with_reducible refine zz2 ?_ (fun K' hK'=>?_));rfl;simp only [WC,simprocAttr];(repeat (refine And.intro ?_ ?_;focus (clear hK';intros;simp_all;done)));(try (refine hK' _ _ ?_;clear hK' K')))|((with_reducible refine zz3 ?_ ?_);rfl;refine ⟨_,rfl,fun h=>?_,fun h=>?_⟩ <;> try exact absurd h (by decide)))
 simp only [KretS,retL,retOne,oneV,US,WC,simprocAttr,h0]
set_option maxHeartbeats 4000000 in
set_option maxRecDepth 100000 in
theorem clo6 (Γ : Gl) : CloF Γ 43 [.fptr endD 0] c6T:=fun x=>by
 simp only [c6T,endT,endD,Tp.d,Tp.ds,List.map_nil,List.map_cons]
 generalize hX : x.d = X
 obtain ⟨k,so,nm,ls,l⟩:=x
 simp only [Tp.d] at hX
 refine sfn_of_swp (N:=9) Tryd.func43 rfl (by decide) rfl rfl (by simp) (fun C h0=>?_)
 subst hX
 simp only [argS]
 repeat' (first|(with_reducible first|apply zw0|apply zw1|apply zw2|apply zw4|apply zw5|apply zw6|apply zw7|apply zw8|apply zw9|apply zw10|apply zw11|apply zw13|apply zw14)|((with_reducible refine zw12 ?_ ?_);rfl)|((with_reducible refine zw16 ?_ ?_ (fun K' hK'=>?_));rfl;rfl;simp only [WC,simprocAttr];(repeat (refine And.intro ?_ ?_;focus (clear hK';intros;simp_all;done)));(try (refine hK' _ _ ?_;clear hK' K')))|((with_reducible refine zw15 ?_ ?_);rfl;refine ⟨_,rfl,fun h=>?_,fun h=>?_⟩ <;> try exact absurd h (by decide)))
 refine swp_frz [2,3] h0 (by simp only [Option.isSome_some,UF,WC,simprocAttr]) ?_
 simp only [WC,simprocAttr,UF]
 repeat' (first|(with_reducible apply zz1)|((with_reducible refine zz4 ?_ ?_);rfl)|((with_reducible refine zz2 ?_ (fun K' hK'=>?_));rfl;simp only [WC,simprocAttr];(repeat (refine And.intro ?_ ?_;focus (clear hK';intros;simp_all;done)));(try (refine hK' _ _ ?_;clear hK' K')))|((with_reducible refine zz3 ?_ ?_);rfl;refine ⟨_,rfl,fun h=>?_,fun h=>?_⟩ <;> try exact absurd h (by decide)))
 simp only [KretS,retL,retOne,oneV,US,WC,simprocAttr,h0]
set_option maxHeartbeats 4000000 in
set_option maxRecDepth 100000 in
theorem clo7 (Γ : Gl) : CloF Γ 44 [] c7T:=fun x=>by
 simp only [c7T,Tp.d,Tp.ds,List.map_nil]
 generalize hX : x.d = X
 obtain ⟨k,so,nm,ls,l⟩:=x
 simp only [Tp.d] at hX
 refine sfn_of_swp (N:=6) Tryd.func44 rfl (by decide) rfl rfl (by simp) (fun C h0=>?_)
 subst hX
 simp only [argS]
 repeat' (first|(with_reducible first|apply zw0|apply zw1|apply zw2|apply zw4|apply zw5|apply zw6|apply zw7|apply zw8|apply zw9|apply zw10|apply zw11|apply zw13|apply zw14)|((with_reducible refine zw12 ?_ ?_);rfl)|((with_reducible refine zw16 ?_ ?_ (fun K' hK'=>?_));rfl;rfl;simp only [WC,simprocAttr];(repeat (refine And.intro ?_ ?_;focus (clear hK';intros;simp_all;done)));(try (refine hK' _ _ ?_;clear hK' K')))|((with_reducible refine zw15 ?_ ?_);rfl;refine ⟨_,rfl,fun h=>?_,fun h=>?_⟩ <;> try exact absurd h (by decide)))
 refine swp_frz [2] h0 (by simp only [Option.isSome_some,UF,WC,simprocAttr]) ?_
 simp only [WC,simprocAttr,UF]
 repeat' (first|(with_reducible apply zz1)|((with_reducible refine zz4 ?_ ?_);rfl)|((with_reducible refine zz2 ?_ (fun K' hK'=>?_));rfl;simp only [WC,simprocAttr];(repeat (refine And.intro ?_ ?_;focus (clear hK';intros;simp_all;done)));(try (refine hK' _ _ ?_;clear hK' K')))|((with_reducible refine zz3 ?_ ?_);rfl;refine ⟨_,rfl,fun h=>?_,fun h=>?_⟩ <;> try exact absurd h (by decide)))
 simp only [KretS,retL,retOne,oneV,US,WC,simprocAttr,h0]
end Go.Proofs.YtgecnlcbdbaneaaDoor
