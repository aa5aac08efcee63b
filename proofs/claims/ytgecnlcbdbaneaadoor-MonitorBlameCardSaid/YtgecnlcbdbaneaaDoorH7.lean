/- below.both's fits; a symbolic walk. -/
-- TYPESA
import Derived.Test.YtgecnlcbdbaneaaDoorH5
set_option linter.unusedVariables false
set_option linter.unusedSimpArgs false
namespace Go.Proofs.YtgecnlcbdbaneaaDoor
open Go.RowKit Go.Sw
open Go.Sw renaming swp_seq → zw0, kseq_n → zw6, swp_region → zw17

abbrev dotS : ByteArray:=⟨#[46]⟩
abbrev hatS : ByteArray:=⟨#[94]⟩
def stD (s : ByteArray × Pr) : D:=.agg [sD s.1,iD s.2.a,iD s.2.b,bD s.2.t]
def ixL (l : ByteArray) (ls : List ByteArray) : Int:=idxS l.toList ls 0
def fewL (x y : Nd) : List ByteArray:=if x.k = 6 then y.ls else x.ls
def manyL (x y : Nd) : List ByteArray:=if x.k = 6 then x.ls else y.ls
def lStep (g h : List Nd) (p : Pr) (l : ByteArray) : ByteArray × Pr:=(l,toP g h p (ixL l (ndX g h p).ls) (ixL l (ndY g h p).ls) false)
def fitsP (g h : List Nd) (p : Pr) : Option (List (ByteArray × Pr)) :=
 if (ndX g h p).k ≠ (ndY g h p).k then none else if (ndX g h p).so ≠ (ndY g h p).so then none
 else if (ndX g h p).k = 2 ∨ (ndX g h p).k = 3 then some [(dotS,toP g h p 0 0 false)]
 else if (ndX g h p).k = 4 ∨ (ndX g h p).k = 5 then some [(hatS,toP g h p 0 0 ((ndX g h p).k == 4)),(dotS,toP g h p 1 1 false)]
 else if (fewL (ndX g h p) (ndY g h p)).all (fun l=>inL (manyL (ndX g h p) (ndY g h p)) l) = true then some ((fewL (ndX g h p) (ndY g h p)).map (lStep g h p)) else none
structure NdSh (x : Nd) : Prop where
 one : x.k = 2 ∨ x.k = 3 → 1 ≤ x.to.length
 two : x.k = 4 ∨ x.k = 5 → 2 ≤ x.to.length
 ls : x.ls.length ≤ x.to.length
 l6 : x.ls.length ≤ 6
theorem idx_range {s : List UInt8} : ∀ {l : List ByteArray} {j : Nat},(l.any fun b=>s == b.toList) = true → 0 ≤ idxS s l j ∧ idxS s l j < ((j + l.length : Nat) : Int)
 | b :: l,j,h=>by
  unfold idxS
  by_cases hb : s = b.toList
  · rw [if_pos hb];simp only [List.length_cons];omega
  · rw [if_neg hb]
    simp only [List.any_cons,Bool.or_eq_true,beq_iff_eq] at h
    have:=idx_range (l:=l) (j:=j + 1) (h.resolve_left hb)
    simp only [List.length_cons];omega
def fitA (r : Option (List (ByteArray × Pr))) : D:=match r with | some l=>.tup [.slc (l.map stD),bD true] | none=>.tup [.slc [],bD false]
set_option maxHeartbeats 8000000 in
set_option maxRecDepth 100000 in
theorem fits_fn (Γ : Gl) (g f : List Nd) (p : Pr) (ha0 : 0 ≤ p.a) (ha1 : p.a < (g.length : Int)) (hb0 : 0 ≤ p.b) (hb1 : p.b < (f.length : Int)) (hX : NdSh (ndX g f p)) (hY : NdSh (ndY g f p)) :
 DFn Tryd.prog Γ 77 [.agg [.slc (g.map Nd.d),.slc (f.map Nd.d)],p.d] (fitA (fitsP g f p)):=by
 have hn:=nodes_fn Γ g f p ha0 ha1 hb0 hb1
 have hto:=fun i k t=>to_fn Γ g f p i k t ha0 ha1 hb0 hb1
 obtain ⟨R,hR⟩ : ∃ R,fitsP g f p = R:=⟨_,rfl⟩
 rw [hR]
 unfold fitsP lStep at hR
 generalize toP g f p = T at hto hR
 generalize ndX g f p = X at *
 generalize ndY g f p = Y at *
 obtain ⟨xk,xso,xls,xto⟩:=X
 obtain ⟨yk,yso,yls,yto⟩:=Y
 obtain ⟨a,b,u⟩:=p
 obtain ⟨hX1,hX2,hX3,hX6⟩:=hX
 obtain ⟨hY1,hY2,hY3,hY6⟩:=hY
 simp only [Nd.d,Pr.d] at hn hto hR hX1 hX2 hX3 hX6 hY1 hY2 hY3 hY6 ⊢
 refine fn_of_swp (N:=91) Tryd.func77 rfl (by decide) rfl rfl (by simp) (fun C h0=>?_)
 simp only [argE]
 by_cases hk : xk = yk
 case neg =>
  have g1 : (xk != yk) = true:=by simpa using hk
  rw [if_pos hk] at hR
  subst hR
  repeat' (first|(with_reducible apply zz1)|((with_reducible apply zz2);rfl;intro K' hK';simp only [WA,simprocAttr];(repeat (constructor;focus (clear hK';intros;simp_all;done)));(try (apply hK';clear hK' K')))|((with_reducible apply zz3);rfl;all_goals (intro h;try exact absurd h (by decide))))
  refine stop_call h0 rfl (by simp only [WA,simprocAttr]) rfl (by simp only [keepS,Option.isSome_some,WA,simprocAttr]) (hn) ?_
  simp only [WA,simprocAttr,inX,dropS, ]
  (repeat (constructor;focus (clear hK';intros;simp_all;done)))
  (try (apply hK';clear hK' K'))
  repeat' (first|(with_reducible apply zz1)|((with_reducible apply zz2);rfl;intro K' hK';simp only [WA,simprocAttr,g1];(repeat (constructor;focus (clear hK';intros;simp_all;done)));(try (apply hK';clear hK' K')))|((with_reducible apply zz3);rfl;all_goals (intro h;try exact absurd h (by decide))))
  simp only [fitA]
  simp only [Kret,retL,retOne,oneV,WA,simprocAttr,List.map_nil]
 by_cases hso : xso = yso
 case neg =>
  have g1 : (xk != yk) = false:=by simpa using hk
  have g2 : (xso != yso) = true:=by simpa using hso
  rw [if_neg (by simpa using hk),if_pos hso] at hR
  subst hR
  repeat' (first|(with_reducible apply zz1)|((with_reducible apply zz2);rfl;intro K' hK';simp only [WA,simprocAttr];(repeat (constructor;focus (clear hK';intros;simp_all;done)));(try (apply hK';clear hK' K')))|((with_reducible apply zz3);rfl;all_goals (intro h;try exact absurd h (by decide))))
  refine stop_call h0 rfl (by simp only [WA,simprocAttr]) rfl (by simp only [keepS,Option.isSome_some,WA,simprocAttr]) (hn) ?_
  simp only [WA,simprocAttr,inX,dropS, ]
  (repeat (constructor;focus (clear hK';intros;simp_all;done)))
  (try (apply hK';clear hK' K'))
  repeat' (first|(with_reducible apply zz1)|((with_reducible apply zz2);rfl;intro K' hK';simp only [WA,simprocAttr,g1,g2];(repeat (constructor;focus (clear hK';intros;simp_all;done)));(try (apply hK';clear hK' K')))|((with_reducible apply zz3);rfl;all_goals (intro h;try exact absurd h (by decide))))
  simp only [fitA]
  simp only [Kret,retL,retOne,oneV,WA,simprocAttr,List.map_nil]
 have g1 : (xk != yk) = false:=by simpa using hk
 have g2 : (xso != yso) = false:=by simpa using hso
 rw [if_neg (by simpa using hk),if_neg (by simpa using hso)] at hR
 subst hk hso
 repeat' (first|(with_reducible apply zz1)|((with_reducible apply zz2);rfl;intro K' hK';simp only [WA,simprocAttr];(repeat (constructor;focus (clear hK';intros;simp_all;done)));(try (apply hK';clear hK' K')))|((with_reducible apply zz3);rfl;all_goals (intro h;try exact absurd h (by decide))))
 refine stop_call h0 rfl (by simp only [WA,simprocAttr]) rfl (by simp only [keepS,Option.isSome_some,WA,simprocAttr]) (hn) ?_
 simp only [WA,simprocAttr,inX,dropS, ]
 (repeat (constructor;focus (clear hK';intros;simp_all;done)))
 (try (apply hK';clear hK' K'))
 refine zw6 ?_
 refine zw0 ?_
 refine zw0 ?_
 (with_reducible refine zw17 ?_ (fun K' hK'=>?_)
  · rfl
  simp only [WA,simprocAttr,g1,g2]
  (repeat (constructor;focus (clear hK';intros;simp_all;done))))
 refine hK' _ _ ?_
 clear hK' K'
 refine zw6 ?_
 ((with_reducible refine swp_cond ?_ ?_);rfl;refine ⟨_,rfl,fun h=>?_,fun h=>?_⟩ <;> try exact absurd h (by decide))
 refine swp_skip ?_
 refine zw6 ?_
 refine zw0 ?_
 (with_reducible refine zw17 ?_ (fun K' hK'=>?_)
  · rfl
  simp only [WA,simprocAttr]
  (repeat (constructor;focus (clear hK';intros;simp_all;done))))
 refine hK' _ _ ?_
 clear hK' K'
 refine zw6 ?_
 refine zw0 ?_
 refine zw0 ?_
 refine swp_midK [(6,.fptr (.agg [iD xk,iD xso,.slc (xls.map sD),.slc (xto.map iD)]) 0),(7,.fptr (.agg [iD xk,iD xso,.slc (yls.map sD),.slc (yto.map iD)]) 0),(8,.clo 89 [.fptr (.agg [iD a,iD b,bD u]) 0,.fptr (.agg [.slc (g.map Nd.d),.slc (f.map Nd.d)]) 0]),(34,.d (iD xk))] [] ?_ ?_
 · repeat' (first|(with_reducible apply zz1)|((with_reducible apply zz2);rfl;intro K' hK';simp only [WA,simprocAttr];(repeat (constructor;focus (clear hK';intros;simp_all;done)));(try (apply hK';clear hK' K')))|((with_reducible apply zz3);rfl;all_goals (intro h;try exact absurd h (by decide))))
   refine ⟨rfl,?_⟩
   refine sub_of h0 ?_ ?_ ?_ <;> simp only [US,WA,simprocAttr]
 by_cases k23 : xk = 2 ∨ xk = 3
 · rw [if_pos k23] at hR
   have h1:=hX1 k23
   have h2:=hY1 k23
   have hc:=hto 0 0 false (by omega) (by omega) (by omega) (by omega)
   generalize T 0 0 false = q at hc hR
   obtain ⟨qa,qb,qt⟩:=q
   simp only [Pr.d] at hc
   subst hR
   have hend : ∀ (b1 : Bool),(xk == 2) = b1 → b1 = false → (xk == 3) = true:=fun b1 h1 h2=>by
    rw [h2] at h1
    have : xk ≠ 2:=by simpa using h1
    simpa using k23.resolve_left this
   cases e2 : (xk == 2) with
   | true =>
    repeat' (first|(with_reducible apply zz1)|((with_reducible apply zz2);rfl;intro K' hK';simp only [WA,simprocAttr,e2];(repeat (constructor;focus (clear hK';intros;simp_all;done)));(try (apply hK';clear hK' K')))|((with_reducible apply zz3);rfl;all_goals (intro h;try exact absurd h (by decide))))
    refine stop_callV rfl rfl (by simp only [UA,WA,simprocAttr]) (by simp only [UA,WA,simprocAttr]) (by simp only [UA,WA,simprocAttr]) (by simp only [UA,WA,simprocAttr]) (by simp only [UA,WA,simprocAttr]) (hc) ?_
    simp only [WA,simprocAttr,UM, ]
    (try (apply hK';clear hK' K'))
    repeat' (first|(with_reducible apply zz1)|((with_reducible apply zz2);rfl;intro K' hK';simp only [WA,simprocAttr];(repeat (constructor;focus (clear hK';intros;simp_all;done)));(try (apply hK';clear hK' K')))|((with_reducible apply zz3);rfl;all_goals (intro h;try exact absurd h (by decide))))
    simp only [fitA,stD]
    simp only [Kret,retL,retOne,oneV,WA,simprocAttr,List.map_cons,List.map_nil]
    rfl
   | false =>
    have e3:=hend _ e2 rfl
    repeat' (first|(with_reducible apply zz1)|((with_reducible apply zz2);rfl;intro K' hK';simp only [WA,simprocAttr,e2,e3];(repeat (constructor;focus (clear hK';intros;simp_all;done)));(try (apply hK';clear hK' K')))|((with_reducible apply zz3);rfl;all_goals (intro h;try exact absurd h (by decide))))
    refine stop_callV rfl rfl (by simp only [UA,WA,simprocAttr]) (by simp only [UA,WA,simprocAttr]) (by simp only [UA,WA,simprocAttr]) (by simp only [UA,WA,simprocAttr]) (by simp only [UA,WA,simprocAttr]) (hc) ?_
    simp only [WA,simprocAttr,UM, ]
    (try (apply hK';clear hK' K'))
    repeat' (first|(with_reducible apply zz1)|((with_reducible apply zz2);rfl;intro K' hK';simp only [WA,simprocAttr];(repeat (constructor;focus (clear hK';intros;simp_all;done)));(try (apply hK';clear hK' K')))|((with_reducible apply zz3);rfl;all_goals (intro h;try exact absurd h (by decide))))
    simp only [fitA,stD]
    simp only [Kret,retL,retOne,oneV,WA,simprocAttr,List.map_cons,List.map_nil]
    rfl
 rw [if_neg k23] at hR
 have e2 : (xk == 2) = false:=by simp;omega
 have e3 : (xk == 3) = false:=by simp;omega
 by_cases k45 : xk = 4 ∨ xk = 5
 · rw [if_pos k45] at hR
   have h1:=hX2 k45
   have h2:=hY2 k45
   have hc:=hto 0 0 (xk == 4) (by omega) (by omega) (by omega) (by omega)
   have hc2:=hto 1 1 false (by omega) (by omega) (by omega) (by omega)
   generalize T 0 0 (xk == 4) = q at hc hR
   generalize T 1 1 false = q2 at hc2 hR
   obtain ⟨qa,qb,qt⟩:=q
   obtain ⟨ra,rb,rt⟩:=q2
   simp only [Pr.d] at hc hc2
   subst hR
   cases e4 : (xk == 4) with
   | true =>
    rw [e4] at hc
    repeat' (first|(with_reducible apply zz1)|((with_reducible apply zz2);rfl;intro K' hK';simp only [WA,simprocAttr,e2,e3,e4];(repeat (constructor;focus (clear hK';intros;simp_all;done)));(try (apply hK';clear hK' K')))|((with_reducible apply zz3);rfl;all_goals (intro h;try exact absurd h (by decide))))
    refine stop_callV rfl rfl (by simp only [UA,WA,simprocAttr]) (by simp only [UA,WA,simprocAttr]) (by simp only [UA,WA,simprocAttr]) (by simp only [UA,WA,simprocAttr]) (by simp only [UA,WA,simprocAttr]) (hc) ?_
    simp only [WA,simprocAttr,UM, ]
    (try (apply hK';clear hK' K'))
    repeat' (first|(with_reducible apply zz1)|((with_reducible apply zz2);rfl;intro K' hK';simp only [WA,simprocAttr];(repeat (constructor;focus (clear hK';intros;simp_all;done)));(try (apply hK';clear hK' K')))|((with_reducible apply zz3);rfl;all_goals (intro h;try exact absurd h (by decide))))
    refine stop_callV rfl rfl (by simp only [UA,WA,simprocAttr]) (by simp only [UA,WA,simprocAttr]) (by simp only [UA,WA,simprocAttr]) (by simp only [UA,WA,simprocAttr]) (by simp only [UA,WA,simprocAttr]) (hc2) ?_
    simp only [WA,simprocAttr,UM, ]
    (try (apply hK';clear hK' K'))
    repeat' (first|(with_reducible apply zz1)|((with_reducible apply zz2);rfl;intro K' hK';simp only [WA,simprocAttr];(repeat (constructor;focus (clear hK';intros;simp_all;done)));(try (apply hK';clear hK' K')))|((with_reducible apply zz3);rfl;all_goals (intro h;try exact absurd h (by decide))))
    simp only [fitA,stD]
    simp only [Kret,retL,retOne,oneV,WA,simprocAttr,List.map_cons,List.map_nil]
    rfl
   | false =>
    rw [e4] at hc
    have e5 : (xk == 5) = true:=by
     have : xk ≠ 4:=by simpa using e4
     simpa using k45.resolve_left this
    repeat' (first|(with_reducible apply zz1)|((with_reducible apply zz2);rfl;intro K' hK';simp only [WA,simprocAttr,e2,e3,e4,e5];(repeat (constructor;focus (clear hK';intros;simp_all;done)));(try (apply hK';clear hK' K')))|((with_reducible apply zz3);rfl;all_goals (intro h;try exact absurd h (by decide))))
    refine stop_callV rfl rfl (by simp only [UA,WA,simprocAttr]) (by simp only [UA,WA,simprocAttr]) (by simp only [UA,WA,simprocAttr]) (by simp only [UA,WA,simprocAttr]) (by simp only [UA,WA,simprocAttr]) (hc) ?_
    simp only [WA,simprocAttr,UM, ]
    (try (apply hK';clear hK' K'))
    repeat' (first|(with_reducible apply zz1)|((with_reducible apply zz2);rfl;intro K' hK';simp only [WA,simprocAttr];(repeat (constructor;focus (clear hK';intros;simp_all;done)));(try (apply hK';clear hK' K')))|((with_reducible apply zz3);rfl;all_goals (intro h;try exact absurd h (by decide))))
    refine stop_callV rfl rfl (by simp only [UA,WA,simprocAttr]) (by simp only [UA,WA,simprocAttr]) (by simp only [UA,WA,simprocAttr]) (by simp only [UA,WA,simprocAttr]) (by simp only [UA,WA,simprocAttr]) (hc2) ?_
    simp only [WA,simprocAttr,UM, ]
    (try (apply hK';clear hK' K'))
    repeat' (first|(with_reducible apply zz1)|((with_reducible apply zz2);rfl;intro K' hK';simp only [WA,simprocAttr];(repeat (constructor;focus (clear hK';intros;simp_all;done)));(try (apply hK';clear hK' K')))|((with_reducible apply zz3);rfl;all_goals (intro h;try exact absurd h (by decide))))
    simp only [fitA,stD]
    simp only [Kret,retL,retOne,oneV,WA,simprocAttr,List.map_cons,List.map_nil]
    rfl
 rw [if_neg k45] at hR
 have e4 : (xk == 4) = false:=by simp;omega
 have e5 : (xk == 5) = false:=by simp;omega
 obtain ⟨few,hfew⟩ : ∃ few,fewL ⟨xk,xso,xls,xto⟩ ⟨xk,xso,yls,yto⟩ = few:=⟨_,rfl⟩
 obtain ⟨many,hmany⟩ : ∃ many,manyL ⟨xk,xso,xls,xto⟩ ⟨xk,xso,yls,yto⟩ = many:=⟨_,rfl⟩
 rw [hfew,hmany] at hR
 simp only [fewL] at hfew
 simp only [manyL] at hmany
 repeat' (first|(with_reducible apply zz1)|((with_reducible apply zz2);rfl;intro K' hK';simp only [WA,simprocAttr,e2,e3,e4,e5];(repeat (constructor;focus (clear hK';intros;simp_all;done)));(try (apply hK';clear hK' K')))|((with_reducible apply zz3);rfl;all_goals (intro h;try exact absurd h (by decide))))
 (with_reducible refine swp_draw ?_ ?_ ?_ ([]) (fun K' hK'=>?_)
  · kernel_rfl
  · rfl
  · rfl
  simp only [WA,simprocAttr,UG, ]
  (try (apply hK';clear hK' K')))
 refine zw6 ?_
 refine zw0 ?_
 refine swp_midK [(6,.fptr (.agg [iD xk,iD xso,.slc (xls.map sD),.slc (xto.map iD)]) 0),(7,.fptr (.agg [iD xk,iD xso,.slc (yls.map sD),.slc (yto.map iD)]) 0),(8,.clo 89 [.fptr (.agg [iD a,iD b,bD u]) 0,.fptr (.agg [.slc (g.map Nd.d),.slc (f.map Nd.d)]) 0]),(9,.d (.slc (few.map sD))),(10,.d (.slc (many.map sD)))] [] ?_ ?_
 · by_cases k6 : xk = 6
   · have e6 : (xk == 6) = true:=by simpa using k6
     rw [if_pos k6] at hfew hmany
     subst hfew hmany
     repeat' (first|(with_reducible apply zz1)|((with_reducible apply zz2);rfl;intro K' hK';simp only [WA,simprocAttr,e6];(repeat (constructor;focus (clear hK';intros;simp_all;done)));(try (apply hK';clear hK' K')))|((with_reducible apply zz3);rfl;all_goals (intro h;try exact absurd h (by decide))))
     refine ⟨rfl,?_⟩
     refine sub_of h0 ?_ ?_ ?_ <;> simp only [US,WA,simprocAttr]
   · have e6 : (xk == 6) = false:=by simpa using k6
     rw [if_neg k6] at hfew hmany
     subst hfew hmany
     repeat' (first|(with_reducible apply zz1)|((with_reducible apply zz2);rfl;intro K' hK';simp only [WA,simprocAttr,e6];(repeat (constructor;focus (clear hK';intros;simp_all;done)));(try (apply hK';clear hK' K')))|((with_reducible apply zz3);rfl;all_goals (intro h;try exact absurd h (by decide))))
     refine ⟨rfl,?_⟩
     refine sub_of h0 ?_ ?_ ?_ <;> simp only [US,WA,simprocAttr]
 have hfl : few.length ≤ 6 ∧ many.length ≤ 6:=by
  rw [← hfew, ← hmany]
  split <;> exact ⟨by assumption,by assumption⟩
 have hboth : ∀ l ∈ few,inL many l = true → inL xls l = true ∧ inL yls l = true:=fun l hl hm=>by
  have h1 : inL few l = true:=List.any_eq_true.2 ⟨l,hl,by simp⟩
  rw [← hfew] at h1
  rw [← hmany] at hm
  by_cases k6 : xk = 6
  · rw [if_pos k6] at h1 hm;exact ⟨hm,h1⟩
  · rw [if_neg k6] at h1 hm;exact ⟨h1,hm⟩
 clear hfew hmany
 refine zw0 ?_
 (with_reducible refine zw17 ?_ (fun K' hK'=>?_)
  · rfl
  simp only [WA,simprocAttr]
  (repeat (constructor;focus (clear hK';intros;simp_all;done))))
 refine hK' _ _ ?_
 clear hK' K'
 refine zw6 ?_
 refine swp_nil 11 0 4 rfl rfl (by decide) ?_
 simp only [WA,simprocAttr]
 repeat' (first|(with_reducible apply zz1)|((with_reducible apply zz2);rfl;intro K' hK';simp only [WA,simprocAttr,List.length_map];(repeat (constructor;focus (clear hK';intros;simp_all;done)));(try (apply hK';clear hK' K')))|((with_reducible apply zz3);rfl;all_goals (intro h;try exact absurd h (by decide))))
 refine swp_loop (α := Nat) (fun j=>[(6,.fptr (.agg [iD xk,iD xso,.slc (xls.map sD),.slc (xto.map iD)]) 0),(7,.fptr (.agg [iD xk,iD xso,.slc (yls.map sD),.slc (yto.map iD)]) 0),(8,.clo 89 [.fptr (.agg [iD a,iD b,bD u]) 0,.fptr (.agg [.slc (g.map Nd.d),.slc (f.map Nd.d)]) 0]),(10,.d (.slc (many.map sD))),(11,.own 0),(64,.d (.slc (few.map sD))),(65,.d (iD few.length)),(66,.d (iD j))])
  (fun j=>[(0,.row 4 (((few.take j).map fun l=>(l,T (ixL l xls) (ixL l yls) false)).map stD))]) (fun j=>j ≤ few.length ∧ (few.take j).all (fun l=>inL many l) = true) (fun j=>few.length - j) 0 ⟨Nat.zero_le _,rfl⟩ (by refine sub_of h0 ?_ ?_ ?_ <;> simp only [US,WA,simprocAttr,List.take_zero,List.map_nil]) (fun j hj=>?_)
 obtain ⟨hj,hall⟩:=hj
 have hj0 : (0 : Int) ≤ (j : Int):=by omega
 by_cases hlt : j < few.length
 · obtain ⟨l,hl⟩ : ∃ l,few[j]? = some l:=⟨few[j],by simp [hlt]⟩
   have hlm:=List.mem_of_getElem? hl
   have hlg : (few.map sD).getD j default = sD l:=by simp [List.getD,hl]
   have hj1 : (j : Int) < (few.length : Int):=by omega
   have hw2 : IntKind.i64.wrap ((j : Int) + 1) = ((j + 1 : Nat) : Int):=by rw [wrap_in (by omega) (by omega)];omega
   have hct : DFn Tryd.prog Γ 62 [.slc (many.map sD),sD l] (.v (.bool (inL many l))):=containsS_fn Γ many l (by omega)
   cases hin : inL many l with
   | false =>
    rw [hin] at hct
    have hna : ¬ few.all (fun l=>inL many l) = true:=fun h=>by
     have:=List.all_eq_true.1 h l hlm
     rw [hin] at this;cases this
    rw [if_neg hna] at hR
    subst hR
    repeat' (first|(with_reducible apply zz1)|((with_reducible apply zz2);rfl;intro K' hK';simp only [WA,simprocAttr,Int.toNat_natCast,hj0,hj1,hlg,List.length_map];(repeat (constructor;focus (clear hK';intros;simp_all;done)));(try (apply hK';clear hK' K')))|((with_reducible apply zz3);rfl;all_goals (intro h;try exact absurd h (by decide))))
    refine stop_callF rfl (by simp only [WA,simprocAttr]) rfl rfl (hct) ?_
    simp only [WA,simprocAttr,inX,dropS,Bool.not_true,Bool.not_false]
    (repeat (constructor;focus (clear hK';intros;simp_all;done)))
    (try (apply hK';clear hK' K'))
    repeat' (first|(with_reducible apply zz1)|((with_reducible apply zz2);rfl;intro K' hK';simp only [WA,simprocAttr];(repeat (constructor;focus (clear hK';intros;simp_all;done)));(try (apply hK';clear hK' K')))|((with_reducible apply zz3);rfl;all_goals (intro h;try exact absurd h (by decide))))
    simp only [fitA]
    simp only [Kret,retL,retOne,oneV,WA,simprocAttr,List.map_nil]
   | true =>
    rw [hin] at hct
    obtain ⟨hx,hy⟩:=hboth l hlm hin
    have r1:=idx_range (s:=l.toList) (l:=xls) (j:=0) hx
    have r2:=idx_range (s:=l.toList) (l:=yls) (j:=0) hy
    have i1:=indexS_fn Γ xls l (by omega)
    have i2:=indexS_fn Γ yls l (by omega)
    have htk : few.take (j + 1) = few.take j ++ [l]:=by rw [List.take_add_one,hl];rfl
    have hc:=hto (idxS l.toList xls 0) (idxS l.toList yls 0) false (by omega) (by omega) (by omega) (by omega)
    have htl : ((few.take (j + 1)).map fun l=>(l,T (ixL l xls) (ixL l yls) false)).map stD = ((few.take j).map fun l=>(l,T (ixL l xls) (ixL l yls) false)).map stD ++ [stD (l,T (idxS l.toList xls 0) (idxS l.toList yls 0) false)]:=by
     rw [htk,List.map_append,List.map_append];rfl
    have hrl : (((few.take j).map fun l=>(l,T (ixL l xls) (ixL l yls) false)).map stD).length = j:=by simp;omega
    have hn1 : (j + 1) * 40 ≤ 140737488355328:=by omega
    have hn2 : j + 1 ≤ maxLen:=by unfold maxLen;omega
    generalize idxS l.toList xls 0 = I1 at *
    generalize idxS l.toList yls 0 = I2 at *
    obtain ⟨q,hq⟩ : ∃ q,T I1 I2 false = q:=⟨_,rfl⟩
    rw [hq] at hc htl
    obtain ⟨qa,qb,qt⟩:=q
    simp only [Pr.d] at hc
    simp only [stD] at htl
    repeat' (first|(with_reducible apply zz1)|((with_reducible apply zz2);rfl;intro K' hK';simp only [WA,simprocAttr,Int.toNat_natCast,hj0,hj1,hlg,List.length_map];(repeat (constructor;focus (clear hK';intros;simp_all;done)));(try (apply hK';clear hK' K')))|((with_reducible apply zz3);rfl;all_goals (intro h;try exact absurd h (by decide))))
    refine stop_callF rfl (by simp only [WA,simprocAttr]) rfl rfl (hct) ?_
    simp only [WA,simprocAttr,inX,dropS,Bool.not_true,Bool.not_false]
    (repeat (constructor;focus (clear hK';intros;simp_all;done)))
    (try (apply hK';clear hK' K'))
    repeat' (first|(with_reducible apply zz1)|((with_reducible apply zz2);rfl;intro K' hK';simp only [WA,simprocAttr];(repeat (constructor;focus (clear hK';intros;simp_all;done)));(try (apply hK';clear hK' K')))|((with_reducible apply zz3);rfl;all_goals (intro h;try exact absurd h (by decide))))
    (with_reducible refine swp_drawX ?_ ?_ ?_ (⟨⟨[(6,iD I1),(10,iD I2)],[]⟩,[],[(11,.agg [iD qa,iD qb,bD qt])],[],[]⟩) _ rfl (fun K' hK' gops fin hgops hfin=>?_)
     · kernel_rfl
     · rfl
     · rfl
     repeat' first
      | (refine vcX_dead rfl trivial (by simp only [WA,simprocAttr,UX,UA];rfl) (by simp only [List.nil_append,List.cons_append];rfl) (by simp only [Nat.reduceAdd];rfl) ?_)
      | (refine vcX_step rfl rfl trivial (by simp only [WA,simprocAttr,UX,UA,i1,i2,hc,hrl,hn1,hn2,List.length_map ];rfl) ?_ (by simp only [WA,simprocAttr,UX,UA];rfl) (by simp only [WA,simprocAttr,UX,UA];rfl) (by simp only [List.nil_append,List.cons_append];rfl) (by simp only [Nat.reduceAdd];rfl) ?_;focus (first | trivial | ((repeat' apply And.intro) <;> first | trivial | assumption | (clear hK' hfin hgops;intros;simp_all;done))))
     (refine vcX_nil (by subst hfin;kernel_rfl) ?_)
     clear hfin hgops fin gops
     (try (apply hK';clear hK' K')))
    repeat' (first|(with_reducible apply zz1)|((with_reducible apply zz2);rfl;intro K' hK';simp only [WA,simprocAttr,hw2];(repeat (constructor;focus (clear hK';intros;simp_all;done)));(try (apply hK';clear hK' K')))|((with_reducible apply zz3);rfl;all_goals (intro h;try exact absurd h (by decide))))
    refine ⟨j + 1,⟨(by show j + 1 ≤ few.length;omega),?_⟩,(by show few.length - (j + 1) < few.length - j;omega),by simp only [htl];refine sub_of h0 ?_ ?_ ?_ <;> simp only [US,WA,simprocAttr]⟩
    rw [htk,List.all_append,hall]
    simp [hin]
 · have hj1 : ¬ (j : Int) < (few.length : Int):=by omega
   rw [List.take_of_length_le (by omega)] at hall
   have htj : few.take j = few:=List.take_of_length_le (by omega)
   rw [if_pos hall] at hR
   subst hR
   rw [htj]
   repeat' (first|(with_reducible apply zz1)|((with_reducible apply zz2);rfl;intro K' hK';simp only [WA,simprocAttr,hj1];(repeat (constructor;focus (clear hK';intros;simp_all;done)));(try (apply hK';clear hK' K')))|((with_reducible apply zz3);rfl;all_goals (intro h;try exact absurd h (by decide))))
   simp only [fitA]
   simp only [Kret,retL,retOne,oneV,WA,simprocAttr]
end Go.Proofs.YtgecnlcbdbaneaaDoor
