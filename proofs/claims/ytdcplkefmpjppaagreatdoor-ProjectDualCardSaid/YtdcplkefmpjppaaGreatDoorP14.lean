/- project.of; a symbolic walk. -/
-- TYPESA
import Derived.Test.YtdcplkefmpjppaaGreatDoorP11
set_option linter.unusedVariables false
set_option linter.unusedSimpArgs false
namespace Go.Proofs.YtdcplkefmpjppaaGreatDoor.GG
open Go.RowKit Go.Sw

def OfF (Γ : Gl) (r : ByteArray) (g : Gt) : Option Lt → Prop
 | some x=>DFn Tryz.prog Γ 30 [g.d,sD r] (.tup [x.d,.v (.bool true)])
 | none => ∃ J : Lt,DFn Tryz.prog Γ 30 [g.d,sD r] (.tup [J.d,.v (.bool false)])
set_option maxHeartbeats 4000000 in
set_option maxRecDepth 100000 in
theorem of_end (Γ : Gl) (r : ByteArray) : DFn Tryz.prog Γ 30 [(Gt.mk 1 noB noB 0 noB [] []).d,sD r] (.tup [endL.d,.v (.bool true)]):=by
 simp only [Gt.d,Gt.ds,List.map_nil,endL,Lt.d,Lt.ds]
 refine fn_of_swp (N:=141) Tryz.func30 rfl (by decide) rfl rfl (by simp) (fun C h0=>?_)
 simp only [argE]
 repeat' (first|(with_reducible apply zz1)|((with_reducible apply zz2);rfl;intro K' hK';simp only [WA,simprocAttr,Int.reduceBEq];(repeat (constructor;focus (clear hK';intros;simp_all;done)));(try (apply hK';clear hK' K')))|((with_reducible apply zz3);rfl;all_goals (intro h;try exact absurd h (by decide))))
 simp only [Kret,retL,retOne,oneV,WA,simprocAttr]
set_option maxHeartbeats 4000000 in
set_option maxRecDepth 100000 in
theorem of_var (Γ : Gl) (r nm : ByteArray) : DFn Tryz.prog Γ 30 [(Gt.mk 9 noB noB 0 nm [] []).d,sD r] (.tup [(varL nm).d,.v (.bool true)]):=by
 simp only [Gt.d,Gt.ds,List.map_nil,varL,Lt.d,Lt.ds]
 refine fn_of_swp (N:=141) Tryz.func30 rfl (by decide) rfl rfl (by simp) (fun C h0=>?_)
 simp only [argE]
 repeat' (first|(with_reducible apply zz1)|((with_reducible apply zz2);rfl;intro K' hK';simp only [WA,simprocAttr,Int.reduceBEq];(repeat (constructor;focus (clear hK';intros;simp_all;done)));(try (apply hK';clear hK' K')))|((with_reducible apply zz3);rfl;all_goals (intro h;try exact absurd h (by decide))))
 simp only [Kret,retL,retOne,oneV,WA,simprocAttr]
set_option maxHeartbeats 16000000 in
set_option maxRecDepth 100000 in
theorem of_bind (Γ : Gl) (r nm : ByteArray) (g : Gt) (M : Option Lt) (hM : ∀ x,M = some x → OkL x) (hc : OfF Γ r g M) : OfF Γ r (.mk 8 noB noB 0 nm [] [g]) (Option.map (recL nm) M):=by
 cases M with
 | none =>
  obtain ⟨J,hc⟩:=hc
  show ∃ J : Lt,DFn Tryz.prog Γ 30 [(Gt.mk 8 noB noB 0 nm [] [g]).d,sD r] (.tup [J.d,.v (.bool false)])
  refine ⟨J,?_⟩
  obtain ⟨k,fr,to,so,gn,ls,l⟩:=g
  obtain ⟨jk,jw,js,jn,jls,jl⟩:=J
  simp only [Gt.d,Gt.ds,List.map_nil,Lt.d] at hc ⊢
  refine fn_of_swp (N:=141) Tryz.func30 rfl (by decide) rfl rfl (by simp) (fun C h0=>?_)
  simp only [argE]
  repeat' (first|(with_reducible apply zz1)|((with_reducible apply zz2);rfl;intro K' hK';simp only [WA,simprocAttr,Int.reduceBEq,List.getD_cons_zero,List.length_cons,List.length_nil];(repeat (constructor;focus (clear hK';intros;simp_all;done)));(try (apply hK';clear hK' K')))|((with_reducible apply zz3);rfl;all_goals (intro h;try exact absurd h (by decide))))
  refine stop_call h0 rfl (by simp only [WA,simprocAttr]) rfl (by simp only [keepS,Option.isSome_some,WA,simprocAttr]) (hc) ?_
  simp only [WA,simprocAttr,inX,dropS, ]
  (repeat (constructor;focus (clear hK';intros;simp_all;done)))
  (try (apply hK';clear hK' K'))
  repeat' (first|(with_reducible apply zz1)|((with_reducible apply zz2);rfl;intro K' hK';simp only [WA,simprocAttr,Bool.not_false,cond_true];(repeat (constructor;focus (clear hK';intros;simp_all;done)));(try (apply hK';clear hK' K')))|((with_reducible apply zz3);rfl;all_goals (intro h;try exact absurd h (by decide))))
  simp only [Kret,retL,retOne,oneV,WA,simprocAttr]
 | some x =>
  have ox:=hM x rfl
  have hin:=inner_fn Γ ox
  have hc : DFn Tryz.prog Γ 30 [g.d,sD r] (.tup [x.d,.v (.bool true)]):=hc
  show DFn Tryz.prog Γ 30 [(Gt.mk 8 noB noB 0 nm [] [g]).d,sD r] (.tup [(recL nm x).d,.v (.bool true)])
  clear hM ox
  obtain ⟨R,hR⟩ : ∃ R,recL nm x = R:=⟨_,rfl⟩
  rw [hR]
  unfold recL at hR
  generalize innL x = I at *
  obtain ⟨k,fr,to,so,gn,ls,l⟩:=g
  obtain ⟨xk,xw,xs,xn,xls,xl⟩:=x
  obtain ⟨ik,iw,is',in',ils,il⟩:=I
  by_cases h1 : xk = 1
  · have g1 : (xk == 1) = true:=by simpa using h1
    rw [if_pos (show (Lt.mk xk xw xs xn xls xl).kd = 1 from h1)] at hR
    subst hR
    simp only [Gt.d,Gt.ds,List.map_nil,Lt.d] at hc ⊢
    refine fn_of_swp (N:=141) Tryz.func30 rfl (by decide) rfl rfl (by simp) (fun C h0=>?_)
    simp only [argE]
    repeat' (first|(with_reducible apply zz1)|((with_reducible apply zz2);rfl;intro K' hK';simp only [WA,simprocAttr,Int.reduceBEq,List.getD_cons_zero,List.length_cons,List.length_nil];(repeat (constructor;focus (clear hK';intros;simp_all;done)));(try (apply hK';clear hK' K')))|((with_reducible apply zz3);rfl;all_goals (intro h;try exact absurd h (by decide))))
    refine stop_call h0 rfl (by simp only [WA,simprocAttr]) rfl (by simp only [keepS,Option.isSome_some,WA,simprocAttr]) (hc) ?_
    simp only [WA,simprocAttr,inX,dropS, ]
    (repeat (constructor;focus (clear hK';intros;simp_all;done)))
    (try (apply hK';clear hK' K'))
    repeat' (first|(with_reducible apply zz1)|((with_reducible apply zz2);rfl;intro K' hK';simp only [WA,simprocAttr,Bool.not_true,Bool.not_false,cond_false,g1];(repeat (constructor;focus (clear hK';intros;simp_all;done)));(try (apply hK';clear hK' K')))|((with_reducible apply zz3);rfl;all_goals (intro h;try exact absurd h (by decide))))
    simp only [Kret,retL,retOne,oneV,WA,simprocAttr]
  have g1 : (xk == 1) = false:=by simpa using h1
  rw [if_neg (show ¬ (Lt.mk xk xw xs xn xls xl).kd = 1 from h1)] at hR
  by_cases h9 : ik = 9
  · have g9 : (ik == 9) = true:=by simpa using h9
    rw [if_pos (show (Lt.mk ik iw is' in' ils il).kd = 9 from h9)] at hR
    by_cases hn : in'.toList = nm.toList
    · have gn' : (in'.toList == nm.toList) = true:=by simpa using hn
      rw [if_pos (show (Lt.mk ik iw is' in' ils il).nm.toList = nm.toList from hn)] at hR
      subst hR
      simp only [Gt.d,Gt.ds,List.map_nil,Lt.d,endL,Lt.ds] at hc hin ⊢
      refine fn_of_swp (N:=141) Tryz.func30 rfl (by decide) rfl rfl (by simp) (fun C h0=>?_)
      simp only [argE]
      repeat' (first|(with_reducible apply zz1)|((with_reducible apply zz2);rfl;intro K' hK';simp only [WA,simprocAttr,Int.reduceBEq,List.getD_cons_zero,List.length_cons,List.length_nil];(repeat (constructor;focus (clear hK';intros;simp_all;done)));(try (apply hK';clear hK' K')))|((with_reducible apply zz3);rfl;all_goals (intro h;try exact absurd h (by decide))))
      refine stop_call h0 rfl (by simp only [WA,simprocAttr]) rfl (by simp only [keepS,Option.isSome_some,WA,simprocAttr]) (hc) ?_
      simp only [WA,simprocAttr,inX,dropS, ]
      (repeat (constructor;focus (clear hK';intros;simp_all;done)))
      (try (apply hK';clear hK' K'))
      repeat' (first|(with_reducible apply zz1)|((with_reducible apply zz2);rfl;intro K' hK';simp only [WA,simprocAttr,Bool.not_true,Bool.not_false,cond_false,g1];(repeat (constructor;focus (clear hK';intros;simp_all;done)));(try (apply hK';clear hK' K')))|((with_reducible apply zz3);rfl;all_goals (intro h;try exact absurd h (by decide))))
      refine stop_call h0 rfl (by simp only [WA,simprocAttr]) rfl (by simp only [keepS,Option.isSome_some,WA,simprocAttr]) (hin) ?_
      simp only [WA,simprocAttr,inX,dropS, ]
      (repeat (constructor;focus (clear hK';intros;simp_all;done)))
      (try (apply hK';clear hK' K'))
      repeat' (first|(with_reducible apply zz1)|((with_reducible apply zz2);rfl;intro K' hK';simp only [WA,simprocAttr,g9,gn'];(repeat (constructor;focus (clear hK';intros;simp_all;done)));(try (apply hK';clear hK' K')))|((with_reducible apply zz3);rfl;all_goals (intro h;try exact absurd h (by decide))))
      simp only [Kret,retL,retOne,oneV,WA,simprocAttr]
    · have gn' : (in'.toList == nm.toList) = false:=by simpa using hn
      rw [if_neg (show ¬ (Lt.mk ik iw is' in' ils il).nm.toList = nm.toList from hn)] at hR
      subst hR
      simp only [Gt.d,Gt.ds,List.map_nil,Lt.d] at hc hin ⊢
      refine fn_of_swp (N:=141) Tryz.func30 rfl (by decide) rfl rfl (by simp) (fun C h0=>?_)
      simp only [argE]
      repeat' (first|(with_reducible apply zz1)|((with_reducible apply zz2);rfl;intro K' hK';simp only [WA,simprocAttr,Int.reduceBEq,List.getD_cons_zero,List.length_cons,List.length_nil];(repeat (constructor;focus (clear hK';intros;simp_all;done)));(try (apply hK';clear hK' K')))|((with_reducible apply zz3);rfl;all_goals (intro h;try exact absurd h (by decide))))
      refine stop_call h0 rfl (by simp only [WA,simprocAttr]) rfl (by simp only [keepS,Option.isSome_some,WA,simprocAttr]) (hc) ?_
      simp only [WA,simprocAttr,inX,dropS, ]
      (repeat (constructor;focus (clear hK';intros;simp_all;done)))
      (try (apply hK';clear hK' K'))
      repeat' (first|(with_reducible apply zz1)|((with_reducible apply zz2);rfl;intro K' hK';simp only [WA,simprocAttr,Bool.not_true,Bool.not_false,cond_false,g1];(repeat (constructor;focus (clear hK';intros;simp_all;done)));(try (apply hK';clear hK' K')))|((with_reducible apply zz3);rfl;all_goals (intro h;try exact absurd h (by decide))))
      refine stop_call h0 rfl (by simp only [WA,simprocAttr]) rfl (by simp only [keepS,Option.isSome_some,WA,simprocAttr]) (hin) ?_
      simp only [WA,simprocAttr,inX,dropS, ]
      (repeat (constructor;focus (clear hK';intros;simp_all;done)))
      (try (apply hK';clear hK' K'))
      repeat' (first|(with_reducible apply zz1)|((with_reducible apply zz2);rfl;intro K' hK';simp only [WA,simprocAttr,g9,gn'];(repeat (constructor;focus (clear hK';intros;simp_all;done)));(try (apply hK';clear hK' K')))|((with_reducible apply zz3);rfl;all_goals (intro h;try exact absurd h (by decide))))
      simp only [Kret,retL,retOne,oneV,WA,simprocAttr]
  · have g9 : (ik == 9) = false:=by simpa using h9
    have m1 : 1 ≤ maxLen:=by unfold maxLen;omega
    rw [if_neg (show ¬ (Lt.mk ik iw is' in' ils il).kd = 9 from h9)] at hR
    subst hR
    simp only [Gt.d,Gt.ds,List.map_nil,Lt.d,Lt.ds] at hc hin ⊢
    refine fn_of_swp (N:=141) Tryz.func30 rfl (by decide) rfl rfl (by simp) (fun C h0=>?_)
    simp only [argE]
    repeat' (first|(with_reducible apply zz1)|((with_reducible apply zz2);rfl;intro K' hK';simp only [WA,simprocAttr,Int.reduceBEq,List.getD_cons_zero,List.length_cons,List.length_nil];(repeat (constructor;focus (clear hK';intros;simp_all;done)));(try (apply hK';clear hK' K')))|((with_reducible apply zz3);rfl;all_goals (intro h;try exact absurd h (by decide))))
    refine stop_call h0 rfl (by simp only [WA,simprocAttr]) rfl (by simp only [keepS,Option.isSome_some,WA,simprocAttr]) (hc) ?_
    simp only [WA,simprocAttr,inX,dropS, ]
    (repeat (constructor;focus (clear hK';intros;simp_all;done)))
    (try (apply hK';clear hK' K'))
    repeat' (first|(with_reducible apply zz1)|((with_reducible apply zz2);rfl;intro K' hK';simp only [WA,simprocAttr,Bool.not_true,Bool.not_false,cond_false,g1];(repeat (constructor;focus (clear hK';intros;simp_all;done)));(try (apply hK';clear hK' K')))|((with_reducible apply zz3);rfl;all_goals (intro h;try exact absurd h (by decide))))
    refine stop_call h0 rfl (by simp only [WA,simprocAttr]) rfl (by simp only [keepS,Option.isSome_some,WA,simprocAttr]) (hin) ?_
    simp only [WA,simprocAttr,inX,dropS, ]
    (repeat (constructor;focus (clear hK';intros;simp_all;done)))
    (try (apply hK';clear hK' K'))
    repeat' (first|(with_reducible apply zz1)|((with_reducible apply zz2);rfl;intro K' hK';simp only [WA,simprocAttr,g9,m1];(repeat (constructor;focus (clear hK';intros;simp_all;done)));(try (apply hK';clear hK' K')))|((with_reducible apply zz3);rfl;all_goals (intro h;try exact absurd h (by decide))))
    simp only [Kret,retL,retOne,oneV,WA,simprocAttr]
end Go.Proofs.YtdcplkefmpjppaaGreatDoor.GG
