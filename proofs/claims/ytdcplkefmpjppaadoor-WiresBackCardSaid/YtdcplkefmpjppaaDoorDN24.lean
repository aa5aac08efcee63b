/- The law WiresBack (printed by mkn23.py). -/
-- TYPESE
import Derived.Test.YtdcplkefmpjppaaDoorDN23
set_option linter.unusedVariables false
set_option linter.unusedSimpArgs false
namespace Go.Proofs.YtdcplkefmpjppaaDoor.GG
open Go.RowKit Go.Sw

set_option maxHeartbeats 64000000 in
set_option maxRecDepth 100000 in
theorem backW (Γ : Gl) {f : ByteArray → Bool} (hf : VSok Γ f) (hG : GD Tryd.prog Γ 1 22 (.slc (sortsL.map sD))) (l m : List Ev) (s : ByteArray) (hl : l.length ≤ 140737488355328) (hm : m.length ≤ 140737488355328) (hs : s.size ≤ 140737488355328) (hrl : ∀ x ∈ l,Rng x) (hrm : ∀ x ∈ m,Rng x) : DFn Tryd.prog Γ 7 [.slc (l.map Ev.d),.slc (m.map Ev.d),sD s] (.v (.bool true)):=by
 have hw0:=san_write Γ hf hG
 obtain ⟨LX,c,p,hRd,hWX⟩:=read_write Γ hf hG s hs
 obtain ⟨t,e,hwr,hWl,hbad,hok⟩:=write_read Γ hf hG l hl hrl
 obtain ⟨u,e2,hmr,hWm, -,hokm⟩:=write_read Γ hf hG m hm hrm
 refine fn_of_swp (N:=122) Tryd.func7 rfl (by decide) rfl rfl (by simp) (fun C h0=>?_)
 simp only [argE]
 repeat' (first|(with_reducible apply zz1)|((with_reducible apply zz2);rfl;intro K' hK';simp only [WE,simprocAttr];(repeat (constructor;focus (clear hK';intros;simp_all;done)));(try (apply hK';clear hK' K')))|((with_reducible apply zz3);rfl;all_goals (intro h;try exact absurd h (by decide))))
 refine stop_frz [0] h0 (by simp only [Option.isSome_some,UF,WE,simprocAttr]) ?_
 simp only [WE,simprocAttr,UF]
 refine stop_call h0 rfl (by simp only [WE,simprocAttr]) rfl (by simp only [keepS,Option.isSome_some,WE,simprocAttr]) (hw0) ?_
 simp only [WE,simprocAttr,inX,dropS, ]
 (repeat (constructor;focus (clear hK';intros;simp_all;done)))
 (try (apply hK';clear hK' K'))
 repeat' (first|(with_reducible apply zz1)|((with_reducible apply zz2);rfl;intro K' hK';simp only [WE,simprocAttr,Bool.not_true,Bool.not_false,cond_true,cond_false,bne_self_eq_false,beq_self_eq_true,Int.reduceBEq,Bool.and_true,Bool.true_and,Bool.and_false,Bool.false_and,Bool.and_self];(repeat (constructor;focus (clear hK';intros;simp_all;done)));(try (apply hK';clear hK' K')))|((with_reducible apply zz3);rfl;all_goals (intro h;try exact absurd h (by decide))))
 refine stop_call h0 rfl (by simp only [WE,simprocAttr]) rfl (by simp only [keepS,Option.isSome_some,WE,simprocAttr]) (hRd) ?_
 simp only [WE,simprocAttr,inX,dropS, ]
 (repeat (constructor;focus (clear hK';intros;simp_all;done)))
 (try (apply hK';clear hK' K'))
 by_cases hc : c = 0
 · subst hc
   have hWX:=hWX rfl
   repeat' (first|(with_reducible apply zz1)|((with_reducible apply zz2);rfl;intro K' hK';simp only [WE,simprocAttr,Bool.not_true,Bool.not_false,cond_true,cond_false,bne_self_eq_false,beq_self_eq_true,Int.reduceBEq,Bool.and_true,Bool.true_and,Bool.and_false,Bool.false_and,Bool.and_self];(repeat (constructor;focus (clear hK';intros;simp_all;done)));(try (apply hK';clear hK' K')))|((with_reducible apply zz3);rfl;all_goals (intro h;try exact absurd h (by decide))))
   refine stop_call h0 rfl (by simp only [WE,simprocAttr]) rfl (by simp only [keepS,Option.isSome_some,WE,simprocAttr]) (hWX) ?_
   simp only [WE,simprocAttr,inX,dropS, ]
   (repeat (constructor;focus (clear hK';intros;simp_all;done)))
   (try (apply hK';clear hK' K'))
   repeat' (first|(with_reducible apply zz1)|((with_reducible apply zz2);rfl;intro K' hK';simp only [WE,simprocAttr,Bool.not_true,Bool.not_false,cond_true,cond_false,bne_self_eq_false,beq_self_eq_true,Int.reduceBEq,Bool.and_true,Bool.true_and,Bool.and_false,Bool.false_and,Bool.and_self];(repeat (constructor;focus (clear hK';intros;simp_all;done)));(try (apply hK';clear hK' K')))|((with_reducible apply zz3);rfl;all_goals (intro h;try exact absurd h (by decide))))
   by_cases he : e = 0
   rotate_left
   · have g1 : (e != 0) = true:=by simpa using he
     have ht:=hbad he
     subst ht
     repeat' (first|(with_reducible apply zz1)|((with_reducible apply zz2);rfl;intro K' hK';simp only [WE,simprocAttr,Bool.not_true,Bool.not_false,cond_true,cond_false,bne_self_eq_false,beq_self_eq_true,Int.reduceBEq,Bool.and_true,Bool.true_and,Bool.and_false,Bool.false_and,Bool.and_self];(repeat (constructor;focus (clear hK';intros;simp_all;done)));(try (apply hK';clear hK' K')))|((with_reducible apply zz3);rfl;all_goals (intro h;try exact absurd h (by decide))))
     refine stop_callF rfl (by simp only [WE,simprocAttr]) rfl rfl (hWl) ?_
     simp only [WE,simprocAttr,inX,dropS,g1]
     (repeat (constructor;focus (clear hK';intros;simp_all;done)))
     (try (apply hK';clear hK' K'))
     repeat' (first|(with_reducible apply zz1)|((with_reducible apply zz2);rfl;intro K' hK';simp only [WE,simprocAttr,Bool.not_true,Bool.not_false,cond_true,cond_false,bne_self_eq_false,beq_self_eq_true,Int.reduceBEq,Bool.and_true,Bool.true_and,Bool.and_false,Bool.false_and,Bool.and_self,g1,noB_5];(repeat (constructor;focus (clear hK';intros;simp_all;done)));(try (apply hK';clear hK' K')))|((with_reducible apply zz3);rfl;all_goals (intro h;try exact absurd h (by decide))))
     simp only [Kret,retL,retOne,oneV,WE,simprocAttr]
   subst he
   obtain ⟨h200, -, -,hts,hRt,hSm⟩:=hok rfl
   repeat' (first|(with_reducible apply zz1)|((with_reducible apply zz2);rfl;intro K' hK';simp only [WE,simprocAttr,Bool.not_true,Bool.not_false,cond_true,cond_false,bne_self_eq_false,beq_self_eq_true,Int.reduceBEq,Bool.and_true,Bool.true_and,Bool.and_false,Bool.false_and,Bool.and_self];(repeat (constructor;focus (clear hK';intros;simp_all;done)));(try (apply hK';clear hK' K')))|((with_reducible apply zz3);rfl;all_goals (intro h;try exact absurd h (by decide))))
   refine stop_callF rfl (by simp only [WE,simprocAttr]) rfl rfl (hWl) ?_
   simp only [WE,simprocAttr,inX,dropS,Bool.not_true,Bool.not_false,cond_true,cond_false,bne_self_eq_false,beq_self_eq_true,Int.reduceBEq,Bool.and_true,Bool.true_and,Bool.and_false,Bool.false_and,Bool.and_self]
   (repeat (constructor;focus (clear hK';intros;simp_all;done)))
   (try (apply hK';clear hK' K'))
   repeat' (first|(with_reducible apply zz1)|((with_reducible apply zz2);rfl;intro K' hK';simp only [WE,simprocAttr,Bool.not_true,Bool.not_false,cond_true,cond_false,bne_self_eq_false,beq_self_eq_true,Int.reduceBEq,Bool.and_true,Bool.true_and,Bool.and_false,Bool.false_and,Bool.and_self];(repeat (constructor;focus (clear hK';intros;simp_all;done)));(try (apply hK';clear hK' K')))|((with_reducible apply zz3);rfl;all_goals (intro h;try exact absurd h (by decide))))
   refine stop_call h0 rfl (by simp only [WE,simprocAttr]) rfl (by simp only [keepS,Option.isSome_some,WE,simprocAttr]) (hRt) ?_
   simp only [WE,simprocAttr,inX,dropS, ]
   (repeat (constructor;focus (clear hK';intros;simp_all;done)))
   (try (apply hK';clear hK' K'))
   repeat' (first|(with_reducible apply zz1)|((with_reducible apply zz2);rfl;intro K' hK';simp only [WE,simprocAttr,Bool.not_true,Bool.not_false,cond_true,cond_false,bne_self_eq_false,beq_self_eq_true,Int.reduceBEq,Bool.and_true,Bool.true_and,Bool.and_false,Bool.false_and,Bool.and_self];(repeat (constructor;focus (clear hK';intros;simp_all;done)));(try (apply hK';clear hK' K')))|((with_reducible apply zz3);rfl;all_goals (intro h;try exact absurd h (by decide))))
   refine swp_nil 17 2 10 rfl rfl (by decide) ?_
   simp only [WE,simprocAttr]
   refine swp_loop (α := Nat) (fun j=>[(0,.d (.slc (l.map Ev.d))),(1,.d (.slc (m.map Ev.d))),(13,.d (sD t)),(15,.d (.slc ((l.map bareE).map Ev.d))),(16,.ref 1 0),(17,.own 2),(69,.d (.slc (l.map Ev.d))),(70,.d (iD l.length)),(71,.d (iD j))]) (fun j=>[(1,.cells [.d (iD 0),.d (iD 0)]),(2,.row 10 (((l.map bareE).map Ev.d).take j))])
    (fun j=>j ≤ l.length) (fun j=>l.length - j) 0 (Nat.zero_le _) (by simp only [List.take_zero];refine sub_of h0 ?_ ?_ ?_ <;> simp only [US,WE,simprocAttr,List.length_map]) (fun j hj=>?_)
   have hj : j ≤ l.length:=hj
   have hb0 : (0 : Int) ≤ (j : Int):=by omega
   by_cases hlt : j < l.length
   · obtain ⟨x,hx⟩ : ∃ x,l[j]? = some x:=⟨l[j],by simp [hlt]⟩
     have hget:=evs_get l j x hx
     have hbr:=bare_fn Γ x
     have htk:=map_bare l j x hx
     have hb1 : (j : Int) < (l.length : Int):=by omega
     have hw3 : IntKind.i64.wrap ((j : Int) + 1) = ((j + 1 : Nat) : Int):=by rw [wrap_in (by omega) (by omega)];omega
     obtain ⟨x1,x2,x3,x4,x5,x6,x7,x8,x9,x10,hx1⟩:=ev_d x
     obtain ⟨y1,y2,y3,y4,y5,y6,y7,y8,y9,y10,hy1⟩:=ev_d (bareE x)
     rw [hy1] at hbr htk
     rw [hx1] at hbr hget
     have hln : (((l.map bareE).map Ev.d).take j).length = j:=by rw [List.length_take,List.length_map,List.length_map];omega
     have m1 : (j + 1) * 136 ≤ 140737488355328:=by omega
     have m2 : j + 1 ≤ maxLen:=by unfold maxLen;omega
     repeat' (first|(with_reducible apply zz1)|((with_reducible apply zz2);rfl;intro K' hK';simp only [WE,simprocAttr,Int.toNat_natCast,hget,List.length_map,hb0,hb1];(repeat (constructor;focus (clear hK';intros;simp_all;done)));(try (apply hK';clear hK' K')))|((with_reducible apply zz3);rfl;all_goals (intro h;try exact absurd h (by decide))))
     refine stop_call h0 rfl (by simp only [WE,simprocAttr]) rfl (by simp only [keepS,Option.isSome_some,WE,simprocAttr]) (hbr) ?_
     simp only [WE,simprocAttr,inX,dropS, ]
     (repeat (constructor;focus (clear hK';intros;simp_all;done)))
     (try (apply hK';clear hK' K'))
     repeat' (first|(with_reducible apply zz1)|((with_reducible apply zz2);rfl;intro K' hK';simp only [WE,simprocAttr,hln,m1,m2,one_max,hw3];(repeat (constructor;focus (clear hK';intros;simp_all;done)));(try (apply hK';clear hK' K')))|((with_reducible apply zz3);rfl;all_goals (intro h;try exact absurd h (by decide))))
     refine ⟨j + 1,(by show j + 1 ≤ l.length;omega),(by show l.length - (j + 1) < l.length - j;omega),?_⟩
     simp only [htk]
     refine sub_of h0 ?_ ?_ ?_ <;> simp only [US,WE,simprocAttr]
   have hb1 : ¬ (j : Int) < (l.length : Int):=by omega
   rw [List.take_of_length_le (show ((l.map bareE).map Ev.d).length ≤ j by rw [List.length_map,List.length_map];omega)]
   repeat' (first|(with_reducible apply zz1)|((with_reducible apply zz2);rfl;intro K' hK';simp only [WE,simprocAttr,Bool.not_true,Bool.not_false,cond_true,cond_false,bne_self_eq_false,beq_self_eq_true,Int.reduceBEq,Bool.and_true,Bool.true_and,Bool.and_false,Bool.false_and,Bool.and_self,hb1];(repeat (constructor;focus (clear hK';intros;simp_all;done)));(try (apply hK';clear hK' K')))|((with_reducible apply zz3);rfl;all_goals (intro h;try exact absurd h (by decide))))
   refine swp_frz [2] h0 (by simp only [Option.isSome_some,UF,WE,simprocAttr]) ?_
   simp only [WE,simprocAttr,UF]
   (with_reducible refine swp_region ?_ (fun K' hK'=>?_)
    · rfl
    simp only [WE,simprocAttr,Bool.not_true,Bool.not_false,cond_true,cond_false,bne_self_eq_false,beq_self_eq_true,Int.reduceBEq,Bool.and_true,Bool.true_and,Bool.and_false,Bool.false_and,Bool.and_self]
    (repeat (constructor;focus (clear hK';intros;simp_all;done))))
   refine stop_guard rfl ?_
   refine stop_callF rfl (by simp only [WE,simprocAttr]) rfl rfl (hSm) ?_
   simp only [WE,simprocAttr,inX,dropS,Bool.not_true,Bool.not_false,cond_true,cond_false,bne_self_eq_false,beq_self_eq_true,Int.reduceBEq,Bool.and_true,Bool.true_and,Bool.and_false,Bool.false_and,Bool.and_self]
   (repeat (constructor;focus (clear hK';intros;simp_all;done)))
   (try (apply hK';clear hK' K'))
   repeat' (first|(with_reducible apply zz1)|((with_reducible apply zz2);rfl;intro K' hK';simp only [WE,simprocAttr,Bool.not_true,Bool.not_false,cond_true,cond_false,bne_self_eq_false,beq_self_eq_true,Int.reduceBEq,Bool.and_true,Bool.true_and,Bool.and_false,Bool.false_and,Bool.and_self];(repeat (constructor;focus (clear hK';intros;simp_all;done)));(try (apply hK';clear hK' K')))|((with_reducible apply zz3);rfl;all_goals (intro h;try exact absurd h (by decide))))
   refine stop_call h0 rfl (by simp only [WE,simprocAttr]) rfl (by simp only [keepS,Option.isSome_some,WE,simprocAttr]) (hWm) ?_
   simp only [WE,simprocAttr,inX,dropS, ]
   (repeat (constructor;focus (clear hK';intros;simp_all;done)))
   (try (apply hK';clear hK' K'))
   by_cases he2 : e2 = 0
   rotate_left
   · have g2 : (e2 != 0) = true:=by simpa using he2
     repeat' (first|(with_reducible apply zz1)|((with_reducible apply zz2);rfl;intro K' hK';simp only [WE,simprocAttr,Bool.not_true,Bool.not_false,cond_true,cond_false,bne_self_eq_false,beq_self_eq_true,Int.reduceBEq,Bool.and_true,Bool.true_and,Bool.and_false,Bool.false_and,Bool.and_self,g2];(repeat (constructor;focus (clear hK';intros;simp_all;done)));(try (apply hK';clear hK' K')))|((with_reducible apply zz3);rfl;all_goals (intro h;try exact absurd h (by decide))))
     simp only [Kret,retL,retOne,oneV,WE,simprocAttr]
   subst he2
   by_cases hn : l.length + m.length ≤ 200
   rotate_left
   · have hwl : IntKind.i64.wrap ((l.length : Int) + (m.length : Int)) = ((l.length + m.length : Nat) : Int):=by rw [wrap_in (by omega) (by omega)];omega
     have g3 : (200 : Int) < ((l.length + m.length : Nat) : Int):=by omega
     repeat' (first|(with_reducible apply zz1)|((with_reducible apply zz2);rfl;intro K' hK';simp only [WE,simprocAttr,Bool.not_true,Bool.not_false,cond_true,cond_false,bne_self_eq_false,beq_self_eq_true,Int.reduceBEq,Bool.and_true,Bool.true_and,Bool.and_false,Bool.false_and,Bool.and_self,List.length_map,hwl,g3];(repeat (constructor;focus (clear hK';intros;simp_all;done)));(try (apply hK';clear hK' K')))|((with_reducible apply zz3);rfl;all_goals (intro h;try exact absurd h (by decide))))
     simp only [Kret,retL,retOne,oneV,WE,simprocAttr]
   have hwl : IntKind.i64.wrap ((l.length : Int) + (m.length : Int)) = ((l.length + m.length : Nat) : Int):=by rw [wrap_in (by omega) (by omega)];omega
   have g3 : ¬ (200 : Int) < ((l.length + m.length : Nat) : Int):=by omega
   have hsz : t.size + u.size ≤ maxLen:=by have:=(hokm rfl).2.2.2.1;unfold maxLen;omega
   have hWb:=write_both Γ hf hG hwr hmr hn hrl hrm
   have hCl : SFn Tryd.prog Γ 26 [.d (.slc (l.map Ev.d))] [] (.own 2) [(2,.row 10 (l.map Ev.d))]:=(cloneE_fn Γ l (by omega)).up 2
   have m1 : (l.length + m.length) * 136 ≤ 140737488355328:=by omega
   have m2 : l.length + m.length ≤ maxLen:=by unfold maxLen;omega
   have hfit : ∀ d ∈ m.map Ev.d,D.fits 10 d:=by
    intro d hd
    obtain ⟨y, -,rfl⟩:=List.mem_map.1 hd
    exact ev_fits y
   repeat' (first|(with_reducible apply zz1)|((with_reducible apply zz2);rfl;intro K' hK';simp only [WE,simprocAttr,Bool.not_true,Bool.not_false,cond_true,cond_false,bne_self_eq_false,beq_self_eq_true,Int.reduceBEq,Bool.and_true,Bool.true_and,Bool.and_false,Bool.false_and,Bool.and_self,List.length_map,hwl,g3];(repeat (constructor;focus (clear hK';intros;simp_all;done)));(try (apply hK';clear hK' K')))|((with_reducible apply zz3);rfl;all_goals (intro h;try exact absurd h (by decide))))
   refine stop_cS rfl (by simp only [UA,WE,simprocAttr]) (hCl) ?_
   simp only [WE,simprocAttr,UM, ]
   (try (apply hK';clear hK' K'))
   cases m with
   | nil =>
    simp only [List.map_nil,List.append_nil] at hWb
    (try simp only [WE,simprocAttr,List.map_nil,Bool.not_true,Bool.not_false,cond_true,cond_false,bne_self_eq_false,beq_self_eq_true,Int.reduceBEq,Bool.and_true,Bool.true_and,Bool.and_false,Bool.false_and,Bool.and_self])
    (repeat (constructor;focus (clear hK';intros;simp_all;done)))
    (try (apply hK';clear hK' K'))
    refine stop_frz [2] h0 (by simp only [Option.isSome_some,UF,WE,simprocAttr]) ?_
    simp only [WE,simprocAttr,UF]
    refine stop_callF rfl (by simp only [WE,simprocAttr]) rfl rfl (hWb) ?_
    simp only [WE,simprocAttr,inX,dropS,Bool.not_true,Bool.not_false,cond_true,cond_false,bne_self_eq_false,beq_self_eq_true,Int.reduceBEq,Bool.and_true,Bool.true_and,Bool.and_false,Bool.false_and,Bool.and_self]
    (repeat (constructor;focus (clear hK';intros;simp_all;done)))
    (try (apply hK';clear hK' K'))
    repeat' (first|(with_reducible apply zz1)|((with_reducible apply zz2);rfl;intro K' hK';simp only [WE,simprocAttr,Bool.not_true,Bool.not_false,cond_true,cond_false,bne_self_eq_false,beq_self_eq_true,Int.reduceBEq,Bool.and_true,Bool.true_and,Bool.and_false,Bool.false_and,Bool.and_self,hsz];(repeat (constructor;focus (clear hK';intros;simp_all;done)));(try (apply hK';clear hK' K')))|((with_reducible apply zz3);rfl;all_goals (intro h;try exact absurd h (by decide))))
    simp only [Kret,retL,retOne,oneV,WE,simprocAttr]
   | cons y m =>
    simp only [List.map_cons] at hWb hfit
    simp only [List.length_cons] at m1 m2
    (try simp only [WE,simprocAttr,List.map_cons,List.length_map,m1,m2,Bool.not_true,Bool.not_false,cond_true,cond_false,bne_self_eq_false,beq_self_eq_true,Int.reduceBEq,Bool.and_true,Bool.true_and,Bool.and_false,Bool.false_and,Bool.and_self])
    (repeat (constructor;focus (clear hK';intros;simp_all;done)))
    (try (apply hK';clear hK' K'))
    refine ⟨hfit,?_⟩
    refine stop_frz [2] h0 (by simp only [Option.isSome_some,UF,WE,simprocAttr]) ?_
    simp only [WE,simprocAttr,UF]
    refine stop_callF rfl (by simp only [WE,simprocAttr]) rfl rfl (hWb) ?_
    simp only [WE,simprocAttr,inX,dropS,Bool.not_true,Bool.not_false,cond_true,cond_false,bne_self_eq_false,beq_self_eq_true,Int.reduceBEq,Bool.and_true,Bool.true_and,Bool.and_false,Bool.false_and,Bool.and_self]
    (repeat (constructor;focus (clear hK';intros;simp_all;done)))
    (try (apply hK';clear hK' K'))
    repeat' (first|(with_reducible apply zz1)|((with_reducible apply zz2);rfl;intro K' hK';simp only [WE,simprocAttr,Bool.not_true,Bool.not_false,cond_true,cond_false,bne_self_eq_false,beq_self_eq_true,Int.reduceBEq,Bool.and_true,Bool.true_and,Bool.and_false,Bool.false_and,Bool.and_self,hsz];(repeat (constructor;focus (clear hK';intros;simp_all;done)));(try (apply hK';clear hK' K')))|((with_reducible apply zz3);rfl;all_goals (intro h;try exact absurd h (by decide))))
    simp only [Kret,retL,retOne,oneV,WE,simprocAttr]
 · have gc : (c == 0) = false:=by simpa using hc
   repeat' (first|(with_reducible apply zz1)|((with_reducible apply zz2);rfl;intro K' hK';simp only [WE,simprocAttr,Bool.not_true,Bool.not_false,cond_true,cond_false,bne_self_eq_false,beq_self_eq_true,Int.reduceBEq,Bool.and_true,Bool.true_and,Bool.and_false,Bool.false_and,Bool.and_self,gc];(repeat (constructor;focus (clear hK';intros;simp_all;done)));(try (apply hK';clear hK' K')))|((with_reducible apply zz3);rfl;all_goals (intro h;try exact absurd h (by decide))))
   by_cases he : e = 0
   rotate_left
   · have g1 : (e != 0) = true:=by simpa using he
     have ht:=hbad he
     subst ht
     repeat' (first|(with_reducible apply zz1)|((with_reducible apply zz2);rfl;intro K' hK';simp only [WE,simprocAttr,Bool.not_true,Bool.not_false,cond_true,cond_false,bne_self_eq_false,beq_self_eq_true,Int.reduceBEq,Bool.and_true,Bool.true_and,Bool.and_false,Bool.false_and,Bool.and_self];(repeat (constructor;focus (clear hK';intros;simp_all;done)));(try (apply hK';clear hK' K')))|((with_reducible apply zz3);rfl;all_goals (intro h;try exact absurd h (by decide))))
     refine stop_callF rfl (by simp only [WE,simprocAttr]) rfl rfl (hWl) ?_
     simp only [WE,simprocAttr,inX,dropS,g1]
     (repeat (constructor;focus (clear hK';intros;simp_all;done)))
     (try (apply hK';clear hK' K'))
     repeat' (first|(with_reducible apply zz1)|((with_reducible apply zz2);rfl;intro K' hK';simp only [WE,simprocAttr,Bool.not_true,Bool.not_false,cond_true,cond_false,bne_self_eq_false,beq_self_eq_true,Int.reduceBEq,Bool.and_true,Bool.true_and,Bool.and_false,Bool.false_and,Bool.and_self,g1,noB_5];(repeat (constructor;focus (clear hK';intros;simp_all;done)));(try (apply hK';clear hK' K')))|((with_reducible apply zz3);rfl;all_goals (intro h;try exact absurd h (by decide))))
     simp only [Kret,retL,retOne,oneV,WE,simprocAttr]
   subst he
   obtain ⟨h200, -, -,hts,hRt,hSm⟩:=hok rfl
   repeat' (first|(with_reducible apply zz1)|((with_reducible apply zz2);rfl;intro K' hK';simp only [WE,simprocAttr,Bool.not_true,Bool.not_false,cond_true,cond_false,bne_self_eq_false,beq_self_eq_true,Int.reduceBEq,Bool.and_true,Bool.true_and,Bool.and_false,Bool.false_and,Bool.and_self];(repeat (constructor;focus (clear hK';intros;simp_all;done)));(try (apply hK';clear hK' K')))|((with_reducible apply zz3);rfl;all_goals (intro h;try exact absurd h (by decide))))
   refine stop_callF rfl (by simp only [WE,simprocAttr]) rfl rfl (hWl) ?_
   simp only [WE,simprocAttr,inX,dropS,Bool.not_true,Bool.not_false,cond_true,cond_false,bne_self_eq_false,beq_self_eq_true,Int.reduceBEq,Bool.and_true,Bool.true_and,Bool.and_false,Bool.false_and,Bool.and_self]
   (repeat (constructor;focus (clear hK';intros;simp_all;done)))
   (try (apply hK';clear hK' K'))
   repeat' (first|(with_reducible apply zz1)|((with_reducible apply zz2);rfl;intro K' hK';simp only [WE,simprocAttr,Bool.not_true,Bool.not_false,cond_true,cond_false,bne_self_eq_false,beq_self_eq_true,Int.reduceBEq,Bool.and_true,Bool.true_and,Bool.and_false,Bool.false_and,Bool.and_self];(repeat (constructor;focus (clear hK';intros;simp_all;done)));(try (apply hK';clear hK' K')))|((with_reducible apply zz3);rfl;all_goals (intro h;try exact absurd h (by decide))))
   refine stop_call h0 rfl (by simp only [WE,simprocAttr]) rfl (by simp only [keepS,Option.isSome_some,WE,simprocAttr]) (hRt) ?_
   simp only [WE,simprocAttr,inX,dropS, ]
   (repeat (constructor;focus (clear hK';intros;simp_all;done)))
   (try (apply hK';clear hK' K'))
   repeat' (first|(with_reducible apply zz1)|((with_reducible apply zz2);rfl;intro K' hK';simp only [WE,simprocAttr,Bool.not_true,Bool.not_false,cond_true,cond_false,bne_self_eq_false,beq_self_eq_true,Int.reduceBEq,Bool.and_true,Bool.true_and,Bool.and_false,Bool.false_and,Bool.and_self];(repeat (constructor;focus (clear hK';intros;simp_all;done)));(try (apply hK';clear hK' K')))|((with_reducible apply zz3);rfl;all_goals (intro h;try exact absurd h (by decide))))
   refine swp_nil 17 2 10 rfl rfl (by decide) ?_
   simp only [WE,simprocAttr]
   refine swp_loop (α := Nat) (fun j=>[(0,.d (.slc (l.map Ev.d))),(1,.d (.slc (m.map Ev.d))),(13,.d (sD t)),(15,.d (.slc ((l.map bareE).map Ev.d))),(16,.ref 1 0),(17,.own 2),(69,.d (.slc (l.map Ev.d))),(70,.d (iD l.length)),(71,.d (iD j))]) (fun j=>[(1,.cells [.d (iD 0),.d (iD 0)]),(2,.row 10 (((l.map bareE).map Ev.d).take j))])
    (fun j=>j ≤ l.length) (fun j=>l.length - j) 0 (Nat.zero_le _) (by simp only [List.take_zero];refine sub_of h0 ?_ ?_ ?_ <;> simp only [US,WE,simprocAttr,List.length_map]) (fun j hj=>?_)
   have hj : j ≤ l.length:=hj
   have hb0 : (0 : Int) ≤ (j : Int):=by omega
   by_cases hlt : j < l.length
   · obtain ⟨x,hx⟩ : ∃ x,l[j]? = some x:=⟨l[j],by simp [hlt]⟩
     have hget:=evs_get l j x hx
     have hbr:=bare_fn Γ x
     have htk:=map_bare l j x hx
     have hb1 : (j : Int) < (l.length : Int):=by omega
     have hw3 : IntKind.i64.wrap ((j : Int) + 1) = ((j + 1 : Nat) : Int):=by rw [wrap_in (by omega) (by omega)];omega
     obtain ⟨x1,x2,x3,x4,x5,x6,x7,x8,x9,x10,hx1⟩:=ev_d x
     obtain ⟨y1,y2,y3,y4,y5,y6,y7,y8,y9,y10,hy1⟩:=ev_d (bareE x)
     rw [hy1] at hbr htk
     rw [hx1] at hbr hget
     have hln : (((l.map bareE).map Ev.d).take j).length = j:=by rw [List.length_take,List.length_map,List.length_map];omega
     have m1 : (j + 1) * 136 ≤ 140737488355328:=by omega
     have m2 : j + 1 ≤ maxLen:=by unfold maxLen;omega
     repeat' (first|(with_reducible apply zz1)|((with_reducible apply zz2);rfl;intro K' hK';simp only [WE,simprocAttr,Int.toNat_natCast,hget,List.length_map,hb0,hb1];(repeat (constructor;focus (clear hK';intros;simp_all;done)));(try (apply hK';clear hK' K')))|((with_reducible apply zz3);rfl;all_goals (intro h;try exact absurd h (by decide))))
     refine stop_call h0 rfl (by simp only [WE,simprocAttr]) rfl (by simp only [keepS,Option.isSome_some,WE,simprocAttr]) (hbr) ?_
     simp only [WE,simprocAttr,inX,dropS, ]
     (repeat (constructor;focus (clear hK';intros;simp_all;done)))
     (try (apply hK';clear hK' K'))
     repeat' (first|(with_reducible apply zz1)|((with_reducible apply zz2);rfl;intro K' hK';simp only [WE,simprocAttr,hln,m1,m2,one_max,hw3];(repeat (constructor;focus (clear hK';intros;simp_all;done)));(try (apply hK';clear hK' K')))|((with_reducible apply zz3);rfl;all_goals (intro h;try exact absurd h (by decide))))
     refine ⟨j + 1,(by show j + 1 ≤ l.length;omega),(by show l.length - (j + 1) < l.length - j;omega),?_⟩
     simp only [htk]
     refine sub_of h0 ?_ ?_ ?_ <;> simp only [US,WE,simprocAttr]
   have hb1 : ¬ (j : Int) < (l.length : Int):=by omega
   rw [List.take_of_length_le (show ((l.map bareE).map Ev.d).length ≤ j by rw [List.length_map,List.length_map];omega)]
   repeat' (first|(with_reducible apply zz1)|((with_reducible apply zz2);rfl;intro K' hK';simp only [WE,simprocAttr,Bool.not_true,Bool.not_false,cond_true,cond_false,bne_self_eq_false,beq_self_eq_true,Int.reduceBEq,Bool.and_true,Bool.true_and,Bool.and_false,Bool.false_and,Bool.and_self,hb1];(repeat (constructor;focus (clear hK';intros;simp_all;done)));(try (apply hK';clear hK' K')))|((with_reducible apply zz3);rfl;all_goals (intro h;try exact absurd h (by decide))))
   refine swp_frz [2] h0 (by simp only [Option.isSome_some,UF,WE,simprocAttr]) ?_
   simp only [WE,simprocAttr,UF]
   (with_reducible refine swp_region ?_ (fun K' hK'=>?_)
    · rfl
    simp only [WE,simprocAttr,Bool.not_true,Bool.not_false,cond_true,cond_false,bne_self_eq_false,beq_self_eq_true,Int.reduceBEq,Bool.and_true,Bool.true_and,Bool.and_false,Bool.false_and,Bool.and_self]
    (repeat (constructor;focus (clear hK';intros;simp_all;done))))
   refine stop_guard rfl ?_
   refine stop_callF rfl (by simp only [WE,simprocAttr]) rfl rfl (hSm) ?_
   simp only [WE,simprocAttr,inX,dropS,Bool.not_true,Bool.not_false,cond_true,cond_false,bne_self_eq_false,beq_self_eq_true,Int.reduceBEq,Bool.and_true,Bool.true_and,Bool.and_false,Bool.false_and,Bool.and_self]
   (repeat (constructor;focus (clear hK';intros;simp_all;done)))
   (try (apply hK';clear hK' K'))
   repeat' (first|(with_reducible apply zz1)|((with_reducible apply zz2);rfl;intro K' hK';simp only [WE,simprocAttr,Bool.not_true,Bool.not_false,cond_true,cond_false,bne_self_eq_false,beq_self_eq_true,Int.reduceBEq,Bool.and_true,Bool.true_and,Bool.and_false,Bool.false_and,Bool.and_self];(repeat (constructor;focus (clear hK';intros;simp_all;done)));(try (apply hK';clear hK' K')))|((with_reducible apply zz3);rfl;all_goals (intro h;try exact absurd h (by decide))))
   refine stop_call h0 rfl (by simp only [WE,simprocAttr]) rfl (by simp only [keepS,Option.isSome_some,WE,simprocAttr]) (hWm) ?_
   simp only [WE,simprocAttr,inX,dropS, ]
   (repeat (constructor;focus (clear hK';intros;simp_all;done)))
   (try (apply hK';clear hK' K'))
   by_cases he2 : e2 = 0
   rotate_left
   · have g2 : (e2 != 0) = true:=by simpa using he2
     repeat' (first|(with_reducible apply zz1)|((with_reducible apply zz2);rfl;intro K' hK';simp only [WE,simprocAttr,Bool.not_true,Bool.not_false,cond_true,cond_false,bne_self_eq_false,beq_self_eq_true,Int.reduceBEq,Bool.and_true,Bool.true_and,Bool.and_false,Bool.false_and,Bool.and_self,g2];(repeat (constructor;focus (clear hK';intros;simp_all;done)));(try (apply hK';clear hK' K')))|((with_reducible apply zz3);rfl;all_goals (intro h;try exact absurd h (by decide))))
     simp only [Kret,retL,retOne,oneV,WE,simprocAttr]
   subst he2
   by_cases hn : l.length + m.length ≤ 200
   rotate_left
   · have hwl : IntKind.i64.wrap ((l.length : Int) + (m.length : Int)) = ((l.length + m.length : Nat) : Int):=by rw [wrap_in (by omega) (by omega)];omega
     have g3 : (200 : Int) < ((l.length + m.length : Nat) : Int):=by omega
     repeat' (first|(with_reducible apply zz1)|((with_reducible apply zz2);rfl;intro K' hK';simp only [WE,simprocAttr,Bool.not_true,Bool.not_false,cond_true,cond_false,bne_self_eq_false,beq_self_eq_true,Int.reduceBEq,Bool.and_true,Bool.true_and,Bool.and_false,Bool.false_and,Bool.and_self,List.length_map,hwl,g3];(repeat (constructor;focus (clear hK';intros;simp_all;done)));(try (apply hK';clear hK' K')))|((with_reducible apply zz3);rfl;all_goals (intro h;try exact absurd h (by decide))))
     simp only [Kret,retL,retOne,oneV,WE,simprocAttr]
   have hwl : IntKind.i64.wrap ((l.length : Int) + (m.length : Int)) = ((l.length + m.length : Nat) : Int):=by rw [wrap_in (by omega) (by omega)];omega
   have g3 : ¬ (200 : Int) < ((l.length + m.length : Nat) : Int):=by omega
   have hsz : t.size + u.size ≤ maxLen:=by have:=(hokm rfl).2.2.2.1;unfold maxLen;omega
   have hWb:=write_both Γ hf hG hwr hmr hn hrl hrm
   have hCl : SFn Tryd.prog Γ 26 [.d (.slc (l.map Ev.d))] [] (.own 2) [(2,.row 10 (l.map Ev.d))]:=(cloneE_fn Γ l (by omega)).up 2
   have m1 : (l.length + m.length) * 136 ≤ 140737488355328:=by omega
   have m2 : l.length + m.length ≤ maxLen:=by unfold maxLen;omega
   have hfit : ∀ d ∈ m.map Ev.d,D.fits 10 d:=by
    intro d hd
    obtain ⟨y, -,rfl⟩:=List.mem_map.1 hd
    exact ev_fits y
   repeat' (first|(with_reducible apply zz1)|((with_reducible apply zz2);rfl;intro K' hK';simp only [WE,simprocAttr,Bool.not_true,Bool.not_false,cond_true,cond_false,bne_self_eq_false,beq_self_eq_true,Int.reduceBEq,Bool.and_true,Bool.true_and,Bool.and_false,Bool.false_and,Bool.and_self,List.length_map,hwl,g3];(repeat (constructor;focus (clear hK';intros;simp_all;done)));(try (apply hK';clear hK' K')))|((with_reducible apply zz3);rfl;all_goals (intro h;try exact absurd h (by decide))))
   refine stop_cS rfl (by simp only [UA,WE,simprocAttr]) (hCl) ?_
   simp only [WE,simprocAttr,UM, ]
   (try (apply hK';clear hK' K'))
   cases m with
   | nil =>
    simp only [List.map_nil,List.append_nil] at hWb
    (try simp only [WE,simprocAttr,List.map_nil,Bool.not_true,Bool.not_false,cond_true,cond_false,bne_self_eq_false,beq_self_eq_true,Int.reduceBEq,Bool.and_true,Bool.true_and,Bool.and_false,Bool.false_and,Bool.and_self])
    (repeat (constructor;focus (clear hK';intros;simp_all;done)))
    (try (apply hK';clear hK' K'))
    refine stop_frz [2] h0 (by simp only [Option.isSome_some,UF,WE,simprocAttr]) ?_
    simp only [WE,simprocAttr,UF]
    refine stop_callF rfl (by simp only [WE,simprocAttr]) rfl rfl (hWb) ?_
    simp only [WE,simprocAttr,inX,dropS,Bool.not_true,Bool.not_false,cond_true,cond_false,bne_self_eq_false,beq_self_eq_true,Int.reduceBEq,Bool.and_true,Bool.true_and,Bool.and_false,Bool.false_and,Bool.and_self]
    (repeat (constructor;focus (clear hK';intros;simp_all;done)))
    (try (apply hK';clear hK' K'))
    repeat' (first|(with_reducible apply zz1)|((with_reducible apply zz2);rfl;intro K' hK';simp only [WE,simprocAttr,Bool.not_true,Bool.not_false,cond_true,cond_false,bne_self_eq_false,beq_self_eq_true,Int.reduceBEq,Bool.and_true,Bool.true_and,Bool.and_false,Bool.false_and,Bool.and_self,hsz];(repeat (constructor;focus (clear hK';intros;simp_all;done)));(try (apply hK';clear hK' K')))|((with_reducible apply zz3);rfl;all_goals (intro h;try exact absurd h (by decide))))
    simp only [Kret,retL,retOne,oneV,WE,simprocAttr]
   | cons y m =>
    simp only [List.map_cons] at hWb hfit
    simp only [List.length_cons] at m1 m2
    (try simp only [WE,simprocAttr,List.map_cons,List.length_map,m1,m2,Bool.not_true,Bool.not_false,cond_true,cond_false,bne_self_eq_false,beq_self_eq_true,Int.reduceBEq,Bool.and_true,Bool.true_and,Bool.and_false,Bool.false_and,Bool.and_self])
    (repeat (constructor;focus (clear hK';intros;simp_all;done)))
    (try (apply hK';clear hK' K'))
    refine ⟨hfit,?_⟩
    refine stop_frz [2] h0 (by simp only [Option.isSome_some,UF,WE,simprocAttr]) ?_
    simp only [WE,simprocAttr,UF]
    refine stop_callF rfl (by simp only [WE,simprocAttr]) rfl rfl (hWb) ?_
    simp only [WE,simprocAttr,inX,dropS,Bool.not_true,Bool.not_false,cond_true,cond_false,bne_self_eq_false,beq_self_eq_true,Int.reduceBEq,Bool.and_true,Bool.true_and,Bool.and_false,Bool.false_and,Bool.and_self]
    (repeat (constructor;focus (clear hK';intros;simp_all;done)))
    (try (apply hK';clear hK' K'))
    repeat' (first|(with_reducible apply zz1)|((with_reducible apply zz2);rfl;intro K' hK';simp only [WE,simprocAttr,Bool.not_true,Bool.not_false,cond_true,cond_false,bne_self_eq_false,beq_self_eq_true,Int.reduceBEq,Bool.and_true,Bool.true_and,Bool.and_false,Bool.false_and,Bool.and_self,hsz];(repeat (constructor;focus (clear hK';intros;simp_all;done)));(try (apply hK';clear hK' K')))|((with_reducible apply zz3);rfl;all_goals (intro h;try exact absurd h (by decide))))
    simp only [Kret,retL,retOne,oneV,WE,simprocAttr]
end Go.Proofs.YtdcplkefmpjppaaDoor.GG
