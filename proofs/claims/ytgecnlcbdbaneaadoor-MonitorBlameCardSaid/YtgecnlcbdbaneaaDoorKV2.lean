/- monitor.event; a symbolic walk. -/
-- TYPESE
import Derived.Test.YtgecnlcbdbaneaaDoorKV1
set_option linter.unusedVariables false
set_option linter.unusedSimpArgs false
namespace Go.Proofs.YtgecnlcbdbaneaaDoor
open Go.RowKit Go.Sw

theorem eq_val (t n t' n' : Int) (s s' : ByteArray) (w : World) : (binOp .eql 58 (.agg #[.int .i64 t,.int .i64 n,.string s]) (.agg #[.int .i64 t',.int .i64 n',.string s'])).run Tryd.prog w = .ok (.bool (t == t' && n == n' && s.toList == s'.toList)) w:=by
 by_cases h1 : t = t'
 · by_cases h2 : n = n'
   · by_cases h3 : s.toList = s'.toList
     · go_simp
     · go_simp
   · go_simp
 · go_simp
theorem neq_val (t n t' n' : Int) (s s' : ByteArray) (w : World) : (binOp .neq 58 (.agg #[.int .i64 t,.int .i64 n,.string s]) (.agg #[.int .i64 t',.int .i64 n',.string s'])).run Tryd.prog w = .ok (.bool (!(t == t' && n == n' && s.toList == s'.toList))) w:=by
 by_cases h1 : t = t'
 · by_cases h2 : n = n'
   · by_cases h3 : s.toList = s'.toList
     · go_simp
     · go_simp
   · go_simp
 · go_simp
set_option maxRecDepth 100000 in
theorem eqs58 (t n t' n' : Int) (s s' : ByteArray) : EqS Tryd.prog 58 [.int .i64 t,.int .i64 n,.string s] [.int .i64 t',.int .i64 n',.string s'] (t == t' && n == n' && s.toList == s'.toList):=by
 intro x y w
 have g1 : (eqGuard .eql 58 x y (.agg #[.int .i64 t,.int .i64 n,.string s]) (.agg #[.int .i64 t',.int .i64 n',.string s'])).run Tryd.prog w = .ok () w:=run_eqGuard_agg w .eql 58 x y _ _ (by kernel_rfl)
 have g2 : (eqGuard .neq 58 x y (.agg #[.int .i64 t,.int .i64 n,.string s]) (.agg #[.int .i64 t',.int .i64 n',.string s'])).run Tryd.prog w = .ok () w:=run_eqGuard_agg w .neq 58 x y _ _ (by kernel_rfl)
 refine ⟨?_,?_⟩
 · rw [Sem.run_bind,g1];exact eq_val t n t' n' s s' w
 · rw [Sem.run_bind,g2];exact neq_val t n t' n' s s' w
theorem kind_pos {k so : Int} {nm : ByteArray} {ls : List ByteArray} {l : List Tp} (h : tCheck (.mk k so nm ls l) = 0) : k ≠ 0:=by
 obtain ⟨h1, -⟩:=check_all h
 intro e
 cases h1 <;> omega
set_option maxHeartbeats 16000000 in
set_option maxRecDepth 100000 in
theorem event_a (Γ : Gl) {f : ByteArray → Bool} (hv : VSok Γ f) (vs vn : Int) (vS : ByteArray) (k so : Int) (nm : ByteArray) (ls : List ByteArray) (l : List Tp) (lab : ByteArray) (hz1 : ls.length ≤ 140737488355328) (hz2 : l.length ≤ 140737488355328) (kd : Int) (hk : kd = 2 ∨ kd = 3) :
 EvFn Γ kd vs vn vS (.mk k so nm ls l) lab (if vchk f vs vn vS ≠ 0 then vchk f vs vn vS else if ((lab.toList == ByteArray.toList ⟨#[]⟩) && ((k == 0) && ((so == 0) && ((nm.toList == ByteArray.toList ⟨#[]⟩) && (!decide ((0 : Int) < (ls.length : Int) + (l.length : Int))))))) = true then 0 else 1):=by
 unfold EvFn evD
 have hll:=Tp.ds_len l
 have w1 : IntKind.i64.wrap ((ls.length : Int) + (l.length : Int)) = (ls.length : Int) + (l.length : Int):=wrap_in (by omega) (by omega)
 have hvc:=vcheck_fn Γ hv vs vn vS
 obtain ⟨e0,he0⟩ : ∃ e0,vchk f vs vn vS = e0:=⟨_,rfl⟩
 rw [he0]
 rw [he0] at hvc
 by_cases hz : e0 = 0
 rotate_left
 · have g1 : (e0 != 0) = true:=by simpa using hz
   rw [if_pos hz]
   rcases hk with rfl | rfl
   · refine fn_of_swp (N:=92) Tryd.func69 rfl (by decide) rfl rfl (by simp) (fun C h0=>?_)
     simp only [argE]
     repeat' (first|(with_reducible apply zz1)|((with_reducible apply zz2);rfl;intro K' hK';simp only [WE,simprocAttr,Bool.not_true,Bool.not_false,cond_true,cond_false,bne_self_eq_false,beq_self_eq_true,Bool.and_true,Bool.true_and,Bool.and_false,Bool.false_and,Bool.and_self,Int.reduceBEq];(repeat (constructor;focus (clear hK';intros;simp_all;done)));(try (apply hK';clear hK' K')))|((with_reducible apply zz3);rfl;all_goals (intro h;try exact absurd h (by decide))))
     refine stop_callF rfl (by simp only [WE,simprocAttr]) rfl rfl (hvc) ?_
     simp only [WE,simprocAttr,inX,dropS, ]
     (repeat (constructor;focus (clear hK';intros;simp_all;done)))
     (try (apply hK';clear hK' K'))
     repeat' (first|(with_reducible apply zz1)|((with_reducible apply zz2);rfl;intro K' hK';simp only [WE,simprocAttr,g1,Bool.not_true,Bool.not_false,cond_true,cond_false,bne_self_eq_false,beq_self_eq_true,Bool.and_true,Bool.true_and,Bool.and_false,Bool.false_and,Bool.and_self];(repeat (constructor;focus (clear hK';intros;simp_all;done)));(try (apply hK';clear hK' K')))|((with_reducible apply zz3);rfl;all_goals (intro h;try exact absurd h (by decide))))
     simp only [Kret,retL,retOne,oneV,WE,simprocAttr]
   · refine fn_of_swp (N:=92) Tryd.func69 rfl (by decide) rfl rfl (by simp) (fun C h0=>?_)
     simp only [argE]
     repeat' (first|(with_reducible apply zz1)|((with_reducible apply zz2);rfl;intro K' hK';simp only [WE,simprocAttr,Bool.not_true,Bool.not_false,cond_true,cond_false,bne_self_eq_false,beq_self_eq_true,Bool.and_true,Bool.true_and,Bool.and_false,Bool.false_and,Bool.and_self,Int.reduceBEq];(repeat (constructor;focus (clear hK';intros;simp_all;done)));(try (apply hK';clear hK' K')))|((with_reducible apply zz3);rfl;all_goals (intro h;try exact absurd h (by decide))))
     refine stop_callF rfl (by simp only [WE,simprocAttr]) rfl rfl (hvc) ?_
     simp only [WE,simprocAttr,inX,dropS, ]
     (repeat (constructor;focus (clear hK';intros;simp_all;done)))
     (try (apply hK';clear hK' K'))
     repeat' (first|(with_reducible apply zz1)|((with_reducible apply zz2);rfl;intro K' hK';simp only [WE,simprocAttr,g1,Bool.not_true,Bool.not_false,cond_true,cond_false,bne_self_eq_false,beq_self_eq_true,Bool.and_true,Bool.true_and,Bool.and_false,Bool.false_and,Bool.and_self];(repeat (constructor;focus (clear hK';intros;simp_all;done)));(try (apply hK';clear hK' K')))|((with_reducible apply zz3);rfl;all_goals (intro h;try exact absurd h (by decide))))
     simp only [Kret,retL,retOne,oneV,WE,simprocAttr]
 subst hz
 rw [if_neg (by decide)]
 cases g1 : (lab.toList == ByteArray.toList ⟨#[]⟩) with
 | false =>
  have he:=eqs58 vs vn vs vn vS vS
  simp only [Bool.not_true,Bool.not_false,cond_true,cond_false,bne_self_eq_false,beq_self_eq_true,Bool.and_true,Bool.true_and,Bool.and_false,Bool.false_and,Bool.and_self] at he
  rw [if_neg (by simp only [g1,Bool.not_true,Bool.not_false,cond_true,cond_false,bne_self_eq_false,beq_self_eq_true,Bool.and_true,Bool.true_and,Bool.and_false,Bool.false_and,Bool.and_self] <;> decide)]
  rcases hk with rfl | rfl
  · refine fn_of_swp (N:=92) Tryd.func69 rfl (by decide) rfl rfl (by simp) (fun C h0=>?_)
    simp only [argE]
    repeat' (first|(with_reducible apply zz1)|((with_reducible apply zz2);rfl;intro K' hK';simp only [WE,simprocAttr,g1,he,hll,w1,List.length_map,bne,Bool.not_true,Bool.not_false,cond_true,cond_false,bne_self_eq_false,beq_self_eq_true,Bool.and_true,Bool.true_and,Bool.and_false,Bool.false_and,Bool.and_self,Int.reduceBEq];(repeat (constructor;focus (clear hK';intros;simp_all;done)));(try (apply hK';clear hK' K')))|((with_reducible apply zz3);rfl;all_goals (intro h;try exact absurd h (by decide))))
    refine stop_callF rfl (by simp only [WE,simprocAttr]) rfl rfl (hvc) ?_
    simp only [WE,simprocAttr,inX,dropS, ]
    (repeat (constructor;focus (clear hK';intros;simp_all;done)))
    (try (apply hK';clear hK' K'))
    repeat' (first|(with_reducible apply zz1)|((with_reducible apply zz2);rfl;intro K' hK';simp only [WE,simprocAttr,g1,he,hll,w1,List.length_map,bne,Bool.not_true,Bool.not_false,cond_true,cond_false,bne_self_eq_false,beq_self_eq_true,Bool.and_true,Bool.true_and,Bool.and_false,Bool.false_and,Bool.and_self];(repeat (constructor;focus (clear hK';intros;simp_all;done)));(try (apply hK';clear hK' K')))|((with_reducible apply zz3);rfl;all_goals (intro h;try exact absurd h (by decide))))
    simp only [Kret,retL,retOne,oneV,WE,simprocAttr]
  · refine fn_of_swp (N:=92) Tryd.func69 rfl (by decide) rfl rfl (by simp) (fun C h0=>?_)
    simp only [argE]
    repeat' (first|(with_reducible apply zz1)|((with_reducible apply zz2);rfl;intro K' hK';simp only [WE,simprocAttr,g1,he,hll,w1,List.length_map,bne,Bool.not_true,Bool.not_false,cond_true,cond_false,bne_self_eq_false,beq_self_eq_true,Bool.and_true,Bool.true_and,Bool.and_false,Bool.false_and,Bool.and_self,Int.reduceBEq];(repeat (constructor;focus (clear hK';intros;simp_all;done)));(try (apply hK';clear hK' K')))|((with_reducible apply zz3);rfl;all_goals (intro h;try exact absurd h (by decide))))
    refine stop_callF rfl (by simp only [WE,simprocAttr]) rfl rfl (hvc) ?_
    simp only [WE,simprocAttr,inX,dropS, ]
    (repeat (constructor;focus (clear hK';intros;simp_all;done)))
    (try (apply hK';clear hK' K'))
    repeat' (first|(with_reducible apply zz1)|((with_reducible apply zz2);rfl;intro K' hK';simp only [WE,simprocAttr,g1,he,hll,w1,List.length_map,bne,Bool.not_true,Bool.not_false,cond_true,cond_false,bne_self_eq_false,beq_self_eq_true,Bool.and_true,Bool.true_and,Bool.and_false,Bool.false_and,Bool.and_self];(repeat (constructor;focus (clear hK';intros;simp_all;done)));(try (apply hK';clear hK' K')))|((with_reducible apply zz3);rfl;all_goals (intro h;try exact absurd h (by decide))))
    simp only [Kret,retL,retOne,oneV,WE,simprocAttr]
 | true =>
  cases g2 : (k == 0) with
  | false =>
   have he:=eqs58 vs vn vs vn vS vS
   simp only [Bool.not_true,Bool.not_false,cond_true,cond_false,bne_self_eq_false,beq_self_eq_true,Bool.and_true,Bool.true_and,Bool.and_false,Bool.false_and,Bool.and_self] at he
   rw [if_neg (by simp only [g1,g2,Bool.not_true,Bool.not_false,cond_true,cond_false,bne_self_eq_false,beq_self_eq_true,Bool.and_true,Bool.true_and,Bool.and_false,Bool.false_and,Bool.and_self] <;> decide)]
   rcases hk with rfl | rfl
   · refine fn_of_swp (N:=92) Tryd.func69 rfl (by decide) rfl rfl (by simp) (fun C h0=>?_)
     simp only [argE]
     repeat' (first|(with_reducible apply zz1)|((with_reducible apply zz2);rfl;intro K' hK';simp only [WE,simprocAttr,g1,g2,he,hll,w1,List.length_map,bne,Bool.not_true,Bool.not_false,cond_true,cond_false,bne_self_eq_false,beq_self_eq_true,Bool.and_true,Bool.true_and,Bool.and_false,Bool.false_and,Bool.and_self,Int.reduceBEq];(repeat (constructor;focus (clear hK';intros;simp_all;done)));(try (apply hK';clear hK' K')))|((with_reducible apply zz3);rfl;all_goals (intro h;try exact absurd h (by decide))))
     refine stop_callF rfl (by simp only [WE,simprocAttr]) rfl rfl (hvc) ?_
     simp only [WE,simprocAttr,inX,dropS, ]
     (repeat (constructor;focus (clear hK';intros;simp_all;done)))
     (try (apply hK';clear hK' K'))
     repeat' (first|(with_reducible apply zz1)|((with_reducible apply zz2);rfl;intro K' hK';simp only [WE,simprocAttr,g1,g2,he,hll,w1,List.length_map,bne,Bool.not_true,Bool.not_false,cond_true,cond_false,bne_self_eq_false,beq_self_eq_true,Bool.and_true,Bool.true_and,Bool.and_false,Bool.false_and,Bool.and_self];(repeat (constructor;focus (clear hK';intros;simp_all;done)));(try (apply hK';clear hK' K')))|((with_reducible apply zz3);rfl;all_goals (intro h;try exact absurd h (by decide))))
     simp only [Kret,retL,retOne,oneV,WE,simprocAttr]
   · refine fn_of_swp (N:=92) Tryd.func69 rfl (by decide) rfl rfl (by simp) (fun C h0=>?_)
     simp only [argE]
     repeat' (first|(with_reducible apply zz1)|((with_reducible apply zz2);rfl;intro K' hK';simp only [WE,simprocAttr,g1,g2,he,hll,w1,List.length_map,bne,Bool.not_true,Bool.not_false,cond_true,cond_false,bne_self_eq_false,beq_self_eq_true,Bool.and_true,Bool.true_and,Bool.and_false,Bool.false_and,Bool.and_self,Int.reduceBEq];(repeat (constructor;focus (clear hK';intros;simp_all;done)));(try (apply hK';clear hK' K')))|((with_reducible apply zz3);rfl;all_goals (intro h;try exact absurd h (by decide))))
     refine stop_callF rfl (by simp only [WE,simprocAttr]) rfl rfl (hvc) ?_
     simp only [WE,simprocAttr,inX,dropS, ]
     (repeat (constructor;focus (clear hK';intros;simp_all;done)))
     (try (apply hK';clear hK' K'))
     repeat' (first|(with_reducible apply zz1)|((with_reducible apply zz2);rfl;intro K' hK';simp only [WE,simprocAttr,g1,g2,he,hll,w1,List.length_map,bne,Bool.not_true,Bool.not_false,cond_true,cond_false,bne_self_eq_false,beq_self_eq_true,Bool.and_true,Bool.true_and,Bool.and_false,Bool.false_and,Bool.and_self];(repeat (constructor;focus (clear hK';intros;simp_all;done)));(try (apply hK';clear hK' K')))|((with_reducible apply zz3);rfl;all_goals (intro h;try exact absurd h (by decide))))
     simp only [Kret,retL,retOne,oneV,WE,simprocAttr]
  | true =>
   cases g3 : (so == 0) with
   | false =>
    have he:=eqs58 vs vn vs vn vS vS
    simp only [Bool.not_true,Bool.not_false,cond_true,cond_false,bne_self_eq_false,beq_self_eq_true,Bool.and_true,Bool.true_and,Bool.and_false,Bool.false_and,Bool.and_self] at he
    rw [if_neg (by simp only [g1,g2,g3,Bool.not_true,Bool.not_false,cond_true,cond_false,bne_self_eq_false,beq_self_eq_true,Bool.and_true,Bool.true_and,Bool.and_false,Bool.false_and,Bool.and_self] <;> decide)]
    rcases hk with rfl | rfl
    · refine fn_of_swp (N:=92) Tryd.func69 rfl (by decide) rfl rfl (by simp) (fun C h0=>?_)
      simp only [argE]
      repeat' (first|(with_reducible apply zz1)|((with_reducible apply zz2);rfl;intro K' hK';simp only [WE,simprocAttr,g1,g2,g3,he,hll,w1,List.length_map,bne,Bool.not_true,Bool.not_false,cond_true,cond_false,bne_self_eq_false,beq_self_eq_true,Bool.and_true,Bool.true_and,Bool.and_false,Bool.false_and,Bool.and_self,Int.reduceBEq];(repeat (constructor;focus (clear hK';intros;simp_all;done)));(try (apply hK';clear hK' K')))|((with_reducible apply zz3);rfl;all_goals (intro h;try exact absurd h (by decide))))
      refine stop_callF rfl (by simp only [WE,simprocAttr]) rfl rfl (hvc) ?_
      simp only [WE,simprocAttr,inX,dropS, ]
      (repeat (constructor;focus (clear hK';intros;simp_all;done)))
      (try (apply hK';clear hK' K'))
      repeat' (first|(with_reducible apply zz1)|((with_reducible apply zz2);rfl;intro K' hK';simp only [WE,simprocAttr,g1,g2,g3,he,hll,w1,List.length_map,bne,Bool.not_true,Bool.not_false,cond_true,cond_false,bne_self_eq_false,beq_self_eq_true,Bool.and_true,Bool.true_and,Bool.and_false,Bool.false_and,Bool.and_self];(repeat (constructor;focus (clear hK';intros;simp_all;done)));(try (apply hK';clear hK' K')))|((with_reducible apply zz3);rfl;all_goals (intro h;try exact absurd h (by decide))))
      simp only [Kret,retL,retOne,oneV,WE,simprocAttr]
    · refine fn_of_swp (N:=92) Tryd.func69 rfl (by decide) rfl rfl (by simp) (fun C h0=>?_)
      simp only [argE]
      repeat' (first|(with_reducible apply zz1)|((with_reducible apply zz2);rfl;intro K' hK';simp only [WE,simprocAttr,g1,g2,g3,he,hll,w1,List.length_map,bne,Bool.not_true,Bool.not_false,cond_true,cond_false,bne_self_eq_false,beq_self_eq_true,Bool.and_true,Bool.true_and,Bool.and_false,Bool.false_and,Bool.and_self,Int.reduceBEq];(repeat (constructor;focus (clear hK';intros;simp_all;done)));(try (apply hK';clear hK' K')))|((with_reducible apply zz3);rfl;all_goals (intro h;try exact absurd h (by decide))))
      refine stop_callF rfl (by simp only [WE,simprocAttr]) rfl rfl (hvc) ?_
      simp only [WE,simprocAttr,inX,dropS, ]
      (repeat (constructor;focus (clear hK';intros;simp_all;done)))
      (try (apply hK';clear hK' K'))
      repeat' (first|(with_reducible apply zz1)|((with_reducible apply zz2);rfl;intro K' hK';simp only [WE,simprocAttr,g1,g2,g3,he,hll,w1,List.length_map,bne,Bool.not_true,Bool.not_false,cond_true,cond_false,bne_self_eq_false,beq_self_eq_true,Bool.and_true,Bool.true_and,Bool.and_false,Bool.false_and,Bool.and_self];(repeat (constructor;focus (clear hK';intros;simp_all;done)));(try (apply hK';clear hK' K')))|((with_reducible apply zz3);rfl;all_goals (intro h;try exact absurd h (by decide))))
      simp only [Kret,retL,retOne,oneV,WE,simprocAttr]
   | true =>
    cases g4 : (nm.toList == ByteArray.toList ⟨#[]⟩) with
    | false =>
     have he:=eqs58 vs vn vs vn vS vS
     simp only [Bool.not_true,Bool.not_false,cond_true,cond_false,bne_self_eq_false,beq_self_eq_true,Bool.and_true,Bool.true_and,Bool.and_false,Bool.false_and,Bool.and_self] at he
     rw [if_neg (by simp only [g1,g2,g3,g4,Bool.not_true,Bool.not_false,cond_true,cond_false,bne_self_eq_false,beq_self_eq_true,Bool.and_true,Bool.true_and,Bool.and_false,Bool.false_and,Bool.and_self] <;> decide)]
     rcases hk with rfl | rfl
     · refine fn_of_swp (N:=92) Tryd.func69 rfl (by decide) rfl rfl (by simp) (fun C h0=>?_)
       simp only [argE]
       repeat' (first|(with_reducible apply zz1)|((with_reducible apply zz2);rfl;intro K' hK';simp only [WE,simprocAttr,g1,g2,g3,g4,he,hll,w1,List.length_map,bne,Bool.not_true,Bool.not_false,cond_true,cond_false,bne_self_eq_false,beq_self_eq_true,Bool.and_true,Bool.true_and,Bool.and_false,Bool.false_and,Bool.and_self,Int.reduceBEq];(repeat (constructor;focus (clear hK';intros;simp_all;done)));(try (apply hK';clear hK' K')))|((with_reducible apply zz3);rfl;all_goals (intro h;try exact absurd h (by decide))))
       refine stop_callF rfl (by simp only [WE,simprocAttr]) rfl rfl (hvc) ?_
       simp only [WE,simprocAttr,inX,dropS, ]
       (repeat (constructor;focus (clear hK';intros;simp_all;done)))
       (try (apply hK';clear hK' K'))
       repeat' (first|(with_reducible apply zz1)|((with_reducible apply zz2);rfl;intro K' hK';simp only [WE,simprocAttr,g1,g2,g3,g4,he,hll,w1,List.length_map,bne,Bool.not_true,Bool.not_false,cond_true,cond_false,bne_self_eq_false,beq_self_eq_true,Bool.and_true,Bool.true_and,Bool.and_false,Bool.false_and,Bool.and_self];(repeat (constructor;focus (clear hK';intros;simp_all;done)));(try (apply hK';clear hK' K')))|((with_reducible apply zz3);rfl;all_goals (intro h;try exact absurd h (by decide))))
       simp only [Kret,retL,retOne,oneV,WE,simprocAttr]
     · refine fn_of_swp (N:=92) Tryd.func69 rfl (by decide) rfl rfl (by simp) (fun C h0=>?_)
       simp only [argE]
       repeat' (first|(with_reducible apply zz1)|((with_reducible apply zz2);rfl;intro K' hK';simp only [WE,simprocAttr,g1,g2,g3,g4,he,hll,w1,List.length_map,bne,Bool.not_true,Bool.not_false,cond_true,cond_false,bne_self_eq_false,beq_self_eq_true,Bool.and_true,Bool.true_and,Bool.and_false,Bool.false_and,Bool.and_self,Int.reduceBEq];(repeat (constructor;focus (clear hK';intros;simp_all;done)));(try (apply hK';clear hK' K')))|((with_reducible apply zz3);rfl;all_goals (intro h;try exact absurd h (by decide))))
       refine stop_callF rfl (by simp only [WE,simprocAttr]) rfl rfl (hvc) ?_
       simp only [WE,simprocAttr,inX,dropS, ]
       (repeat (constructor;focus (clear hK';intros;simp_all;done)))
       (try (apply hK';clear hK' K'))
       repeat' (first|(with_reducible apply zz1)|((with_reducible apply zz2);rfl;intro K' hK';simp only [WE,simprocAttr,g1,g2,g3,g4,he,hll,w1,List.length_map,bne,Bool.not_true,Bool.not_false,cond_true,cond_false,bne_self_eq_false,beq_self_eq_true,Bool.and_true,Bool.true_and,Bool.and_false,Bool.false_and,Bool.and_self];(repeat (constructor;focus (clear hK';intros;simp_all;done)));(try (apply hK';clear hK' K')))|((with_reducible apply zz3);rfl;all_goals (intro h;try exact absurd h (by decide))))
       simp only [Kret,retL,retOne,oneV,WE,simprocAttr]
    | true =>
     cases g5 : decide ((0 : Int) < (ls.length : Int) + (l.length : Int)) with
     | true =>
      have g5t : (0 : Int) < (ls.length : Int) + (l.length : Int):=of_decide_eq_true g5
      have he:=eqs58 vs vn vs vn vS vS
      simp only [Bool.not_true,Bool.not_false,cond_true,cond_false,bne_self_eq_false,beq_self_eq_true,Bool.and_true,Bool.true_and,Bool.and_false,Bool.false_and,Bool.and_self] at he
      rw [if_neg (by simp only [g1,g2,g3,g4,g5,Bool.not_true,Bool.not_false,cond_true,cond_false,bne_self_eq_false,beq_self_eq_true,Bool.and_true,Bool.true_and,Bool.and_false,Bool.false_and,Bool.and_self] <;> decide)]
      rcases hk with rfl | rfl
      · refine fn_of_swp (N:=92) Tryd.func69 rfl (by decide) rfl rfl (by simp) (fun C h0=>?_)
        simp only [argE]
        repeat' (first|(with_reducible apply zz1)|((with_reducible apply zz2);rfl;intro K' hK';simp only [WE,simprocAttr,g1,g2,g3,g4,g5t,he,hll,w1,List.length_map,bne,Bool.not_true,Bool.not_false,cond_true,cond_false,bne_self_eq_false,beq_self_eq_true,Bool.and_true,Bool.true_and,Bool.and_false,Bool.false_and,Bool.and_self,Int.reduceBEq];(repeat (constructor;focus (clear hK';intros;simp_all;done)));(try (apply hK';clear hK' K')))|((with_reducible apply zz3);rfl;all_goals (intro h;try exact absurd h (by decide))))
        refine stop_callF rfl (by simp only [WE,simprocAttr]) rfl rfl (hvc) ?_
        simp only [WE,simprocAttr,inX,dropS, ]
        (repeat (constructor;focus (clear hK';intros;simp_all;done)))
        (try (apply hK';clear hK' K'))
        repeat' (first|(with_reducible apply zz1)|((with_reducible apply zz2);rfl;intro K' hK';simp only [WE,simprocAttr,g1,g2,g3,g4,g5t,he,hll,w1,List.length_map,bne,Bool.not_true,Bool.not_false,cond_true,cond_false,bne_self_eq_false,beq_self_eq_true,Bool.and_true,Bool.true_and,Bool.and_false,Bool.false_and,Bool.and_self];(repeat (constructor;focus (clear hK';intros;simp_all;done)));(try (apply hK';clear hK' K')))|((with_reducible apply zz3);rfl;all_goals (intro h;try exact absurd h (by decide))))
        simp only [Kret,retL,retOne,oneV,WE,simprocAttr]
      · refine fn_of_swp (N:=92) Tryd.func69 rfl (by decide) rfl rfl (by simp) (fun C h0=>?_)
        simp only [argE]
        repeat' (first|(with_reducible apply zz1)|((with_reducible apply zz2);rfl;intro K' hK';simp only [WE,simprocAttr,g1,g2,g3,g4,g5t,he,hll,w1,List.length_map,bne,Bool.not_true,Bool.not_false,cond_true,cond_false,bne_self_eq_false,beq_self_eq_true,Bool.and_true,Bool.true_and,Bool.and_false,Bool.false_and,Bool.and_self,Int.reduceBEq];(repeat (constructor;focus (clear hK';intros;simp_all;done)));(try (apply hK';clear hK' K')))|((with_reducible apply zz3);rfl;all_goals (intro h;try exact absurd h (by decide))))
        refine stop_callF rfl (by simp only [WE,simprocAttr]) rfl rfl (hvc) ?_
        simp only [WE,simprocAttr,inX,dropS, ]
        (repeat (constructor;focus (clear hK';intros;simp_all;done)))
        (try (apply hK';clear hK' K'))
        repeat' (first|(with_reducible apply zz1)|((with_reducible apply zz2);rfl;intro K' hK';simp only [WE,simprocAttr,g1,g2,g3,g4,g5t,he,hll,w1,List.length_map,bne,Bool.not_true,Bool.not_false,cond_true,cond_false,bne_self_eq_false,beq_self_eq_true,Bool.and_true,Bool.true_and,Bool.and_false,Bool.false_and,Bool.and_self];(repeat (constructor;focus (clear hK';intros;simp_all;done)));(try (apply hK';clear hK' K')))|((with_reducible apply zz3);rfl;all_goals (intro h;try exact absurd h (by decide))))
        simp only [Kret,retL,retOne,oneV,WE,simprocAttr]
     | false =>
      have g5f : ¬ (0 : Int) < (ls.length : Int) + (l.length : Int):=of_decide_eq_false g5
      have he:=eqs58 vs vn vs vn vS vS
      simp only [Bool.not_true,Bool.not_false,cond_true,cond_false,bne_self_eq_false,beq_self_eq_true,Bool.and_true,Bool.true_and,Bool.and_false,Bool.false_and,Bool.and_self] at he
      rw [if_pos (by simp only [g1,g2,g3,g4,g5,Bool.not_true,Bool.not_false,cond_true,cond_false,bne_self_eq_false,beq_self_eq_true,Bool.and_true,Bool.true_and,Bool.and_false,Bool.false_and,Bool.and_self] <;> decide)]
      rcases hk with rfl | rfl
      · refine fn_of_swp (N:=92) Tryd.func69 rfl (by decide) rfl rfl (by simp) (fun C h0=>?_)
        simp only [argE]
        repeat' (first|(with_reducible apply zz1)|((with_reducible apply zz2);rfl;intro K' hK';simp only [WE,simprocAttr,g1,g2,g3,g4,g5f,he,hll,w1,List.length_map,bne,Bool.not_true,Bool.not_false,cond_true,cond_false,bne_self_eq_false,beq_self_eq_true,Bool.and_true,Bool.true_and,Bool.and_false,Bool.false_and,Bool.and_self,Int.reduceBEq];(repeat (constructor;focus (clear hK';intros;simp_all;done)));(try (apply hK';clear hK' K')))|((with_reducible apply zz3);rfl;all_goals (intro h;try exact absurd h (by decide))))
        refine stop_callF rfl (by simp only [WE,simprocAttr]) rfl rfl (hvc) ?_
        simp only [WE,simprocAttr,inX,dropS, ]
        (repeat (constructor;focus (clear hK';intros;simp_all;done)))
        (try (apply hK';clear hK' K'))
        repeat' (first|(with_reducible apply zz1)|((with_reducible apply zz2);rfl;intro K' hK';simp only [WE,simprocAttr,g1,g2,g3,g4,g5f,he,hll,w1,List.length_map,bne,Bool.not_true,Bool.not_false,cond_true,cond_false,bne_self_eq_false,beq_self_eq_true,Bool.and_true,Bool.true_and,Bool.and_false,Bool.false_and,Bool.and_self];(repeat (constructor;focus (clear hK';intros;simp_all;done)));(try (apply hK';clear hK' K')))|((with_reducible apply zz3);rfl;all_goals (intro h;try exact absurd h (by decide))))
        simp only [Kret,retL,retOne,oneV,WE,simprocAttr]
      · refine fn_of_swp (N:=92) Tryd.func69 rfl (by decide) rfl rfl (by simp) (fun C h0=>?_)
        simp only [argE]
        repeat' (first|(with_reducible apply zz1)|((with_reducible apply zz2);rfl;intro K' hK';simp only [WE,simprocAttr,g1,g2,g3,g4,g5f,he,hll,w1,List.length_map,bne,Bool.not_true,Bool.not_false,cond_true,cond_false,bne_self_eq_false,beq_self_eq_true,Bool.and_true,Bool.true_and,Bool.and_false,Bool.false_and,Bool.and_self,Int.reduceBEq];(repeat (constructor;focus (clear hK';intros;simp_all;done)));(try (apply hK';clear hK' K')))|((with_reducible apply zz3);rfl;all_goals (intro h;try exact absurd h (by decide))))
        refine stop_callF rfl (by simp only [WE,simprocAttr]) rfl rfl (hvc) ?_
        simp only [WE,simprocAttr,inX,dropS, ]
        (repeat (constructor;focus (clear hK';intros;simp_all;done)))
        (try (apply hK';clear hK' K'))
        repeat' (first|(with_reducible apply zz1)|((with_reducible apply zz2);rfl;intro K' hK';simp only [WE,simprocAttr,g1,g2,g3,g4,g5f,he,hll,w1,List.length_map,bne,Bool.not_true,Bool.not_false,cond_true,cond_false,bne_self_eq_false,beq_self_eq_true,Bool.and_true,Bool.true_and,Bool.and_false,Bool.false_and,Bool.and_self];(repeat (constructor;focus (clear hK';intros;simp_all;done)));(try (apply hK';clear hK' K')))|((with_reducible apply zz3);rfl;all_goals (intro h;try exact absurd h (by decide))))
        simp only [Kret,retL,retOne,oneV,WE,simprocAttr]
set_option maxHeartbeats 16000000 in
set_option maxRecDepth 100000 in
theorem event_b (Γ : Gl) {f : ByteArray → Bool} (hv : VSok Γ f) (vs vn : Int) (vS : ByteArray) (k so : Int) (nm : ByteArray) (ls : List ByteArray) (l : List Tp) (lab : ByteArray) (hz1 : ls.length ≤ 140737488355328) (hz2 : l.length ≤ 140737488355328) (kd : Int) (hk : kd = 4 ∨ kd = 5) :
 EvFn Γ kd vs vn vS (.mk k so nm ls l) lab (if tCheck (.mk k so nm ls l) ≠ 0 then tCheck (.mk k so nm ls l) else if ((vs == 0) && ((vn == 0) && ((vS.toList == ByteArray.toList ⟨#[]⟩) && (lab.toList == ByteArray.toList ⟨#[]⟩)))) = true then 0 else 1):=by
 unfold EvFn evD
 have hll:=Tp.ds_len l
 have w1 : IntKind.i64.wrap ((ls.length : Int) + (l.length : Int)) = (ls.length : Int) + (l.length : Int):=wrap_in (by omega) (by omega)
 have htc:=TCheck_fn Γ (.mk k so nm ls l)
 simp only [Tp.d] at htc
 have hk0 : tCheck (.mk k so nm ls l) = 0 → k ≠ 0:=kind_pos
 obtain ⟨e0,he0⟩ : ∃ e0,tCheck (.mk k so nm ls l) = e0:=⟨_,rfl⟩
 rw [he0]
 rw [he0] at htc
 by_cases hz : e0 = 0
 rotate_left
 · have g1 : (e0 != 0) = true:=by simpa using hz
   rw [if_pos hz]
   rcases hk with rfl | rfl
   · refine fn_of_swp (N:=92) Tryd.func69 rfl (by decide) rfl rfl (by simp) (fun C h0=>?_)
     simp only [argE]
     repeat' (first|(with_reducible apply zz1)|((with_reducible apply zz2);rfl;intro K' hK';simp only [WE,simprocAttr,Bool.not_true,Bool.not_false,cond_true,cond_false,bne_self_eq_false,beq_self_eq_true,Bool.and_true,Bool.true_and,Bool.and_false,Bool.false_and,Bool.and_self,Int.reduceBEq];(repeat (constructor;focus (clear hK';intros;simp_all;done)));(try (apply hK';clear hK' K')))|((with_reducible apply zz3);rfl;all_goals (intro h;try exact absurd h (by decide))))
     refine stop_callF rfl (by simp only [WE,simprocAttr]) rfl rfl (htc) ?_
     simp only [WE,simprocAttr,inX,dropS, ]
     (repeat (constructor;focus (clear hK';intros;simp_all;done)))
     (try (apply hK';clear hK' K'))
     repeat' (first|(with_reducible apply zz1)|((with_reducible apply zz2);rfl;intro K' hK';simp only [WE,simprocAttr,g1,Bool.not_true,Bool.not_false,cond_true,cond_false,bne_self_eq_false,beq_self_eq_true,Bool.and_true,Bool.true_and,Bool.and_false,Bool.false_and,Bool.and_self];(repeat (constructor;focus (clear hK';intros;simp_all;done)));(try (apply hK';clear hK' K')))|((with_reducible apply zz3);rfl;all_goals (intro h;try exact absurd h (by decide))))
     simp only [Kret,retL,retOne,oneV,WE,simprocAttr]
   · refine fn_of_swp (N:=92) Tryd.func69 rfl (by decide) rfl rfl (by simp) (fun C h0=>?_)
     simp only [argE]
     repeat' (first|(with_reducible apply zz1)|((with_reducible apply zz2);rfl;intro K' hK';simp only [WE,simprocAttr,Bool.not_true,Bool.not_false,cond_true,cond_false,bne_self_eq_false,beq_self_eq_true,Bool.and_true,Bool.true_and,Bool.and_false,Bool.false_and,Bool.and_self,Int.reduceBEq];(repeat (constructor;focus (clear hK';intros;simp_all;done)));(try (apply hK';clear hK' K')))|((with_reducible apply zz3);rfl;all_goals (intro h;try exact absurd h (by decide))))
     refine stop_callF rfl (by simp only [WE,simprocAttr]) rfl rfl (htc) ?_
     simp only [WE,simprocAttr,inX,dropS, ]
     (repeat (constructor;focus (clear hK';intros;simp_all;done)))
     (try (apply hK';clear hK' K'))
     repeat' (first|(with_reducible apply zz1)|((with_reducible apply zz2);rfl;intro K' hK';simp only [WE,simprocAttr,g1,Bool.not_true,Bool.not_false,cond_true,cond_false,bne_self_eq_false,beq_self_eq_true,Bool.and_true,Bool.true_and,Bool.and_false,Bool.false_and,Bool.and_self];(repeat (constructor;focus (clear hK';intros;simp_all;done)));(try (apply hK';clear hK' K')))|((with_reducible apply zz3);rfl;all_goals (intro h;try exact absurd h (by decide))))
     simp only [Kret,retL,retOne,oneV,WE,simprocAttr]
 subst hz
 rw [if_neg (by decide)]
 have hk0:=hk0 he0
 have g2 : (k == 0) = false:=by simpa using hk0
 cases v1 : (vs == 0) with
 | false =>
  have he:=eqs58 vs vn 0 0 vS ⟨#[]⟩
  simp only [v1,Bool.not_true,Bool.not_false,cond_true,cond_false,bne_self_eq_false,beq_self_eq_true,Bool.and_true,Bool.true_and,Bool.and_false,Bool.false_and,Bool.and_self] at he
  rw [if_neg (by simp only [v1,Bool.not_true,Bool.not_false,cond_true,cond_false,bne_self_eq_false,beq_self_eq_true,Bool.and_true,Bool.true_and,Bool.and_false,Bool.false_and,Bool.and_self] <;> decide)]
  rcases hk with rfl | rfl
  · refine fn_of_swp (N:=92) Tryd.func69 rfl (by decide) rfl rfl (by simp) (fun C h0=>?_)
    simp only [argE]
    repeat' (first|(with_reducible apply zz1)|((with_reducible apply zz2);rfl;intro K' hK';simp only [WE,simprocAttr,v1,g2,he,hll,w1,List.length_map,bne,Bool.not_true,Bool.not_false,cond_true,cond_false,bne_self_eq_false,beq_self_eq_true,Bool.and_true,Bool.true_and,Bool.and_false,Bool.false_and,Bool.and_self,Int.reduceBEq];(repeat (constructor;focus (clear hK';intros;simp_all;done)));(try (apply hK';clear hK' K')))|((with_reducible apply zz3);rfl;all_goals (intro h;try exact absurd h (by decide))))
    refine stop_callF rfl (by simp only [WE,simprocAttr]) rfl rfl (htc) ?_
    simp only [WE,simprocAttr,inX,dropS, ]
    (repeat (constructor;focus (clear hK';intros;simp_all;done)))
    (try (apply hK';clear hK' K'))
    repeat' (first|(with_reducible apply zz1)|((with_reducible apply zz2);rfl;intro K' hK';simp only [WE,simprocAttr,v1,g2,he,hll,w1,List.length_map,bne,Bool.not_true,Bool.not_false,cond_true,cond_false,bne_self_eq_false,beq_self_eq_true,Bool.and_true,Bool.true_and,Bool.and_false,Bool.false_and,Bool.and_self];(repeat (constructor;focus (clear hK';intros;simp_all;done)));(try (apply hK';clear hK' K')))|((with_reducible apply zz3);rfl;all_goals (intro h;try exact absurd h (by decide))))
    simp only [Kret,retL,retOne,oneV,WE,simprocAttr]
  · refine fn_of_swp (N:=92) Tryd.func69 rfl (by decide) rfl rfl (by simp) (fun C h0=>?_)
    simp only [argE]
    repeat' (first|(with_reducible apply zz1)|((with_reducible apply zz2);rfl;intro K' hK';simp only [WE,simprocAttr,v1,g2,he,hll,w1,List.length_map,bne,Bool.not_true,Bool.not_false,cond_true,cond_false,bne_self_eq_false,beq_self_eq_true,Bool.and_true,Bool.true_and,Bool.and_false,Bool.false_and,Bool.and_self,Int.reduceBEq];(repeat (constructor;focus (clear hK';intros;simp_all;done)));(try (apply hK';clear hK' K')))|((with_reducible apply zz3);rfl;all_goals (intro h;try exact absurd h (by decide))))
    refine stop_callF rfl (by simp only [WE,simprocAttr]) rfl rfl (htc) ?_
    simp only [WE,simprocAttr,inX,dropS, ]
    (repeat (constructor;focus (clear hK';intros;simp_all;done)))
    (try (apply hK';clear hK' K'))
    repeat' (first|(with_reducible apply zz1)|((with_reducible apply zz2);rfl;intro K' hK';simp only [WE,simprocAttr,v1,g2,he,hll,w1,List.length_map,bne,Bool.not_true,Bool.not_false,cond_true,cond_false,bne_self_eq_false,beq_self_eq_true,Bool.and_true,Bool.true_and,Bool.and_false,Bool.false_and,Bool.and_self];(repeat (constructor;focus (clear hK';intros;simp_all;done)));(try (apply hK';clear hK' K')))|((with_reducible apply zz3);rfl;all_goals (intro h;try exact absurd h (by decide))))
    simp only [Kret,retL,retOne,oneV,WE,simprocAttr]
 | true =>
  cases v2 : (vn == 0) with
  | false =>
   have he:=eqs58 vs vn 0 0 vS ⟨#[]⟩
   simp only [v1,v2,Bool.not_true,Bool.not_false,cond_true,cond_false,bne_self_eq_false,beq_self_eq_true,Bool.and_true,Bool.true_and,Bool.and_false,Bool.false_and,Bool.and_self] at he
   rw [if_neg (by simp only [v1,v2,Bool.not_true,Bool.not_false,cond_true,cond_false,bne_self_eq_false,beq_self_eq_true,Bool.and_true,Bool.true_and,Bool.and_false,Bool.false_and,Bool.and_self] <;> decide)]
   rcases hk with rfl | rfl
   · refine fn_of_swp (N:=92) Tryd.func69 rfl (by decide) rfl rfl (by simp) (fun C h0=>?_)
     simp only [argE]
     repeat' (first|(with_reducible apply zz1)|((with_reducible apply zz2);rfl;intro K' hK';simp only [WE,simprocAttr,v1,v2,g2,he,hll,w1,List.length_map,bne,Bool.not_true,Bool.not_false,cond_true,cond_false,bne_self_eq_false,beq_self_eq_true,Bool.and_true,Bool.true_and,Bool.and_false,Bool.false_and,Bool.and_self,Int.reduceBEq];(repeat (constructor;focus (clear hK';intros;simp_all;done)));(try (apply hK';clear hK' K')))|((with_reducible apply zz3);rfl;all_goals (intro h;try exact absurd h (by decide))))
     refine stop_callF rfl (by simp only [WE,simprocAttr]) rfl rfl (htc) ?_
     simp only [WE,simprocAttr,inX,dropS, ]
     (repeat (constructor;focus (clear hK';intros;simp_all;done)))
     (try (apply hK';clear hK' K'))
     repeat' (first|(with_reducible apply zz1)|((with_reducible apply zz2);rfl;intro K' hK';simp only [WE,simprocAttr,v1,v2,g2,he,hll,w1,List.length_map,bne,Bool.not_true,Bool.not_false,cond_true,cond_false,bne_self_eq_false,beq_self_eq_true,Bool.and_true,Bool.true_and,Bool.and_false,Bool.false_and,Bool.and_self];(repeat (constructor;focus (clear hK';intros;simp_all;done)));(try (apply hK';clear hK' K')))|((with_reducible apply zz3);rfl;all_goals (intro h;try exact absurd h (by decide))))
     simp only [Kret,retL,retOne,oneV,WE,simprocAttr]
   · refine fn_of_swp (N:=92) Tryd.func69 rfl (by decide) rfl rfl (by simp) (fun C h0=>?_)
     simp only [argE]
     repeat' (first|(with_reducible apply zz1)|((with_reducible apply zz2);rfl;intro K' hK';simp only [WE,simprocAttr,v1,v2,g2,he,hll,w1,List.length_map,bne,Bool.not_true,Bool.not_false,cond_true,cond_false,bne_self_eq_false,beq_self_eq_true,Bool.and_true,Bool.true_and,Bool.and_false,Bool.false_and,Bool.and_self,Int.reduceBEq];(repeat (constructor;focus (clear hK';intros;simp_all;done)));(try (apply hK';clear hK' K')))|((with_reducible apply zz3);rfl;all_goals (intro h;try exact absurd h (by decide))))
     refine stop_callF rfl (by simp only [WE,simprocAttr]) rfl rfl (htc) ?_
     simp only [WE,simprocAttr,inX,dropS, ]
     (repeat (constructor;focus (clear hK';intros;simp_all;done)))
     (try (apply hK';clear hK' K'))
     repeat' (first|(with_reducible apply zz1)|((with_reducible apply zz2);rfl;intro K' hK';simp only [WE,simprocAttr,v1,v2,g2,he,hll,w1,List.length_map,bne,Bool.not_true,Bool.not_false,cond_true,cond_false,bne_self_eq_false,beq_self_eq_true,Bool.and_true,Bool.true_and,Bool.and_false,Bool.false_and,Bool.and_self];(repeat (constructor;focus (clear hK';intros;simp_all;done)));(try (apply hK';clear hK' K')))|((with_reducible apply zz3);rfl;all_goals (intro h;try exact absurd h (by decide))))
     simp only [Kret,retL,retOne,oneV,WE,simprocAttr]
  | true =>
   cases v3 : (vS.toList == ByteArray.toList ⟨#[]⟩) with
   | false =>
    have he:=eqs58 vs vn 0 0 vS ⟨#[]⟩
    simp only [v1,v2,v3,Bool.not_true,Bool.not_false,cond_true,cond_false,bne_self_eq_false,beq_self_eq_true,Bool.and_true,Bool.true_and,Bool.and_false,Bool.false_and,Bool.and_self] at he
    rw [if_neg (by simp only [v1,v2,v3,Bool.not_true,Bool.not_false,cond_true,cond_false,bne_self_eq_false,beq_self_eq_true,Bool.and_true,Bool.true_and,Bool.and_false,Bool.false_and,Bool.and_self] <;> decide)]
    rcases hk with rfl | rfl
    · refine fn_of_swp (N:=92) Tryd.func69 rfl (by decide) rfl rfl (by simp) (fun C h0=>?_)
      simp only [argE]
      repeat' (first|(with_reducible apply zz1)|((with_reducible apply zz2);rfl;intro K' hK';simp only [WE,simprocAttr,v1,v2,v3,g2,he,hll,w1,List.length_map,bne,Bool.not_true,Bool.not_false,cond_true,cond_false,bne_self_eq_false,beq_self_eq_true,Bool.and_true,Bool.true_and,Bool.and_false,Bool.false_and,Bool.and_self,Int.reduceBEq];(repeat (constructor;focus (clear hK';intros;simp_all;done)));(try (apply hK';clear hK' K')))|((with_reducible apply zz3);rfl;all_goals (intro h;try exact absurd h (by decide))))
      refine stop_callF rfl (by simp only [WE,simprocAttr]) rfl rfl (htc) ?_
      simp only [WE,simprocAttr,inX,dropS, ]
      (repeat (constructor;focus (clear hK';intros;simp_all;done)))
      (try (apply hK';clear hK' K'))
      repeat' (first|(with_reducible apply zz1)|((with_reducible apply zz2);rfl;intro K' hK';simp only [WE,simprocAttr,v1,v2,v3,g2,he,hll,w1,List.length_map,bne,Bool.not_true,Bool.not_false,cond_true,cond_false,bne_self_eq_false,beq_self_eq_true,Bool.and_true,Bool.true_and,Bool.and_false,Bool.false_and,Bool.and_self];(repeat (constructor;focus (clear hK';intros;simp_all;done)));(try (apply hK';clear hK' K')))|((with_reducible apply zz3);rfl;all_goals (intro h;try exact absurd h (by decide))))
      simp only [Kret,retL,retOne,oneV,WE,simprocAttr]
    · refine fn_of_swp (N:=92) Tryd.func69 rfl (by decide) rfl rfl (by simp) (fun C h0=>?_)
      simp only [argE]
      repeat' (first|(with_reducible apply zz1)|((with_reducible apply zz2);rfl;intro K' hK';simp only [WE,simprocAttr,v1,v2,v3,g2,he,hll,w1,List.length_map,bne,Bool.not_true,Bool.not_false,cond_true,cond_false,bne_self_eq_false,beq_self_eq_true,Bool.and_true,Bool.true_and,Bool.and_false,Bool.false_and,Bool.and_self,Int.reduceBEq];(repeat (constructor;focus (clear hK';intros;simp_all;done)));(try (apply hK';clear hK' K')))|((with_reducible apply zz3);rfl;all_goals (intro h;try exact absurd h (by decide))))
      refine stop_callF rfl (by simp only [WE,simprocAttr]) rfl rfl (htc) ?_
      simp only [WE,simprocAttr,inX,dropS, ]
      (repeat (constructor;focus (clear hK';intros;simp_all;done)))
      (try (apply hK';clear hK' K'))
      repeat' (first|(with_reducible apply zz1)|((with_reducible apply zz2);rfl;intro K' hK';simp only [WE,simprocAttr,v1,v2,v3,g2,he,hll,w1,List.length_map,bne,Bool.not_true,Bool.not_false,cond_true,cond_false,bne_self_eq_false,beq_self_eq_true,Bool.and_true,Bool.true_and,Bool.and_false,Bool.false_and,Bool.and_self];(repeat (constructor;focus (clear hK';intros;simp_all;done)));(try (apply hK';clear hK' K')))|((with_reducible apply zz3);rfl;all_goals (intro h;try exact absurd h (by decide))))
      simp only [Kret,retL,retOne,oneV,WE,simprocAttr]
   | true =>
    cases g1 : (lab.toList == ByteArray.toList ⟨#[]⟩) with
    | false =>
     have he:=eqs58 vs vn 0 0 vS ⟨#[]⟩
     simp only [v1,v2,v3,Bool.not_true,Bool.not_false,cond_true,cond_false,bne_self_eq_false,beq_self_eq_true,Bool.and_true,Bool.true_and,Bool.and_false,Bool.false_and,Bool.and_self] at he
     rw [if_neg (by simp only [v1,v2,v3,g1,Bool.not_true,Bool.not_false,cond_true,cond_false,bne_self_eq_false,beq_self_eq_true,Bool.and_true,Bool.true_and,Bool.and_false,Bool.false_and,Bool.and_self] <;> decide)]
     rcases hk with rfl | rfl
     · refine fn_of_swp (N:=92) Tryd.func69 rfl (by decide) rfl rfl (by simp) (fun C h0=>?_)
       simp only [argE]
       repeat' (first|(with_reducible apply zz1)|((with_reducible apply zz2);rfl;intro K' hK';simp only [WE,simprocAttr,v1,v2,v3,g1,g2,he,hll,w1,List.length_map,bne,Bool.not_true,Bool.not_false,cond_true,cond_false,bne_self_eq_false,beq_self_eq_true,Bool.and_true,Bool.true_and,Bool.and_false,Bool.false_and,Bool.and_self,Int.reduceBEq];(repeat (constructor;focus (clear hK';intros;simp_all;done)));(try (apply hK';clear hK' K')))|((with_reducible apply zz3);rfl;all_goals (intro h;try exact absurd h (by decide))))
       refine stop_callF rfl (by simp only [WE,simprocAttr]) rfl rfl (htc) ?_
       simp only [WE,simprocAttr,inX,dropS, ]
       (repeat (constructor;focus (clear hK';intros;simp_all;done)))
       (try (apply hK';clear hK' K'))
       repeat' (first|(with_reducible apply zz1)|((with_reducible apply zz2);rfl;intro K' hK';simp only [WE,simprocAttr,v1,v2,v3,g1,g2,he,hll,w1,List.length_map,bne,Bool.not_true,Bool.not_false,cond_true,cond_false,bne_self_eq_false,beq_self_eq_true,Bool.and_true,Bool.true_and,Bool.and_false,Bool.false_and,Bool.and_self];(repeat (constructor;focus (clear hK';intros;simp_all;done)));(try (apply hK';clear hK' K')))|((with_reducible apply zz3);rfl;all_goals (intro h;try exact absurd h (by decide))))
       simp only [Kret,retL,retOne,oneV,WE,simprocAttr]
     · refine fn_of_swp (N:=92) Tryd.func69 rfl (by decide) rfl rfl (by simp) (fun C h0=>?_)
       simp only [argE]
       repeat' (first|(with_reducible apply zz1)|((with_reducible apply zz2);rfl;intro K' hK';simp only [WE,simprocAttr,v1,v2,v3,g1,g2,he,hll,w1,List.length_map,bne,Bool.not_true,Bool.not_false,cond_true,cond_false,bne_self_eq_false,beq_self_eq_true,Bool.and_true,Bool.true_and,Bool.and_false,Bool.false_and,Bool.and_self,Int.reduceBEq];(repeat (constructor;focus (clear hK';intros;simp_all;done)));(try (apply hK';clear hK' K')))|((with_reducible apply zz3);rfl;all_goals (intro h;try exact absurd h (by decide))))
       refine stop_callF rfl (by simp only [WE,simprocAttr]) rfl rfl (htc) ?_
       simp only [WE,simprocAttr,inX,dropS, ]
       (repeat (constructor;focus (clear hK';intros;simp_all;done)))
       (try (apply hK';clear hK' K'))
       repeat' (first|(with_reducible apply zz1)|((with_reducible apply zz2);rfl;intro K' hK';simp only [WE,simprocAttr,v1,v2,v3,g1,g2,he,hll,w1,List.length_map,bne,Bool.not_true,Bool.not_false,cond_true,cond_false,bne_self_eq_false,beq_self_eq_true,Bool.and_true,Bool.true_and,Bool.and_false,Bool.false_and,Bool.and_self];(repeat (constructor;focus (clear hK';intros;simp_all;done)));(try (apply hK';clear hK' K')))|((with_reducible apply zz3);rfl;all_goals (intro h;try exact absurd h (by decide))))
       simp only [Kret,retL,retOne,oneV,WE,simprocAttr]
    | true =>
     have he:=eqs58 vs vn 0 0 vS ⟨#[]⟩
     simp only [v1,v2,v3,Bool.not_true,Bool.not_false,cond_true,cond_false,bne_self_eq_false,beq_self_eq_true,Bool.and_true,Bool.true_and,Bool.and_false,Bool.false_and,Bool.and_self] at he
     rw [if_pos (by simp only [v1,v2,v3,g1,Bool.not_true,Bool.not_false,cond_true,cond_false,bne_self_eq_false,beq_self_eq_true,Bool.and_true,Bool.true_and,Bool.and_false,Bool.false_and,Bool.and_self] <;> decide)]
     rcases hk with rfl | rfl
     · refine fn_of_swp (N:=92) Tryd.func69 rfl (by decide) rfl rfl (by simp) (fun C h0=>?_)
       simp only [argE]
       repeat' (first|(with_reducible apply zz1)|((with_reducible apply zz2);rfl;intro K' hK';simp only [WE,simprocAttr,v1,v2,v3,g1,g2,he,hll,w1,List.length_map,bne,Bool.not_true,Bool.not_false,cond_true,cond_false,bne_self_eq_false,beq_self_eq_true,Bool.and_true,Bool.true_and,Bool.and_false,Bool.false_and,Bool.and_self,Int.reduceBEq];(repeat (constructor;focus (clear hK';intros;simp_all;done)));(try (apply hK';clear hK' K')))|((with_reducible apply zz3);rfl;all_goals (intro h;try exact absurd h (by decide))))
       refine stop_callF rfl (by simp only [WE,simprocAttr]) rfl rfl (htc) ?_
       simp only [WE,simprocAttr,inX,dropS, ]
       (repeat (constructor;focus (clear hK';intros;simp_all;done)))
       (try (apply hK';clear hK' K'))
       repeat' (first|(with_reducible apply zz1)|((with_reducible apply zz2);rfl;intro K' hK';simp only [WE,simprocAttr,v1,v2,v3,g1,g2,he,hll,w1,List.length_map,bne,Bool.not_true,Bool.not_false,cond_true,cond_false,bne_self_eq_false,beq_self_eq_true,Bool.and_true,Bool.true_and,Bool.and_false,Bool.false_and,Bool.and_self];(repeat (constructor;focus (clear hK';intros;simp_all;done)));(try (apply hK';clear hK' K')))|((with_reducible apply zz3);rfl;all_goals (intro h;try exact absurd h (by decide))))
       simp only [Kret,retL,retOne,oneV,WE,simprocAttr]
     · refine fn_of_swp (N:=92) Tryd.func69 rfl (by decide) rfl rfl (by simp) (fun C h0=>?_)
       simp only [argE]
       repeat' (first|(with_reducible apply zz1)|((with_reducible apply zz2);rfl;intro K' hK';simp only [WE,simprocAttr,v1,v2,v3,g1,g2,he,hll,w1,List.length_map,bne,Bool.not_true,Bool.not_false,cond_true,cond_false,bne_self_eq_false,beq_self_eq_true,Bool.and_true,Bool.true_and,Bool.and_false,Bool.false_and,Bool.and_self,Int.reduceBEq];(repeat (constructor;focus (clear hK';intros;simp_all;done)));(try (apply hK';clear hK' K')))|((with_reducible apply zz3);rfl;all_goals (intro h;try exact absurd h (by decide))))
       refine stop_callF rfl (by simp only [WE,simprocAttr]) rfl rfl (htc) ?_
       simp only [WE,simprocAttr,inX,dropS, ]
       (repeat (constructor;focus (clear hK';intros;simp_all;done)))
       (try (apply hK';clear hK' K'))
       repeat' (first|(with_reducible apply zz1)|((with_reducible apply zz2);rfl;intro K' hK';simp only [WE,simprocAttr,v1,v2,v3,g1,g2,he,hll,w1,List.length_map,bne,Bool.not_true,Bool.not_false,cond_true,cond_false,bne_self_eq_false,beq_self_eq_true,Bool.and_true,Bool.true_and,Bool.and_false,Bool.false_and,Bool.and_self];(repeat (constructor;focus (clear hK';intros;simp_all;done)));(try (apply hK';clear hK' K')))|((with_reducible apply zz3);rfl;all_goals (intro h;try exact absurd h (by decide))))
       simp only [Kret,retL,retOne,oneV,WE,simprocAttr]
set_option maxHeartbeats 16000000 in
set_option maxRecDepth 100000 in
theorem event_c (Γ : Gl) {f : ByteArray → Bool} (hv : VSok Γ f) (vs vn : Int) (vS : ByteArray) (k so : Int) (nm : ByteArray) (ls : List ByteArray) (l : List Tp) (lab : ByteArray) (hz1 : ls.length ≤ 140737488355328) (hz2 : l.length ≤ 140737488355328) (kd : Int) (hk : kd = 6 ∨ kd = 7) :
 EvFn Γ kd vs vn vS (.mk k so nm ls l) lab (if (0 : Int) ≠ 0 then (0 : Int) else if ((vs == 0) && ((vn == 0) && ((vS.toList == ByteArray.toList ⟨#[]⟩) && ((k == 0) && ((so == 0) && ((nm.toList == ByteArray.toList ⟨#[]⟩) && (!decide ((0 : Int) < (ls.length : Int) + (l.length : Int))))))))) = true then 0 else 1):=by
 unfold EvFn evD
 have hll:=Tp.ds_len l
 have w1 : IntKind.i64.wrap ((ls.length : Int) + (l.length : Int)) = (ls.length : Int) + (l.length : Int):=wrap_in (by omega) (by omega)
 rw [if_neg (by decide)]
 cases v1 : (vs == 0) with
 | false =>
  have he:=eqs58 vs vn 0 0 vS ⟨#[]⟩
  simp only [v1,Bool.not_true,Bool.not_false,cond_true,cond_false,bne_self_eq_false,beq_self_eq_true,Bool.and_true,Bool.true_and,Bool.and_false,Bool.false_and,Bool.and_self] at he
  rw [if_neg (by simp only [v1,Bool.not_true,Bool.not_false,cond_true,cond_false,bne_self_eq_false,beq_self_eq_true,Bool.and_true,Bool.true_and,Bool.and_false,Bool.false_and,Bool.and_self] <;> decide)]
  rcases hk with rfl | rfl
  · refine fn_of_swp (N:=92) Tryd.func69 rfl (by decide) rfl rfl (by simp) (fun C h0=>?_)
    simp only [argE]
    repeat' (first|(with_reducible apply zz1)|((with_reducible apply zz2);rfl;intro K' hK';simp only [WE,simprocAttr,v1,he,hll,w1,List.length_map,bne,Bool.not_true,Bool.not_false,cond_true,cond_false,bne_self_eq_false,beq_self_eq_true,Bool.and_true,Bool.true_and,Bool.and_false,Bool.false_and,Bool.and_self,Int.reduceBEq];(repeat (constructor;focus (clear hK';intros;simp_all;done)));(try (apply hK';clear hK' K')))|((with_reducible apply zz3);rfl;all_goals (intro h;try exact absurd h (by decide))))
    simp only [Kret,retL,retOne,oneV,WE,simprocAttr]
  · refine fn_of_swp (N:=92) Tryd.func69 rfl (by decide) rfl rfl (by simp) (fun C h0=>?_)
    simp only [argE]
    repeat' (first|(with_reducible apply zz1)|((with_reducible apply zz2);rfl;intro K' hK';simp only [WE,simprocAttr,v1,he,hll,w1,List.length_map,bne,Bool.not_true,Bool.not_false,cond_true,cond_false,bne_self_eq_false,beq_self_eq_true,Bool.and_true,Bool.true_and,Bool.and_false,Bool.false_and,Bool.and_self,Int.reduceBEq];(repeat (constructor;focus (clear hK';intros;simp_all;done)));(try (apply hK';clear hK' K')))|((with_reducible apply zz3);rfl;all_goals (intro h;try exact absurd h (by decide))))
    simp only [Kret,retL,retOne,oneV,WE,simprocAttr]
 | true =>
  cases v2 : (vn == 0) with
  | false =>
   have he:=eqs58 vs vn 0 0 vS ⟨#[]⟩
   simp only [v1,v2,Bool.not_true,Bool.not_false,cond_true,cond_false,bne_self_eq_false,beq_self_eq_true,Bool.and_true,Bool.true_and,Bool.and_false,Bool.false_and,Bool.and_self] at he
   rw [if_neg (by simp only [v1,v2,Bool.not_true,Bool.not_false,cond_true,cond_false,bne_self_eq_false,beq_self_eq_true,Bool.and_true,Bool.true_and,Bool.and_false,Bool.false_and,Bool.and_self] <;> decide)]
   rcases hk with rfl | rfl
   · refine fn_of_swp (N:=92) Tryd.func69 rfl (by decide) rfl rfl (by simp) (fun C h0=>?_)
     simp only [argE]
     repeat' (first|(with_reducible apply zz1)|((with_reducible apply zz2);rfl;intro K' hK';simp only [WE,simprocAttr,v1,v2,he,hll,w1,List.length_map,bne,Bool.not_true,Bool.not_false,cond_true,cond_false,bne_self_eq_false,beq_self_eq_true,Bool.and_true,Bool.true_and,Bool.and_false,Bool.false_and,Bool.and_self,Int.reduceBEq];(repeat (constructor;focus (clear hK';intros;simp_all;done)));(try (apply hK';clear hK' K')))|((with_reducible apply zz3);rfl;all_goals (intro h;try exact absurd h (by decide))))
     simp only [Kret,retL,retOne,oneV,WE,simprocAttr]
   · refine fn_of_swp (N:=92) Tryd.func69 rfl (by decide) rfl rfl (by simp) (fun C h0=>?_)
     simp only [argE]
     repeat' (first|(with_reducible apply zz1)|((with_reducible apply zz2);rfl;intro K' hK';simp only [WE,simprocAttr,v1,v2,he,hll,w1,List.length_map,bne,Bool.not_true,Bool.not_false,cond_true,cond_false,bne_self_eq_false,beq_self_eq_true,Bool.and_true,Bool.true_and,Bool.and_false,Bool.false_and,Bool.and_self,Int.reduceBEq];(repeat (constructor;focus (clear hK';intros;simp_all;done)));(try (apply hK';clear hK' K')))|((with_reducible apply zz3);rfl;all_goals (intro h;try exact absurd h (by decide))))
     simp only [Kret,retL,retOne,oneV,WE,simprocAttr]
  | true =>
   cases v3 : (vS.toList == ByteArray.toList ⟨#[]⟩) with
   | false =>
    have he:=eqs58 vs vn 0 0 vS ⟨#[]⟩
    simp only [v1,v2,v3,Bool.not_true,Bool.not_false,cond_true,cond_false,bne_self_eq_false,beq_self_eq_true,Bool.and_true,Bool.true_and,Bool.and_false,Bool.false_and,Bool.and_self] at he
    rw [if_neg (by simp only [v1,v2,v3,Bool.not_true,Bool.not_false,cond_true,cond_false,bne_self_eq_false,beq_self_eq_true,Bool.and_true,Bool.true_and,Bool.and_false,Bool.false_and,Bool.and_self] <;> decide)]
    rcases hk with rfl | rfl
    · refine fn_of_swp (N:=92) Tryd.func69 rfl (by decide) rfl rfl (by simp) (fun C h0=>?_)
      simp only [argE]
      repeat' (first|(with_reducible apply zz1)|((with_reducible apply zz2);rfl;intro K' hK';simp only [WE,simprocAttr,v1,v2,v3,he,hll,w1,List.length_map,bne,Bool.not_true,Bool.not_false,cond_true,cond_false,bne_self_eq_false,beq_self_eq_true,Bool.and_true,Bool.true_and,Bool.and_false,Bool.false_and,Bool.and_self,Int.reduceBEq];(repeat (constructor;focus (clear hK';intros;simp_all;done)));(try (apply hK';clear hK' K')))|((with_reducible apply zz3);rfl;all_goals (intro h;try exact absurd h (by decide))))
      simp only [Kret,retL,retOne,oneV,WE,simprocAttr]
    · refine fn_of_swp (N:=92) Tryd.func69 rfl (by decide) rfl rfl (by simp) (fun C h0=>?_)
      simp only [argE]
      repeat' (first|(with_reducible apply zz1)|((with_reducible apply zz2);rfl;intro K' hK';simp only [WE,simprocAttr,v1,v2,v3,he,hll,w1,List.length_map,bne,Bool.not_true,Bool.not_false,cond_true,cond_false,bne_self_eq_false,beq_self_eq_true,Bool.and_true,Bool.true_and,Bool.and_false,Bool.false_and,Bool.and_self,Int.reduceBEq];(repeat (constructor;focus (clear hK';intros;simp_all;done)));(try (apply hK';clear hK' K')))|((with_reducible apply zz3);rfl;all_goals (intro h;try exact absurd h (by decide))))
      simp only [Kret,retL,retOne,oneV,WE,simprocAttr]
   | true =>
    cases g2 : (k == 0) with
    | false =>
     have he:=eqs58 vs vn 0 0 vS ⟨#[]⟩
     simp only [v1,v2,v3,Bool.not_true,Bool.not_false,cond_true,cond_false,bne_self_eq_false,beq_self_eq_true,Bool.and_true,Bool.true_and,Bool.and_false,Bool.false_and,Bool.and_self] at he
     rw [if_neg (by simp only [v1,v2,v3,g2,Bool.not_true,Bool.not_false,cond_true,cond_false,bne_self_eq_false,beq_self_eq_true,Bool.and_true,Bool.true_and,Bool.and_false,Bool.false_and,Bool.and_self] <;> decide)]
     rcases hk with rfl | rfl
     · refine fn_of_swp (N:=92) Tryd.func69 rfl (by decide) rfl rfl (by simp) (fun C h0=>?_)
       simp only [argE]
       repeat' (first|(with_reducible apply zz1)|((with_reducible apply zz2);rfl;intro K' hK';simp only [WE,simprocAttr,v1,v2,v3,g2,he,hll,w1,List.length_map,bne,Bool.not_true,Bool.not_false,cond_true,cond_false,bne_self_eq_false,beq_self_eq_true,Bool.and_true,Bool.true_and,Bool.and_false,Bool.false_and,Bool.and_self,Int.reduceBEq];(repeat (constructor;focus (clear hK';intros;simp_all;done)));(try (apply hK';clear hK' K')))|((with_reducible apply zz3);rfl;all_goals (intro h;try exact absurd h (by decide))))
       simp only [Kret,retL,retOne,oneV,WE,simprocAttr]
     · refine fn_of_swp (N:=92) Tryd.func69 rfl (by decide) rfl rfl (by simp) (fun C h0=>?_)
       simp only [argE]
       repeat' (first|(with_reducible apply zz1)|((with_reducible apply zz2);rfl;intro K' hK';simp only [WE,simprocAttr,v1,v2,v3,g2,he,hll,w1,List.length_map,bne,Bool.not_true,Bool.not_false,cond_true,cond_false,bne_self_eq_false,beq_self_eq_true,Bool.and_true,Bool.true_and,Bool.and_false,Bool.false_and,Bool.and_self,Int.reduceBEq];(repeat (constructor;focus (clear hK';intros;simp_all;done)));(try (apply hK';clear hK' K')))|((with_reducible apply zz3);rfl;all_goals (intro h;try exact absurd h (by decide))))
       simp only [Kret,retL,retOne,oneV,WE,simprocAttr]
    | true =>
     cases g3 : (so == 0) with
     | false =>
      have he:=eqs58 vs vn 0 0 vS ⟨#[]⟩
      simp only [v1,v2,v3,Bool.not_true,Bool.not_false,cond_true,cond_false,bne_self_eq_false,beq_self_eq_true,Bool.and_true,Bool.true_and,Bool.and_false,Bool.false_and,Bool.and_self] at he
      rw [if_neg (by simp only [v1,v2,v3,g2,g3,Bool.not_true,Bool.not_false,cond_true,cond_false,bne_self_eq_false,beq_self_eq_true,Bool.and_true,Bool.true_and,Bool.and_false,Bool.false_and,Bool.and_self] <;> decide)]
      rcases hk with rfl | rfl
      · refine fn_of_swp (N:=92) Tryd.func69 rfl (by decide) rfl rfl (by simp) (fun C h0=>?_)
        simp only [argE]
        repeat' (first|(with_reducible apply zz1)|((with_reducible apply zz2);rfl;intro K' hK';simp only [WE,simprocAttr,v1,v2,v3,g2,g3,he,hll,w1,List.length_map,bne,Bool.not_true,Bool.not_false,cond_true,cond_false,bne_self_eq_false,beq_self_eq_true,Bool.and_true,Bool.true_and,Bool.and_false,Bool.false_and,Bool.and_self,Int.reduceBEq];(repeat (constructor;focus (clear hK';intros;simp_all;done)));(try (apply hK';clear hK' K')))|((with_reducible apply zz3);rfl;all_goals (intro h;try exact absurd h (by decide))))
        simp only [Kret,retL,retOne,oneV,WE,simprocAttr]
      · refine fn_of_swp (N:=92) Tryd.func69 rfl (by decide) rfl rfl (by simp) (fun C h0=>?_)
        simp only [argE]
        repeat' (first|(with_reducible apply zz1)|((with_reducible apply zz2);rfl;intro K' hK';simp only [WE,simprocAttr,v1,v2,v3,g2,g3,he,hll,w1,List.length_map,bne,Bool.not_true,Bool.not_false,cond_true,cond_false,bne_self_eq_false,beq_self_eq_true,Bool.and_true,Bool.true_and,Bool.and_false,Bool.false_and,Bool.and_self,Int.reduceBEq];(repeat (constructor;focus (clear hK';intros;simp_all;done)));(try (apply hK';clear hK' K')))|((with_reducible apply zz3);rfl;all_goals (intro h;try exact absurd h (by decide))))
        simp only [Kret,retL,retOne,oneV,WE,simprocAttr]
     | true =>
      cases g4 : (nm.toList == ByteArray.toList ⟨#[]⟩) with
      | false =>
       have he:=eqs58 vs vn 0 0 vS ⟨#[]⟩
       simp only [v1,v2,v3,Bool.not_true,Bool.not_false,cond_true,cond_false,bne_self_eq_false,beq_self_eq_true,Bool.and_true,Bool.true_and,Bool.and_false,Bool.false_and,Bool.and_self] at he
       rw [if_neg (by simp only [v1,v2,v3,g2,g3,g4,Bool.not_true,Bool.not_false,cond_true,cond_false,bne_self_eq_false,beq_self_eq_true,Bool.and_true,Bool.true_and,Bool.and_false,Bool.false_and,Bool.and_self] <;> decide)]
       rcases hk with rfl | rfl
       · refine fn_of_swp (N:=92) Tryd.func69 rfl (by decide) rfl rfl (by simp) (fun C h0=>?_)
         simp only [argE]
         repeat' (first|(with_reducible apply zz1)|((with_reducible apply zz2);rfl;intro K' hK';simp only [WE,simprocAttr,v1,v2,v3,g2,g3,g4,he,hll,w1,List.length_map,bne,Bool.not_true,Bool.not_false,cond_true,cond_false,bne_self_eq_false,beq_self_eq_true,Bool.and_true,Bool.true_and,Bool.and_false,Bool.false_and,Bool.and_self,Int.reduceBEq];(repeat (constructor;focus (clear hK';intros;simp_all;done)));(try (apply hK';clear hK' K')))|((with_reducible apply zz3);rfl;all_goals (intro h;try exact absurd h (by decide))))
         simp only [Kret,retL,retOne,oneV,WE,simprocAttr]
       · refine fn_of_swp (N:=92) Tryd.func69 rfl (by decide) rfl rfl (by simp) (fun C h0=>?_)
         simp only [argE]
         repeat' (first|(with_reducible apply zz1)|((with_reducible apply zz2);rfl;intro K' hK';simp only [WE,simprocAttr,v1,v2,v3,g2,g3,g4,he,hll,w1,List.length_map,bne,Bool.not_true,Bool.not_false,cond_true,cond_false,bne_self_eq_false,beq_self_eq_true,Bool.and_true,Bool.true_and,Bool.and_false,Bool.false_and,Bool.and_self,Int.reduceBEq];(repeat (constructor;focus (clear hK';intros;simp_all;done)));(try (apply hK';clear hK' K')))|((with_reducible apply zz3);rfl;all_goals (intro h;try exact absurd h (by decide))))
         simp only [Kret,retL,retOne,oneV,WE,simprocAttr]
      | true =>
       cases g5 : decide ((0 : Int) < (ls.length : Int) + (l.length : Int)) with
       | true =>
        have g5t : (0 : Int) < (ls.length : Int) + (l.length : Int):=of_decide_eq_true g5
        have he:=eqs58 vs vn 0 0 vS ⟨#[]⟩
        simp only [v1,v2,v3,Bool.not_true,Bool.not_false,cond_true,cond_false,bne_self_eq_false,beq_self_eq_true,Bool.and_true,Bool.true_and,Bool.and_false,Bool.false_and,Bool.and_self] at he
        rw [if_neg (by simp only [v1,v2,v3,g2,g3,g4,g5,Bool.not_true,Bool.not_false,cond_true,cond_false,bne_self_eq_false,beq_self_eq_true,Bool.and_true,Bool.true_and,Bool.and_false,Bool.false_and,Bool.and_self] <;> decide)]
        rcases hk with rfl | rfl
        · refine fn_of_swp (N:=92) Tryd.func69 rfl (by decide) rfl rfl (by simp) (fun C h0=>?_)
          simp only [argE]
          repeat' (first|(with_reducible apply zz1)|((with_reducible apply zz2);rfl;intro K' hK';simp only [WE,simprocAttr,v1,v2,v3,g2,g3,g4,g5t,he,hll,w1,List.length_map,bne,Bool.not_true,Bool.not_false,cond_true,cond_false,bne_self_eq_false,beq_self_eq_true,Bool.and_true,Bool.true_and,Bool.and_false,Bool.false_and,Bool.and_self,Int.reduceBEq];(repeat (constructor;focus (clear hK';intros;simp_all;done)));(try (apply hK';clear hK' K')))|((with_reducible apply zz3);rfl;all_goals (intro h;try exact absurd h (by decide))))
          simp only [Kret,retL,retOne,oneV,WE,simprocAttr]
        · refine fn_of_swp (N:=92) Tryd.func69 rfl (by decide) rfl rfl (by simp) (fun C h0=>?_)
          simp only [argE]
          repeat' (first|(with_reducible apply zz1)|((with_reducible apply zz2);rfl;intro K' hK';simp only [WE,simprocAttr,v1,v2,v3,g2,g3,g4,g5t,he,hll,w1,List.length_map,bne,Bool.not_true,Bool.not_false,cond_true,cond_false,bne_self_eq_false,beq_self_eq_true,Bool.and_true,Bool.true_and,Bool.and_false,Bool.false_and,Bool.and_self,Int.reduceBEq];(repeat (constructor;focus (clear hK';intros;simp_all;done)));(try (apply hK';clear hK' K')))|((with_reducible apply zz3);rfl;all_goals (intro h;try exact absurd h (by decide))))
          simp only [Kret,retL,retOne,oneV,WE,simprocAttr]
       | false =>
        have g5f : ¬ (0 : Int) < (ls.length : Int) + (l.length : Int):=of_decide_eq_false g5
        have he:=eqs58 vs vn 0 0 vS ⟨#[]⟩
        simp only [v1,v2,v3,Bool.not_true,Bool.not_false,cond_true,cond_false,bne_self_eq_false,beq_self_eq_true,Bool.and_true,Bool.true_and,Bool.and_false,Bool.false_and,Bool.and_self] at he
        rw [if_pos (by simp only [v1,v2,v3,g2,g3,g4,g5,Bool.not_true,Bool.not_false,cond_true,cond_false,bne_self_eq_false,beq_self_eq_true,Bool.and_true,Bool.true_and,Bool.and_false,Bool.false_and,Bool.and_self] <;> decide)]
        rcases hk with rfl | rfl
        · refine fn_of_swp (N:=92) Tryd.func69 rfl (by decide) rfl rfl (by simp) (fun C h0=>?_)
          simp only [argE]
          repeat' (first|(with_reducible apply zz1)|((with_reducible apply zz2);rfl;intro K' hK';simp only [WE,simprocAttr,v1,v2,v3,g2,g3,g4,g5f,he,hll,w1,List.length_map,bne,Bool.not_true,Bool.not_false,cond_true,cond_false,bne_self_eq_false,beq_self_eq_true,Bool.and_true,Bool.true_and,Bool.and_false,Bool.false_and,Bool.and_self,Int.reduceBEq];(repeat (constructor;focus (clear hK';intros;simp_all;done)));(try (apply hK';clear hK' K')))|((with_reducible apply zz3);rfl;all_goals (intro h;try exact absurd h (by decide))))
          simp only [Kret,retL,retOne,oneV,WE,simprocAttr]
        · refine fn_of_swp (N:=92) Tryd.func69 rfl (by decide) rfl rfl (by simp) (fun C h0=>?_)
          simp only [argE]
          repeat' (first|(with_reducible apply zz1)|((with_reducible apply zz2);rfl;intro K' hK';simp only [WE,simprocAttr,v1,v2,v3,g2,g3,g4,g5f,he,hll,w1,List.length_map,bne,Bool.not_true,Bool.not_false,cond_true,cond_false,bne_self_eq_false,beq_self_eq_true,Bool.and_true,Bool.true_and,Bool.and_false,Bool.false_and,Bool.and_self,Int.reduceBEq];(repeat (constructor;focus (clear hK';intros;simp_all;done)));(try (apply hK';clear hK' K')))|((with_reducible apply zz3);rfl;all_goals (intro h;try exact absurd h (by decide))))
          simp only [Kret,retL,retOne,oneV,WE,simprocAttr]
end Go.Proofs.YtgecnlcbdbaneaaDoor
