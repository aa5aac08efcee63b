/- bare, SameEvents, slices.Clone of events; a symbolic walk (printed by mkn22.py). -/
-- TYPESE
import Derived.Test.YtdcplkefmpjppaaDoorDN20
import Derived.Test.YtdcplkefmpjppaaDoorDT15
set_option linter.unusedVariables false
set_option linter.unusedSimpArgs false
namespace Go.Proofs.YtdcplkefmpjppaaDoor.GG
open Go.RowKit Go.Sw
open Nat renaming reduceAdd → zn2

theorem eq_val (t n t' n' : Int) (s s' : ByteArray) (w : World) : (binOp .eql 50 (.agg #[.int .i64 t,.int .i64 n,.string s]) (.agg #[.int .i64 t',.int .i64 n',.string s'])).run Tryd.prog w = .ok (.bool (t == t' && n == n' && s.toList == s'.toList)) w:=by
 by_cases h1 : t = t'
 · by_cases h2 : n = n'
   · by_cases h3 : s.toList = s'.toList
     · go_simp
     · go_simp
   · go_simp
 · go_simp
theorem neq_val (t n t' n' : Int) (s s' : ByteArray) (w : World) : (binOp .neq 50 (.agg #[.int .i64 t,.int .i64 n,.string s]) (.agg #[.int .i64 t',.int .i64 n',.string s'])).run Tryd.prog w = .ok (.bool (!(t == t' && n == n' && s.toList == s'.toList))) w:=by
 by_cases h1 : t = t'
 · by_cases h2 : n = n'
   · by_cases h3 : s.toList = s'.toList
     · go_simp
     · go_simp
   · go_simp
 · go_simp
set_option maxRecDepth 100000 in
theorem eqs58 (t n t' n' : Int) (s s' : ByteArray) : EqS Tryd.prog 50 [.int .i64 t,.int .i64 n,.string s] [.int .i64 t',.int .i64 n',.string s'] (t == t' && n == n' && s.toList == s'.toList):=by
 intro x y w
 have g1 : (eqGuard .eql 50 x y (.agg #[.int .i64 t,.int .i64 n,.string s]) (.agg #[.int .i64 t',.int .i64 n',.string s'])).run Tryd.prog w = .ok () w:=run_eqGuard_agg w .eql 50 x y _ _ (by kernel_rfl)
 have g2 : (eqGuard .neq 50 x y (.agg #[.int .i64 t,.int .i64 n,.string s]) (.agg #[.int .i64 t',.int .i64 n',.string s'])).run Tryd.prog w = .ok () w:=run_eqGuard_agg w .neq 50 x y _ _ (by kernel_rfl)
 refine ⟨?_,?_⟩
 · rw [Sem.run_bind,g1];exact eq_val t n t' n' s s' w
 · rw [Sem.run_bind,g2];exact neq_val t n t' n' s s' w
set_option maxHeartbeats 32000000 in
set_option maxRecDepth 100000 in
theorem bare_fn (Γ : Gl) (x : Ev) : DFn Tryd.prog Γ 24 [x.d] (bareE x).d:=by
 obtain ⟨kd,vs,vn,vS,⟨k,so,nm,ls,t⟩,lab⟩:=x
 by_cases h2 : kd = 2
 · subst h2
   have hb : (bareE ⟨2,vs,vn,vS,.mk k so nm ls t,lab⟩).d = .agg [iD 2,iD vs,iD vn,sD vS,iD 0,iD 0,sD ⟨#[]⟩,.slc [],.slc [],sD ⟨#[]⟩]:=by unfold bareE;rw [if_pos (by simp)];rfl
   rw [hb]
   simp only [Ev.d,evD]
   refine fn_of_swp (N:=25) Tryd.func24 rfl (by decide) rfl rfl (by simp) (fun C h0=>?_)
   simp only [argE]
   repeat' (first|(with_reducible apply zz1)|((with_reducible apply zz2);rfl;intro K' hK';simp only [WE,simprocAttr,Int.reduceBEq];(repeat (constructor;focus (clear hK';intros;simp_all;done)));(try (apply hK';clear hK' K')))|((with_reducible apply zz3);rfl;all_goals (intro h;try exact absurd h (by decide))))
   simp only [Kret,retL,retOne,oneV,WE,simprocAttr]
 by_cases h3 : kd = 3
 · subst h3
   have hb : (bareE ⟨3,vs,vn,vS,.mk k so nm ls t,lab⟩).d = .agg [iD 3,iD vs,iD vn,sD vS,iD 0,iD 0,sD ⟨#[]⟩,.slc [],.slc [],sD ⟨#[]⟩]:=by unfold bareE;rw [if_pos (by simp)];rfl
   rw [hb]
   simp only [Ev.d,evD]
   refine fn_of_swp (N:=25) Tryd.func24 rfl (by decide) rfl rfl (by simp) (fun C h0=>?_)
   simp only [argE]
   repeat' (first|(with_reducible apply zz1)|((with_reducible apply zz2);rfl;intro K' hK';simp only [WE,simprocAttr,Int.reduceBEq];(repeat (constructor;focus (clear hK';intros;simp_all;done)));(try (apply hK';clear hK' K')))|((with_reducible apply zz3);rfl;all_goals (intro h;try exact absurd h (by decide))))
   simp only [Kret,retL,retOne,oneV,WE,simprocAttr]
 by_cases h4 : kd = 4
 · subst h4
   have hb : (bareE ⟨4,vs,vn,vS,.mk k so nm ls t,lab⟩).d = .agg [iD 4,iD 0,iD 0,sD ⟨#[]⟩,iD k,iD so,sD nm,.slc (ls.map sD),.slc (Tp.ds t),sD ⟨#[]⟩]:=by unfold bareE;rw [if_neg (by simp),if_pos (by simp)];rfl
   rw [hb]
   simp only [Ev.d,evD]
   refine fn_of_swp (N:=25) Tryd.func24 rfl (by decide) rfl rfl (by simp) (fun C h0=>?_)
   simp only [argE]
   repeat' (first|(with_reducible apply zz1)|((with_reducible apply zz2);rfl;intro K' hK';simp only [WE,simprocAttr,Int.reduceBEq];(repeat (constructor;focus (clear hK';intros;simp_all;done)));(try (apply hK';clear hK' K')))|((with_reducible apply zz3);rfl;all_goals (intro h;try exact absurd h (by decide))))
   simp only [Kret,retL,retOne,oneV,WE,simprocAttr]
 by_cases h5 : kd = 5
 · subst h5
   have hb : (bareE ⟨5,vs,vn,vS,.mk k so nm ls t,lab⟩).d = .agg [iD 5,iD 0,iD 0,sD ⟨#[]⟩,iD k,iD so,sD nm,.slc (ls.map sD),.slc (Tp.ds t),sD ⟨#[]⟩]:=by unfold bareE;rw [if_neg (by simp),if_pos (by simp)];rfl
   rw [hb]
   simp only [Ev.d,evD]
   refine fn_of_swp (N:=25) Tryd.func24 rfl (by decide) rfl rfl (by simp) (fun C h0=>?_)
   simp only [argE]
   repeat' (first|(with_reducible apply zz1)|((with_reducible apply zz2);rfl;intro K' hK';simp only [WE,simprocAttr,Int.reduceBEq];(repeat (constructor;focus (clear hK';intros;simp_all;done)));(try (apply hK';clear hK' K')))|((with_reducible apply zz3);rfl;all_goals (intro h;try exact absurd h (by decide))))
   simp only [Kret,retL,retOne,oneV,WE,simprocAttr]
 have g2 : (kd == 2) = false:=by simpa using h2
 have g3 : (kd == 3) = false:=by simpa using h3
 have g4 : (kd == 4) = false:=by simpa using h4
 have g5 : (kd == 5) = false:=by simpa using h5
 have hb : (bareE ⟨kd,vs,vn,vS,.mk k so nm ls t,lab⟩).d = .agg [iD kd,iD 0,iD 0,sD ⟨#[]⟩,iD 0,iD 0,sD ⟨#[]⟩,.slc [],.slc [],sD lab]:=by unfold bareE;rw [if_neg (by show ¬ (kd = 2 ∨ kd = 3);omega),if_neg (by show ¬ (kd = 4 ∨ kd = 5);omega)];rfl
 rw [hb]
 simp only [Ev.d,evD]
 refine fn_of_swp (N:=25) Tryd.func24 rfl (by decide) rfl rfl (by simp) (fun C h0=>?_)
 simp only [argE]
 repeat' (first|(with_reducible apply zz1)|((with_reducible apply zz2);rfl;intro K' hK';simp only [WE,simprocAttr,g2,g3,g4,g5];(repeat (constructor;focus (clear hK';intros;simp_all;done)));(try (apply hK';clear hK' K')))|((with_reducible apply zz3);rfl;all_goals (intro h;try exact absurd h (by decide))))
 simp only [Kret,retL,retOne,oneV,WE,simprocAttr]
set_option maxHeartbeats 32000000 in
set_option maxRecDepth 100000 in
theorem sameE (Γ : Gl) (l : List Ev) (hl : l.length ≤ 140737488355328) (hc : ∀ x ∈ l,DFn Tryd.prog Γ 50 [x.c.d,x.c.d] (.v (.bool true))) : DFn Tryd.prog Γ 25 [.slc (l.map Ev.d),.slc (l.map Ev.d)] (.v (.bool true)):=by
 refine fn_of_swp (N:=68) Tryd.func25 rfl (by decide) rfl rfl (by simp) (fun C h0=>?_)
 simp only [argE]
 repeat' (first|(with_reducible apply zz1)|((with_reducible apply zz2);rfl;intro K' hK';simp only [WE,simprocAttr,List.length_map,Bool.not_true,Bool.not_false,cond_true,cond_false,bne_self_eq_false,beq_self_eq_true,Bool.and_true,Bool.true_and,Bool.and_false,Bool.false_and,Bool.and_self];(repeat (constructor;focus (clear hK';intros;simp_all;done)));(try (apply hK';clear hK' K')))|((with_reducible apply zz3);rfl;all_goals (intro h;try exact absurd h (by decide))))
 refine swp_loop (α := Nat) (fun j=>[(0,.d (.slc (l.map Ev.d))),(1,.d (.slc (l.map Ev.d))),(5,.d (iD j))]) (fun _=>[])
  (fun j=>j ≤ l.length) (fun j=>l.length - j) 0 (Nat.zero_le _) (by refine sub_of h0 ?_ ?_ ?_ <;> simp only [US,WE,simprocAttr]) (fun j hj=>?_)
 have hj : j ≤ l.length:=hj
 have hb0 : (0 : Int) ≤ (j : Int):=by omega
 by_cases hlt : j < l.length
 · obtain ⟨x,hx⟩ : ∃ x,l[j]? = some x:=⟨l[j],by simp [hlt]⟩
   have hcall:=hc x (List.mem_of_getElem? hx)
   have hget:=evs_get l j x hx
   have hb1 : (j : Int) < (l.length : Int):=by omega
   have hw3 : IntKind.i64.wrap ((j : Int) + 1) = ((j + 1 : Nat) : Int):=by rw [wrap_in (by omega) (by omega)];omega
   obtain ⟨kd,vs,vn,vS,⟨k,so,nm,ls,t⟩,lab⟩:=x
   simp only [Ev.d,evD,Tp.d] at hget hcall
   have he:=eqs58 vs vn vs vn vS vS
   simp only [Bool.not_true,Bool.not_false,cond_true,cond_false,bne_self_eq_false,beq_self_eq_true,Bool.and_true,Bool.true_and,Bool.and_false,Bool.false_and,Bool.and_self] at he
   repeat' (first|(with_reducible apply zz1)|((with_reducible apply zz2);rfl;intro K' hK';simp only [WE,simprocAttr,List.length_map,hb1];(repeat (constructor;focus (clear hK';intros;simp_all;done)));(try (apply hK';clear hK' K')))|((with_reducible apply zz3);rfl;all_goals (intro h;try exact absurd h (by decide))))
   (with_reducible refine swp_drawX ?_ ?_ ?_ (⟨⟨[(48,.v (.bool true))],[]⟩,[],[],[],[]⟩) _ rfl (fun K' hK' gops fin hgops hfin=>?_)
    · kernel_rfl
    · rfl
    · rfl
    repeat' first
     | (refine vcX_dead rfl trivial (by simp only [WE,simprocAttr,UX,UA];rfl) (by simp only [List.nil_append,List.cons_append];rfl) (by simp only [zn2];rfl) ?_)
     | (refine vcX_step rfl rfl trivial (by simp only [WE,simprocAttr,UX,UA,hget,hcall,he,Int.toNat_natCast,List.length_map,hb0,hb1,Bool.not_true,Bool.not_false,cond_true,cond_false,bne_self_eq_false,beq_self_eq_true,Bool.and_true,Bool.true_and,Bool.and_false,Bool.false_and,Bool.and_self ];rfl) ?_ (by simp only [WE,simprocAttr,UX,UA];rfl) (by simp only [WE,simprocAttr,UX,UA];rfl) (by simp only [List.nil_append,List.cons_append];rfl) (by simp only [zn2];rfl) ?_;focus (first | trivial | ((repeat' constructor) <;> first | trivial | assumption | (clear hK' hfin hgops;intros;simp_all;done))))
     | (refine vcX_stepG (g:=true) rfl rfl trivial (by rw [hgops];rfl) (by simp only [WE,simprocAttr,UX,UA,hget,hcall,he,Int.toNat_natCast,List.length_map,hb0,hb1,Bool.not_true,Bool.not_false,cond_true,cond_false,bne_self_eq_false,beq_self_eq_true,Bool.and_true,Bool.true_and,Bool.and_false,Bool.false_and,Bool.and_self ];rfl) ?_ (by simp only [WE,simprocAttr,UX,UA];rfl) (by simp only [WE,simprocAttr,UX,UA];rfl) (by simp only [List.nil_append,List.cons_append];rfl) (by simp only [zn2];rfl) ?_;focus (first | trivial | ((repeat' constructor) <;> first | trivial | assumption | (clear hK' hfin hgops;intros;simp_all;done))))
     | (refine vcX_stepG (g:=false) rfl rfl trivial (by rw [hgops];rfl) (by simp only [WE,simprocAttr,UX,UA,hget,hcall,he,Int.toNat_natCast,List.length_map,hb0,hb1,Bool.not_true,Bool.not_false,cond_true,cond_false,bne_self_eq_false,beq_self_eq_true,Bool.and_true,Bool.true_and,Bool.and_false,Bool.false_and,Bool.and_self ];rfl) ?_ (by simp only [WE,simprocAttr,UX,UA];rfl) (by simp only [WE,simprocAttr,UX,UA];rfl) (by simp only [List.nil_append,List.cons_append];rfl) (by simp only [zn2];rfl) ?_;focus (first | trivial | ((repeat' constructor) <;> first | trivial | assumption | (clear hK' hfin hgops;intros;simp_all;done))))
    (refine vcX_nil (by subst hfin;kernel_rfl) ?_)
    clear hfin hgops fin gops
    (try (apply hK';clear hK' K')))
   repeat' (first|(with_reducible apply zz1)|((with_reducible apply zz2);rfl;intro K' hK';simp only [WE,simprocAttr,hw3];(repeat (constructor;focus (clear hK';intros;simp_all;done)));(try (apply hK';clear hK' K')))|((with_reducible apply zz3);rfl;all_goals (intro h;try exact absurd h (by decide))))
   refine ⟨j + 1,(by show j + 1 ≤ l.length;omega),(by show l.length - (j + 1) < l.length - j;omega),by refine sub_of h0 ?_ ?_ ?_ <;> simp only [US,WE,simprocAttr]⟩
 · have hb1 : ¬ (j : Int) < (l.length : Int):=by omega
   repeat' (first|(with_reducible apply zz1)|((with_reducible apply zz2);rfl;intro K' hK';simp only [WE,simprocAttr,List.length_map,hb1];(repeat (constructor;focus (clear hK';intros;simp_all;done)));(try (apply hK';clear hK' K')))|((with_reducible apply zz3);rfl;all_goals (intro h;try exact absurd h (by decide))))
   simp only [Kret,retL,retOne,oneV,WE,simprocAttr]
end Go.Proofs.YtdcplkefmpjppaaDoor.GG
