/- global.Parse and its closure; a symbolic walk (printed by mkr9.py). -/
-- TYPESA
import Derived.Test.YtlnmkdbcdcknjaaDoorR8
set_option linter.unusedVariables false
set_option linter.unusedSimpArgs false
namespace Go.Proofs.YtlnmkdbcdcknjaaDoor.GG
open Go.RowKit Go.Sw

abbrev pBox (x : List SV) (c t : Int) (s : ByteArray) (a : Nat) : St:=[(0,.cells x),(1,.cells [.d (iD c),.d (iD t)]),(2,.cells [.d (sD s),.d (iD (a : Nat))])]
abbrev pRefs : List SV:=[.ref 0 0,.ref 1 0]
abbrev zeroP : List SV:=[.d (iD 0),.d (sD ⟨#[]⟩),.d (sD ⟨#[]⟩),.d (iD 0),.d (sD ⟨#[]⟩),.nil,.nil]
theorem lk_two {e : Env} {a b : SV} (h2 : lk 2 e = some a) (h3 : lk 3 e = some b) : ∀ t x,lk t [(2,a),(3,b)] = some x → lk t e = some x:=by
 intro t x h
 by_cases e2 : t = 2
 · subst e2;rw [h2];exact h
 by_cases e3 : t = 3
 · subst e3;rw [h3];exact h
 · exfalso
   have hb : ∀ n : Nat,t ≠ n → Nat.beq t n = false:=fun n hn=>Bool.eq_false_iff.2 (fun q=>hn (Nat.eq_of_beq_eq_true q))
   simp only [lk,hb 2 e2,hb 3 e3,cond_false] at h
   cases h
theorem any20 : Tryd.prog.underlying 20 = some (.interface (Tryd.prog.methodsAt 20)):=by kernel_rfl
theorem run_nn {a : Act} {x : Operand} {dst : Option Tmp} {ty r : TypeId} {pos : String} {af : Array Edge} {w : World} (h : a.eval x = .nilIface) :
 (execOp a.eval ⟨dst,.binOp .neq 20 x (.const .nilIface) r,ty,pos,af,none⟩).run Tryd.prog w = .ok (.value (.bool false)) w:=by
 have h2 : a.eval (.const .nilIface) = .nilIface:=rfl
 simp [execOp,h,h2,eqGuard,Sem.run_bind,run_neq_nil_nil w 20 any20]
theorem run_hn {a : Act} {x : Operand} {u : TypeId} {v : Value} {dst : Option Tmp} {ty r : TypeId} {pos : String} {af : Array Edge} {w : World} (h : a.eval x = .iface u v) :
 (execOp a.eval ⟨dst,.binOp .neq 20 x (.const .nilIface) r,ty,pos,af,none⟩).run Tryd.prog w = .ok (.value (.bool true)) w:=by
 have h2 : a.eval (.const .nilIface) = .nilIface:=rfl
 simp [execOp,h,h2,eqGuard,Sem.run_bind,run_neq_held_nil w 20 u v any20]
theorem run_taG {a : Act} {x : Operand} {v : Value} {dst : Option Tmp} {ty : TypeId} {pos : String} {af : Array Edge} {w : World} (h : a.eval x = .iface 52 v) :
 (execOp a.eval ⟨dst,.typeAssert x 20 52 false,ty,pos,af,none⟩).run Tryd.prog w = .ok (.value v) w:=by
 simp [execOp,h,Instr.typeAssert,Sem.run_bind,run_underlying Tryd.underlying52]
theorem run_fdG {a : Act} {x : Operand} {e t : Int} {dst : Option Tmp} {ty : TypeId} {pos : String} {af : Array Edge} {w : World} (h : a.eval x = .agg #[.int .i64 e,.int .i64 t]) :
 (execOp a.eval ⟨dst,.field 52 x 0,ty,pos,af,none⟩).run Tryd.prog w = .ok (.value (.agg #[.int .i64 e,.int .i64 t])) w:=by
 have h1 : (Instr.field 52 (.agg #[.int .i64 e,.int .i64 t]) 0).run Tryd.prog w = .ok (.agg #[.int .i64 e,.int .i64 t]) w:=by
  simp [Instr.field,Sem.run_bind,run_underlying Tryd.underlying52,part,isAgg,run_underlying Tryd.underlying30,asAgg,go_sem]
 simp only [execOp,h,Sem.run_bind,h1]
 rfl

set_option maxHeartbeats 8000000 in
set_option maxRecDepth 100000 in
theorem pclo_idle (Γ : Gl) (x0 x1 x2 x3 x4 x5 x6 : D) (c t : Int) (s : ByteArray) (b : Nat) : CFn Tryd.prog Γ 21 pRefs .returning (pBox [.d x0,.d x1,.d x2,.d x3,.d x4,.d x5,.d x6] c t s b) .returning (pBox [.d x0,.d x1,.d x2,.d x3,.d x4,.d x5,.d x6] c t s b):=by
 refine cfn_of_swp (N:=10) Tryd.func21 rfl rfl rfl (v:=.nilIface) (fun c cs hc=>.inl ⟨by simp [recoverD,hc],rfl,rfl⟩) rfl (by decide) (by decide) (by decide) (fun C h0=>?_)
 simp only [argS]
 simp only [WA,simprocAttr]
 repeat' (first|(with_reducible apply zz1)|((with_reducible apply zz2);rfl;intro K' hK';simp only [WA,simprocAttr];(repeat (constructor;focus (clear hK';intros;simp_all;done)));(try (apply hK';clear hK' K')))|((with_reducible apply zz3);rfl;all_goals (intro h;try exact absurd h (by decide))))
 refine stop_val (.v (.bool false)) rfl rfl (fun a w hv=>run_nn (hv (.tmp 4) (.v .nilIface) rfl rfl rfl)) ?_
 simp only [WA,simprocAttr]
 refine hK' _ _ ?_
 clear hK' K'
 repeat' (first|(with_reducible apply zz1)|((with_reducible apply zz2);rfl;intro K' hK';simp only [WA,simprocAttr];(repeat (constructor;focus (clear hK';intros;simp_all;done)));(try (apply hK';clear hK' K')))|((with_reducible apply zz3);rfl;all_goals (intro h;try exact absurd h (by decide))))
 simp only [Kclo,US,WA,simprocAttr,h0]
set_option maxHeartbeats 8000000 in
set_option maxRecDepth 100000 in
theorem pclo_idle0 (Γ : Gl) (c t : Int) (s : ByteArray) (b : Nat) : CFn Tryd.prog Γ 21 pRefs .returning (pBox zeroP c t s b) .returning (pBox zeroP c t s b):=by
 refine cfn_of_swp (N:=10) Tryd.func21 rfl rfl rfl (v:=.nilIface) (fun c cs hc=>.inl ⟨by simp [recoverD,hc],rfl,rfl⟩) rfl (by decide) (by decide) (by decide) (fun C h0=>?_)
 simp only [argS]
 simp only [WA,simprocAttr]
 repeat' (first|(with_reducible apply zz1)|((with_reducible apply zz2);rfl;intro K' hK';simp only [WA,simprocAttr];(repeat (constructor;focus (clear hK';intros;simp_all;done)));(try (apply hK';clear hK' K')))|((with_reducible apply zz3);rfl;all_goals (intro h;try exact absurd h (by decide))))
 refine stop_val (.v (.bool false)) rfl rfl (fun a w hv=>run_nn (hv (.tmp 4) (.v .nilIface) rfl rfl rfl)) ?_
 simp only [WA,simprocAttr]
 refine hK' _ _ ?_
 clear hK' K'
 repeat' (first|(with_reducible apply zz1)|((with_reducible apply zz2);rfl;intro K' hK';simp only [WA,simprocAttr];(repeat (constructor;focus (clear hK';intros;simp_all;done)));(try (apply hK';clear hK' K')))|((with_reducible apply zz3);rfl;all_goals (intro h;try exact absurd h (by decide))))
 simp only [Kclo,US,WA,simprocAttr,h0]
set_option maxHeartbeats 8000000 in
set_option maxRecDepth 100000 in
theorem pclo_catch (Γ : Gl) (c d e t : Int) (s : ByteArray) (b : Nat) : CFn Tryd.prog Γ 21 pRefs (.panicking [{ v:=failG e t,recovered:=false }]) (pBox zeroP c d s b) (.panicking [{ v:=failG e t,recovered:=true }]) (pBox zeroP e t s b):=by
 refine cfn_of_swp (N:=10) Tryd.func21 rfl rfl rfl (v:=failG e t) (fun c cs hc=>.inr (by simp [recoverD,hc])) rfl (by decide) (by decide) (by decide) (fun C h0=>?_)
 simp only [argS]
 simp only [WA,simprocAttr]
 repeat' (first|(with_reducible apply zz1)|((with_reducible apply zz2);rfl;intro K' hK';simp only [WA,simprocAttr];(repeat (constructor;focus (clear hK';intros;simp_all;done)));(try (apply hK';clear hK' K')))|((with_reducible apply zz3);rfl;all_goals (intro h;try exact absurd h (by decide))))
 refine stop_val (.v (.bool true)) rfl rfl (fun a w hv=>run_hn (hv (.tmp 4) (.v (failG e t)) rfl rfl rfl)) ?_
 simp only [WA,simprocAttr]
 refine hK' _ _ ?_
 clear hK' K'
 repeat' (first|(with_reducible apply zz1)|((with_reducible apply zz2);rfl;intro K' hK';simp only [WA,simprocAttr];(repeat (constructor;focus (clear hK';intros;simp_all;done)));(try (apply hK';clear hK' K')))|((with_reducible apply zz3);rfl;all_goals (intro h;try exact absurd h (by decide))))
 refine swp_anyK (by kernel_rfl) (fun _ _ _ h=>h) (fun K' hK' hP' hE'=>?_)
 show Sany C _ 6 (Array.replicate 6 false) _ _ _
 refine any_move (i:=1) rfl (by kernel_rfl) (by kernel_rfl) (by kernel_rfl) rfl rfl hE' ?_
 simp only [WA,simprocAttr]
 refine any_all (rs:=[0,2]) (by kernel_rfl) (by simp) (fun i hi=>?_)
 simp only [List.mem_cons,List.not_mem_nil,or_false] at hi
 rcases hi with rfl | rfl
 · refine ⟨_,rfl,rfl,?_⟩
   refine aop_step rfl rfl (by simp only [WA,simprocAttr];rfl) ?_ ?_
   · (repeat (refine And.intro ?_ ?_)) <;> first | trivial | (simp_all;done)
   simp only [WA,simprocAttr]
   refine any_all (rs:=[2,4]) (by kernel_rfl) (by simp) (fun i hi=>?_)
   simp only [List.mem_cons,List.not_mem_nil,or_false] at hi
   rcases hi with rfl | rfl
   · refine ⟨_,rfl,rfl,?_⟩
     refine aop_val (.agg [iD e,iD t]) rfl rfl (fun a w hv=>run_taG (hv (.tmp 7) (.v (failG e t)) rfl rfl rfl)) ?_
     simp only [WA,simprocAttr]
     refine any_all (rs:=[3,4]) (by kernel_rfl) (by simp) (fun i hi=>?_)
     simp only [List.mem_cons,List.not_mem_nil,or_false] at hi
     rcases hi with rfl | rfl
     · refine ⟨_,rfl,rfl,?_⟩
       refine aop_val (.agg [iD e,iD t]) rfl rfl (fun a w hv=>run_fdG (hv (.tmp 8) (.agg [iD e,iD t]) rfl rfl rfl)) ?_
       simp only [WA,simprocAttr]
       refine any_all (rs:=[4]) (by kernel_rfl) (by simp) (fun i hi=>?_)
       simp only [List.mem_cons,List.not_mem_nil,or_false] at hi
       obtain rfl:=hi
       refine ⟨_,rfl,rfl,?_⟩
       refine aop_step rfl rfl (by simp only [WA,simprocAttr];rfl) ?_ ?_
       · (repeat (refine And.intro ?_ ?_)) <;> first | trivial | (simp_all;done)
       simp only [WA,simprocAttr]
       refine any_all (rs:=[5]) (by kernel_rfl) (by simp) (fun i hi=>?_)
       simp only [List.mem_cons,List.not_mem_nil,or_false] at hi
       obtain rfl:=hi
       refine ⟨_,rfl,rfl,?_⟩
       refine aop_step rfl rfl (by simp only [WA,simprocAttr];rfl) ?_ ?_
       · (repeat (refine And.intro ?_ ?_)) <;> first | trivial | (simp_all;done)
       simp only [WA,simprocAttr]
       refine any_done (by kernel_rfl) ?_
       refine hK' _ _ ?_
       clear hK' hP' hE' K'
       simp only [Kclo,US,WA,simprocAttr,h0]
     · refine ⟨_,rfl,rfl,?_⟩
       refine aop_step rfl rfl (by simp only [WA,simprocAttr];rfl) ?_ ?_
       · (repeat (refine And.intro ?_ ?_)) <;> first | trivial | (simp_all;done)
       simp only [WA,simprocAttr]
       refine any_all (rs:=[3]) (by kernel_rfl) (by simp) (fun i hi=>?_)
       simp only [List.mem_cons,List.not_mem_nil,or_false] at hi
       obtain rfl:=hi
       refine ⟨_,rfl,rfl,?_⟩
       refine aop_val (.agg [iD e,iD t]) rfl rfl (fun a w hv=>run_fdG (hv (.tmp 8) (.agg [iD e,iD t]) rfl rfl rfl)) ?_
       simp only [WA,simprocAttr]
       refine any_all (rs:=[5]) (by kernel_rfl) (by simp) (fun i hi=>?_)
       simp only [List.mem_cons,List.not_mem_nil,or_false] at hi
       obtain rfl:=hi
       refine ⟨_,rfl,rfl,?_⟩
       refine aop_step rfl rfl (by simp only [WA,simprocAttr];rfl) ?_ ?_
       · (repeat (refine And.intro ?_ ?_)) <;> first | trivial | (simp_all;done)
       simp only [WA,simprocAttr]
       refine any_done (by kernel_rfl) ?_
       refine hK' _ _ ?_
       clear hK' hP' hE' K'
       simp only [Kclo,US,WA,simprocAttr,h0]
   · refine ⟨_,rfl,rfl,?_⟩
     refine aop_step rfl rfl (by simp only [WA,simprocAttr];rfl) ?_ ?_
     · (repeat (refine And.intro ?_ ?_)) <;> first | trivial | (simp_all;done)
     simp only [WA,simprocAttr]
     refine any_all (rs:=[2]) (by kernel_rfl) (by simp) (fun i hi=>?_)
     simp only [List.mem_cons,List.not_mem_nil,or_false] at hi
     obtain rfl:=hi
     refine ⟨_,rfl,rfl,?_⟩
     refine aop_val (.agg [iD e,iD t]) rfl rfl (fun a w hv=>run_taG (hv (.tmp 7) (.v (failG e t)) rfl rfl rfl)) ?_
     simp only [WA,simprocAttr]
     refine any_all (rs:=[3]) (by kernel_rfl) (by simp) (fun i hi=>?_)
     simp only [List.mem_cons,List.not_mem_nil,or_false] at hi
     obtain rfl:=hi
     refine ⟨_,rfl,rfl,?_⟩
     refine aop_val (.agg [iD e,iD t]) rfl rfl (fun a w hv=>run_fdG (hv (.tmp 8) (.agg [iD e,iD t]) rfl rfl rfl)) ?_
     simp only [WA,simprocAttr]
     refine any_all (rs:=[5]) (by kernel_rfl) (by simp) (fun i hi=>?_)
     simp only [List.mem_cons,List.not_mem_nil,or_false] at hi
     obtain rfl:=hi
     refine ⟨_,rfl,rfl,?_⟩
     refine aop_step rfl rfl (by simp only [WA,simprocAttr];rfl) ?_ ?_
     · (repeat (refine And.intro ?_ ?_)) <;> first | trivial | (simp_all;done)
     simp only [WA,simprocAttr]
     refine any_done (by kernel_rfl) ?_
     refine hK' _ _ ?_
     clear hK' hP' hE' K'
     simp only [Kclo,US,WA,simprocAttr,h0]
 · refine ⟨_,rfl,rfl,?_⟩
   refine aop_val (.agg [iD e,iD t]) rfl rfl (fun a w hv=>run_taG (hv (.tmp 7) (.v (failG e t)) rfl rfl rfl)) ?_
   simp only [WA,simprocAttr]
   refine any_all (rs:=[0,3]) (by kernel_rfl) (by simp) (fun i hi=>?_)
   simp only [List.mem_cons,List.not_mem_nil,or_false] at hi
   rcases hi with rfl | rfl
   · refine ⟨_,rfl,rfl,?_⟩
     refine aop_step rfl rfl (by simp only [WA,simprocAttr];rfl) ?_ ?_
     · (repeat (refine And.intro ?_ ?_)) <;> first | trivial | (simp_all;done)
     simp only [WA,simprocAttr]
     refine any_all (rs:=[3,4]) (by kernel_rfl) (by simp) (fun i hi=>?_)
     simp only [List.mem_cons,List.not_mem_nil,or_false] at hi
     rcases hi with rfl | rfl
     · refine ⟨_,rfl,rfl,?_⟩
       refine aop_val (.agg [iD e,iD t]) rfl rfl (fun a w hv=>run_fdG (hv (.tmp 8) (.agg [iD e,iD t]) rfl rfl rfl)) ?_
       simp only [WA,simprocAttr]
       refine any_all (rs:=[4]) (by kernel_rfl) (by simp) (fun i hi=>?_)
       simp only [List.mem_cons,List.not_mem_nil,or_false] at hi
       obtain rfl:=hi
       refine ⟨_,rfl,rfl,?_⟩
       refine aop_step rfl rfl (by simp only [WA,simprocAttr];rfl) ?_ ?_
       · (repeat (refine And.intro ?_ ?_)) <;> first | trivial | (simp_all;done)
       simp only [WA,simprocAttr]
       refine any_all (rs:=[5]) (by kernel_rfl) (by simp) (fun i hi=>?_)
       simp only [List.mem_cons,List.not_mem_nil,or_false] at hi
       obtain rfl:=hi
       refine ⟨_,rfl,rfl,?_⟩
       refine aop_step rfl rfl (by simp only [WA,simprocAttr];rfl) ?_ ?_
       · (repeat (refine And.intro ?_ ?_)) <;> first | trivial | (simp_all;done)
       simp only [WA,simprocAttr]
       refine any_done (by kernel_rfl) ?_
       refine hK' _ _ ?_
       clear hK' hP' hE' K'
       simp only [Kclo,US,WA,simprocAttr,h0]
     · refine ⟨_,rfl,rfl,?_⟩
       refine aop_step rfl rfl (by simp only [WA,simprocAttr];rfl) ?_ ?_
       · (repeat (refine And.intro ?_ ?_)) <;> first | trivial | (simp_all;done)
       simp only [WA,simprocAttr]
       refine any_all (rs:=[3]) (by kernel_rfl) (by simp) (fun i hi=>?_)
       simp only [List.mem_cons,List.not_mem_nil,or_false] at hi
       obtain rfl:=hi
       refine ⟨_,rfl,rfl,?_⟩
       refine aop_val (.agg [iD e,iD t]) rfl rfl (fun a w hv=>run_fdG (hv (.tmp 8) (.agg [iD e,iD t]) rfl rfl rfl)) ?_
       simp only [WA,simprocAttr]
       refine any_all (rs:=[5]) (by kernel_rfl) (by simp) (fun i hi=>?_)
       simp only [List.mem_cons,List.not_mem_nil,or_false] at hi
       obtain rfl:=hi
       refine ⟨_,rfl,rfl,?_⟩
       refine aop_step rfl rfl (by simp only [WA,simprocAttr];rfl) ?_ ?_
       · (repeat (refine And.intro ?_ ?_)) <;> first | trivial | (simp_all;done)
       simp only [WA,simprocAttr]
       refine any_done (by kernel_rfl) ?_
       refine hK' _ _ ?_
       clear hK' hP' hE' K'
       simp only [Kclo,US,WA,simprocAttr,h0]
   · refine ⟨_,rfl,rfl,?_⟩
     refine aop_val (.agg [iD e,iD t]) rfl rfl (fun a w hv=>run_fdG (hv (.tmp 8) (.agg [iD e,iD t]) rfl rfl rfl)) ?_
     simp only [WA,simprocAttr]
     refine any_all (rs:=[0]) (by kernel_rfl) (by simp) (fun i hi=>?_)
     simp only [List.mem_cons,List.not_mem_nil,or_false] at hi
     obtain rfl:=hi
     refine ⟨_,rfl,rfl,?_⟩
     refine aop_step rfl rfl (by simp only [WA,simprocAttr];rfl) ?_ ?_
     · (repeat (refine And.intro ?_ ?_)) <;> first | trivial | (simp_all;done)
     simp only [WA,simprocAttr]
     refine any_all (rs:=[4]) (by kernel_rfl) (by simp) (fun i hi=>?_)
     simp only [List.mem_cons,List.not_mem_nil,or_false] at hi
     obtain rfl:=hi
     refine ⟨_,rfl,rfl,?_⟩
     refine aop_step rfl rfl (by simp only [WA,simprocAttr];rfl) ?_ ?_
     · (repeat (refine And.intro ?_ ?_)) <;> first | trivial | (simp_all;done)
     simp only [WA,simprocAttr]
     refine any_all (rs:=[5]) (by kernel_rfl) (by simp) (fun i hi=>?_)
     simp only [List.mem_cons,List.not_mem_nil,or_false] at hi
     obtain rfl:=hi
     refine ⟨_,rfl,rfl,?_⟩
     refine aop_step rfl rfl (by simp only [WA,simprocAttr];rfl) ?_ ?_
     · (repeat (refine And.intro ?_ ?_)) <;> first | trivial | (simp_all;done)
     simp only [WA,simprocAttr]
     refine any_done (by kernel_rfl) ?_
     refine hK' _ _ ?_
     clear hK' hP' hE' K'
     simp only [Kclo,US,WA,simprocAttr,h0]
set_option maxHeartbeats 8000000 in
set_option maxRecDepth 100000 in
theorem pclo_catch2 (Γ : Gl) (x0 x1 x2 x3 x4 x5 x6 : D) (c d e t : Int) (s : ByteArray) (b : Nat) : CFn Tryd.prog Γ 21 pRefs (.panicking [{ v:=failG e t,recovered:=false }]) (pBox [.d x0,.d x1,.d x2,.d x3,.d x4,.d x5,.d x6] c d s b) (.panicking [{ v:=failG e t,recovered:=true }]) (pBox zeroP e t s b):=by
 refine cfn_of_swp (N:=10) Tryd.func21 rfl rfl rfl (v:=failG e t) (fun c cs hc=>.inr (by simp [recoverD,hc])) rfl (by decide) (by decide) (by decide) (fun C h0=>?_)
 simp only [argS]
 simp only [WA,simprocAttr]
 repeat' (first|(with_reducible apply zz1)|((with_reducible apply zz2);rfl;intro K' hK';simp only [WA,simprocAttr];(repeat (constructor;focus (clear hK';intros;simp_all;done)));(try (apply hK';clear hK' K')))|((with_reducible apply zz3);rfl;all_goals (intro h;try exact absurd h (by decide))))
 refine stop_val (.v (.bool true)) rfl rfl (fun a w hv=>run_hn (hv (.tmp 4) (.v (failG e t)) rfl rfl rfl)) ?_
 simp only [WA,simprocAttr]
 refine hK' _ _ ?_
 clear hK' K'
 repeat' (first|(with_reducible apply zz1)|((with_reducible apply zz2);rfl;intro K' hK';simp only [WA,simprocAttr];(repeat (constructor;focus (clear hK';intros;simp_all;done)));(try (apply hK';clear hK' K')))|((with_reducible apply zz3);rfl;all_goals (intro h;try exact absurd h (by decide))))
 refine swp_anyK (by kernel_rfl) (fun _ _ _ h=>h) (fun K' hK' hP' hE'=>?_)
 show Sany C _ 6 (Array.replicate 6 false) _ _ _
 refine any_move (i:=1) rfl (by kernel_rfl) (by kernel_rfl) (by kernel_rfl) rfl rfl hE' ?_
 simp only [WA,simprocAttr]
 refine any_all (rs:=[0,2]) (by kernel_rfl) (by simp) (fun i hi=>?_)
 simp only [List.mem_cons,List.not_mem_nil,or_false] at hi
 rcases hi with rfl | rfl
 · refine ⟨_,rfl,rfl,?_⟩
   refine aop_step rfl rfl (by simp only [WA,simprocAttr];rfl) ?_ ?_
   · (repeat (refine And.intro ?_ ?_)) <;> first | trivial | (simp_all;done)
   simp only [WA,simprocAttr]
   refine any_all (rs:=[2,4]) (by kernel_rfl) (by simp) (fun i hi=>?_)
   simp only [List.mem_cons,List.not_mem_nil,or_false] at hi
   rcases hi with rfl | rfl
   · refine ⟨_,rfl,rfl,?_⟩
     refine aop_val (.agg [iD e,iD t]) rfl rfl (fun a w hv=>run_taG (hv (.tmp 7) (.v (failG e t)) rfl rfl rfl)) ?_
     simp only [WA,simprocAttr]
     refine any_all (rs:=[3,4]) (by kernel_rfl) (by simp) (fun i hi=>?_)
     simp only [List.mem_cons,List.not_mem_nil,or_false] at hi
     rcases hi with rfl | rfl
     · refine ⟨_,rfl,rfl,?_⟩
       refine aop_val (.agg [iD e,iD t]) rfl rfl (fun a w hv=>run_fdG (hv (.tmp 8) (.agg [iD e,iD t]) rfl rfl rfl)) ?_
       simp only [WA,simprocAttr]
       refine any_all (rs:=[4]) (by kernel_rfl) (by simp) (fun i hi=>?_)
       simp only [List.mem_cons,List.not_mem_nil,or_false] at hi
       obtain rfl:=hi
       refine ⟨_,rfl,rfl,?_⟩
       refine aop_step rfl rfl (by simp only [WA,simprocAttr];rfl) ?_ ?_
       · (repeat (refine And.intro ?_ ?_)) <;> first | trivial | (simp_all;done)
       simp only [WA,simprocAttr]
       refine any_all (rs:=[5]) (by kernel_rfl) (by simp) (fun i hi=>?_)
       simp only [List.mem_cons,List.not_mem_nil,or_false] at hi
       obtain rfl:=hi
       refine ⟨_,rfl,rfl,?_⟩
       refine aop_step rfl rfl (by simp only [WA,simprocAttr];rfl) ?_ ?_
       · (repeat (refine And.intro ?_ ?_)) <;> first | trivial | (simp_all;done)
       simp only [WA,simprocAttr]
       refine any_done (by kernel_rfl) ?_
       refine hK' _ _ ?_
       clear hK' hP' hE' K'
       simp only [Kclo,US,WA,simprocAttr,h0]
     · refine ⟨_,rfl,rfl,?_⟩
       refine aop_step rfl rfl (by simp only [WA,simprocAttr];rfl) ?_ ?_
       · (repeat (refine And.intro ?_ ?_)) <;> first | trivial | (simp_all;done)
       simp only [WA,simprocAttr]
       refine any_all (rs:=[3]) (by kernel_rfl) (by simp) (fun i hi=>?_)
       simp only [List.mem_cons,List.not_mem_nil,or_false] at hi
       obtain rfl:=hi
       refine ⟨_,rfl,rfl,?_⟩
       refine aop_val (.agg [iD e,iD t]) rfl rfl (fun a w hv=>run_fdG (hv (.tmp 8) (.agg [iD e,iD t]) rfl rfl rfl)) ?_
       simp only [WA,simprocAttr]
       refine any_all (rs:=[5]) (by kernel_rfl) (by simp) (fun i hi=>?_)
       simp only [List.mem_cons,List.not_mem_nil,or_false] at hi
       obtain rfl:=hi
       refine ⟨_,rfl,rfl,?_⟩
       refine aop_step rfl rfl (by simp only [WA,simprocAttr];rfl) ?_ ?_
       · (repeat (refine And.intro ?_ ?_)) <;> first | trivial | (simp_all;done)
       simp only [WA,simprocAttr]
       refine any_done (by kernel_rfl) ?_
       refine hK' _ _ ?_
       clear hK' hP' hE' K'
       simp only [Kclo,US,WA,simprocAttr,h0]
   · refine ⟨_,rfl,rfl,?_⟩
     refine aop_step rfl rfl (by simp only [WA,simprocAttr];rfl) ?_ ?_
     · (repeat (refine And.intro ?_ ?_)) <;> first | trivial | (simp_all;done)
     simp only [WA,simprocAttr]
     refine any_all (rs:=[2]) (by kernel_rfl) (by simp) (fun i hi=>?_)
     simp only [List.mem_cons,List.not_mem_nil,or_false] at hi
     obtain rfl:=hi
     refine ⟨_,rfl,rfl,?_⟩
     refine aop_val (.agg [iD e,iD t]) rfl rfl (fun a w hv=>run_taG (hv (.tmp 7) (.v (failG e t)) rfl rfl rfl)) ?_
     simp only [WA,simprocAttr]
     refine any_all (rs:=[3]) (by kernel_rfl) (by simp) (fun i hi=>?_)
     simp only [List.mem_cons,List.not_mem_nil,or_false] at hi
     obtain rfl:=hi
     refine ⟨_,rfl,rfl,?_⟩
     refine aop_val (.agg [iD e,iD t]) rfl rfl (fun a w hv=>run_fdG (hv (.tmp 8) (.agg [iD e,iD t]) rfl rfl rfl)) ?_
     simp only [WA,simprocAttr]
     refine any_all (rs:=[5]) (by kernel_rfl) (by simp) (fun i hi=>?_)
     simp only [List.mem_cons,List.not_mem_nil,or_false] at hi
     obtain rfl:=hi
     refine ⟨_,rfl,rfl,?_⟩
     refine aop_step rfl rfl (by simp only [WA,simprocAttr];rfl) ?_ ?_
     · (repeat (refine And.intro ?_ ?_)) <;> first | trivial | (simp_all;done)
     simp only [WA,simprocAttr]
     refine any_done (by kernel_rfl) ?_
     refine hK' _ _ ?_
     clear hK' hP' hE' K'
     simp only [Kclo,US,WA,simprocAttr,h0]
 · refine ⟨_,rfl,rfl,?_⟩
   refine aop_val (.agg [iD e,iD t]) rfl rfl (fun a w hv=>run_taG (hv (.tmp 7) (.v (failG e t)) rfl rfl rfl)) ?_
   simp only [WA,simprocAttr]
   refine any_all (rs:=[0,3]) (by kernel_rfl) (by simp) (fun i hi=>?_)
   simp only [List.mem_cons,List.not_mem_nil,or_false] at hi
   rcases hi with rfl | rfl
   · refine ⟨_,rfl,rfl,?_⟩
     refine aop_step rfl rfl (by simp only [WA,simprocAttr];rfl) ?_ ?_
     · (repeat (refine And.intro ?_ ?_)) <;> first | trivial | (simp_all;done)
     simp only [WA,simprocAttr]
     refine any_all (rs:=[3,4]) (by kernel_rfl) (by simp) (fun i hi=>?_)
     simp only [List.mem_cons,List.not_mem_nil,or_false] at hi
     rcases hi with rfl | rfl
     · refine ⟨_,rfl,rfl,?_⟩
       refine aop_val (.agg [iD e,iD t]) rfl rfl (fun a w hv=>run_fdG (hv (.tmp 8) (.agg [iD e,iD t]) rfl rfl rfl)) ?_
       simp only [WA,simprocAttr]
       refine any_all (rs:=[4]) (by kernel_rfl) (by simp) (fun i hi=>?_)
       simp only [List.mem_cons,List.not_mem_nil,or_false] at hi
       obtain rfl:=hi
       refine ⟨_,rfl,rfl,?_⟩
       refine aop_step rfl rfl (by simp only [WA,simprocAttr];rfl) ?_ ?_
       · (repeat (refine And.intro ?_ ?_)) <;> first | trivial | (simp_all;done)
       simp only [WA,simprocAttr]
       refine any_all (rs:=[5]) (by kernel_rfl) (by simp) (fun i hi=>?_)
       simp only [List.mem_cons,List.not_mem_nil,or_false] at hi
       obtain rfl:=hi
       refine ⟨_,rfl,rfl,?_⟩
       refine aop_step rfl rfl (by simp only [WA,simprocAttr];rfl) ?_ ?_
       · (repeat (refine And.intro ?_ ?_)) <;> first | trivial | (simp_all;done)
       simp only [WA,simprocAttr]
       refine any_done (by kernel_rfl) ?_
       refine hK' _ _ ?_
       clear hK' hP' hE' K'
       simp only [Kclo,US,WA,simprocAttr,h0]
     · refine ⟨_,rfl,rfl,?_⟩
       refine aop_step rfl rfl (by simp only [WA,simprocAttr];rfl) ?_ ?_
       · (repeat (refine And.intro ?_ ?_)) <;> first | trivial | (simp_all;done)
       simp only [WA,simprocAttr]
       refine any_all (rs:=[3]) (by kernel_rfl) (by simp) (fun i hi=>?_)
       simp only [List.mem_cons,List.not_mem_nil,or_false] at hi
       obtain rfl:=hi
       refine ⟨_,rfl,rfl,?_⟩
       refine aop_val (.agg [iD e,iD t]) rfl rfl (fun a w hv=>run_fdG (hv (.tmp 8) (.agg [iD e,iD t]) rfl rfl rfl)) ?_
       simp only [WA,simprocAttr]
       refine any_all (rs:=[5]) (by kernel_rfl) (by simp) (fun i hi=>?_)
       simp only [List.mem_cons,List.not_mem_nil,or_false] at hi
       obtain rfl:=hi
       refine ⟨_,rfl,rfl,?_⟩
       refine aop_step rfl rfl (by simp only [WA,simprocAttr];rfl) ?_ ?_
       · (repeat (refine And.intro ?_ ?_)) <;> first | trivial | (simp_all;done)
       simp only [WA,simprocAttr]
       refine any_done (by kernel_rfl) ?_
       refine hK' _ _ ?_
       clear hK' hP' hE' K'
       simp only [Kclo,US,WA,simprocAttr,h0]
   · refine ⟨_,rfl,rfl,?_⟩
     refine aop_val (.agg [iD e,iD t]) rfl rfl (fun a w hv=>run_fdG (hv (.tmp 8) (.agg [iD e,iD t]) rfl rfl rfl)) ?_
     simp only [WA,simprocAttr]
     refine any_all (rs:=[0]) (by kernel_rfl) (by simp) (fun i hi=>?_)
     simp only [List.mem_cons,List.not_mem_nil,or_false] at hi
     obtain rfl:=hi
     refine ⟨_,rfl,rfl,?_⟩
     refine aop_step rfl rfl (by simp only [WA,simprocAttr];rfl) ?_ ?_
     · (repeat (refine And.intro ?_ ?_)) <;> first | trivial | (simp_all;done)
     simp only [WA,simprocAttr]
     refine any_all (rs:=[4]) (by kernel_rfl) (by simp) (fun i hi=>?_)
     simp only [List.mem_cons,List.not_mem_nil,or_false] at hi
     obtain rfl:=hi
     refine ⟨_,rfl,rfl,?_⟩
     refine aop_step rfl rfl (by simp only [WA,simprocAttr];rfl) ?_ ?_
     · (repeat (refine And.intro ?_ ?_)) <;> first | trivial | (simp_all;done)
     simp only [WA,simprocAttr]
     refine any_all (rs:=[5]) (by kernel_rfl) (by simp) (fun i hi=>?_)
     simp only [List.mem_cons,List.not_mem_nil,or_false] at hi
     obtain rfl:=hi
     refine ⟨_,rfl,rfl,?_⟩
     refine aop_step rfl rfl (by simp only [WA,simprocAttr];rfl) ?_ ?_
     · (repeat (refine And.intro ?_ ?_)) <;> first | trivial | (simp_all;done)
     simp only [WA,simprocAttr]
     refine any_done (by kernel_rfl) ?_
     refine hK' _ _ ?_
     clear hK' hP' hE' K'
     simp only [Kclo,US,WA,simprocAttr,h0]
def Gt.zero : Gt:=.mk 0 noB noB 0 noB [] []
def parG (s : ByteArray) : Rg → D
 | .ok x b=>if wAt s b < s.size then .tup [Gt.zero.d,.agg [iD 3,iD (wAt s b : Nat)]] else if gCheck x = 0 then .tup [x.d,.agg [iD 0,iD 0]] else .tup [Gt.zero.d,.agg [iD (gCheck x),iD 0]]
 | .no b=>.tup [Gt.zero.d,.agg [iD 3,iD (b : Nat)]]
set_option maxHeartbeats 8000000 in
set_option maxRecDepth 100000 in
theorem gparse_no (Γ : Gl) (s : ByteArray) (hs : s.size ≤ 2000) (b : Nat) (hr : RdG Γ s 22 [] 0 (.no b)) : DFn Tryd.prog Γ 8 [sD s] (parG s (.no b)):=by
 have hs1 : ¬ (2000 : Int) < (s.size : Int):=by omega
 unfold parG
 simp only [RdG,rBox] at hr
 have hr3 : XFn Tryd.prog Γ 22 [.ref 2 0] [(2,.cells [.d (sD s),.d (iD 0)])] (failG 3 (b : Nat)) [(2,.cells [.d (sD s),.d (iD (b : Nat))])]:=hr.up 2
 refine fn_of_defersW (N:=37) Tryd.func8 rfl (by decide) rfl rfl (by simp) (E:=[(0,.d (sD s)),(2,.ref 0 0),(3,.ref 1 0),(4,.ref 2 0)]) (S:=[(0,.cells zeroP),(1,.cells [.d (iD 0),.d (iD 0)]),(2,.cells [.d (sD s),.d (iD 0)])]) (caps:=pRefs) (u:=failG 3 (b : Nat)) (ts:=[(2,.ref 0 0),(3,.ref 1 0)])
  (by kernel_rfl) rfl (by decide) rfl rfl ⟨⟨_,rfl⟩,⟨_,rfl⟩,trivial⟩ (fun C h0 Q h=>raw_seq [(0,.d (sD s)),(2,.ref 0 0),(3,.ref 1 0)] [(0,.cells zeroP),(1,.cells [.d (iD 0),.d (iD 0)])] ?_ (raw_seq [(0,.d (sD s)),(2,.ref 0 0),(3,.ref 1 0)] [(0,.cells zeroP),(1,.cells [.d (iD 0),.d (iD 0)])] ?_ (raw_seq [(0,.d (sD s)),(2,.ref 0 0),(3,.ref 1 0),(4,.ref 2 0)] [(0,.cells zeroP),(1,.cells [.d (iD 0),.d (iD 0)]),(2,.cells [.d (sD s),.d (iD 0)])] ?_ h))) (fun C h0=>?_)
 · simp only [argE]
   repeat' (first|(with_reducible apply zz1)|((with_reducible apply zz2);rfl;intro K' hK';simp only [WA,simprocAttr];(repeat (constructor;focus (clear hK';intros;simp_all;done)));(try (apply hK';clear hK' K')))|((with_reducible apply zz3);rfl;all_goals (intro h;try exact absurd h (by decide))))
   refine ⟨rfl,?_⟩
   refine sub_of h0 ?_ ?_ ?_ <;> simp only [US,WA,simprocAttr,h0]
 · repeat' (first|(with_reducible apply zz1)|((with_reducible apply zz2);rfl;intro K' hK';simp only [WA,simprocAttr,hs1];(repeat (constructor;focus (clear hK';intros;simp_all;done)));(try (apply hK';clear hK' K')))|((with_reducible apply zz3);rfl;all_goals (intro h;try exact absurd h (by decide))))
   refine ⟨rfl,?_⟩
   refine sub_of h0 ?_ ?_ ?_ <;> simp only [US,WA,simprocAttr,h0]
 · repeat' (first|(with_reducible apply zz1)|((with_reducible apply zz2);rfl;intro K' hK';simp only [WA,simprocAttr];(repeat (constructor;focus (clear hK';intros;simp_all;done)));(try (apply hK';clear hK' K')))|((with_reducible apply zz3);rfl;all_goals (intro h;try exact absurd h (by decide))))
   refine ⟨rfl,?_⟩
   refine sub_of h0 ?_ ?_ ?_ <;> simp only [US,WA,simprocAttr,h0]
 · repeat' (first|(with_reducible first|refine swp_seq ?_|refine swp_block ?_|refine swp_skip ?_|refine swp_ret ?_|refine swp_exit ?_|refine swp_label ?_|refine kseq_n ?_|refine kseq_x ?_|refine kseq_r ?_|refine kblk_n ?_|refine kblk_r ?_|refine kblk_xs ?_|refine kloop_x ?_|refine kloop_r ?_)|((with_reducible refine kblk_xn ?_ ?_);rfl)|((with_reducible refine swp_regionX ?_ ?_ (fun K' hK' hP'=>?_));rfl;rfl;simp only [WA,simprocAttr];(repeat (constructor;focus (clear hK' hP';intros;simp_all;done)));(try (apply hK';clear hK' hP';clear K')))|((with_reducible refine swp_cond ?_ ?_);rfl;refine ⟨_,rfl,fun h=>?_,fun h=>?_⟩ <;> try exact absurd h (by decide)))
   refine stop_cX rfl (by simp only [UA,WA,simprocAttr]) (hr3) ?_
   simp only [UM,WA,simprocAttr]
   refine hP' _ _ _ ?_
   repeat (first | refine kseq_p ?_ | refine kblk_p ?_ | refine kloop_p ?_)
   -- TRACE
   refine ⟨_,_,(fun β a w i=>⟨β,i⟩),?_⟩
   refine ⟨rfl,?_⟩
   refine ⟨⟨⟨_,rfl⟩,⟨_,rfl⟩,trivial⟩,lk_two rfl rfl,_,(pclo_catch Γ _ _ _ _ _ _),⟨⟨_,rfl⟩,⟨_,rfl⟩,trivial⟩,?_⟩
   simp only [retL,retOne,oneV]
   simp only [WA,simprocAttr]
   all_goals rfl
set_option maxHeartbeats 8000000 in
set_option maxRecDepth 100000 in
theorem gparse_ok (Γ : Gl) (s : ByteArray) (hs : s.size ≤ 2000) (x : Gt) (b : Nat) (hb : b ≤ s.size) (hr : RdG Γ s 22 [] 0 (.ok x b)) (he : ¬ wAt s b < s.size) (hc : gCheck x = 0) : DFn Tryd.prog Γ 8 [sD s] (.tup [x.d,.agg [iD 0,iD 0]]):=by
 have hs1 : ¬ (2000 : Int) < (s.size : Int):=by omega
 have his:=gis_l Γ s hs b hb 32 32 rfl
 have hck:=GCheck_fn Γ x
 rw [hc] at hck
 have he1 : ¬ ((wAt s b : Nat) : Int) < (s.size : Int):=by omega
 obtain ⟨xk,xfr,xto,xso,xnm,xls,xl⟩:=x
 simp only [RdG,Gt.d,rBox] at hr his hck ⊢
 have hr3 : SFn Tryd.prog Γ 22 [.ref 2 0] [(2,.cells [.d (sD s),.d (iD 0)])] (.d (.agg [iD xk,sD xfr,sD xto,iD xso,sD xnm,.slc (xls.map sD),.slc (Gt.ds xl)])) [(2,.cells [.d (sD s),.d (iD (b : Nat))])]:=hr.up 2
 have hi3 : SFn Tryd.prog Γ 23 [.ref 2 0,.d (.v (.int .u8 32))] [(2,.cells [.d (sD s),.d (iD (b : Nat))])] (.d (.v (.bool (isB s b 32)))) [(2,.cells [.d (sD s),.d (iD (wAt s b : Nat))])]:=his.up 2
 refine fn_of_defersW (N:=37) Tryd.func8 rfl (by decide) rfl rfl (by simp) (E:=[(0,.d (sD s)),(2,.ref 0 0),(3,.ref 1 0),(4,.ref 2 0)]) (S:=[(0,.cells zeroP),(1,.cells [.d (iD 0),.d (iD 0)]),(2,.cells [.d (sD s),.d (iD 0)])]) (caps:=pRefs) (u:=failG 0 0) (ts:=[(2,.ref 0 0),(3,.ref 1 0)])
  (by kernel_rfl) rfl (by decide) rfl rfl ⟨⟨_,rfl⟩,⟨_,rfl⟩,trivial⟩ (fun C h0 Q h=>raw_seq [(0,.d (sD s)),(2,.ref 0 0),(3,.ref 1 0)] [(0,.cells zeroP),(1,.cells [.d (iD 0),.d (iD 0)])] ?_ (raw_seq [(0,.d (sD s)),(2,.ref 0 0),(3,.ref 1 0)] [(0,.cells zeroP),(1,.cells [.d (iD 0),.d (iD 0)])] ?_ (raw_seq [(0,.d (sD s)),(2,.ref 0 0),(3,.ref 1 0),(4,.ref 2 0)] [(0,.cells zeroP),(1,.cells [.d (iD 0),.d (iD 0)]),(2,.cells [.d (sD s),.d (iD 0)])] ?_ h))) (fun C h0=>?_)
 · simp only [argE]
   repeat' (first|(with_reducible apply zz1)|((with_reducible apply zz2);rfl;intro K' hK';simp only [WA,simprocAttr];(repeat (constructor;focus (clear hK';intros;simp_all;done)));(try (apply hK';clear hK' K')))|((with_reducible apply zz3);rfl;all_goals (intro h;try exact absurd h (by decide))))
   refine ⟨rfl,?_⟩
   refine sub_of h0 ?_ ?_ ?_ <;> simp only [US,WA,simprocAttr,h0]
 · repeat' (first|(with_reducible apply zz1)|((with_reducible apply zz2);rfl;intro K' hK';simp only [WA,simprocAttr,hs1];(repeat (constructor;focus (clear hK';intros;simp_all;done)));(try (apply hK';clear hK' K')))|((with_reducible apply zz3);rfl;all_goals (intro h;try exact absurd h (by decide))))
   refine ⟨rfl,?_⟩
   refine sub_of h0 ?_ ?_ ?_ <;> simp only [US,WA,simprocAttr,h0]
 · repeat' (first|(with_reducible apply zz1)|((with_reducible apply zz2);rfl;intro K' hK';simp only [WA,simprocAttr];(repeat (constructor;focus (clear hK';intros;simp_all;done)));(try (apply hK';clear hK' K')))|((with_reducible apply zz3);rfl;all_goals (intro h;try exact absurd h (by decide))))
   refine ⟨rfl,?_⟩
   refine sub_of h0 ?_ ?_ ?_ <;> simp only [US,WA,simprocAttr,h0]
 · repeat' (first|(with_reducible apply zz1)|((with_reducible apply zz2);rfl;intro K' hK';simp only [WA,simprocAttr];(repeat (constructor;focus (clear hK';intros;simp_all;done)));(try (apply hK';clear hK' K')))|((with_reducible apply zz3);rfl;all_goals (intro h;try exact absurd h (by decide))))
   refine stop_cS rfl (by simp only [UA,WA,simprocAttr]) (hr3) ?_
   simp only [WA,simprocAttr,UM, ]
   (try (apply hK';clear hK' K'))
   repeat' (first|(with_reducible apply zz1)|((with_reducible apply zz2);rfl;intro K' hK';simp only [WA,simprocAttr];(repeat (constructor;focus (clear hK';intros;simp_all;done)));(try (apply hK';clear hK' K')))|((with_reducible apply zz3);rfl;all_goals (intro h;try exact absurd h (by decide))))
   refine stop_cS rfl (by simp only [UA,WA,simprocAttr]) (hi3) ?_
   simp only [WA,simprocAttr,UM, ]
   (try (apply hK';clear hK' K'))
   repeat' (first|(with_reducible apply zz1)|((with_reducible apply zz2);rfl;intro K' hK';simp only [WA,simprocAttr,he1];(repeat (constructor;focus (clear hK';intros;simp_all;done)));(try (apply hK';clear hK' K')))|((with_reducible apply zz3);rfl;all_goals (intro h;try exact absurd h (by decide))))
   refine stop_callF rfl (by simp only [WA,simprocAttr]) rfl rfl (hck) ?_
   simp only [WA,simprocAttr,inX,dropS, ]
   (repeat (constructor;focus (clear hK';intros;simp_all;done)))
   (try (apply hK';clear hK' K'))
   repeat' (first|(with_reducible apply zz1)|((with_reducible apply zz2);rfl;intro K' hK';simp only [WA,simprocAttr];(repeat (constructor;focus (clear hK';intros;simp_all;done)));(try (apply hK';clear hK' K')))|((with_reducible apply zz3);rfl;all_goals (intro h;try exact absurd h (by decide))))
   refine ⟨_,_,(fun β a w i=>⟨β,i⟩),?_⟩
   refine ⟨⟨⟨_,rfl⟩,⟨_,rfl⟩,trivial⟩,lk_two rfl rfl,_,(pclo_idle Γ _ _ _ _ _ _ _ _ _ _ _),⟨⟨_,rfl⟩,⟨_,rfl⟩,trivial⟩,?_⟩
   simp only [retL,retOne,oneV]
   simp only [WA,simprocAttr]
   -- TRACE
set_option maxHeartbeats 8000000 in
set_option maxRecDepth 100000 in
theorem gparse_bad (Γ : Gl) (s : ByteArray) (hs : s.size ≤ 2000) (x : Gt) (b : Nat) (hb : b ≤ s.size) (hr : RdG Γ s 22 [] 0 (.ok x b)) (he : ¬ wAt s b < s.size) (hc : gCheck x ≠ 0) : DFn Tryd.prog Γ 8 [sD s] (.tup [Gt.zero.d,.agg [iD (gCheck x),iD 0]]):=by
 have hs1 : ¬ (2000 : Int) < (s.size : Int):=by omega
 have his:=gis_l Γ s hs b hb 32 32 rfl
 have hck:=GCheck_fn Γ x
 have g0 : (gCheck x != 0) = true:=by simpa using hc
 generalize gCheck x = E at *
 have he1 : ¬ ((wAt s b : Nat) : Int) < (s.size : Int):=by omega
 obtain ⟨xk,xfr,xto,xso,xnm,xls,xl⟩:=x
 simp only [RdG,Gt.d,rBox] at hr his hck ⊢
 have hr3 : SFn Tryd.prog Γ 22 [.ref 2 0] [(2,.cells [.d (sD s),.d (iD 0)])] (.d (.agg [iD xk,sD xfr,sD xto,iD xso,sD xnm,.slc (xls.map sD),.slc (Gt.ds xl)])) [(2,.cells [.d (sD s),.d (iD (b : Nat))])]:=hr.up 2
 have hi3 : SFn Tryd.prog Γ 23 [.ref 2 0,.d (.v (.int .u8 32))] [(2,.cells [.d (sD s),.d (iD (b : Nat))])] (.d (.v (.bool (isB s b 32)))) [(2,.cells [.d (sD s),.d (iD (wAt s b : Nat))])]:=his.up 2
 refine fn_of_defersW (N:=37) Tryd.func8 rfl (by decide) rfl rfl (by simp) (E:=[(0,.d (sD s)),(2,.ref 0 0),(3,.ref 1 0),(4,.ref 2 0)]) (S:=[(0,.cells zeroP),(1,.cells [.d (iD 0),.d (iD 0)]),(2,.cells [.d (sD s),.d (iD 0)])]) (caps:=pRefs) (u:=failG 0 0) (ts:=[(2,.ref 0 0),(3,.ref 1 0)])
  (by kernel_rfl) rfl (by decide) rfl rfl ⟨⟨_,rfl⟩,⟨_,rfl⟩,trivial⟩ (fun C h0 Q h=>raw_seq [(0,.d (sD s)),(2,.ref 0 0),(3,.ref 1 0)] [(0,.cells zeroP),(1,.cells [.d (iD 0),.d (iD 0)])] ?_ (raw_seq [(0,.d (sD s)),(2,.ref 0 0),(3,.ref 1 0)] [(0,.cells zeroP),(1,.cells [.d (iD 0),.d (iD 0)])] ?_ (raw_seq [(0,.d (sD s)),(2,.ref 0 0),(3,.ref 1 0),(4,.ref 2 0)] [(0,.cells zeroP),(1,.cells [.d (iD 0),.d (iD 0)]),(2,.cells [.d (sD s),.d (iD 0)])] ?_ h))) (fun C h0=>?_)
 · simp only [argE]
   repeat' (first|(with_reducible apply zz1)|((with_reducible apply zz2);rfl;intro K' hK';simp only [WA,simprocAttr];(repeat (constructor;focus (clear hK';intros;simp_all;done)));(try (apply hK';clear hK' K')))|((with_reducible apply zz3);rfl;all_goals (intro h;try exact absurd h (by decide))))
   refine ⟨rfl,?_⟩
   refine sub_of h0 ?_ ?_ ?_ <;> simp only [US,WA,simprocAttr,h0]
 · repeat' (first|(with_reducible apply zz1)|((with_reducible apply zz2);rfl;intro K' hK';simp only [WA,simprocAttr,hs1];(repeat (constructor;focus (clear hK';intros;simp_all;done)));(try (apply hK';clear hK' K')))|((with_reducible apply zz3);rfl;all_goals (intro h;try exact absurd h (by decide))))
   refine ⟨rfl,?_⟩
   refine sub_of h0 ?_ ?_ ?_ <;> simp only [US,WA,simprocAttr,h0]
 · repeat' (first|(with_reducible apply zz1)|((with_reducible apply zz2);rfl;intro K' hK';simp only [WA,simprocAttr];(repeat (constructor;focus (clear hK';intros;simp_all;done)));(try (apply hK';clear hK' K')))|((with_reducible apply zz3);rfl;all_goals (intro h;try exact absurd h (by decide))))
   refine ⟨rfl,?_⟩
   refine sub_of h0 ?_ ?_ ?_ <;> simp only [US,WA,simprocAttr,h0]
 · repeat' (first|(with_reducible apply zz1)|((with_reducible apply zz2);rfl;intro K' hK';simp only [WA,simprocAttr];(repeat (constructor;focus (clear hK';intros;simp_all;done)));(try (apply hK';clear hK' K')))|((with_reducible apply zz3);rfl;all_goals (intro h;try exact absurd h (by decide))))
   refine stop_cS rfl (by simp only [UA,WA,simprocAttr]) (hr3) ?_
   simp only [WA,simprocAttr,UM, ]
   (try (apply hK';clear hK' K'))
   repeat' (first|(with_reducible apply zz1)|((with_reducible apply zz2);rfl;intro K' hK';simp only [WA,simprocAttr];(repeat (constructor;focus (clear hK';intros;simp_all;done)));(try (apply hK';clear hK' K')))|((with_reducible apply zz3);rfl;all_goals (intro h;try exact absurd h (by decide))))
   refine stop_cS rfl (by simp only [UA,WA,simprocAttr]) (hi3) ?_
   simp only [WA,simprocAttr,UM, ]
   (try (apply hK';clear hK' K'))
   repeat' (first|(with_reducible apply zz1)|((with_reducible apply zz2);rfl;intro K' hK';simp only [WA,simprocAttr,he1];(repeat (constructor;focus (clear hK';intros;simp_all;done)));(try (apply hK';clear hK' K')))|((with_reducible apply zz3);rfl;all_goals (intro h;try exact absurd h (by decide))))
   refine stop_callF rfl (by simp only [WA,simprocAttr]) rfl rfl (hck) ?_
   simp only [WA,simprocAttr,inX,dropS,g0]
   (repeat (constructor;focus (clear hK';intros;simp_all;done)))
   (try (apply hK';clear hK' K'))
   repeat' (first|(with_reducible apply zz1)|((with_reducible apply zz2);rfl;intro K' hK';simp only [WA,simprocAttr,g0];(repeat (constructor;focus (clear hK';intros;simp_all;done)));(try (apply hK';clear hK' K')))|((with_reducible apply zz3);rfl;all_goals (intro h;try exact absurd h (by decide))))
   refine ⟨_,_,(fun β a w i=>⟨β,i⟩),?_⟩
   refine ⟨⟨⟨_,rfl⟩,⟨_,rfl⟩,trivial⟩,lk_two rfl rfl,_,(pclo_idle0 Γ _ _ _ _),⟨⟨_,rfl⟩,⟨_,rfl⟩,trivial⟩,?_⟩
   simp only [retL,retOne,oneV]
   simp only [WA,simprocAttr]
   all_goals rfl
set_option maxHeartbeats 8000000 in
set_option maxRecDepth 100000 in
theorem gparse_rest (Γ : Gl) (s : ByteArray) (hs : s.size ≤ 2000) (x : Gt) (b : Nat) (hb : b ≤ s.size) (hr : RdG Γ s 22 [] 0 (.ok x b)) (he : wAt s b < s.size) : DFn Tryd.prog Γ 8 [sD s] (.tup [Gt.zero.d,.agg [iD 3,iD (wAt s b : Nat)]]):=by
 have hs1 : ¬ (2000 : Int) < (s.size : Int):=by omega
 have his:=gis_l Γ s hs b hb 32 32 rfl
 have hf:=gfail_fn Γ s (wAt s b : Nat)
 have he1 : ((wAt s b : Nat) : Int) < (s.size : Int):=by omega
 obtain ⟨xk,xfr,xto,xso,xnm,xls,xl⟩:=x
 simp only [RdG,Gt.d,rBox] at hr his ⊢
 have hr3 : SFn Tryd.prog Γ 22 [.ref 2 0] [(2,.cells [.d (sD s),.d (iD 0)])] (.d (.agg [iD xk,sD xfr,sD xto,iD xso,sD xnm,.slc (xls.map sD),.slc (Gt.ds xl)])) [(2,.cells [.d (sD s),.d (iD (b : Nat))])]:=hr.up 2
 have hi3 : SFn Tryd.prog Γ 23 [.ref 2 0,.d (.v (.int .u8 32))] [(2,.cells [.d (sD s),.d (iD (b : Nat))])] (.d (.v (.bool (isB s b 32)))) [(2,.cells [.d (sD s),.d (iD (wAt s b : Nat))])]:=his.up 2
 have hf3 : XFn Tryd.prog Γ 24 [.ref 2 0] [(2,.cells [.d (sD s),.d (iD (wAt s b : Nat))])] (failG 3 (wAt s b : Nat)) [(2,.cells [.d (sD s),.d (iD (wAt s b : Nat))])]:=hf.up 2
 refine fn_of_defersW (N:=37) Tryd.func8 rfl (by decide) rfl rfl (by simp) (E:=[(0,.d (sD s)),(2,.ref 0 0),(3,.ref 1 0),(4,.ref 2 0)]) (S:=[(0,.cells zeroP),(1,.cells [.d (iD 0),.d (iD 0)]),(2,.cells [.d (sD s),.d (iD 0)])]) (caps:=pRefs) (u:=failG 3 (wAt s b : Nat)) (ts:=[(2,.ref 0 0),(3,.ref 1 0)])
  (by kernel_rfl) rfl (by decide) rfl rfl ⟨⟨_,rfl⟩,⟨_,rfl⟩,trivial⟩ (fun C h0 Q h=>raw_seq [(0,.d (sD s)),(2,.ref 0 0),(3,.ref 1 0)] [(0,.cells zeroP),(1,.cells [.d (iD 0),.d (iD 0)])] ?_ (raw_seq [(0,.d (sD s)),(2,.ref 0 0),(3,.ref 1 0)] [(0,.cells zeroP),(1,.cells [.d (iD 0),.d (iD 0)])] ?_ (raw_seq [(0,.d (sD s)),(2,.ref 0 0),(3,.ref 1 0),(4,.ref 2 0)] [(0,.cells zeroP),(1,.cells [.d (iD 0),.d (iD 0)]),(2,.cells [.d (sD s),.d (iD 0)])] ?_ h))) (fun C h0=>?_)
 · simp only [argE]
   repeat' (first|(with_reducible apply zz1)|((with_reducible apply zz2);rfl;intro K' hK';simp only [WA,simprocAttr];(repeat (constructor;focus (clear hK';intros;simp_all;done)));(try (apply hK';clear hK' K')))|((with_reducible apply zz3);rfl;all_goals (intro h;try exact absurd h (by decide))))
   refine ⟨rfl,?_⟩
   refine sub_of h0 ?_ ?_ ?_ <;> simp only [US,WA,simprocAttr,h0]
 · repeat' (first|(with_reducible apply zz1)|((with_reducible apply zz2);rfl;intro K' hK';simp only [WA,simprocAttr,hs1];(repeat (constructor;focus (clear hK';intros;simp_all;done)));(try (apply hK';clear hK' K')))|((with_reducible apply zz3);rfl;all_goals (intro h;try exact absurd h (by decide))))
   refine ⟨rfl,?_⟩
   refine sub_of h0 ?_ ?_ ?_ <;> simp only [US,WA,simprocAttr,h0]
 · repeat' (first|(with_reducible apply zz1)|((with_reducible apply zz2);rfl;intro K' hK';simp only [WA,simprocAttr];(repeat (constructor;focus (clear hK';intros;simp_all;done)));(try (apply hK';clear hK' K')))|((with_reducible apply zz3);rfl;all_goals (intro h;try exact absurd h (by decide))))
   refine ⟨rfl,?_⟩
   refine sub_of h0 ?_ ?_ ?_ <;> simp only [US,WA,simprocAttr,h0]
 · repeat' (first|(with_reducible apply zz1)|((with_reducible apply zz2);rfl;intro K' hK';simp only [WA,simprocAttr];(repeat (constructor;focus (clear hK';intros;simp_all;done)));(try (apply hK';clear hK' K')))|((with_reducible apply zz3);rfl;all_goals (intro h;try exact absurd h (by decide))))
   refine stop_cS rfl (by simp only [UA,WA,simprocAttr]) (hr3) ?_
   simp only [WA,simprocAttr,UM, ]
   (try (apply hK';clear hK' K'))
   repeat' (first|(with_reducible apply zz1)|((with_reducible apply zz2);rfl;intro K' hK';simp only [WA,simprocAttr];(repeat (constructor;focus (clear hK';intros;simp_all;done)));(try (apply hK';clear hK' K')))|((with_reducible apply zz3);rfl;all_goals (intro h;try exact absurd h (by decide))))
   refine stop_cS rfl (by simp only [UA,WA,simprocAttr]) (hi3) ?_
   simp only [WA,simprocAttr,UM, ]
   (try (apply hK';clear hK' K'))
   repeat' (first|(with_reducible first|refine swp_seq ?_|refine swp_block ?_|refine swp_skip ?_|refine swp_ret ?_|refine swp_exit ?_|refine swp_label ?_|refine kseq_n ?_|refine kseq_x ?_|refine kseq_r ?_|refine kblk_n ?_|refine kblk_r ?_|refine kblk_xs ?_|refine kloop_x ?_|refine kloop_r ?_)|((with_reducible refine kblk_xn ?_ ?_);rfl)|((with_reducible refine swp_regionX ?_ ?_ (fun K' hK' hP'=>?_));rfl;rfl;simp only [WA,simprocAttr,he1];(repeat (constructor;focus (clear hK' hP';intros;simp_all;done)));(try (apply hK';clear hK' hP';clear K')))|((with_reducible refine swp_cond ?_ ?_);rfl;refine ⟨_,rfl,fun h=>?_,fun h=>?_⟩ <;> try exact absurd h (by decide)))
   refine stop_cX rfl (by simp only [UA,WA,simprocAttr]) (hf3) ?_
   simp only [UM,WA,simprocAttr]
   refine hP' _ _ _ ?_
   repeat (first | refine kseq_p ?_ | refine kblk_p ?_ | refine kloop_p ?_)
   refine ⟨_,_,(fun β a w i=>⟨β,i⟩),?_⟩
   refine ⟨rfl,?_⟩
   refine ⟨⟨⟨_,rfl⟩,⟨_,rfl⟩,trivial⟩,lk_two rfl rfl,_,(pclo_catch2 Γ _ _ _ _ _ _ _ _ _ _ _ _ _),⟨⟨_,rfl⟩,⟨_,rfl⟩,trivial⟩,?_⟩
   simp only [retL,retOne,oneV]
   simp only [WA,simprocAttr]
   all_goals rfl
set_option maxHeartbeats 8000000 in
set_option maxRecDepth 100000 in
theorem gparse_big (Γ : Gl) (s : ByteArray) (hs : ¬ s.size ≤ 2000) : DFn Tryd.prog Γ 8 [sD s] (.tup [Gt.zero.d,.agg [iD 2,iD 0]]):=by
 have hs1 : (2000 : Int) < (s.size : Int):=by omega
 refine fn_of_swp (N:=37) Tryd.func8 rfl (by decide) rfl rfl (by simp) (fun C h0=>?_)
 simp only [argE]
 repeat' (first|(with_reducible apply zz1)|((with_reducible apply zz2);rfl;intro K' hK';simp only [WA,simprocAttr,hs1];(repeat (constructor;focus (clear hK';intros;simp_all;done)));(try (apply hK';clear hK' K')))|((with_reducible apply zz3);rfl;all_goals (intro h;try exact absurd h (by decide))))
 simp only [Kret,retL,retOne,oneV,WA,simprocAttr,Gt.zero,Gt.d,Gt.ds,List.map_nil]
theorem gparse_fn (Γ : Gl) (s : ByteArray) (hs : s.size ≤ 2000) (R : Rg) (hr : RdG Γ s 22 [] 0 R) (hb : ∀ x b,R = .ok x b → b ≤ s.size) : DFn Tryd.prog Γ 8 [sD s] (parG s R):=by
 cases R with
 | no b=>exact gparse_no Γ s hs b hr
 | ok x b =>
  unfold parG
  by_cases he : wAt s b < s.size
  · simp only [if_pos he];exact gparse_rest Γ s hs x b (hb x b rfl) hr he
  · by_cases hc : gCheck x = 0
    · simp only [if_neg he,if_pos hc];exact gparse_ok Γ s hs x b (hb x b rfl) hr he hc
    · simp only [if_neg he,if_neg hc];exact gparse_bad Γ s hs x b (hb x b rfl) hr he hc
end Go.Proofs.YtlnmkdbcdcknjaaDoor.GG
