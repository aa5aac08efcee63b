/- types.Begin's closure: nothing is lost, and what is panicked with is caught; a symbolic walk. -/
-- TYPESA
import Derived.Test.YtdcplkefmpjppaaDoorDT8
set_option linter.unusedVariables false
set_option linter.unusedSimpArgs false
namespace Go.Proofs.YtdcplkefmpjppaaDoor.GG
open Go.RowKit Go.Sw

abbrev bBox (x : List SV) (n c t : Int) (s : ByteArray) (a : Nat) : St:=[(0,.cells x),(1,.cells [.d (iD n)]),(2,.cells [.d (iD c),.d (iD t)]),(3,.cells [.d (sD s),.d (iD (a : Nat))])]
abbrev bRefs : List SV:=[.ref 0 0,.ref 1 0,.ref 2 0]
abbrev zeroB : List SV:=[.d (iD 0),.d (iD 0),.d (sD ⟨#[]⟩),.nil,.nil]
theorem any20 : Tryd.prog.underlying 20 = some (.interface (Tryd.prog.methodsAt 20)):=by kernel_rfl
theorem run_nn {a : Act} {x : Operand} {dst : Option Tmp} {ty r : TypeId} {pos : String} {af : Array Edge} {w : World} (h : a.eval x = .nilIface) :
 (execOp a.eval ⟨dst,.binOp .neq 20 x (.const .nilIface) r,ty,pos,af,none⟩).run Tryd.prog w = .ok (.value (.bool false)) w:=by
 have h2 : a.eval (.const .nilIface) = .nilIface:=rfl
 simp [execOp,h,h2,eqGuard,Sem.run_bind,run_neq_nil_nil w 20 any20]
theorem run_hn {a : Act} {x : Operand} {u : TypeId} {v : Value} {dst : Option Tmp} {ty r : TypeId} {pos : String} {af : Array Edge} {w : World} (h : a.eval x = .iface u v) :
 (execOp a.eval ⟨dst,.binOp .neq 20 x (.const .nilIface) r,ty,pos,af,none⟩).run Tryd.prog w = .ok (.value (.bool true)) w:=by
 have h2 : a.eval (.const .nilIface) = .nilIface:=rfl
 simp [execOp,h,h2,eqGuard,Sem.run_bind,run_neq_held_nil w 20 u v any20]
theorem run_ta {a : Act} {x : Operand} {v : Value} {dst : Option Tmp} {ty : TypeId} {pos : String} {af : Array Edge} {w : World} (h : a.eval x = .iface 177 v) :
 (execOp a.eval ⟨dst,.typeAssert x 20 177 false,ty,pos,af,none⟩).run Tryd.prog w = .ok (.value v) w:=by
 simp [execOp,h,Instr.typeAssert,Sem.run_bind,run_underlying Tryd.underlying177]
theorem run_fd {a : Act} {x : Operand} {e t : Int} {dst : Option Tmp} {ty : TypeId} {pos : String} {af : Array Edge} {w : World} (h : a.eval x = .agg #[.int .i64 e,.int .i64 t]) :
 (execOp a.eval ⟨dst,.field 177 x 0,ty,pos,af,none⟩).run Tryd.prog w = .ok (.value (.agg #[.int .i64 e,.int .i64 t])) w:=by
 have h1 : (Instr.field 177 (.agg #[.int .i64 e,.int .i64 t]) 0).run Tryd.prog w = .ok (.agg #[.int .i64 e,.int .i64 t]) w:=by
  simp [Instr.field,Sem.run_bind,run_underlying Tryd.underlying177,part,isAgg,run_underlying Tryd.underlying30,asAgg,go_sem]
 simp only [execOp,h,Sem.run_bind,h1]
 rfl

set_option maxHeartbeats 8000000 in
set_option maxRecDepth 100000 in
theorem clo_idle (Γ : Gl) (x0 x1 x2 x3 x4 : D) (n c t : Int) (s : ByteArray) (b : Nat) : CFn Tryd.prog Γ 121 bRefs .returning (bBox [.d x0,.d x1,.d x2,.d x3,.d x4] n c t s b) .returning (bBox [.d x0,.d x1,.d x2,.d x3,.d x4] n c t s b):=by
 refine cfn_of_swp (N:=11) Tryd.func121 rfl rfl rfl (v:=.nilIface) (fun c cs hc=>.inl ⟨by simp [recoverD,hc],rfl,rfl⟩) rfl (by decide) (by decide) (by decide) (fun C h0=>?_)
 simp only [argS]
 simp only [WA,simprocAttr]
 repeat' (first|(with_reducible apply zz1)|((with_reducible apply zz2);rfl;intro K' hK';simp only [WA,simprocAttr];(repeat (constructor;focus (clear hK';intros;simp_all;done)));(try (apply hK';clear hK' K')))|((with_reducible apply zz3);rfl;all_goals (intro h;try exact absurd h (by decide))))
 refine stop_val (.v (.bool false)) rfl rfl (fun a w hv=>run_nn (hv (.tmp 5) (.v .nilIface) rfl rfl rfl)) ?_
 simp only [WA,simprocAttr]
 refine hK' _ _ ?_
 clear hK' K'
 repeat' (first|(with_reducible apply zz1)|((with_reducible apply zz2);rfl;intro K' hK';simp only [WA,simprocAttr];(repeat (constructor;focus (clear hK';intros;simp_all;done)));(try (apply hK';clear hK' K')))|((with_reducible apply zz3);rfl;all_goals (intro h;try exact absurd h (by decide))))
 simp only [Kclo,US,WA,simprocAttr,h0]
set_option maxHeartbeats 8000000 in
set_option maxRecDepth 100000 in
theorem clo_idle0 (Γ : Gl) (n c t : Int) (s : ByteArray) (b : Nat) : CFn Tryd.prog Γ 121 bRefs .returning (bBox zeroB n c t s b) .returning (bBox zeroB n c t s b):=by
 refine cfn_of_swp (N:=11) Tryd.func121 rfl rfl rfl (v:=.nilIface) (fun c cs hc=>.inl ⟨by simp [recoverD,hc],rfl,rfl⟩) rfl (by decide) (by decide) (by decide) (fun C h0=>?_)
 simp only [argS]
 simp only [WA,simprocAttr]
 repeat' (first|(with_reducible apply zz1)|((with_reducible apply zz2);rfl;intro K' hK';simp only [WA,simprocAttr];(repeat (constructor;focus (clear hK';intros;simp_all;done)));(try (apply hK';clear hK' K')))|((with_reducible apply zz3);rfl;all_goals (intro h;try exact absurd h (by decide))))
 refine stop_val (.v (.bool false)) rfl rfl (fun a w hv=>run_nn (hv (.tmp 5) (.v .nilIface) rfl rfl rfl)) ?_
 simp only [WA,simprocAttr]
 refine hK' _ _ ?_
 clear hK' K'
 repeat' (first|(with_reducible apply zz1)|((with_reducible apply zz2);rfl;intro K' hK';simp only [WA,simprocAttr];(repeat (constructor;focus (clear hK';intros;simp_all;done)));(try (apply hK';clear hK' K')))|((with_reducible apply zz3);rfl;all_goals (intro h;try exact absurd h (by decide))))
 simp only [Kclo,US,WA,simprocAttr,h0]
set_option maxHeartbeats 8000000 in
set_option maxRecDepth 100000 in
theorem clo_catch (Γ : Gl) (n c d e t : Int) (s : ByteArray) (b : Nat) : CFn Tryd.prog Γ 121 bRefs (.panicking [{ v:=failV e t,recovered:=false }]) (bBox zeroB n c d s b) (.panicking [{ v:=failV e t,recovered:=true }]) (bBox zeroB 0 e t s b):=by
 refine cfn_of_swp (N:=11) Tryd.func121 rfl rfl rfl (v:=failV e t) (fun c cs hc=>.inr (by simp [recoverD,hc])) rfl (by decide) (by decide) (by decide) (fun C h0=>?_)
 simp only [argS]
 simp only [WA,simprocAttr]
 repeat' (first|(with_reducible apply zz1)|((with_reducible apply zz2);rfl;intro K' hK';simp only [WA,simprocAttr];(repeat (constructor;focus (clear hK';intros;simp_all;done)));(try (apply hK';clear hK' K')))|((with_reducible apply zz3);rfl;all_goals (intro h;try exact absurd h (by decide))))
 refine stop_val (.v (.bool true)) rfl rfl (fun a w hv=>run_hn (hv (.tmp 5) (.v (failV e t)) rfl rfl rfl)) ?_
 simp only [WA,simprocAttr]
 refine hK' _ _ ?_
 clear hK' K'
 repeat' (first|(with_reducible apply zz1)|((with_reducible apply zz2);rfl;intro K' hK';simp only [WA,simprocAttr];(repeat (constructor;focus (clear hK';intros;simp_all;done)));(try (apply hK';clear hK' K')))|((with_reducible apply zz3);rfl;all_goals (intro h;try exact absurd h (by decide))))
 refine swp_anyK (by kernel_rfl) (fun _ _ _ h=>h) (fun K' hK' hP' hE'=>?_)
 show Sany C _ 7 (Array.replicate 7 false) _ _ _
 refine any_move (i:=1) rfl (by kernel_rfl) (by kernel_rfl) (by kernel_rfl) rfl rfl hE' ?_
 simp only [WA,simprocAttr]
 refine any_all (rs:=[0,2]) (by kernel_rfl) (by simp) (fun i hi=>?_)
 simp only [List.mem_cons,List.not_mem_nil,or_false] at hi
 rcases hi with rfl | rfl
 · refine ⟨_,rfl,rfl,?_⟩
   refine aop_step rfl rfl (by simp only [WA,simprocAttr];rfl) ?_ ?_
   · (repeat (refine And.intro ?_ ?_)) <;> first | trivial | (simp_all;done)
   simp only [WA,simprocAttr]
   refine any_all (rs:=[2,4]) (by kernel_rfl) (by simp) (fun i hi=>?_)
   simp only [List.mem_cons,List.not_mem_nil,or_false] at hi
   rcases hi with rfl | rfl
   · refine ⟨_,rfl,rfl,?_⟩
     refine aop_val (.agg [iD e,iD t]) rfl rfl (fun a w hv=>run_ta (hv (.tmp 8) (.v (failV e t)) rfl rfl rfl)) ?_
     simp only [WA,simprocAttr]
     refine any_all (rs:=[3,4]) (by kernel_rfl) (by simp) (fun i hi=>?_)
     simp only [List.mem_cons,List.not_mem_nil,or_false] at hi
     rcases hi with rfl | rfl
     · refine ⟨_,rfl,rfl,?_⟩
       refine aop_val (.agg [iD e,iD t]) rfl rfl (fun a w hv=>run_fd (hv (.tmp 9) (.agg [iD e,iD t]) rfl rfl rfl)) ?_
       simp only [WA,simprocAttr]
       refine any_all (rs:=[4]) (by kernel_rfl) (by simp) (fun i hi=>?_)
       simp only [List.mem_cons,List.not_mem_nil,or_false] at hi
       obtain rfl:=hi
       refine ⟨_,rfl,rfl,?_⟩
       refine aop_step rfl rfl (by simp only [WA,simprocAttr];rfl) ?_ ?_
       · (repeat (refine And.intro ?_ ?_)) <;> first | trivial | (simp_all;done)
       simp only [WA,simprocAttr]
       refine any_all (rs:=[5]) (by kernel_rfl) (by simp) (fun i hi=>?_)
       simp only [List.mem_cons,List.not_mem_nil,or_false] at hi
       obtain rfl:=hi
       refine ⟨_,rfl,rfl,?_⟩
       refine aop_step rfl rfl (by simp only [WA,simprocAttr];rfl) ?_ ?_
       · (repeat (refine And.intro ?_ ?_)) <;> first | trivial | (simp_all;done)
       simp only [WA,simprocAttr]
       refine any_all (rs:=[6]) (by kernel_rfl) (by simp) (fun i hi=>?_)
       simp only [List.mem_cons,List.not_mem_nil,or_false] at hi
       obtain rfl:=hi
       refine ⟨_,rfl,rfl,?_⟩
       refine aop_step rfl rfl (by simp only [WA,simprocAttr];rfl) ?_ ?_
       · (repeat (refine And.intro ?_ ?_)) <;> first | trivial | (simp_all;done)
       simp only [WA,simprocAttr]
       refine any_done (by kernel_rfl) ?_
       refine hK' _ _ ?_
       clear hK' hP' hE' K'
       simp only [Kclo,US,WA,simprocAttr,h0]
     · refine ⟨_,rfl,rfl,?_⟩
       refine aop_step rfl rfl (by simp only [WA,simprocAttr];rfl) ?_ ?_
       · (repeat (refine And.intro ?_ ?_)) <;> first | trivial | (simp_all;done)
       simp only [WA,simprocAttr]
       refine any_all (rs:=[3,5]) (by kernel_rfl) (by simp) (fun i hi=>?_)
       simp only [List.mem_cons,List.not_mem_nil,or_false] at hi
       rcases hi with rfl | rfl
       · refine ⟨_,rfl,rfl,?_⟩
         refine aop_val (.agg [iD e,iD t]) rfl rfl (fun a w hv=>run_fd (hv (.tmp 9) (.agg [iD e,iD t]) rfl rfl rfl)) ?_
         simp only [WA,simprocAttr]
         refine any_all (rs:=[5]) (by kernel_rfl) (by simp) (fun i hi=>?_)
         simp only [List.mem_cons,List.not_mem_nil,or_false] at hi
         obtain rfl:=hi
         refine ⟨_,rfl,rfl,?_⟩
         refine aop_step rfl rfl (by simp only [WA,simprocAttr];rfl) ?_ ?_
         · (repeat (refine And.intro ?_ ?_)) <;> first | trivial | (simp_all;done)
         simp only [WA,simprocAttr]
         refine any_all (rs:=[6]) (by kernel_rfl) (by simp) (fun i hi=>?_)
         simp only [List.mem_cons,List.not_mem_nil,or_false] at hi
         obtain rfl:=hi
         refine ⟨_,rfl,rfl,?_⟩
         refine aop_step rfl rfl (by simp only [WA,simprocAttr];rfl) ?_ ?_
         · (repeat (refine And.intro ?_ ?_)) <;> first | trivial | (simp_all;done)
         simp only [WA,simprocAttr]
         refine any_done (by kernel_rfl) ?_
         refine hK' _ _ ?_
         clear hK' hP' hE' K'
         simp only [Kclo,US,WA,simprocAttr,h0]
       · refine ⟨_,rfl,rfl,?_⟩
         refine aop_step rfl rfl (by simp only [WA,simprocAttr];rfl) ?_ ?_
         · (repeat (refine And.intro ?_ ?_)) <;> first | trivial | (simp_all;done)
         simp only [WA,simprocAttr]
         refine any_all (rs:=[3]) (by kernel_rfl) (by simp) (fun i hi=>?_)
         simp only [List.mem_cons,List.not_mem_nil,or_false] at hi
         obtain rfl:=hi
         refine ⟨_,rfl,rfl,?_⟩
         refine aop_val (.agg [iD e,iD t]) rfl rfl (fun a w hv=>run_fd (hv (.tmp 9) (.agg [iD e,iD t]) rfl rfl rfl)) ?_
         simp only [WA,simprocAttr]
         refine any_all (rs:=[6]) (by kernel_rfl) (by simp) (fun i hi=>?_)
         simp only [List.mem_cons,List.not_mem_nil,or_false] at hi
         obtain rfl:=hi
         refine ⟨_,rfl,rfl,?_⟩
         refine aop_step rfl rfl (by simp only [WA,simprocAttr];rfl) ?_ ?_
         · (repeat (refine And.intro ?_ ?_)) <;> first | trivial | (simp_all;done)
         simp only [WA,simprocAttr]
         refine any_done (by kernel_rfl) ?_
         refine hK' _ _ ?_
         clear hK' hP' hE' K'
         simp only [Kclo,US,WA,simprocAttr,h0]
   · refine ⟨_,rfl,rfl,?_⟩
     refine aop_step rfl rfl (by simp only [WA,simprocAttr];rfl) ?_ ?_
     · (repeat (refine And.intro ?_ ?_)) <;> first | trivial | (simp_all;done)
     simp only [WA,simprocAttr]
     refine any_all (rs:=[2,5]) (by kernel_rfl) (by simp) (fun i hi=>?_)
     simp only [List.mem_cons,List.not_mem_nil,or_false] at hi
     rcases hi with rfl | rfl
     · refine ⟨_,rfl,rfl,?_⟩
       refine aop_val (.agg [iD e,iD t]) rfl rfl (fun a w hv=>run_ta (hv (.tmp 8) (.v (failV e t)) rfl rfl rfl)) ?_
       simp only [WA,simprocAttr]
       refine any_all (rs:=[3,5]) (by kernel_rfl) (by simp) (fun i hi=>?_)
       simp only [List.mem_cons,List.not_mem_nil,or_false] at hi
       rcases hi with rfl | rfl
       · refine ⟨_,rfl,rfl,?_⟩
         refine aop_val (.agg [iD e,iD t]) rfl rfl (fun a w hv=>run_fd (hv (.tmp 9) (.agg [iD e,iD t]) rfl rfl rfl)) ?_
         simp only [WA,simprocAttr]
         refine any_all (rs:=[5]) (by kernel_rfl) (by simp) (fun i hi=>?_)
         simp only [List.mem_cons,List.not_mem_nil,or_false] at hi
         obtain rfl:=hi
         refine ⟨_,rfl,rfl,?_⟩
         refine aop_step rfl rfl (by simp only [WA,simprocAttr];rfl) ?_ ?_
         · (repeat (refine And.intro ?_ ?_)) <;> first | trivial | (simp_all;done)
         simp only [WA,simprocAttr]
         refine any_all (rs:=[6]) (by kernel_rfl) (by simp) (fun i hi=>?_)
         simp only [List.mem_cons,List.not_mem_nil,or_false] at hi
         obtain rfl:=hi
         refine ⟨_,rfl,rfl,?_⟩
         refine aop_step rfl rfl (by simp only [WA,simprocAttr];rfl) ?_ ?_
         · (repeat (refine And.intro ?_ ?_)) <;> first | trivial | (simp_all;done)
         simp only [WA,simprocAttr]
         refine any_done (by kernel_rfl) ?_
         refine hK' _ _ ?_
         clear hK' hP' hE' K'
         simp only [Kclo,US,WA,simprocAttr,h0]
       · refine ⟨_,rfl,rfl,?_⟩
         refine aop_step rfl rfl (by simp only [WA,simprocAttr];rfl) ?_ ?_
         · (repeat (refine And.intro ?_ ?_)) <;> first | trivial | (simp_all;done)
         simp only [WA,simprocAttr]
         refine any_all (rs:=[3]) (by kernel_rfl) (by simp) (fun i hi=>?_)
         simp only [List.mem_cons,List.not_mem_nil,or_false] at hi
         obtain rfl:=hi
         refine ⟨_,rfl,rfl,?_⟩
         refine aop_val (.agg [iD e,iD t]) rfl rfl (fun a w hv=>run_fd (hv (.tmp 9) (.agg [iD e,iD t]) rfl rfl rfl)) ?_
         simp only [WA,simprocAttr]
         refine any_all (rs:=[6]) (by kernel_rfl) (by simp) (fun i hi=>?_)
         simp only [List.mem_cons,List.not_mem_nil,or_false] at hi
         obtain rfl:=hi
         refine ⟨_,rfl,rfl,?_⟩
         refine aop_step rfl rfl (by simp only [WA,simprocAttr];rfl) ?_ ?_
         · (repeat (refine And.intro ?_ ?_)) <;> first | trivial | (simp_all;done)
         simp only [WA,simprocAttr]
         refine any_done (by kernel_rfl) ?_
         refine hK' _ _ ?_
         clear hK' hP' hE' K'
         simp only [Kclo,US,WA,simprocAttr,h0]
     · refine ⟨_,rfl,rfl,?_⟩
       refine aop_step rfl rfl (by simp only [WA,simprocAttr];rfl) ?_ ?_
       · (repeat (refine And.intro ?_ ?_)) <;> first | trivial | (simp_all;done)
       simp only [WA,simprocAttr]
       refine any_all (rs:=[2]) (by kernel_rfl) (by simp) (fun i hi=>?_)
       simp only [List.mem_cons,List.not_mem_nil,or_false] at hi
       obtain rfl:=hi
       refine ⟨_,rfl,rfl,?_⟩
       refine aop_val (.agg [iD e,iD t]) rfl rfl (fun a w hv=>run_ta (hv (.tmp 8) (.v (failV e t)) rfl rfl rfl)) ?_
       simp only [WA,simprocAttr]
       refine any_all (rs:=[3]) (by kernel_rfl) (by simp) (fun i hi=>?_)
       simp only [List.mem_cons,List.not_mem_nil,or_false] at hi
       obtain rfl:=hi
       refine ⟨_,rfl,rfl,?_⟩
       refine aop_val (.agg [iD e,iD t]) rfl rfl (fun a w hv=>run_fd (hv (.tmp 9) (.agg [iD e,iD t]) rfl rfl rfl)) ?_
       simp only [WA,simprocAttr]
       refine any_all (rs:=[6]) (by kernel_rfl) (by simp) (fun i hi=>?_)
       simp only [List.mem_cons,List.not_mem_nil,or_false] at hi
       obtain rfl:=hi
       refine ⟨_,rfl,rfl,?_⟩
       refine aop_step rfl rfl (by simp only [WA,simprocAttr];rfl) ?_ ?_
       · (repeat (refine And.intro ?_ ?_)) <;> first | trivial | (simp_all;done)
       simp only [WA,simprocAttr]
       refine any_done (by kernel_rfl) ?_
       refine hK' _ _ ?_
       clear hK' hP' hE' K'
       simp only [Kclo,US,WA,simprocAttr,h0]
 · refine ⟨_,rfl,rfl,?_⟩
   refine aop_val (.agg [iD e,iD t]) rfl rfl (fun a w hv=>run_ta (hv (.tmp 8) (.v (failV e t)) rfl rfl rfl)) ?_
   simp only [WA,simprocAttr]
   refine any_all (rs:=[0,3]) (by kernel_rfl) (by simp) (fun i hi=>?_)
   simp only [List.mem_cons,List.not_mem_nil,or_false] at hi
   rcases hi with rfl | rfl
   · refine ⟨_,rfl,rfl,?_⟩
     refine aop_step rfl rfl (by simp only [WA,simprocAttr];rfl) ?_ ?_
     · (repeat (refine And.intro ?_ ?_)) <;> first | trivial | (simp_all;done)
     simp only [WA,simprocAttr]
     refine any_all (rs:=[3,4]) (by kernel_rfl) (by simp) (fun i hi=>?_)
     simp only [List.mem_cons,List.not_mem_nil,or_false] at hi
     rcases hi with rfl | rfl
     · refine ⟨_,rfl,rfl,?_⟩
       refine aop_val (.agg [iD e,iD t]) rfl rfl (fun a w hv=>run_fd (hv (.tmp 9) (.agg [iD e,iD t]) rfl rfl rfl)) ?_
       simp only [WA,simprocAttr]
       refine any_all (rs:=[4]) (by kernel_rfl) (by simp) (fun i hi=>?_)
       simp only [List.mem_cons,List.not_mem_nil,or_false] at hi
       obtain rfl:=hi
       refine ⟨_,rfl,rfl,?_⟩
       refine aop_step rfl rfl (by simp only [WA,simprocAttr];rfl) ?_ ?_
       · (repeat (refine And.intro ?_ ?_)) <;> first | trivial | (simp_all;done)
       simp only [WA,simprocAttr]
       refine any_all (rs:=[5]) (by kernel_rfl) (by simp) (fun i hi=>?_)
       simp only [List.mem_cons,List.not_mem_nil,or_false] at hi
       obtain rfl:=hi
       refine ⟨_,rfl,rfl,?_⟩
       refine aop_step rfl rfl (by simp only [WA,simprocAttr];rfl) ?_ ?_
       · (repeat (refine And.intro ?_ ?_)) <;> first | trivial | (simp_all;done)
       simp only [WA,simprocAttr]
       refine any_all (rs:=[6]) (by kernel_rfl) (by simp) (fun i hi=>?_)
       simp only [List.mem_cons,List.not_mem_nil,or_false] at hi
       obtain rfl:=hi
       refine ⟨_,rfl,rfl,?_⟩
       refine aop_step rfl rfl (by simp only [WA,simprocAttr];rfl) ?_ ?_
       · (repeat (refine And.intro ?_ ?_)) <;> first | trivial | (simp_all;done)
       simp only [WA,simprocAttr]
       refine any_done (by kernel_rfl) ?_
       refine hK' _ _ ?_
       clear hK' hP' hE' K'
       simp only [Kclo,US,WA,simprocAttr,h0]
     · refine ⟨_,rfl,rfl,?_⟩
       refine aop_step rfl rfl (by simp only [WA,simprocAttr];rfl) ?_ ?_
       · (repeat (refine And.intro ?_ ?_)) <;> first | trivial | (simp_all;done)
       simp only [WA,simprocAttr]
       refine any_all (rs:=[3,5]) (by kernel_rfl) (by simp) (fun i hi=>?_)
       simp only [List.mem_cons,List.not_mem_nil,or_false] at hi
       rcases hi with rfl | rfl
       · refine ⟨_,rfl,rfl,?_⟩
         refine aop_val (.agg [iD e,iD t]) rfl rfl (fun a w hv=>run_fd (hv (.tmp 9) (.agg [iD e,iD t]) rfl rfl rfl)) ?_
         simp only [WA,simprocAttr]
         refine any_all (rs:=[5]) (by kernel_rfl) (by simp) (fun i hi=>?_)
         simp only [List.mem_cons,List.not_mem_nil,or_false] at hi
         obtain rfl:=hi
         refine ⟨_,rfl,rfl,?_⟩
         refine aop_step rfl rfl (by simp only [WA,simprocAttr];rfl) ?_ ?_
         · (repeat (refine And.intro ?_ ?_)) <;> first | trivial | (simp_all;done)
         simp only [WA,simprocAttr]
         refine any_all (rs:=[6]) (by kernel_rfl) (by simp) (fun i hi=>?_)
         simp only [List.mem_cons,List.not_mem_nil,or_false] at hi
         obtain rfl:=hi
         refine ⟨_,rfl,rfl,?_⟩
         refine aop_step rfl rfl (by simp only [WA,simprocAttr];rfl) ?_ ?_
         · (repeat (refine And.intro ?_ ?_)) <;> first | trivial | (simp_all;done)
         simp only [WA,simprocAttr]
         refine any_done (by kernel_rfl) ?_
         refine hK' _ _ ?_
         clear hK' hP' hE' K'
         simp only [Kclo,US,WA,simprocAttr,h0]
       · refine ⟨_,rfl,rfl,?_⟩
         refine aop_step rfl rfl (by simp only [WA,simprocAttr];rfl) ?_ ?_
         · (repeat (refine And.intro ?_ ?_)) <;> first | trivial | (simp_all;done)
         simp only [WA,simprocAttr]
         refine any_all (rs:=[3]) (by kernel_rfl) (by simp) (fun i hi=>?_)
         simp only [List.mem_cons,List.not_mem_nil,or_false] at hi
         obtain rfl:=hi
         refine ⟨_,rfl,rfl,?_⟩
         refine aop_val (.agg [iD e,iD t]) rfl rfl (fun a w hv=>run_fd (hv (.tmp 9) (.agg [iD e,iD t]) rfl rfl rfl)) ?_
         simp only [WA,simprocAttr]
         refine any_all (rs:=[6]) (by kernel_rfl) (by simp) (fun i hi=>?_)
         simp only [List.mem_cons,List.not_mem_nil,or_false] at hi
         obtain rfl:=hi
         refine ⟨_,rfl,rfl,?_⟩
         refine aop_step rfl rfl (by simp only [WA,simprocAttr];rfl) ?_ ?_
         · (repeat (refine And.intro ?_ ?_)) <;> first | trivial | (simp_all;done)
         simp only [WA,simprocAttr]
         refine any_done (by kernel_rfl) ?_
         refine hK' _ _ ?_
         clear hK' hP' hE' K'
         simp only [Kclo,US,WA,simprocAttr,h0]
   · refine ⟨_,rfl,rfl,?_⟩
     refine aop_val (.agg [iD e,iD t]) rfl rfl (fun a w hv=>run_fd (hv (.tmp 9) (.agg [iD e,iD t]) rfl rfl rfl)) ?_
     simp only [WA,simprocAttr]
     refine any_all (rs:=[0]) (by kernel_rfl) (by simp) (fun i hi=>?_)
     simp only [List.mem_cons,List.not_mem_nil,or_false] at hi
     obtain rfl:=hi
     refine ⟨_,rfl,rfl,?_⟩
     refine aop_step rfl rfl (by simp only [WA,simprocAttr];rfl) ?_ ?_
     · (repeat (refine And.intro ?_ ?_)) <;> first | trivial | (simp_all;done)
     simp only [WA,simprocAttr]
     refine any_all (rs:=[4]) (by kernel_rfl) (by simp) (fun i hi=>?_)
     simp only [List.mem_cons,List.not_mem_nil,or_false] at hi
     obtain rfl:=hi
     refine ⟨_,rfl,rfl,?_⟩
     refine aop_step rfl rfl (by simp only [WA,simprocAttr];rfl) ?_ ?_
     · (repeat (refine And.intro ?_ ?_)) <;> first | trivial | (simp_all;done)
     simp only [WA,simprocAttr]
     refine any_all (rs:=[5]) (by kernel_rfl) (by simp) (fun i hi=>?_)
     simp only [List.mem_cons,List.not_mem_nil,or_false] at hi
     obtain rfl:=hi
     refine ⟨_,rfl,rfl,?_⟩
     refine aop_step rfl rfl (by simp only [WA,simprocAttr];rfl) ?_ ?_
     · (repeat (refine And.intro ?_ ?_)) <;> first | trivial | (simp_all;done)
     simp only [WA,simprocAttr]
     refine any_all (rs:=[6]) (by kernel_rfl) (by simp) (fun i hi=>?_)
     simp only [List.mem_cons,List.not_mem_nil,or_false] at hi
     obtain rfl:=hi
     refine ⟨_,rfl,rfl,?_⟩
     refine aop_step rfl rfl (by simp only [WA,simprocAttr];rfl) ?_ ?_
     · (repeat (refine And.intro ?_ ?_)) <;> first | trivial | (simp_all;done)
     simp only [WA,simprocAttr]
     refine any_done (by kernel_rfl) ?_
     refine hK' _ _ ?_
     clear hK' hP' hE' K'
     simp only [Kclo,US,WA,simprocAttr,h0]
end Go.Proofs.YtdcplkefmpjppaaDoor.GG
