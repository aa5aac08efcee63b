/- wires.Read and its closure; a symbolic walk (printed by mkn19.py). -/
-- TYPESE
import Derived.Test.YtdcplkefmpjppaaDoorDN16
import Derived.Test.YtdcplkefmpjppaaDoorDT13
import Derived.Test.YtdcplkefmpjppaaDoorSwD
set_option linter.unusedVariables false
set_option linter.unusedSimpArgs false
namespace Go.Proofs.YtdcplkefmpjppaaDoor.GG
open Go.RowKit Go.Sw
open Nat renaming reduceAdd → zn2

abbrev wBox (x : SV) (c t : Int) (s : ByteArray) (a : Nat) (L : List D) : St:=[(0,.cells [x]),(1,.cells [.d (iD c),.d (iD t)]),(2,.cells [.d (sD s),.d (iD (a : Nat))]),(3,.row 10 L)]
abbrev wRefs : List SV:=[.ref 0 0,.ref 1 0]
theorem lk_two {e : Env} {a b : SV} (h2 : lk 2 e = some a) (h3 : lk 3 e = some b) : ∀ t x,lk t [(2,a),(3,b)] = some x → lk t e = some x:=by
 intro t x h
 by_cases e2 : t = 2
 · subst e2;rw [h2];exact h
 by_cases e3 : t = 3
 · subst e3;rw [h3];exact h
 · exfalso
   have hb : ∀ n : Nat,t ≠ n → Nat.beq t n = false:=fun n hn=>Bool.eq_false_iff.2 (fun q=>hn (Nat.eq_of_beq_eq_true q))
   simp only [lk,hb 2 e2,hb 3 e3,cond_false] at h
   cases h
theorem run_taW {a : Act} {x : Operand} {v : Value} {dst : Option Tmp} {ty : TypeId} {pos : String} {af : Array Edge} {w : World} (h : a.eval x = .iface 103 v) :
 (execOp a.eval ⟨dst,.typeAssert x 20 103 false,ty,pos,af,none⟩).run Tryd.prog w = .ok (.value v) w:=by
 simp [execOp,h,Instr.typeAssert,Sem.run_bind,run_underlying un103]
set_option maxHeartbeats 32000000 in
set_option maxRecDepth 100000 in
theorem wclo_idle (Γ : Gl) (t : Int) (s : ByteArray) (b : Nat) (L : List D) : CFn Tryd.prog Γ 48 wRefs .returning (wBox (.own 3) 0 t s b L) .returning (wBox (.own 3) 0 t s b L):=by
 refine cfn_of_swp (N:=9) Tryd.func48 rfl rfl rfl (v:=.nilIface) (fun c cs hc=>.inl ⟨by simp [recoverD,hc],rfl,rfl⟩) rfl (by decide) (by decide) (by decide) (fun C h0=>?_)
 simp only [argS]
 simp only [WE,simprocAttr]
 repeat' (first|(with_reducible apply zz1)|((with_reducible apply zz2);rfl;intro K' hK';simp only [WE,simprocAttr];(repeat (constructor;focus (clear hK';intros;simp_all;done)));(try (apply hK';clear hK' K')))|((with_reducible apply zz3);rfl;all_goals (intro h;try exact absurd h (by decide))))
 refine stop_val (.v (.bool false)) rfl rfl (fun a w hv=>run_nn (hv (.tmp 4) (.v .nilIface) rfl rfl rfl)) ?_
 simp only [WE,simprocAttr]
 refine hK' _ _ ?_
 clear hK' K'
 repeat' (first|(with_reducible apply zz1)|((with_reducible apply zz2);rfl;intro K' hK';simp only [WE,simprocAttr];(repeat (constructor;focus (clear hK';intros;simp_all;done)));(try (apply hK';clear hK' K')))|((with_reducible apply zz3);rfl;all_goals (intro h;try exact absurd h (by decide))))
 simp only [Kclo,US,WE,simprocAttr,h0]
set_option maxHeartbeats 32000000 in
set_option maxRecDepth 100000 in
theorem wclo_big (Γ : Gl) (t : Int) (s : ByteArray) (b : Nat) (L : List D) : CFn Tryd.prog Γ 48 wRefs .returning (wBox (.nil) 2 t s b L) .returning (wBox (.nil) 2 t s b L):=by
 refine cfn_of_swp (N:=9) Tryd.func48 rfl rfl rfl (v:=.nilIface) (fun c cs hc=>.inl ⟨by simp [recoverD,hc],rfl,rfl⟩) rfl (by decide) (by decide) (by decide) (fun C h0=>?_)
 simp only [argS]
 simp only [WE,simprocAttr]
 repeat' (first|(with_reducible apply zz1)|((with_reducible apply zz2);rfl;intro K' hK';simp only [WE,simprocAttr];(repeat (constructor;focus (clear hK';intros;simp_all;done)));(try (apply hK';clear hK' K')))|((with_reducible apply zz3);rfl;all_goals (intro h;try exact absurd h (by decide))))
 refine stop_val (.v (.bool false)) rfl rfl (fun a w hv=>run_nn (hv (.tmp 4) (.v .nilIface) rfl rfl rfl)) ?_
 simp only [WE,simprocAttr]
 refine hK' _ _ ?_
 clear hK' K'
 repeat' (first|(with_reducible apply zz1)|((with_reducible apply zz2);rfl;intro K' hK';simp only [WE,simprocAttr];(repeat (constructor;focus (clear hK';intros;simp_all;done)));(try (apply hK';clear hK' K')))|((with_reducible apply zz3);rfl;all_goals (intro h;try exact absurd h (by decide))))
 simp only [Kclo,US,WE,simprocAttr,h0]
set_option maxHeartbeats 32000000 in
set_option maxRecDepth 100000 in
theorem wclo_catch (Γ : Gl) (p c t : Int) (s : ByteArray) (b : Nat) (L : List D) : CFn Tryd.prog Γ 48 wRefs (.panicking [{ v:=stopW p,recovered:=false }]) (wBox (.own 3) c t s b L) (.panicking [{ v:=stopW p,recovered:=true }]) (wBox .nil 3 p s b L):=by
 refine cfn_of_swp (N:=9) Tryd.func48 rfl rfl rfl (v:=stopW p) (fun c cs hc=>.inr (by simp [recoverD,hc])) rfl (by decide) (by decide) (by decide) (fun C h0=>?_)
 simp only [argS]
 simp only [WE,simprocAttr]
 repeat' (first|(with_reducible apply zz1)|((with_reducible apply zz2);rfl;intro K' hK';simp only [WE,simprocAttr];(repeat (constructor;focus (clear hK';intros;simp_all;done)));(try (apply hK';clear hK' K')))|((with_reducible apply zz3);rfl;all_goals (intro h;try exact absurd h (by decide))))
 refine stop_val (.v (.bool true)) rfl rfl (fun a w hv=>run_hn (hv (.tmp 4) (.v (stopW p)) rfl rfl rfl)) ?_
 simp only [WE,simprocAttr]
 refine hK' _ _ ?_
 clear hK' K'
 repeat' (first|(with_reducible apply zz1)|((with_reducible apply zz2);rfl;intro K' hK';simp only [WE,simprocAttr];(repeat (constructor;focus (clear hK';intros;simp_all;done)));(try (apply hK';clear hK' K')))|((with_reducible apply zz3);rfl;all_goals (intro h;try exact absurd h (by decide))))
 refine swp_anyK (by kernel_rfl) (fun _ _ _ h=>h) (fun K' hK' hP' hE'=>?_)
 show Sany C _ 5 (Array.replicate 5 false) _ _ _
 refine any_move (i:=0) rfl (by kernel_rfl) (by kernel_rfl) (by kernel_rfl) rfl rfl hE' ?_
 simp only [WE,simprocAttr]
 refine any_all (rs:=[1,3]) (by kernel_rfl) (by simp) (fun i hi=>?_)
 simp only [List.mem_cons,List.not_mem_nil,or_false] at hi
 rcases hi with rfl | rfl
 · refine ⟨_,rfl,rfl,?_⟩
   refine aop_val (iD p) rfl rfl (fun a w hv=>run_taW (hv (.tmp 6) (.v (stopW p)) rfl rfl rfl)) ?_
   simp only [WE,simprocAttr]
   refine any_all (rs:=[2,3]) (by kernel_rfl) (by simp) (fun i hi=>?_)
   simp only [List.mem_cons,List.not_mem_nil,or_false] at hi
   rcases hi with rfl | rfl
   · refine ⟨_,rfl,rfl,?_⟩
     refine aop_step rfl rfl (by simp only [WE,simprocAttr];rfl) ?_ ?_
     · (repeat (refine And.intro ?_ ?_)) <;> first | trivial | (simp_all;done)
     simp only [WE,simprocAttr]
     refine any_all (rs:=[3]) (by kernel_rfl) (by simp) (fun i hi=>?_)
     simp only [List.mem_cons,List.not_mem_nil,or_false] at hi
     obtain rfl:=hi
     refine ⟨_,rfl,rfl,?_⟩
     refine aop_step rfl rfl (by simp only [WE,simprocAttr];rfl) ?_ ?_
     · (repeat (refine And.intro ?_ ?_)) <;> first | trivial | (simp_all;done)
     simp only [WE,simprocAttr]
     refine any_all (rs:=[4]) (by kernel_rfl) (by simp) (fun i hi=>?_)
     simp only [List.mem_cons,List.not_mem_nil,or_false] at hi
     obtain rfl:=hi
     refine ⟨_,rfl,rfl,?_⟩
     refine aop_step rfl rfl (by simp only [WE,simprocAttr];rfl) ?_ ?_
     · (repeat (refine And.intro ?_ ?_)) <;> first | trivial | (simp_all;done)
     simp only [WE,simprocAttr]
     refine any_done (by kernel_rfl) ?_
     refine hK' _ _ ?_
     clear hK' hP' hE' K'
     simp only [Kclo,US,WE,simprocAttr,h0]
   · refine ⟨_,rfl,rfl,?_⟩
     refine aop_step rfl rfl (by simp only [WE,simprocAttr];rfl) ?_ ?_
     · (repeat (refine And.intro ?_ ?_)) <;> first | trivial | (simp_all;done)
     simp only [WE,simprocAttr]
     refine any_all (rs:=[2]) (by kernel_rfl) (by simp) (fun i hi=>?_)
     simp only [List.mem_cons,List.not_mem_nil,or_false] at hi
     obtain rfl:=hi
     refine ⟨_,rfl,rfl,?_⟩
     refine aop_step rfl rfl (by simp only [WE,simprocAttr];rfl) ?_ ?_
     · (repeat (refine And.intro ?_ ?_)) <;> first | trivial | (simp_all;done)
     simp only [WE,simprocAttr]
     refine any_all (rs:=[4]) (by kernel_rfl) (by simp) (fun i hi=>?_)
     simp only [List.mem_cons,List.not_mem_nil,or_false] at hi
     obtain rfl:=hi
     refine ⟨_,rfl,rfl,?_⟩
     refine aop_step rfl rfl (by simp only [WE,simprocAttr];rfl) ?_ ?_
     · (repeat (refine And.intro ?_ ?_)) <;> first | trivial | (simp_all;done)
     simp only [WE,simprocAttr]
     refine any_done (by kernel_rfl) ?_
     refine hK' _ _ ?_
     clear hK' hP' hE' K'
     simp only [Kclo,US,WE,simprocAttr,h0]
 · refine ⟨_,rfl,rfl,?_⟩
   refine aop_step rfl rfl (by simp only [WE,simprocAttr];rfl) ?_ ?_
   · (repeat (refine And.intro ?_ ?_)) <;> first | trivial | (simp_all;done)
   simp only [WE,simprocAttr]
   refine any_all (rs:=[1]) (by kernel_rfl) (by simp) (fun i hi=>?_)
   simp only [List.mem_cons,List.not_mem_nil,or_false] at hi
   obtain rfl:=hi
   refine ⟨_,rfl,rfl,?_⟩
   refine aop_val (iD p) rfl rfl (fun a w hv=>run_taW (hv (.tmp 6) (.v (stopW p)) rfl rfl rfl)) ?_
   simp only [WE,simprocAttr]
   refine any_all (rs:=[2]) (by kernel_rfl) (by simp) (fun i hi=>?_)
   simp only [List.mem_cons,List.not_mem_nil,or_false] at hi
   obtain rfl:=hi
   refine ⟨_,rfl,rfl,?_⟩
   refine aop_step rfl rfl (by simp only [WE,simprocAttr];rfl) ?_ ?_
   · (repeat (refine And.intro ?_ ?_)) <;> first | trivial | (simp_all;done)
   simp only [WE,simprocAttr]
   refine any_all (rs:=[4]) (by kernel_rfl) (by simp) (fun i hi=>?_)
   simp only [List.mem_cons,List.not_mem_nil,or_false] at hi
   obtain rfl:=hi
   refine ⟨_,rfl,rfl,?_⟩
   refine aop_step rfl rfl (by simp only [WE,simprocAttr];rfl) ?_ ?_
   · (repeat (refine And.intro ?_ ?_)) <;> first | trivial | (simp_all;done)
   simp only [WE,simprocAttr]
   refine any_done (by kernel_rfl) ?_
   refine hK' _ _ ?_
   clear hK' hP' hE' K'
   simp only [Kclo,US,WE,simprocAttr,h0]
inductive RL where
 | ok (l : List Ev)
 | big (a : Nat)
 | bad (p : Nat)
def RLd : RL → D
 | .ok l=>.tup [.slc (l.map Ev.d),.agg [iD 0,iD 0]]
 | .big a=>.tup [.slc [],.agg [iD 2,iD (a : Nat)]]
 | .bad p=>.tup [.slc [],.agg [iD 3,iD (p : Nat)]]
inductive Reads (Γ : Gl) (s : ByteArray) : List Ev → Nat → RL → Prop
 | done (L : List Ev) (a : Nat) (h : ¬ a < s.size) : Reads Γ s L a (.ok L)
 | big (L : List Ev) (a : Nat) (h : a < s.size) (hl : L.length = 200) : Reads Γ s L a (.big a)
 | bad (L : List Ev) (a : Nat) (h : a < s.size) (hl : L.length ≠ 200) (p b : Nat) (hr : RdE Γ s a (.no p b)) : Reads Γ s L a (.bad p)
 | more (L : List Ev) (a : Nat) (h : a < s.size) (hl : L.length ≠ 200) (x : Ev) (b : Nat) (hab : a < b) (hb : b ≤ s.size) (hr : RdE Γ s a (.ok x b)) (R : RL) (ht : Reads Γ s (L ++ [x]) b R) : Reads Γ s L a R
theorem ev_d : ∀ x : Ev, ∃ a b c d e f g h i j,x.d = .agg [iD a,iD b,iD c,sD d,iD e,iD f,sD g,.slc h,.slc i,sD j]
 | ⟨kd,vs,vn,vS,.mk k so nm ls t,lab⟩=>⟨_,_,_,_,_,_,_,_,_,_,rfl⟩
theorem map_app (L : List Ev) (x : Ev) : (L ++ [x]).map Ev.d = L.map Ev.d ++ [x.d]:=by simp
set_option maxHeartbeats 32000000 in
set_option maxRecDepth 100000 in
theorem read_ok (Γ : Gl) (s : ByteArray) (hs : s.size ≤ 140737488355328) (l : List Ev) (hR : Reads Γ s [] 0 (RL.ok l)) : DFn Tryd.prog Γ 23 [sD s] (RLd (RL.ok l)):=by
 refine fn_of_defersW (N:=31) Tryd.func23 rfl (by decide) rfl rfl (by simp) (E:=[(0,.d (sD s)),(2,.ref 0 0),(3,.ref 1 0),(4,.ref 2 0)]) (S:=[(0,.cells [.nil]),(1,.cells [.d (iD 0),.d (iD 0)]),(2,.cells [.d (sD s),.d (iD 0)])]) (caps:=wRefs) (u:=stopW 0) (ts:=[(2,.ref 0 0),(3,.ref 1 0)])
  (by kernel_rfl) rfl (by decide) rfl rfl ⟨⟨_,rfl⟩,⟨_,rfl⟩,trivial⟩ (fun C h0 Q h=>raw_seq [(0,.d (sD s)),(2,.ref 0 0),(3,.ref 1 0)] [(0,.cells [.nil]),(1,.cells [.d (iD 0),.d (iD 0)])] ?_ (raw_seq [(0,.d (sD s)),(2,.ref 0 0),(3,.ref 1 0),(4,.ref 2 0)] [(0,.cells [.nil]),(1,.cells [.d (iD 0),.d (iD 0)]),(2,.cells [.d (sD s),.d (iD 0)])] ?_ h)) (fun C h0=>?_)
 · simp only [argE]
   repeat' (first|(with_reducible apply zz1)|((with_reducible apply zz2);rfl;intro K' hK';simp only [WE,simprocAttr];(repeat (constructor;focus (clear hK';intros;simp_all;done)));(try (apply hK';clear hK' K')))|((with_reducible apply zz3);rfl;all_goals (intro h;try exact absurd h (by decide))))
   refine ⟨rfl,?_⟩
   refine sub_of h0 ?_ ?_ ?_ <;> simp only [US,WE,simprocAttr,h0]
 · repeat' (first|(with_reducible apply zz1)|((with_reducible apply zz2);rfl;intro K' hK';simp only [WE,simprocAttr];(repeat (constructor;focus (clear hK';intros;simp_all;done)));(try (apply hK';clear hK' K')))|((with_reducible apply zz3);rfl;all_goals (intro h;try exact absurd h (by decide))))
   refine ⟨rfl,?_⟩
   refine sub_of h0 ?_ ?_ ?_ <;> simp only [US,WE,simprocAttr,h0]
 · repeat' (first|(with_reducible apply zz1)|((with_reducible apply zz2);rfl;intro K' hK';simp only [WE,simprocAttr];(repeat (constructor;focus (clear hK';intros;simp_all;done)));(try (apply hK';clear hK' K')))|((with_reducible apply zz3);rfl;all_goals (intro h;try exact absurd h (by decide))))
   refine swp_nilB 0 0 3 10 rfl rfl rfl (by decide) ?_
   simp only [WE,simprocAttr]
   refine swp_loop (α := List Ev × Nat) (fun p=>[(0,.d (sD s)),(2,.ref 0 0),(3,.ref 1 0),(4,.ref 2 0)]) (fun p=>wBox (.own 3) 0 0 s p.2 (p.1.map Ev.d))
    (fun p=>p.2 ≤ s.size ∧ p.1.length ≤ 200 ∧ Reads Γ s p.1 p.2 (RL.ok l)) (fun p=>s.size - p.2) ([],0) ⟨Nat.zero_le _,Nat.zero_le _,hR⟩ (by simp only [List.map_nil];refine sub_of h0 ?_ ?_ ?_ <;> simp only [US,WE,simprocAttr,h0,Int.natCast_zero]) (fun p hp=>?_)
   obtain ⟨L,a⟩:=p
   obtain ⟨ha,hL,hp⟩:=hp
   simp only at ha hL hp ⊢
   have m1 : (L.length + 1) * 136 ≤ 140737488355328:=by omega
   have m2 : L.length + 1 ≤ maxLen:=by unfold maxLen;omega
   clear hR
   generalize hE : RL.ok l = RE at hp
   cases hp with
   | done _ _ h =>
    cases hE
    have g1 : ¬ (a : Int) < (s.size : Int):=by omega
    repeat' (first|(with_reducible apply zz1)|((with_reducible apply zz2);rfl;intro K' hK';simp only [WE,simprocAttr,g1];(repeat (constructor;focus (clear hK';intros;simp_all;done)));(try (apply hK';clear hK' K')))|((with_reducible apply zz3);rfl;all_goals (intro h;try exact absurd h (by decide))))
    refine ⟨_,_,(fun β a w i=>⟨β,i⟩),?_⟩
    refine ⟨⟨⟨_,rfl⟩,⟨_,rfl⟩,trivial⟩,lk_two rfl rfl,_,(wclo_idle Γ _ _ _ _),⟨⟨_,rfl⟩,⟨_,rfl⟩,trivial⟩,?_⟩
    simp only [retL,retOne,oneV]
    simp only [WE,simprocAttr,RLd]
   | big _ _ h hl=>cases hE
   | bad _ _ h hl p b hr=>cases hE
   | more _ _ h hl x b hab hb hr _ ht =>
    subst hE
    have g1 : (a : Int) < (s.size : Int):=by omega
    have g6 : ((L.length : Int) == 200) = false:=by rw [beq_eq_false_iff_ne];omega
    have hds:=map_app L x
    obtain ⟨x1,x2,x3,x4,x5,x6,x7,x8,x9,x10,hx⟩:=ev_d x
    unfold RdE rBox at hr
    simp only at hr
    rw [hx] at hr hds
    have hr2 : SFn Tryd.prog Γ 49 [.ref 2 0] [(2,.cells [.d (sD s),.d (iD (a : Nat))])] (.d (.agg [iD x1,iD x2,iD x3,sD x4,iD x5,iD x6,sD x7,.slc x8,.slc x9,sD x10])) [(2,.cells [.d (sD s),.d (iD (b : Nat))])]:=hr.up 2
    repeat' (first|(with_reducible apply zz1)|((with_reducible apply zz2);rfl;intro K' hK';simp only [WE,simprocAttr,g1,g6,List.length_map];(repeat (constructor;focus (clear hK';intros;simp_all;done)));(try (apply hK';clear hK' K')))|((with_reducible apply zz3);rfl;all_goals (intro h;try exact absurd h (by decide))))
    (with_reducible refine swp_drawX ?_ ?_ ?_ (⟨⟨[],[]⟩,[(2,(2,([.d (sD s),.d (iD (b : Nat))],.agg [iD x1,iD x2,iD x3,sD x4,iD x5,iD x6,sD x7,.slc x8,.slc x9,sD x10])))],[],[],[]⟩) _ rfl (fun K' hK' gops fin hgops hfin=>?_)
     · kernel_rfl
     · rfl
     · rfl
     repeat' first
      | (refine vcX_dead rfl trivial (by simp only [WE,simprocAttr,UX,UA];rfl) (by simp only [List.nil_append,List.cons_append];rfl) (by simp only [zn2];rfl) ?_)
      | (refine vcX_step rfl rfl trivial (by simp only [WE,simprocAttr,UX,UA,hr2,List.length_map,m1,m2,one_max ];rfl) ?_ (by simp only [WE,simprocAttr,UX,UA];rfl) (by simp only [WE,simprocAttr,UX,UA];rfl) (by simp only [List.nil_append,List.cons_append];rfl) (by simp only [zn2];rfl) ?_;focus (first | trivial | ((repeat' constructor) <;> first | trivial | assumption | (clear hK' hfin hgops;intros;simp_all;done))))
     (refine vcX_nil (by subst hfin;kernel_rfl) ?_)
     clear hfin hgops fin gops
     (try (apply hK';clear hK' K')))
    repeat' (first|(with_reducible apply zz1)|((with_reducible apply zz2);rfl;intro K' hK';simp only [WE,simprocAttr];(repeat (constructor;focus (clear hK';intros;simp_all;done)));(try (apply hK';clear hK' K')))|((with_reducible apply zz3);rfl;all_goals (intro h;try exact absurd h (by decide))))
    refine ⟨(_,_),⟨hb,by simp only [List.length_append,List.length_cons,List.length_nil];omega,ht⟩,(by show s.size - b < s.size - a;omega),?_⟩
    simp only [hds]
    refine sub_of h0 ?_ ?_ ?_ <;> simp only [US,WE,simprocAttr,h0]
set_option maxHeartbeats 32000000 in
set_option maxRecDepth 100000 in
theorem read_big (Γ : Gl) (s : ByteArray) (hs : s.size ≤ 140737488355328) (z : Nat) (hR : Reads Γ s [] 0 (RL.big z)) : DFn Tryd.prog Γ 23 [sD s] (RLd (RL.big z)):=by
 refine fn_of_defersW (N:=31) Tryd.func23 rfl (by decide) rfl rfl (by simp) (E:=[(0,.d (sD s)),(2,.ref 0 0),(3,.ref 1 0),(4,.ref 2 0)]) (S:=[(0,.cells [.nil]),(1,.cells [.d (iD 0),.d (iD 0)]),(2,.cells [.d (sD s),.d (iD 0)])]) (caps:=wRefs) (u:=stopW 0) (ts:=[(2,.ref 0 0),(3,.ref 1 0)])
  (by kernel_rfl) rfl (by decide) rfl rfl ⟨⟨_,rfl⟩,⟨_,rfl⟩,trivial⟩ (fun C h0 Q h=>raw_seq [(0,.d (sD s)),(2,.ref 0 0),(3,.ref 1 0)] [(0,.cells [.nil]),(1,.cells [.d (iD 0),.d (iD 0)])] ?_ (raw_seq [(0,.d (sD s)),(2,.ref 0 0),(3,.ref 1 0),(4,.ref 2 0)] [(0,.cells [.nil]),(1,.cells [.d (iD 0),.d (iD 0)]),(2,.cells [.d (sD s),.d (iD 0)])] ?_ h)) (fun C h0=>?_)
 · simp only [argE]
   repeat' (first|(with_reducible apply zz1)|((with_reducible apply zz2);rfl;intro K' hK';simp only [WE,simprocAttr];(repeat (constructor;focus (clear hK';intros;simp_all;done)));(try (apply hK';clear hK' K')))|((with_reducible apply zz3);rfl;all_goals (intro h;try exact absurd h (by decide))))
   refine ⟨rfl,?_⟩
   refine sub_of h0 ?_ ?_ ?_ <;> simp only [US,WE,simprocAttr,h0]
 · repeat' (first|(with_reducible apply zz1)|((with_reducible apply zz2);rfl;intro K' hK';simp only [WE,simprocAttr];(repeat (constructor;focus (clear hK';intros;simp_all;done)));(try (apply hK';clear hK' K')))|((with_reducible apply zz3);rfl;all_goals (intro h;try exact absurd h (by decide))))
   refine ⟨rfl,?_⟩
   refine sub_of h0 ?_ ?_ ?_ <;> simp only [US,WE,simprocAttr,h0]
 · repeat' (first|(with_reducible apply zz1)|((with_reducible apply zz2);rfl;intro K' hK';simp only [WE,simprocAttr];(repeat (constructor;focus (clear hK';intros;simp_all;done)));(try (apply hK';clear hK' K')))|((with_reducible apply zz3);rfl;all_goals (intro h;try exact absurd h (by decide))))
   refine swp_nilB 0 0 3 10 rfl rfl rfl (by decide) ?_
   simp only [WE,simprocAttr]
   refine swp_loop (α := List Ev × Nat) (fun p=>[(0,.d (sD s)),(2,.ref 0 0),(3,.ref 1 0),(4,.ref 2 0)]) (fun p=>wBox (.own 3) 0 0 s p.2 (p.1.map Ev.d))
    (fun p=>p.2 ≤ s.size ∧ p.1.length ≤ 200 ∧ Reads Γ s p.1 p.2 (RL.big z)) (fun p=>s.size - p.2) ([],0) ⟨Nat.zero_le _,Nat.zero_le _,hR⟩ (by simp only [List.map_nil];refine sub_of h0 ?_ ?_ ?_ <;> simp only [US,WE,simprocAttr,h0,Int.natCast_zero]) (fun p hp=>?_)
   obtain ⟨L,a⟩:=p
   obtain ⟨ha,hL,hp⟩:=hp
   simp only at ha hL hp ⊢
   have m1 : (L.length + 1) * 136 ≤ 140737488355328:=by omega
   have m2 : L.length + 1 ≤ maxLen:=by unfold maxLen;omega
   clear hR
   generalize hE : RL.big z = RE at hp
   cases hp with
   | done _ _ h=>cases hE
   | bad _ _ h hl p b hr=>cases hE
   | big _ _ h hl =>
    cases hE
    have g1 : (z : Int) < (s.size : Int):=by omega
    have g6 : ((L.length : Int) == 200) = true:=by rw [hl];rfl
    repeat' (first|(with_reducible apply zz1)|((with_reducible apply zz2);rfl;intro K' hK';simp only [WE,simprocAttr,g1,g6,List.length_map];(repeat (constructor;focus (clear hK';intros;simp_all;done)));(try (apply hK';clear hK' K')))|((with_reducible apply zz3);rfl;all_goals (intro h;try exact absurd h (by decide))))
    (with_reducible refine swp_drawX ?_ ?_ ?_ (⟨⟨[],[]⟩,[],[],[],[]⟩) _ rfl (fun K' hK' gops fin hgops hfin=>?_)
     · kernel_rfl
     · rfl
     · rfl
     repeat' first
      | (refine vcX_dead rfl trivial (by simp only [WE,simprocAttr,UX,UA];rfl) (by simp only [List.nil_append,List.cons_append];rfl) (by simp only [zn2];rfl) ?_)
      | (refine vcX_step rfl rfl trivial (by simp only [WE,simprocAttr,UX,UA, ];rfl) ?_ (by simp only [WE,simprocAttr,UX,UA];rfl) (by simp only [WE,simprocAttr,UX,UA];rfl) (by simp only [List.nil_append,List.cons_append];rfl) (by simp only [zn2];rfl) ?_;focus (first | trivial | ((repeat' constructor) <;> first | trivial | assumption | (clear hK' hfin hgops;intros;simp_all;done))))
     (refine vcX_nil (by subst hfin;kernel_rfl) ?_)
     clear hfin hgops fin gops
     (try (apply hK';clear hK' K')))
    repeat' (first|(with_reducible apply zz1)|((with_reducible apply zz2);rfl;intro K' hK';simp only [WE,simprocAttr];(repeat (constructor;focus (clear hK';intros;simp_all;done)));(try (apply hK';clear hK' K')))|((with_reducible apply zz3);rfl;all_goals (intro h;try exact absurd h (by decide))))
    refine ⟨_,_,(fun β a w i=>⟨β,i⟩),?_⟩
    refine ⟨⟨⟨_,rfl⟩,⟨_,rfl⟩,trivial⟩,lk_two rfl rfl,_,(wclo_big Γ _ _ _ _),⟨⟨_,rfl⟩,⟨_,rfl⟩,trivial⟩,?_⟩
    simp only [retL,retOne,oneV]
    simp only [WE,simprocAttr,RLd]
   | more _ _ h hl x b hab hb hr _ ht =>
    subst hE
    have g1 : (a : Int) < (s.size : Int):=by omega
    have g6 : ((L.length : Int) == 200) = false:=by rw [beq_eq_false_iff_ne];omega
    have hds:=map_app L x
    obtain ⟨x1,x2,x3,x4,x5,x6,x7,x8,x9,x10,hx⟩:=ev_d x
    unfold RdE rBox at hr
    simp only at hr
    rw [hx] at hr hds
    have hr2 : SFn Tryd.prog Γ 49 [.ref 2 0] [(2,.cells [.d (sD s),.d (iD (a : Nat))])] (.d (.agg [iD x1,iD x2,iD x3,sD x4,iD x5,iD x6,sD x7,.slc x8,.slc x9,sD x10])) [(2,.cells [.d (sD s),.d (iD (b : Nat))])]:=hr.up 2
    repeat' (first|(with_reducible apply zz1)|((with_reducible apply zz2);rfl;intro K' hK';simp only [WE,simprocAttr,g1,g6,List.length_map];(repeat (constructor;focus (clear hK';intros;simp_all;done)));(try (apply hK';clear hK' K')))|((with_reducible apply zz3);rfl;all_goals (intro h;try exact absurd h (by decide))))
    (with_reducible refine swp_drawX ?_ ?_ ?_ (⟨⟨[],[]⟩,[(2,(2,([.d (sD s),.d (iD (b : Nat))],.agg [iD x1,iD x2,iD x3,sD x4,iD x5,iD x6,sD x7,.slc x8,.slc x9,sD x10])))],[],[],[]⟩) _ rfl (fun K' hK' gops fin hgops hfin=>?_)
     · kernel_rfl
     · rfl
     · rfl
     repeat' first
      | (refine vcX_dead rfl trivial (by simp only [WE,simprocAttr,UX,UA];rfl) (by simp only [List.nil_append,List.cons_append];rfl) (by simp only [zn2];rfl) ?_)
      | (refine vcX_step rfl rfl trivial (by simp only [WE,simprocAttr,UX,UA,hr2,List.length_map,m1,m2,one_max ];rfl) ?_ (by simp only [WE,simprocAttr,UX,UA];rfl) (by simp only [WE,simprocAttr,UX,UA];rfl) (by simp only [List.nil_append,List.cons_append];rfl) (by simp only [zn2];rfl) ?_;focus (first | trivial | ((repeat' constructor) <;> first | trivial | assumption | (clear hK' hfin hgops;intros;simp_all;done))))
     (refine vcX_nil (by subst hfin;kernel_rfl) ?_)
     clear hfin hgops fin gops
     (try (apply hK';clear hK' K')))
    repeat' (first|(with_reducible apply zz1)|((with_reducible apply zz2);rfl;intro K' hK';simp only [WE,simprocAttr];(repeat (constructor;focus (clear hK';intros;simp_all;done)));(try (apply hK';clear hK' K')))|((with_reducible apply zz3);rfl;all_goals (intro h;try exact absurd h (by decide))))
    refine ⟨(_,_),⟨hb,by simp only [List.length_append,List.length_cons,List.length_nil];omega,ht⟩,(by show s.size - b < s.size - a;omega),?_⟩
    simp only [hds]
    refine sub_of h0 ?_ ?_ ?_ <;> simp only [US,WE,simprocAttr,h0]
set_option maxHeartbeats 32000000 in
set_option maxRecDepth 100000 in
theorem read_bad (Γ : Gl) (s : ByteArray) (hs : s.size ≤ 140737488355328) (z : Nat) (hR : Reads Γ s [] 0 (RL.bad z)) : DFn Tryd.prog Γ 23 [sD s] (RLd (RL.bad z)):=by
 refine fn_of_defersW (N:=31) Tryd.func23 rfl (by decide) rfl rfl (by simp) (E:=[(0,.d (sD s)),(2,.ref 0 0),(3,.ref 1 0),(4,.ref 2 0)]) (S:=[(0,.cells [.nil]),(1,.cells [.d (iD 0),.d (iD 0)]),(2,.cells [.d (sD s),.d (iD 0)])]) (caps:=wRefs) (u:=stopW (z : Nat)) (ts:=[(2,.ref 0 0),(3,.ref 1 0)])
  (by kernel_rfl) rfl (by decide) rfl rfl ⟨⟨_,rfl⟩,⟨_,rfl⟩,trivial⟩ (fun C h0 Q h=>raw_seq [(0,.d (sD s)),(2,.ref 0 0),(3,.ref 1 0)] [(0,.cells [.nil]),(1,.cells [.d (iD 0),.d (iD 0)])] ?_ (raw_seq [(0,.d (sD s)),(2,.ref 0 0),(3,.ref 1 0),(4,.ref 2 0)] [(0,.cells [.nil]),(1,.cells [.d (iD 0),.d (iD 0)]),(2,.cells [.d (sD s),.d (iD 0)])] ?_ h)) (fun C h0=>?_)
 · simp only [argE]
   repeat' (first|(with_reducible apply zz1)|((with_reducible apply zz2);rfl;intro K' hK';simp only [WE,simprocAttr];(repeat (constructor;focus (clear hK';intros;simp_all;done)));(try (apply hK';clear hK' K')))|((with_reducible apply zz3);rfl;all_goals (intro h;try exact absurd h (by decide))))
   refine ⟨rfl,?_⟩
   refine sub_of h0 ?_ ?_ ?_ <;> simp only [US,WE,simprocAttr,h0]
 · repeat' (first|(with_reducible apply zz1)|((with_reducible apply zz2);rfl;intro K' hK';simp only [WE,simprocAttr];(repeat (constructor;focus (clear hK';intros;simp_all;done)));(try (apply hK';clear hK' K')))|((with_reducible apply zz3);rfl;all_goals (intro h;try exact absurd h (by decide))))
   refine ⟨rfl,?_⟩
   refine sub_of h0 ?_ ?_ ?_ <;> simp only [US,WE,simprocAttr,h0]
 · repeat' (first|(with_reducible apply zz1)|((with_reducible apply zz2);rfl;intro K' hK';simp only [WE,simprocAttr];(repeat (constructor;focus (clear hK';intros;simp_all;done)));(try (apply hK';clear hK' K')))|((with_reducible apply zz3);rfl;all_goals (intro h;try exact absurd h (by decide))))
   refine swp_nilB 0 0 3 10 rfl rfl rfl (by decide) ?_
   simp only [WE,simprocAttr]
   refine swp_loop (α := List Ev × Nat) (fun p=>[(0,.d (sD s)),(2,.ref 0 0),(3,.ref 1 0),(4,.ref 2 0)]) (fun p=>wBox (.own 3) 0 0 s p.2 (p.1.map Ev.d))
    (fun p=>p.2 ≤ s.size ∧ p.1.length ≤ 200 ∧ Reads Γ s p.1 p.2 (RL.bad z)) (fun p=>s.size - p.2) ([],0) ⟨Nat.zero_le _,Nat.zero_le _,hR⟩ (by simp only [List.map_nil];refine sub_of h0 ?_ ?_ ?_ <;> simp only [US,WE,simprocAttr,h0,Int.natCast_zero]) (fun p hp=>?_)
   obtain ⟨L,a⟩:=p
   obtain ⟨ha,hL,hp⟩:=hp
   simp only at ha hL hp ⊢
   have m1 : (L.length + 1) * 136 ≤ 140737488355328:=by omega
   have m2 : L.length + 1 ≤ maxLen:=by unfold maxLen;omega
   clear hR
   generalize hE : RL.bad z = RE at hp
   cases hp with
   | done _ _ h=>cases hE
   | big _ _ h hl=>cases hE
   | bad _ _ h hl p b hr =>
    cases hE
    have g1 : (a : Int) < (s.size : Int):=by omega
    have g6 : ((L.length : Int) == 200) = false:=by rw [beq_eq_false_iff_ne];omega
    unfold RdE rBox at hr
    simp only at hr
    have hr2 : XFn Tryd.prog Γ 49 [.ref 2 0] [(2,.cells [.d (sD s),.d (iD (a : Nat))])] (stopW (z : Nat)) [(2,.cells [.d (sD s),.d (iD (b : Nat))])]:=hr.up 2
    repeat' (first|(with_reducible apply zz1)|((with_reducible apply zz2);rfl;intro K' hK';simp only [WE,simprocAttr,g1,g6,List.length_map];(repeat (constructor;focus (clear hK';intros;simp_all;done)));(try (apply hK';clear hK' K')))|((with_reducible apply zz3);rfl;all_goals (intro h;try exact absurd h (by decide))))
    (with_reducible refine swp_drawPE ?_ ?_ ?_ (⟨⟨[],[]⟩,[],[],[],[]⟩) _ rfl [2,3] [0,1,3] 2 2 ([.d (sD s),.d (iD (b : Nat))]) (stopW (z : Nat)) [2,3,4,5] rfl rfl ?_ (fun K' hK' gops fin hgops hfin=>?_)
     · kernel_rfl
     · rfl
     · rfl
     · kernel_rfl
     repeat' first
      | (refine vcX_dead rfl trivial (by simp only [WE,simprocAttr,UX,UA];rfl) (by simp only [List.nil_append,List.cons_append];rfl) (by simp only [zn2];rfl) ?_)
      | (refine vcX_step rfl rfl trivial (by simp only [WE,simprocAttr,UX,UA,hr2,List.length_map,m1,m2,one_max];rfl) ?_ (by simp only [WE,simprocAttr,UX,UA];rfl) (by simp only [WE,simprocAttr,UX,UA];rfl) (by simp only [List.nil_append,List.cons_append];rfl) (by simp only [zn2];rfl) ?_;focus (first | trivial | ((repeat' constructor) <;> first | trivial | assumption | (clear hK' hfin hgops;intros;simp_all;done))))
      | (refine vcX_dead rfl (by (simp only [WE,simprocAttr,UX,UA,hr2,List.length_map,m1,m2,one_max]) <;> (first | trivial | ((repeat' constructor) <;> first | trivial | assumption | (clear hK' hfin hgops;intros;simp_all;done)))) (by simp only [WE,simprocAttr,UX,UA];rfl) (by simp only [List.nil_append,List.cons_append];rfl) (by simp only [zn2];rfl) ?_)
     (refine vcX_nil (by subst hfin;kernel_rfl) (fun e' s' hts hbs=>?_))
     clear hfin hgops fin gops
     clear hK' K')
    repeat (first | refine kseq_p ?_ | refine kblk_p ?_ | refine kloop_p ?_)
    have k2 : lk 2 e' = some (.ref 0 0):=hts 2 (by decide)
    have k3 : lk 3 e' = some (.ref 1 0):=hts 3 (by decide)
    have b0:=hbs 0 (by decide)
    have b1:=hbs 1 (by decide)
    have b3:=hbs 3 (by decide)
    have c0 : lk 0 (put 2 (Box.cells [.d (sD s),.d (iD (b : Nat))]) s') = some (.cells [.own 3]):=by rw [lk_put_ne _ (by decide),b0];rfl
    have c1 : lk 1 (put 2 (Box.cells [.d (sD s),.d (iD (b : Nat))]) s') = some (.cells [.d (iD 0),.d (iD 0)]):=by rw [lk_put_ne _ (by decide),b1];rfl
    have c2 : lk 2 (put 2 (Box.cells [.d (sD s),.d (iD (b : Nat))]) s') = some (.cells [.d (sD s),.d (iD (b : Nat))]):=lk_put_same _ _ _
    have c3 : lk 3 (put 2 (Box.cells [.d (sD s),.d (iD (b : Nat))]) s') = some (.row 10 (L.map Ev.d)):=by rw [lk_put_ne _ (by decide),b3];rfl
    generalize put 2 (Box.cells [.d (sD s),.d (iD (b : Nat))]) s' = S4 at *
    clear b0 b1 b3 hbs hts
    refine ⟨[(2,.ref 0 0),(3,.ref 1 0)],wBox (.own 3) 0 0 s b (L.map Ev.d),?_,rfl,⟨⟨_,rfl⟩,⟨_,rfl⟩,trivial⟩,lk_two rfl rfl,_,(wclo_catch Γ _ _ _ _ _ _),⟨⟨_,rfl⟩,⟨_,rfl⟩,trivial⟩,?_⟩
    · refine sub_of h0 ?_ ?_ ?_ <;> simp only [US,WE,simprocAttr,h0,k2,k3,c0,c1,c2,c3]
    simp only [retL,retOne,oneV]
    simp only [WE,simprocAttr,RLd]
   | more _ _ h hl x b hab hb hr _ ht =>
    subst hE
    have g1 : (a : Int) < (s.size : Int):=by omega
    have g6 : ((L.length : Int) == 200) = false:=by rw [beq_eq_false_iff_ne];omega
    have hds:=map_app L x
    obtain ⟨x1,x2,x3,x4,x5,x6,x7,x8,x9,x10,hx⟩:=ev_d x
    unfold RdE rBox at hr
    simp only at hr
    rw [hx] at hr hds
    have hr2 : SFn Tryd.prog Γ 49 [.ref 2 0] [(2,.cells [.d (sD s),.d (iD (a : Nat))])] (.d (.agg [iD x1,iD x2,iD x3,sD x4,iD x5,iD x6,sD x7,.slc x8,.slc x9,sD x10])) [(2,.cells [.d (sD s),.d (iD (b : Nat))])]:=hr.up 2
    repeat' (first|(with_reducible apply zz1)|((with_reducible apply zz2);rfl;intro K' hK';simp only [WE,simprocAttr,g1,g6,List.length_map];(repeat (constructor;focus (clear hK';intros;simp_all;done)));(try (apply hK';clear hK' K')))|((with_reducible apply zz3);rfl;all_goals (intro h;try exact absurd h (by decide))))
    (with_reducible refine swp_drawX ?_ ?_ ?_ (⟨⟨[],[]⟩,[(2,(2,([.d (sD s),.d (iD (b : Nat))],.agg [iD x1,iD x2,iD x3,sD x4,iD x5,iD x6,sD x7,.slc x8,.slc x9,sD x10])))],[],[],[]⟩) _ rfl (fun K' hK' gops fin hgops hfin=>?_)
     · kernel_rfl
     · rfl
     · rfl
     repeat' first
      | (refine vcX_dead rfl trivial (by simp only [WE,simprocAttr,UX,UA];rfl) (by simp only [List.nil_append,List.cons_append];rfl) (by simp only [zn2];rfl) ?_)
      | (refine vcX_step rfl rfl trivial (by simp only [WE,simprocAttr,UX,UA,hr2,List.length_map,m1,m2,one_max ];rfl) ?_ (by simp only [WE,simprocAttr,UX,UA];rfl) (by simp only [WE,simprocAttr,UX,UA];rfl) (by simp only [List.nil_append,List.cons_append];rfl) (by simp only [zn2];rfl) ?_;focus (first | trivial | ((repeat' constructor) <;> first | trivial | assumption | (clear hK' hfin hgops;intros;simp_all;done))))
     (refine vcX_nil (by subst hfin;kernel_rfl) ?_)
     clear hfin hgops fin gops
     (try (apply hK';clear hK' K')))
    repeat' (first|(with_reducible apply zz1)|((with_reducible apply zz2);rfl;intro K' hK';simp only [WE,simprocAttr];(repeat (constructor;focus (clear hK';intros;simp_all;done)));(try (apply hK';clear hK' K')))|((with_reducible apply zz3);rfl;all_goals (intro h;try exact absurd h (by decide))))
    refine ⟨(_,_),⟨hb,by simp only [List.length_append,List.length_cons,List.length_nil];omega,ht⟩,(by show s.size - b < s.size - a;omega),?_⟩
    simp only [hds]
    refine sub_of h0 ?_ ?_ ?_ <;> simp only [US,WE,simprocAttr,h0]
theorem Read_fn (Γ : Gl) (s : ByteArray) (hs : s.size ≤ 140737488355328) (R : RL) (hR : Reads Γ s [] 0 R) : DFn Tryd.prog Γ 23 [sD s] (RLd R):=by
 cases R with
 | ok l=>exact read_ok Γ s hs l hR
 | big z=>exact read_big Γ s hs z hR
 | bad z=>exact read_bad Γ s hs z hR
end Go.Proofs.YtdcplkefmpjppaaDoor.GG
