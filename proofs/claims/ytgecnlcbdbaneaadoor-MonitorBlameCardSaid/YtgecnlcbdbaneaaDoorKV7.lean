/- monitor's Take, State, Next; a symbolic walk. -/
import Derived.Test.YtgecnlcbdbaneaaDoorKV6
import Derived.Test.YtgecnlcbdbaneaaDoorKV1
-- TYPESE
set_option linter.unusedVariables false
set_option linter.unusedSimpArgs false
namespace Go.Proofs.YtgecnlcbdbaneaaDoor
open Go.RowKit Go.Sw
open Nat renaming reduceAdd → zn2

structure Mo where
 a : Int
 vd : Int
 dn : Int
def Mo.c (g : List Nd) (m : Mo) : List SV:=monC g m.a m.vd m.dn
def lookS (g : List Nd) (m : Mo) (kd vs : Int) (c : Tp) (lab : ByteArray) : Mo :=
 if 0 ≤ nxtM g (gAt g m.a) kd vs c lab then ⟨nxtM g (gAt g m.a) kd vs c lab,0,m.dn + 1⟩ else ⟨m.a,if mineB kd = true then 1 else 2,m.dn⟩
def takeS (g : List Nd) (m : Mo) (r kd vs : Int) (c : Tp) (lab : ByteArray) : Mo:=if r ≠ 0 then m else if m.vd = 0 then lookS g m kd vs c lab else m
structure MoOK (g : List Nd) (m : Mo) : Prop where
 a : 0 ≤ m.a ∧ m.a < (g.length : Int)
 d : 0 ≤ m.dn ∧ m.dn < 4611686018427387904
set_option maxHeartbeats 8000000 in
set_option maxRecDepth 100000 in
theorem take_fn (Γ : Gl) {g : List Nd} (Hg : Gd g) (hl : g.length ≤ 199) {m : Mo} (hm : MoOK g m) (kd vs vn : Int) (vS : ByteArray) (c : Tp) (lab : ByteArray) {r : Int} (hev : EvFn Γ kd vs vn vS c lab r)
 (hr : r = 0 → (kd = 2 ∨ kd = 3 ∨ kd = 4 ∨ kd = 5 ∨ kd = 6 ∨ kd = 7) ∧ (kd = 4 ∨ kd = 5 → tCheck c = 0)) :
 SFn Tryd.prog Γ 36 [.ref 0 0,.d (evD kd vs vn vS c lab)] [(0,.cells (m.c g))] (.tup [.d (iD (if r ≠ 0 then 0 else (takeS g m r kd vs c lab).vd)),.d (iD r)]) [(0,.cells ((takeS g m r kd vs c lab).c g))]:=by
 have hlk : r = 0 → m.vd = 0 → SFn Tryd.prog Γ 70 [.ref 0 0,.d (evD kd vs vn vS c lab)] [(0,.cells (monC g m.a 0 m.dn))] (.tup []) [(0,.cells ((lookS g m kd vs c lab).c g))]:=fun h1 h2=>by
  have:=look_fn Γ Hg hl hm.a hm.d kd vs vn vS c lab (hr h1).1 (hr h1).2
  unfold lookS Mo.c
  split
  · rename_i h;rw [if_pos h] at this;exact this
  · rename_i h;rw [if_neg h] at this;exact this
 unfold takeS
 generalize lookS g m kd vs c lab = m2 at *
 unfold EvFn at hev
 obtain ⟨a,vd,dn⟩:=m
 obtain ⟨a2,v2,d2⟩:=m2
 obtain ⟨k,so,nm,ls,l⟩:=c
 simp only [Mo.c,monC] at hlk ⊢
 unfold evD at hev hlk ⊢
 simp only at hev hlk ⊢
 by_cases hr0 : r = 0
 rotate_left
 · have g1 : (r != 0) = true:=by simpa using hr0
   rw [if_pos hr0,if_pos hr0]
   refine sfn_of_swp (N:=24) Tryd.func36 rfl (by decide) rfl rfl (by simp) (fun C h0=>?_)
   simp only [argS]
   repeat' (first|(with_reducible apply zz1)|((with_reducible apply zz2);rfl;intro K' hK';simp only [WE,simprocAttr];(repeat (constructor;focus (clear hK';intros;simp_all;done)));(try (apply hK';clear hK' K')))|((with_reducible apply zz3);rfl;all_goals (intro h;try exact absurd h (by decide))))
   refine stop_callF rfl (by simp only [WE,simprocAttr]) rfl rfl (hev) ?_
   simp only [WE,simprocAttr,inX,dropS, ]
   (repeat (constructor;focus (clear hK';intros;simp_all;done)))
   (try (apply hK';clear hK' K'))
   repeat' (first|(with_reducible apply zz1)|((with_reducible apply zz2);rfl;intro K' hK';simp only [WE,simprocAttr,g1];(repeat (constructor;focus (clear hK';intros;simp_all;done)));(try (apply hK';clear hK' K')))|((with_reducible apply zz3);rfl;all_goals (intro h;try exact absurd h (by decide))))
   simp only [KretS,retL,retOne,oneV,US,WE,simprocAttr,h0]
 have hlk1:=hlk hr0
 subst hr0
 rw [if_neg (by decide),if_neg (by decide)]
 by_cases hv : vd = 0
 · subst hv
   have hlk2:=hlk1 rfl
   rw [if_pos rfl]
   refine sfn_of_swp (N:=24) Tryd.func36 rfl (by decide) rfl rfl (by simp) (fun C h0=>?_)
   simp only [argS]
   repeat' (first|(with_reducible apply zz1)|((with_reducible apply zz2);rfl;intro K' hK';simp only [WE,simprocAttr];(repeat (constructor;focus (clear hK';intros;simp_all;done)));(try (apply hK';clear hK' K')))|((with_reducible apply zz3);rfl;all_goals (intro h;try exact absurd h (by decide))))
   refine stop_callF rfl (by simp only [WE,simprocAttr]) rfl rfl (hev) ?_
   simp only [WE,simprocAttr,inX,dropS,bne_self_eq_false]
   (repeat (constructor;focus (clear hK';intros;simp_all;done)))
   (try (apply hK';clear hK' K'))
   repeat' (first|(with_reducible apply zz1)|((with_reducible apply zz2);rfl;intro K' hK';simp only [WE,simprocAttr,bne_self_eq_false,beq_self_eq_true];(repeat (constructor;focus (clear hK';intros;simp_all;done)));(try (apply hK';clear hK' K')))|((with_reducible apply zz3);rfl;all_goals (intro h;try exact absurd h (by decide))))
   refine stop_cS rfl (by simp only [UA,WE,simprocAttr]) (hlk2) ?_
   simp only [WE,simprocAttr,UM, ]
   (try (apply hK';clear hK' K'))
   repeat' (first|(with_reducible apply zz1)|((with_reducible apply zz2);rfl;intro K' hK';simp only [WE,simprocAttr];(repeat (constructor;focus (clear hK';intros;simp_all;done)));(try (apply hK';clear hK' K')))|((with_reducible apply zz3);rfl;all_goals (intro h;try exact absurd h (by decide))))
   simp only [KretS,retL,retOne,oneV,US,WE,simprocAttr,h0]
 · have g1 : (vd == 0) = false:=by simpa using hv
   rw [if_neg hv]
   refine sfn_of_swp (N:=24) Tryd.func36 rfl (by decide) rfl rfl (by simp) (fun C h0=>?_)
   simp only [argS]
   repeat' (first|(with_reducible apply zz1)|((with_reducible apply zz2);rfl;intro K' hK';simp only [WE,simprocAttr];(repeat (constructor;focus (clear hK';intros;simp_all;done)));(try (apply hK';clear hK' K')))|((with_reducible apply zz3);rfl;all_goals (intro h;try exact absurd h (by decide))))
   refine stop_callF rfl (by simp only [WE,simprocAttr]) rfl rfl (hev) ?_
   simp only [WE,simprocAttr,inX,dropS,bne_self_eq_false]
   (repeat (constructor;focus (clear hK';intros;simp_all;done)))
   (try (apply hK';clear hK' K'))
   repeat' (first|(with_reducible apply zz1)|((with_reducible apply zz2);rfl;intro K' hK';simp only [WE,simprocAttr,g1,bne_self_eq_false];(repeat (constructor;focus (clear hK';intros;simp_all;done)));(try (apply hK';clear hK' K')))|((with_reducible apply zz3);rfl;all_goals (intro h;try exact absurd h (by decide))))
   simp only [KretS,retL,retOne,oneV,US,WE,simprocAttr,h0]
set_option maxHeartbeats 8000000 in
set_option maxRecDepth 100000 in
theorem state_fn (Γ : Gl) {g : List Nd} (Hg : Gd g) {m : Mo} (hm : MoOK g m) :
 SFn Tryd.prog Γ 29 [.ref 0 0] [(0,.cells (m.c g))] (.tup [.d (iD m.dn),.d (iD m.vd),.d (bD (m.vd == 0 && (gAt g m.a).k == 1))]) [(0,.cells (m.c g))]:=by
 have a0:=hm.a.1
 have a1:=hm.a.2
 have hga:=gAt_d a0 a1
 obtain ⟨a,vd,dn⟩:=m
 simp only [Mo.c,monC] at *
 generalize gAt g a = X at *
 obtain ⟨xk,xso,xls,xto⟩:=X
 simp only [Nd.d] at hga ⊢
 by_cases hv : vd = 0
 · subst hv
   have e : ((0 : Int) == 0 && xk == 1) = (xk == 1):=by simp
   rw [e]
   refine sfn_of_swp (N:=32) Tryd.func29 rfl (by decide) rfl rfl (by simp) (fun C h0=>?_)
   simp only [argS]
   repeat' (first|(with_reducible apply zz1)|((with_reducible apply zz2);rfl;intro K' hK';simp only [WE,simprocAttr];(repeat (constructor;focus (clear hK';intros;simp_all;done)));(try (apply hK';clear hK' K')))|((with_reducible apply zz3);rfl;all_goals (intro h;try exact absurd h (by decide))))
   (with_reducible refine swp_drawX ?_ ?_ ?_ (⟨⟨[],[]⟩,[],[],[],[]⟩) _ rfl (fun K' hK' gops fin hgops hfin=>?_)
    · kernel_rfl
    · rfl
    · rfl
    repeat' first
     | (refine vcX_dead rfl trivial (by simp only [WE,simprocAttr,UX,UA];rfl) (by simp only [List.nil_append,List.cons_append];rfl) (by simp only [zn2];rfl) ?_)
     | (refine vcX_step rfl rfl trivial (by simp only [WE,simprocAttr,UX,UA,hga,a0,a1,List.length_map,beq_self_eq_true ];rfl) ?_ (by simp only [WE,simprocAttr,UX,UA];rfl) (by simp only [WE,simprocAttr,UX,UA];rfl) (by simp only [List.nil_append,List.cons_append];rfl) (by simp only [zn2];rfl) ?_;focus (first | trivial | ((repeat' apply And.intro) <;> first | trivial | assumption | (clear hK' hfin hgops;intros;simp_all;done))))
     | (refine vcX_stepG (g:=true) rfl rfl trivial (by rw [hgops];rfl) (by simp only [WE,simprocAttr,UX,UA,hga,a0,a1,List.length_map,beq_self_eq_true ];rfl) ?_ (by simp only [WE,simprocAttr,UX,UA];rfl) (by simp only [WE,simprocAttr,UX,UA];rfl) (by simp only [List.nil_append,List.cons_append];rfl) (by simp only [zn2];rfl) ?_;focus (first | trivial | ((repeat' apply And.intro) <;> first | trivial | assumption | (clear hK' hfin hgops;intros;simp_all;done))))
     | (refine vcX_stepG (g:=false) rfl rfl trivial (by rw [hgops];rfl) (by simp only [WE,simprocAttr,UX,UA,hga,a0,a1,List.length_map,beq_self_eq_true ];rfl) ?_ (by simp only [WE,simprocAttr,UX,UA];rfl) (by simp only [WE,simprocAttr,UX,UA];rfl) (by simp only [List.nil_append,List.cons_append];rfl) (by simp only [zn2];rfl) ?_;focus (first | trivial | ((repeat' apply And.intro) <;> first | trivial | assumption | (clear hK' hfin hgops;intros;simp_all;done))))
    (refine vcX_nil (by subst hfin;kernel_rfl) ?_)
    clear hfin hgops fin gops
    (try (apply hK';clear hK' K')))
   repeat' (first|(with_reducible apply zz1)|((with_reducible apply zz2);rfl;intro K' hK';simp only [WE,simprocAttr];(repeat (constructor;focus (clear hK';intros;simp_all;done)));(try (apply hK';clear hK' K')))|((with_reducible apply zz3);rfl;all_goals (intro h;try exact absurd h (by decide))))
   simp only [KretS,retL,retOne,oneV,US,WE,simprocAttr,h0]
 · have g1 : (vd == 0) = false:=by simpa using hv
   have e : (vd == 0 && xk == 1) = false:=by rw [g1];rfl
   rw [e]
   refine sfn_of_swp (N:=32) Tryd.func29 rfl (by decide) rfl rfl (by simp) (fun C h0=>?_)
   simp only [argS]
   repeat' (first|(with_reducible apply zz1)|((with_reducible apply zz2);rfl;intro K' hK';simp only [WE,simprocAttr];(repeat (constructor;focus (clear hK';intros;simp_all;done)));(try (apply hK';clear hK' K')))|((with_reducible apply zz3);rfl;all_goals (intro h;try exact absurd h (by decide))))
   (with_reducible refine swp_drawX ?_ ?_ ?_ (⟨⟨[],[]⟩,[],[],[],[]⟩) _ rfl (fun K' hK' gops fin hgops hfin=>?_)
    · kernel_rfl
    · rfl
    · rfl
    repeat' first
     | (refine vcX_dead rfl trivial (by simp only [WE,simprocAttr,UX,UA];rfl) (by simp only [List.nil_append,List.cons_append];rfl) (by simp only [zn2];rfl) ?_)
     | (refine vcX_step rfl rfl trivial (by simp only [WE,simprocAttr,UX,UA,hga,a0,a1,g1,List.length_map ];rfl) ?_ (by simp only [WE,simprocAttr,UX,UA];rfl) (by simp only [WE,simprocAttr,UX,UA];rfl) (by simp only [List.nil_append,List.cons_append];rfl) (by simp only [zn2];rfl) ?_;focus (first | trivial | ((repeat' apply And.intro) <;> first | trivial | assumption | (clear hK' hfin hgops;intros;simp_all;done))))
     | (refine vcX_stepG (g:=true) rfl rfl trivial (by rw [hgops];rfl) (by simp only [WE,simprocAttr,UX,UA,hga,a0,a1,g1,List.length_map ];rfl) ?_ (by simp only [WE,simprocAttr,UX,UA];rfl) (by simp only [WE,simprocAttr,UX,UA];rfl) (by simp only [List.nil_append,List.cons_append];rfl) (by simp only [zn2];rfl) ?_;focus (first | trivial | ((repeat' apply And.intro) <;> first | trivial | assumption | (clear hK' hfin hgops;intros;simp_all;done))))
     | (refine vcX_stepG (g:=false) rfl rfl trivial (by rw [hgops];rfl) (by simp only [WE,simprocAttr,UX,UA,hga,a0,a1,g1,List.length_map ];rfl) ?_ (by simp only [WE,simprocAttr,UX,UA];rfl) (by simp only [WE,simprocAttr,UX,UA];rfl) (by simp only [List.nil_append,List.cons_append];rfl) (by simp only [zn2];rfl) ?_;focus (first | trivial | ((repeat' apply And.intro) <;> first | trivial | assumption | (clear hK' hfin hgops;intros;simp_all;done))))
    (refine vcX_nil (by subst hfin;kernel_rfl) ?_)
    clear hfin hgops fin gops
    (try (apply hK';clear hK' K')))
   repeat' (first|(with_reducible apply zz1)|((with_reducible apply zz2);rfl;intro K' hK';simp only [WE,simprocAttr];(repeat (constructor;focus (clear hK';intros;simp_all;done)));(try (apply hK';clear hK' K')))|((with_reducible apply zz3);rfl;all_goals (intro h;try exact absurd h (by decide))))
   simp only [KretS,retL,retOne,oneV,US,WE,simprocAttr,h0]
set_option maxHeartbeats 8000000 in
set_option maxRecDepth 100000 in
theorem next_fnM (Γ : Gl) {g : List Nd} (Hg : Gd g) {m : Mo} (hm : MoOK g m) (hv : m.vd = 0) :
 SFn Tryd.prog Γ 32 [.ref 0 0] [(0,.cells (m.c g))] (.d (iD (gAt g m.a).k)) [(0,.cells (m.c g))]:=by
 have a0:=hm.a.1
 have a1:=hm.a.2
 have hga:=gAt_d a0 a1
 obtain ⟨a,vd,dn⟩:=m
 simp only at hv
 subst hv
 simp only [Mo.c,monC] at *
 generalize gAt g a = X at *
 obtain ⟨xk,xso,xls,xto⟩:=X
 simp only [Nd.d] at hga ⊢
 refine sfn_of_swp (N:=19) Tryd.func32 rfl (by decide) rfl rfl (by simp) (fun C h0=>?_)
 simp only [argS]
 repeat' (first|(with_reducible apply zz1)|((with_reducible apply zz2);rfl;intro K' hK';simp only [WE,simprocAttr,bne_self_eq_false];(repeat (constructor;focus (clear hK';intros;simp_all;done)));(try (apply hK';clear hK' K')))|((with_reducible apply zz3);rfl;all_goals (intro h;try exact absurd h (by decide))))
 (with_reducible refine swp_drawX ?_ ?_ ?_ (⟨⟨[],[]⟩,[],[],[],[]⟩) _ rfl (fun K' hK' gops fin hgops hfin=>?_)
  · kernel_rfl
  · rfl
  · rfl
  repeat' first
   | (refine vcX_dead rfl trivial (by simp only [WE,simprocAttr,UX,UA];rfl) (by simp only [List.nil_append,List.cons_append];rfl) (by simp only [zn2];rfl) ?_)
   | (refine vcX_step rfl rfl trivial (by simp only [WE,simprocAttr,UX,UA,hga,a0,a1,List.length_map ];rfl) ?_ (by simp only [WE,simprocAttr,UX,UA];rfl) (by simp only [WE,simprocAttr,UX,UA];rfl) (by simp only [List.nil_append,List.cons_append];rfl) (by simp only [zn2];rfl) ?_;focus (first | trivial | ((repeat' apply And.intro) <;> first | trivial | assumption | (clear hK' hfin hgops;intros;simp_all;done))))
  (refine vcX_nil (by subst hfin;kernel_rfl) ?_)
  clear hfin hgops fin gops
  (try (apply hK';clear hK' K')))
 repeat' (first|(with_reducible apply zz1)|((with_reducible apply zz2);rfl;intro K' hK';simp only [WE,simprocAttr];(repeat (constructor;focus (clear hK';intros;simp_all;done)));(try (apply hK';clear hK' K')))|((with_reducible apply zz3);rfl;all_goals (intro h;try exact absurd h (by decide))))
 simp only [KretS,retL,retOne,oneV,US,WE,simprocAttr,h0]
end Go.Proofs.YtgecnlcbdbaneaaDoor
/- Two monitors, one at each end: plain. -/
namespace Go.Proofs.YtgecnlcbdbaneaaDoor
open Go.RowKit Go.Sw

def Mir (g h : List Nd) (a b : Int) : Prop := ∀ n,obs h n b = dT n (obs g n a)
section
variable {g h : List Nd} {a b : Int}
theorem getD_map {α β : Type} {l : List α} (f : α → β) {i : Nat} (hi : i < l.length) (d : α) (e : β) : (l.map f).getD i e = f (l.getD i d):=by
 simp [List.getD,hi]
end
structure MirM (g h : List Nd) (j : Nat) (m n : Mo) : Prop where
 ra : 0 ≤ m.a ∧ m.a < (g.length : Int)
 rb : 0 ≤ n.a ∧ n.a < (h.length : Int)
 d0 : 0 ≤ m.dn ∧ m.dn ≤ (j : Int)
 de : n.dn = m.dn
 v : (m.vd = 0 ∧ n.vd = 0 ∧ Mir g h m.a n.a) ∨ (m.vd = 1 ∧ n.vd = 2) ∨ (m.vd = 2 ∧ n.vd = 1)
theorem MirM.ok {g h : List Nd} {j : Nat} {m n : Mo} (M : MirM g h j m n) (hj : (j : Int) < 4611686018427387904) : MoOK g m ∧ MoOK h n :=
 ⟨⟨M.ra,by have:=M.d0;omega⟩,⟨M.rb,by have:=M.d0;have:=M.de;omega⟩⟩
end Go.Proofs.YtgecnlcbdbaneaaDoor
