/- types.Size; a type is the same as itself; a symbolic walk. -/
-- TYPESA
import Derived.Test.YtdcplkefmpjppaaDoorDT7
set_option linter.unusedVariables false
set_option linter.unusedSimpArgs false
namespace Go.Proofs.YtdcplkefmpjppaaDoor.GG
open Go.RowKit Go.Sw

set_option maxHeartbeats 16000000 in
set_option maxRecDepth 100000 in
theorem same_step (Γ : Gl) (k so : Int) (nm : ByteArray) (ls : List ByteArray) (l : List Tp) (h6 : ls.length ≤ 60) (hl6 : l.length ≤ 60) (ih : ∀ x ∈ l,DFn Tryd.prog Γ 50 [x.d,x.d] (.v (.bool true))) : DFn Tryd.prog Γ 50 [(Tp.mk k so nm ls l).d,(Tp.mk k so nm ls l).d] (.v (.bool true)):=by
 have hll:=Tp.ds_len l
 simp only [Tp.d]
 refine fn_of_swp (N:=81) Tryd.func50 rfl (by decide) rfl rfl (by simp) (fun C h0=>?_)
 simp only [argE]
 repeat' (first|(with_reducible apply zz1)|((with_reducible apply zz2);rfl;intro K' hK';simp only [WA,simprocAttr,List.length_map,hll,bne_self_eq_false,Bool.not_true,Bool.not_false,cond_true,cond_false];(repeat (constructor;focus (clear hK';intros;simp_all;done)));(try (apply hK';clear hK' K')))|((with_reducible apply zz3);rfl;all_goals (intro h;try exact absurd h (by decide))))
 refine swp_loop (α := Nat) (fun j=>[(2,.ref 0 0),(3,.ref 1 0),(5,.d (iD j))]) (fun _=>[(0,.cells [.d (iD k),.d (iD so),.d (sD nm),.d (.slc (ls.map sD)),.d (.slc (Tp.ds l))]),(1,.cells [.d (iD k),.d (iD so),.d (sD nm),.d (.slc (ls.map sD)),.d (.slc (Tp.ds l))])])
  (fun j=>j ≤ ls.length) (fun j=>ls.length - j) 0 (Nat.zero_le _) (by refine sub_of h0 ?_ ?_ ?_ <;> simp only [US,WA,simprocAttr]) (fun j hj=>?_)
 have hj : j ≤ ls.length:=hj
 have hb0 : (0 : Int) ≤ (j : Int):=by omega
 by_cases hlt : j < ls.length
 · obtain ⟨b,hx⟩ : ∃ x,ls[j]? = some x:=⟨ls[j],by simp [hlt]⟩
   have hget : (ls.map sD).getD j default = sD b:=by simp [List.getD,hx]
   have hb1 : (j : Int) < (ls.length : Int):=by omega
   have hw3 : IntKind.i64.wrap ((j : Int) + 1) = ((j + 1 : Nat) : Int):=by rw [wrap_in (by omega) (by omega)];omega
   repeat' (first|(with_reducible apply zz1)|((with_reducible apply zz2);rfl;intro K' hK';simp only [WA,simprocAttr,List.length_map,hb1];(repeat (constructor;focus (clear hK';intros;simp_all;done)));(try (apply hK';clear hK' K')))|((with_reducible apply zz3);rfl;all_goals (intro h;try exact absurd h (by decide))))
   (with_reducible refine swp_draw ?_ ?_ ?_ ([]) (fun K' hK'=>?_)
    · kernel_rfl
    · rfl
    · rfl
    simp only [WA,simprocAttr,UG,Int.toNat_natCast,hget,List.length_map,hb0,hb1,Bool.not_true]
    (try (apply hK';clear hK' K')))
   repeat' (first|(with_reducible apply zz1)|((with_reducible apply zz2);rfl;intro K' hK';simp only [WA,simprocAttr,hw3];(repeat (constructor;focus (clear hK';intros;simp_all;done)));(try (apply hK';clear hK' K')))|((with_reducible apply zz3);rfl;all_goals (intro h;try exact absurd h (by decide))))
   refine ⟨j + 1,(by show j + 1 ≤ ls.length;omega),(by show ls.length - (j + 1) < ls.length - j;omega),by refine sub_of h0 ?_ ?_ ?_ <;> simp only [US,WA,simprocAttr]⟩
 have hb1 : ¬ (j : Int) < (ls.length : Int):=by omega
 repeat' (first|(with_reducible apply zz1)|((with_reducible apply zz2);rfl;intro K' hK';simp only [WA,simprocAttr,List.length_map,hb1];(repeat (constructor;focus (clear hK';intros;simp_all;done)));(try (apply hK';clear hK' K')))|((with_reducible apply zz3);rfl;all_goals (intro h;try exact absurd h (by decide))))
 refine swp_loop (α := Nat) (fun j=>[(2,.ref 0 0),(3,.ref 1 0),(6,.d (iD j))]) (fun _=>[(0,.cells [.d (iD k),.d (iD so),.d (sD nm),.d (.slc (ls.map sD)),.d (.slc (Tp.ds l))]),(1,.cells [.d (iD k),.d (iD so),.d (sD nm),.d (.slc (ls.map sD)),.d (.slc (Tp.ds l))])])
  (fun j=>j ≤ l.length) (fun j=>l.length - j) 0 (Nat.zero_le _) (by refine sub_of h0 ?_ ?_ ?_ <;> simp only [US,WA,simprocAttr]) (fun j hj=>?_)
 have hj : j ≤ l.length:=hj
 have hb0 : (0 : Int) ≤ (j : Int):=by omega
 by_cases hlt : j < l.length
 · obtain ⟨x,hx⟩ : ∃ x,l[j]? = some x:=⟨l[j],by simp [hlt]⟩
   have hcall:=ih x (List.mem_of_getElem? hx)
   have hget:=Tp.ds_get l j x hx
   have hb1 : (j : Int) < (l.length : Int):=by omega
   have hw3 : IntKind.i64.wrap ((j : Int) + 1) = ((j + 1 : Nat) : Int):=by rw [wrap_in (by omega) (by omega)];omega
   obtain ⟨k',so',nm',ls',l'⟩:=x
   simp only [Tp.d] at hget hcall
   repeat' (first|(with_reducible apply zz1)|((with_reducible apply zz2);rfl;intro K' hK';simp only [WA,simprocAttr,hll,hb1];(repeat (constructor;focus (clear hK';intros;simp_all;done)));(try (apply hK';clear hK' K')))|((with_reducible apply zz3);rfl;all_goals (intro h;try exact absurd h (by decide))))
   (with_reducible refine swp_draw ?_ ?_ ?_ ( [(10,.v (.bool true))]) (fun K' hK'=>?_)
    · kernel_rfl
    · rfl
    · rfl
    simp only [WA,simprocAttr,UG,Int.toNat_natCast,hget,hll,hb0,hb1,hcall,Bool.not_true ]
    (try (apply hK';clear hK' K')))
   repeat' (first|(with_reducible apply zz1)|((with_reducible apply zz2);rfl;intro K' hK';simp only [WA,simprocAttr,hw3];(repeat (constructor;focus (clear hK';intros;simp_all;done)));(try (apply hK';clear hK' K')))|((with_reducible apply zz3);rfl;all_goals (intro h;try exact absurd h (by decide))))
   refine ⟨j + 1,(by show j + 1 ≤ l.length;omega),(by show l.length - (j + 1) < l.length - j;omega),by refine sub_of h0 ?_ ?_ ?_ <;> simp only [US,WA,simprocAttr]⟩
 · have hb1 : ¬ (j : Int) < (l.length : Int):=by omega
   repeat' (first|(with_reducible apply zz1)|((with_reducible apply zz2);rfl;intro K' hK';simp only [WA,simprocAttr,hll,hb1];(repeat (constructor;focus (clear hK';intros;simp_all;done)));(try (apply hK';clear hK' K')))|((with_reducible apply zz3);rfl;all_goals (intro h;try exact absurd h (by decide))))
   simp only [Kret,retL,retOne,oneV,WA,simprocAttr]
theorem same_self (Γ : Gl) {x : Tp} (h : OkT x) : DFn Tryd.prog Γ 50 [x.d,x.d] (.v (.bool true)):=by
 induction h with
 | nil=>exact same_step Γ _ _ _ _ _ (by simp) (by simp) (fun x hx=>by cases hx)
 | pass k so x hk h1 h3 hx ih=>exact same_step Γ _ _ _ _ _ (by simp) (by simp) (fun y hy=>by rw [show y = x by simpa using hy];exact ih)
 | give k x y hk hx hy ihx ihy =>
  refine same_step Γ _ _ _ _ _ (by simp) (by simp) (fun z hz2=>?_)
  rcases List.mem_cons.1 hz2 with rfl | hz2
  · exact ihx
  · obtain rfl : z = y:=by simpa using hz2
    exact ihy
 | pick k ls l hk hl hn h ih =>
  have h6:=labels_len hl
  exact same_step Γ _ _ _ _ _ (by omega) (by omega) ih
 | bind nm x hn hx ih=>exact same_step Γ _ _ _ _ _ (by simp) (by simp) (fun y hy=>by rw [show y = x by simpa using hy];exact ih)
 | var nm hn=>exact same_step Γ _ _ _ _ _ (by simp) (by simp) (fun x hx=>by cases hx)
end Go.Proofs.YtdcplkefmpjppaaDoor.GG
