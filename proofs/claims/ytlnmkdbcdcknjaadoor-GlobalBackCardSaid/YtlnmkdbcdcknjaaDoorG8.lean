/- slices.Equal, duetlaw.Same of texts; a conversation is the same as itself; a symbolic walk. -/
-- TYPESA
import Derived.Test.YtlnmkdbcdcknjaaDoorGP
import Derived.Test.YtlnmkdbcdcknjaaDoorSwD
set_option linter.unusedVariables false
set_option linter.unusedSimpArgs false
namespace Go.Proofs.YtlnmkdbcdcknjaaDoor.GG
open Go.RowKit Go.Sw
open Go.Sw renaming swp_seq → zw0

def eqS : List ByteArray → List ByteArray → Bool
 | [],[]=>true
 | x :: a,y :: b=>if x.toList = y.toList then eqS a b else false
 | _,_=>false
theorem eqS_len : ∀ {a b : List ByteArray},a.length ≠ b.length → eqS a b = false
 | [],[],h=>absurd rfl h
 | [],_ :: _,_=>rfl
 | _ :: _,[],_=>rfl
 | x :: a,y :: b,h=>by
  unfold eqS
  rw [eqS_len (a:=a) (b:=b) (fun e=>h (by simp [e]))]
  simp
theorem toList_inj {x y : ByteArray} (h : x.toList = y.toList) : x = y:=by
 rw [Lib.toList_data,Lib.toList_data] at h
 obtain ⟨x⟩:=x
 obtain ⟨y⟩:=y
 rw [show x = y from Array.toList_inj.1 h]
theorem eqS_iff : ∀ {a b : List ByteArray},eqS a b = true ↔ a = b
 | [],[]=>by simp [eqS]
 | [],_ :: _=>by simp [eqS]
 | _ :: _,[]=>by simp [eqS]
 | x :: a,y :: b=>by
  unfold eqS
  by_cases h : x.toList = y.toList
  · rw [if_pos h,eqS_iff,toList_inj h];simp
  · rw [if_neg h]
    constructor
    · intro h;cases h
    · intro e
      rw [List.cons.injEq] at e
      exact absurd (congrArg ByteArray.toList e.1) h

set_option maxHeartbeats 4000000 in
set_option maxRecDepth 100000 in
theorem equalS_fn (Γ : Gl) (a b : List ByteArray) (hl : a.length ≤ 140737488355328) : DFn Tryd.prog Γ 25 [.slc (a.map sD),.slc (b.map sD)] (.v (.bool (eqS a b))):=by
 by_cases hlen : a.length = b.length
 · have g1 : ((a.length : Int) != (b.length : Int)) = false:=by rw [hlen];simp
   refine fn_of_swp (N:=26) Tryd.func25 rfl (by decide) rfl rfl (by simp) (fun C h0=>?_)
   simp only [argE]
   repeat' (first|(with_reducible apply zz1)|((with_reducible apply zz2);rfl;intro K' hK';simp only [WA,simprocAttr,List.length_map,g1];(repeat (constructor;focus (clear hK';intros;simp_all;done)));(try (apply hK';clear hK' K')))|((with_reducible apply zz3);rfl;all_goals (intro h;try exact absurd h (by decide))))
   refine swp_loop (α := Nat) (fun j=>[(0,.d (.slc (a.map sD))),(1,.d (.slc (b.map sD))),(12,.d (iD a.length)),(13,.d (iD j))]) (fun _=>[])
    (fun j=>j ≤ a.length ∧ eqS a b = eqS (a.drop j) (b.drop j)) (fun j=>a.length - j) 0 ⟨Nat.zero_le _,rfl⟩ (by refine sub_of h0 ?_ ?_ ?_ <;> simp only [US,WA,simprocAttr,List.length_map]) (fun j hj=>?_)
   obtain ⟨hj,hq⟩:=hj
   have hb0 : (0 : Int) ≤ (j : Int):=by omega
   by_cases hlt : j < a.length
   · obtain ⟨x,hx⟩ : ∃ x,a[j]? = some x:=⟨a[j],by simp [hlt]⟩
     obtain ⟨y,hy⟩ : ∃ y,b[j]? = some y:=⟨b[j]'(by omega),by simp⟩
     have hgx : (a.map sD).getD j default = sD x:=by simp [List.getD,hx]
     have hgy : (b.map sD).getD j default = sD y:=by simp [List.getD,hy]
     have hd1 : a.drop j = x :: a.drop (j + 1):=by
      obtain ⟨h1,h2⟩:=List.getElem?_eq_some_iff.1 hx
      rw [List.drop_eq_getElem_cons h1,h2]
     have hd2 : b.drop j = y :: b.drop (j + 1):=by
      obtain ⟨h1,h2⟩:=List.getElem?_eq_some_iff.1 hy
      rw [List.drop_eq_getElem_cons h1,h2]
     rw [hd1,hd2,eqS] at hq
     have hb1 : (j : Int) < (a.length : Int):=by omega
     have hb2 : (j : Int) < (b.length : Int):=by omega
     have hw3 : IntKind.i64.wrap ((j : Int) + 1) = ((j + 1 : Nat) : Int):=by rw [wrap_in (by omega) (by omega)];omega
     by_cases he : x.toList = y.toList
     · rw [if_pos he] at hq
       have he2 : (x.toList == y.toList) = true:=by simpa using he
       repeat' (first|(with_reducible apply zz1)|((with_reducible apply zz2);rfl;intro K' hK';simp only [WA,simprocAttr,Int.toNat_natCast,hgx,hgy,List.length_map,hb0,hb1,hb2];(repeat (constructor;focus (clear hK';intros;simp_all;done)));(try (apply hK';clear hK' K')))|((with_reducible apply zz3);rfl;all_goals (intro h;try exact absurd h (by decide))))
       (with_reducible refine swp_draw ?_ ?_ ?_ ([]) (fun K' hK'=>?_)
        · kernel_rfl
        · rfl
        · rfl
        simp only [WA,simprocAttr,UG,Int.toNat_natCast,hgx,hgy,List.length_map,hb0,hb1,hb2,he2,Bool.not_true]
        (try (apply hK';clear hK' K')))
       repeat' (first|(with_reducible apply zz1)|((with_reducible apply zz2);rfl;intro K' hK';simp only [WA,simprocAttr,hw3];(repeat (constructor;focus (clear hK';intros;simp_all;done)));(try (apply hK';clear hK' K')))|((with_reducible apply zz3);rfl;all_goals (intro h;try exact absurd h (by decide))))
       refine ⟨j + 1,⟨(by show j + 1 ≤ a.length;omega),hq⟩,(by show a.length - (j + 1) < a.length - j;omega),by refine sub_of h0 ?_ ?_ ?_ <;> simp only [US,WA,simprocAttr]⟩
     · rw [if_neg he] at hq
       rw [hq]
       have he2 : (x.toList == y.toList) = false:=by simpa using he
       repeat' (first|(with_reducible apply zz1)|((with_reducible apply zz2);rfl;intro K' hK';simp only [WA,simprocAttr,Int.toNat_natCast,hgx,hgy,List.length_map,hb0,hb1,hb2];(repeat (constructor;focus (clear hK';intros;simp_all;done)));(try (apply hK';clear hK' K')))|((with_reducible apply zz3);rfl;all_goals (intro h;try exact absurd h (by decide))))
       (with_reducible refine swp_draw ?_ ?_ ?_ ([]) (fun K' hK'=>?_)
        · kernel_rfl
        · rfl
        · rfl
        simp only [WA,simprocAttr,UG,Int.toNat_natCast,hgx,hgy,List.length_map,hb0,hb1,hb2,he2,Bool.not_false]
        (try (apply hK';clear hK' K')))
       repeat' (first|(with_reducible apply zz1)|((with_reducible apply zz2);rfl;intro K' hK';simp only [WA,simprocAttr];(repeat (constructor;focus (clear hK';intros;simp_all;done)));(try (apply hK';clear hK' K')))|((with_reducible apply zz3);rfl;all_goals (intro h;try exact absurd h (by decide))))
       simp only [Kret,retL,retOne,oneV,WA,simprocAttr]
   · have hb1 : ¬ (j : Int) < (a.length : Int):=by omega
     rw [List.drop_of_length_le (by omega),List.drop_of_length_le (by omega),eqS] at hq
     rw [hq]
     repeat' (first|(with_reducible apply zz1)|((with_reducible apply zz2);rfl;intro K' hK';simp only [WA,simprocAttr,hb1];(repeat (constructor;focus (clear hK';intros;simp_all;done)));(try (apply hK';clear hK' K')))|((with_reducible apply zz3);rfl;all_goals (intro h;try exact absurd h (by decide))))
     simp only [Kret,retL,retOne,oneV,WA,simprocAttr]
 · have g1 : ((a.length : Int) != (b.length : Int)) = true:=by simpa using (by omega : (a.length : Int) ≠ (b.length : Int))
   rw [eqS_len hlen]
   refine fn_of_swp (N:=26) Tryd.func25 rfl (by decide) rfl rfl (by simp) (fun C h0=>?_)
   simp only [argE]
   repeat' (first|(with_reducible apply zz1)|((with_reducible apply zz2);rfl;intro K' hK';simp only [WA,simprocAttr,List.length_map,g1];(repeat (constructor;focus (clear hK';intros;simp_all;done)));(try (apply hK';clear hK' K')))|((with_reducible apply zz3);rfl;all_goals (intro h;try exact absurd h (by decide))))
   simp only [Kret,retL,retOne,oneV,WA,simprocAttr]

set_option maxHeartbeats 16000000 in
set_option maxRecDepth 100000 in
theorem sameG_step (Γ : Gl) (k : Int) (fr to : ByteArray) (so : Int) (nm : ByteArray) (ls : List ByteArray) (l : List Gt) (h6 : ls.length ≤ 60) (hl6 : l.length ≤ 60) (ih : ∀ x ∈ l,DFn Tryd.prog Γ 9 [x.d,x.d] (.v (.bool true))) : DFn Tryd.prog Γ 9 [(Gt.mk k fr to so nm ls l).d,(Gt.mk k fr to so nm ls l).d] (.v (.bool true)):=by
 have hll:=Gt.ds_len l
 have heq:=equalS_fn Γ ls ls (by omega)
 rw [eqS_iff.2 rfl] at heq
 simp only [Gt.d]
 refine fn_of_swp (N:=75) Tryd.func9 rfl (by decide) rfl rfl (by simp) (fun C h0=>?_)
 simp only [argE]
 refine zw0 ?_
 (with_reducible refine swp_region ?_ (fun K' hK'=>?_)
  · rfl
  simp only [WA,simprocAttr]
  (repeat (constructor;focus (clear hK';intros;simp_all;done))))
 refine hK' _ _ ?_
 clear hK' K'
 refine kseq_n ?_
 refine zw0 ?_
 refine zw0 ?_
 (with_reducible refine swp_regionA ?_ ( [(38,.v (.bool true))]) (fun K' hK'=>?_)
  · rfl
  simp only [WA,simprocAttr,UG,heq,hll,List.length_map,bne_self_eq_false,beq_self_eq_true,Bool.not_true,Bool.not_false,cond_true,cond_false ]
  (repeat (constructor;focus (clear hK';intros;simp_all;done)))
  (try (apply hK';clear hK' K')))
 repeat' (first|(with_reducible apply zz1)|((with_reducible apply zz2);rfl;intro K' hK';simp only [WA,simprocAttr,hll];(repeat (constructor;focus (clear hK';intros;simp_all;done)));(try (apply hK';clear hK' K')))|((with_reducible apply zz3);rfl;all_goals (intro h;try exact absurd h (by decide))))
 refine swp_loop (α := Nat) (fun j=>[(2,.ref 0 0),(3,.ref 1 0),(5,.d (iD j))]) (fun _=>[(0,.cells [.d (iD k),.d (sD fr),.d (sD to),.d (iD so),.d (sD nm),.d (.slc (ls.map sD)),.d (.slc (Gt.ds l))]),(1,.cells [.d (iD k),.d (sD fr),.d (sD to),.d (iD so),.d (sD nm),.d (.slc (ls.map sD)),.d (.slc (Gt.ds l))])])
  (fun j=>j ≤ l.length) (fun j=>l.length - j) 0 (Nat.zero_le _) (by refine sub_of h0 ?_ ?_ ?_ <;> simp only [US,WA,simprocAttr]) (fun j hj=>?_)
 have hj : j ≤ l.length:=hj
 have hb0 : (0 : Int) ≤ (j : Int):=by omega
 by_cases hlt : j < l.length
 · obtain ⟨x,hx⟩ : ∃ x,l[j]? = some x:=⟨l[j],by simp [hlt]⟩
   have hcall:=ih x (List.mem_of_getElem? hx)
   have hget:=Gt.ds_get l j x hx
   have hb1 : (j : Int) < (l.length : Int):=by omega
   have hw3 : IntKind.i64.wrap ((j : Int) + 1) = ((j + 1 : Nat) : Int):=by rw [wrap_in (by omega) (by omega)];omega
   obtain ⟨k',fr',to',so',nm',ls',l'⟩:=x
   simp only [Gt.d] at hget hcall
   repeat' (first|(with_reducible apply zz1)|((with_reducible apply zz2);rfl;intro K' hK';simp only [WA,simprocAttr,hll,hb1];(repeat (constructor;focus (clear hK';intros;simp_all;done)));(try (apply hK';clear hK' K')))|((with_reducible apply zz3);rfl;all_goals (intro h;try exact absurd h (by decide))))
   (with_reducible refine swp_draw ?_ ?_ ?_ ( [(10,.v (.bool true))]) (fun K' hK'=>?_)
    · kernel_rfl
    · rfl
    · rfl
    simp only [WA,simprocAttr,UG,Int.toNat_natCast,hget,hll,hb0,hb1,hcall,Bool.not_true ]
    (try (apply hK';clear hK' K')))
   repeat' (first|(with_reducible apply zz1)|((with_reducible apply zz2);rfl;intro K' hK';simp only [WA,simprocAttr,hw3];(repeat (constructor;focus (clear hK';intros;simp_all;done)));(try (apply hK';clear hK' K')))|((with_reducible apply zz3);rfl;all_goals (intro h;try exact absurd h (by decide))))
   refine ⟨j + 1,(by show j + 1 ≤ l.length;omega),(by show l.length - (j + 1) < l.length - j;omega),by refine sub_of h0 ?_ ?_ ?_ <;> simp only [US,WA,simprocAttr]⟩
 · have hb1 : ¬ (j : Int) < (l.length : Int):=by omega
   repeat' (first|(with_reducible apply zz1)|((with_reducible apply zz2);rfl;intro K' hK';simp only [WA,simprocAttr,hll,hb1];(repeat (constructor;focus (clear hK';intros;simp_all;done)));(try (apply hK';clear hK' K')))|((with_reducible apply zz3);rfl;all_goals (intro h;try exact absurd h (by decide))))
   simp only [Kret,retL,retOne,oneV,WA,simprocAttr]
theorem sameG_self (Γ : Gl) {x : Gt} (h : OkG x) : DFn Tryd.prog Γ 9 [x.d,x.d] (.v (.bool true)):=by
 induction h with
 | nil=>exact sameG_step Γ _ _ _ _ _ _ _ (by simp) (by simp) (fun x hx=>by cases hx)
 | send fr to so x hr h1 h3 hx ih=>exact sameG_step Γ _ _ _ _ _ _ _ (by simp) (by simp) (fun y hy=>by rw [show y = x by simpa using hy];exact ih)
 | pick fr to ls l hr hl hn h ih =>
  have h6:=labels_len hl
  exact sameG_step Γ _ _ _ _ _ _ _ (by omega) (by omega) ih
 | bind nm x hn hx ih=>exact sameG_step Γ _ _ _ _ _ _ _ (by simp) (by simp) (fun y hy=>by rw [show y = x by simpa using hy];exact ih)
 | var nm hn=>exact sameG_step Γ _ _ _ _ _ _ _ (by simp) (by simp) (fun x hx=>by cases hx)
end Go.Proofs.YtlnmkdbcdcknjaaDoor.GG
