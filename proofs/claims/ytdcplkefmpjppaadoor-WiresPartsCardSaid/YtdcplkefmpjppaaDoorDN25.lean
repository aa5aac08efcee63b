/- The law WiresParts (printed by mkn23.py). -/
-- TYPESE
import Derived.Test.YtdcplkefmpjppaaDoorDN23
set_option linter.unusedVariables false
set_option linter.unusedSimpArgs false
namespace Go.Proofs.YtdcplkefmpjppaaDoor.GG
open Go.RowKit Go.Sw

def pickI (k n : Int) : Int:=(if k < 0 then -(k + 1) else k).tmod n
set_option maxHeartbeats 4000000 in
set_option maxRecDepth 100000 in
theorem pick_fn (Γ : Gl) (k n : Int) (h1 : -9223372036854775808 ≤ k) (h2 : k < 9223372036854775808) (hn : 0 < n) : DFn Tryd.prog Γ 21 [iD k,iD n] (iD (pickI k n)):=by
 have hz : n ≠ 0:=by omega
 unfold pickI
 by_cases h : k < 0
 · have w1 : IntKind.i64.wrap (k + 1) = k + 1:=wrap_in (by omega) (by omega)
   have w2 : IntKind.i64.wrap (0 - (k + 1)) = -(k + 1):=by rw [wrap_in (by omega) (by omega)];omega
   rw [if_pos h]
   refine fn_of_swp (N:=13) Tryd.func21 rfl (by decide) rfl rfl (by simp) (fun C h0=>?_)
   simp only [argE]
   repeat' (first|(with_reducible apply zz1)|((with_reducible apply zz2);rfl;intro K' hK';simp only [WE,simprocAttr,h,w1,w2,hz];(repeat (constructor;focus (clear hK';intros;simp_all;done)));(try (apply hK';clear hK' K')))|((with_reducible apply zz3);rfl;all_goals (intro h;try exact absurd h (by decide))))
   simp only [Kret,retL,retOne,oneV,WE,simprocAttr]
 · rw [if_neg h]
   refine fn_of_swp (N:=13) Tryd.func21 rfl (by decide) rfl rfl (by simp) (fun C h0=>?_)
   simp only [argE]
   repeat' (first|(with_reducible apply zz1)|((with_reducible apply zz2);rfl;intro K' hK';simp only [WE,simprocAttr,h,hz];(repeat (constructor;focus (clear hK';intros;simp_all;done)));(try (apply hK';clear hK' K')))|((with_reducible apply zz3);rfl;all_goals (intro h;try exact absurd h (by decide))))
   simp only [Kret,retL,retOne,oneV,WE,simprocAttr]
theorem pickI_rng {k n : Int} (hn : 0 < n) : 0 ≤ pickI k n ∧ pickI k n < n:=by
 unfold pickI
 split
 · exact ⟨Int.tmod_nonneg _ (by omega),Int.tmod_lt_of_pos _ hn⟩
 · exact ⟨Int.tmod_nonneg _ (by omega),Int.tmod_lt_of_pos _ hn⟩
theorem cut_of (Γ : Gl) {f : ByteArray → Bool} (hf : VSok Γ f) (hG : GD Tryd.prog Γ 1 22 (.slc (sortsL.map sD))) (l : List Ev) (hr : ∀ x ∈ l,Rng x) (h200 : l.length ≤ 200) (hc : ∀ x ∈ l,evChk f x = 0) (t : ByteArray) (ht : t.data.toList = encs l) (hz : t.size ≤ 800000) (k : Nat) (hk : k < t.size) :
 (∃ p : Nat,p ≤ k ∧ DFn Tryd.prog Γ 23 [sD (t.extract 0 k)] (.tup [.slc [],.agg [iD 3,iD (p : Nat)]])) ∨
 (∃ i : Nat,i < l.length ∧ DFn Tryd.prog Γ 23 [sD (t.extract 0 k)] (.tup [.slc (((l.take i).map bareE).map Ev.d),.agg [iD 0,iD 0]])):=by
 have e1:=ext_list t 0 k (by omega)
 rw [Nat.zero_add,List.drop_zero] at e1
 have e2 : (t.extract 0 k).size = k:=by
  have h1:=congrArg List.length e1
  have h2 : (t.extract 0 k).data.toList.length = (t.extract 0 k).size:=by simp
  have h3 : t.data.toList.length = t.size:=by simp
  rw [List.length_take,h2,h3] at h1
  omega
 obtain ⟨R,hR,hres⟩:=reads_cut Γ hf hG (t.extract 0 k) (by omega) l (fun x hx=>⟨hc x hx,hr x hx⟩) [] 0 (t.data.toList.drop k) (Nat.zero_le _) (by simpa using h200)
  (fun h=>by
   have h1:=drop_len t k
   rw [h] at h1
   simp at h1
   omega) (by rw [List.drop_zero,e1,List.take_append_drop];exact ht)
 have h:=Read_fn Γ _ (by omega) R hR
 rcases hres with ⟨p,rfl,hp⟩ | ⟨i,hi,rfl⟩
 · exact .inl ⟨p,by omega,h⟩
 · exact .inr ⟨i,hi,h⟩
set_option maxHeartbeats 64000000 in
set_option maxRecDepth 100000 in
theorem partsW (Γ : Gl) {f : ByteArray → Bool} (hf : VSok Γ f) (hG : GD Tryd.prog Γ 1 22 (.slc (sortsL.map sD))) (l : List Ev) (at0 : Int) (hl : l.length ≤ 140737488355328) (hrl : ∀ x ∈ l,Rng x) (ha1 : -9223372036854775808 ≤ at0) (ha2 : at0 < 9223372036854775808) : DFn Tryd.prog Γ 8 [.slc (l.map Ev.d),iD at0] (.v (.bool true)):=by
 have hSan:=san_read Γ hf hG
 obtain ⟨t,e,hwr,hWl,hbad,hok⟩:=write_read Γ hf hG l hl hrl
 refine fn_of_swp (N:=93) Tryd.func8 rfl (by decide) rfl rfl (by simp) (fun C h0=>?_)
 simp only [argE]
 repeat' (first|(with_reducible apply zz1)|((with_reducible apply zz2);rfl;intro K' hK';simp only [WE,simprocAttr,Bool.not_true,Bool.not_false,cond_true,cond_false,bne_self_eq_false,beq_self_eq_true,Int.reduceBEq,Bool.and_true,Bool.true_and,Bool.and_false,Bool.false_and,Bool.and_self];(repeat (constructor;focus (clear hK';intros;simp_all;done)));(try (apply hK';clear hK' K')))|((with_reducible apply zz3);rfl;all_goals (intro h;try exact absurd h (by decide))))
 refine stop_call h0 rfl (by simp only [WE,simprocAttr]) rfl (by simp only [keepS,Option.isSome_some,WE,simprocAttr]) (hSan) ?_
 simp only [WE,simprocAttr,inX,dropS, ]
 (repeat (constructor;focus (clear hK';intros;simp_all;done)))
 (try (apply hK';clear hK' K'))
 repeat' (first|(with_reducible apply zz1)|((with_reducible apply zz2);rfl;intro K' hK';simp only [WE,simprocAttr,Bool.not_true,Bool.not_false,cond_true,cond_false,bne_self_eq_false,beq_self_eq_true,Int.reduceBEq,Bool.and_true,Bool.true_and,Bool.and_false,Bool.false_and,Bool.and_self,Int.reduceLT,List.length_nil,Int.natCast_zero,Int.lt_irrefl];(repeat (constructor;focus (clear hK';intros;simp_all;done)));(try (apply hK';clear hK' K')))|((with_reducible apply zz3);rfl;all_goals (intro h;try exact absurd h (by decide))))
 by_cases he : e = 0
 rotate_left
 · have g1 : (e != 0) = true:=by simpa using he
   refine stop_callF rfl (by simp only [WE,simprocAttr]) rfl rfl (hWl) ?_
   simp only [WE,simprocAttr,inX,dropS,g1]
   (repeat (constructor;focus (clear hK';intros;simp_all;done)))
   (try (apply hK';clear hK' K'))
   repeat' (first|(with_reducible apply zz1)|((with_reducible apply zz2);rfl;intro K' hK';simp only [WE,simprocAttr,Bool.not_true,Bool.not_false,cond_true,cond_false,bne_self_eq_false,beq_self_eq_true,Int.reduceBEq,Bool.and_true,Bool.true_and,Bool.and_false,Bool.false_and,Bool.and_self,g1];(repeat (constructor;focus (clear hK';intros;simp_all;done)));(try (apply hK';clear hK' K')))|((with_reducible apply zz3);rfl;all_goals (intro h;try exact absurd h (by decide))))
   simp only [Kret,retL,retOne,oneV,WE,simprocAttr]
 subst he
 obtain ⟨h200,hchk,hte,hts, -, -⟩:=hok rfl
 refine stop_callF rfl (by simp only [WE,simprocAttr]) rfl rfl (hWl) ?_
 simp only [WE,simprocAttr,inX,dropS,Bool.not_true,Bool.not_false,cond_true,cond_false,bne_self_eq_false,beq_self_eq_true,Int.reduceBEq,Bool.and_true,Bool.true_and,Bool.and_false,Bool.false_and,Bool.and_self]
 (repeat (constructor;focus (clear hK';intros;simp_all;done)))
 (try (apply hK';clear hK' K'))
 by_cases hz : t.size = 0
 · have htn : t = noB:=data_back (by rw [List.eq_nil_of_length_eq_zero (show t.data.toList.length = 0 by simpa using hz)])
   subst htn
   repeat' (first|(with_reducible apply zz1)|((with_reducible apply zz2);rfl;intro K' hK';simp only [WE,simprocAttr,Bool.not_true,Bool.not_false,cond_true,cond_false,bne_self_eq_false,beq_self_eq_true,Int.reduceBEq,Bool.and_true,Bool.true_and,Bool.and_false,Bool.false_and,Bool.and_self,noB_5];(repeat (constructor;focus (clear hK';intros;simp_all;done)));(try (apply hK';clear hK' K')))|((with_reducible apply zz3);rfl;all_goals (intro h;try exact absurd h (by decide))))
   simp only [Kret,retL,retOne,oneV,WE,simprocAttr]
 have g2 : (t.toList == ByteArray.toList ⟨#[]⟩) = false:=by
  rw [beq_eq_false_iff_ne]
  intro h
  have h2 : t = ⟨#[]⟩:=list_back h
  rw [h2] at hz
  exact hz rfl
 have hpk:=pick_fn Γ at0 (t.size : Int) ha1 ha2 (by omega)
 obtain ⟨r1,r2⟩:=pickI_rng (k:=at0) (n:=(t.size : Int)) (by omega)
 obtain ⟨k,hk⟩ : ∃ k : Nat,pickI at0 (t.size : Int) = (k : Int):=⟨(pickI at0 (t.size : Int)).toNat,by omega⟩
 rw [hk] at hpk r1 r2
 have hkt : k < t.size:=by omega
 have hk1 : (k : Int) ≤ (t.size : Int):=by omega
 repeat' (first|(with_reducible apply zz1)|((with_reducible apply zz2);rfl;intro K' hK';simp only [WE,simprocAttr,Bool.not_true,Bool.not_false,cond_true,cond_false,bne_self_eq_false,beq_self_eq_true,Int.reduceBEq,Bool.and_true,Bool.true_and,Bool.and_false,Bool.false_and,Bool.and_self,g2];(repeat (constructor;focus (clear hK';intros;simp_all;done)));(try (apply hK';clear hK' K')))|((with_reducible apply zz3);rfl;all_goals (intro h;try exact absurd h (by decide))))
 refine stop_callF rfl (by simp only [WE,simprocAttr]) rfl rfl (hpk) ?_
 simp only [WE,simprocAttr,inX,dropS, ]
 (repeat (constructor;focus (clear hK';intros;simp_all;done)))
 (try (apply hK';clear hK' K'))
 rcases cut_of Γ hf hG l hrl h200 hchk t hte hts k hkt with ⟨p,hp,hRd⟩ | ⟨i,hi,hRd⟩
 · have g3 : (p : Int) ≤ (k : Int):=by omega
   repeat' (first|(with_reducible apply zz1)|((with_reducible apply zz2);rfl;intro K' hK';simp only [WE,simprocAttr,Bool.not_true,Bool.not_false,cond_true,cond_false,bne_self_eq_false,beq_self_eq_true,Int.reduceBEq,Bool.and_true,Bool.true_and,Bool.and_false,Bool.false_and,Bool.and_self,r1,hk1,Int.toNat_natCast,Int.toNat_zero,Int.sub_zero];(repeat (constructor;focus (clear hK';intros;simp_all;done)));(try (apply hK';clear hK' K')))|((with_reducible apply zz3);rfl;all_goals (intro h;try exact absurd h (by decide))))
   refine stop_call h0 rfl (by simp only [WE,simprocAttr]) rfl (by simp only [keepS,Option.isSome_some,WE,simprocAttr]) (hRd) ?_
   simp only [WE,simprocAttr,inX,dropS, ]
   (repeat (constructor;focus (clear hK';intros;simp_all;done)))
   (try (apply hK';clear hK' K'))
   repeat' (first|(with_reducible apply zz1)|((with_reducible apply zz2);rfl;intro K' hK';simp only [WE,simprocAttr,Bool.not_true,Bool.not_false,cond_true,cond_false,bne_self_eq_false,beq_self_eq_true,Int.reduceBEq,Bool.and_true,Bool.true_and,Bool.and_false,Bool.false_and,Bool.and_self,g3,List.length_nil,Int.natCast_zero];(repeat (constructor;focus (clear hK';intros;simp_all;done)));(try (apply hK';clear hK' K')))|((with_reducible apply zz3);rfl;all_goals (intro h;try exact absurd h (by decide))))
   simp only [Kret,retL,retOne,oneV,WE,simprocAttr]
 · obtain ⟨X,hX⟩ : ∃ X,(l.take i).map bareE = X:=⟨_,rfl⟩
   have hlen : X.length = i:=by rw [← hX,List.length_map,List.length_take];omega
   have hxg : ∀ (j : Nat) (x : Ev),j < i → l[j]? = some x → (X.map Ev.d).getD j default = (bareE x).d:=fun j x hj hx=>by
    rw [← hX]
    simp only [List.getD,List.getElem?_map,List.getElem?_take,if_pos hj,hx,Option.map_some,Option.getD_some]
   rw [hX] at hRd
   clear hX
   have g4 : ¬ (l.length : Int) ≤ (i : Int):=by omega
   repeat' (first|(with_reducible apply zz1)|((with_reducible apply zz2);rfl;intro K' hK';simp only [WE,simprocAttr,Bool.not_true,Bool.not_false,cond_true,cond_false,bne_self_eq_false,beq_self_eq_true,Int.reduceBEq,Bool.and_true,Bool.true_and,Bool.and_false,Bool.false_and,Bool.and_self,r1,hk1,Int.toNat_natCast,Int.toNat_zero,Int.sub_zero];(repeat (constructor;focus (clear hK';intros;simp_all;done)));(try (apply hK';clear hK' K')))|((with_reducible apply zz3);rfl;all_goals (intro h;try exact absurd h (by decide))))
   refine stop_call h0 rfl (by simp only [WE,simprocAttr]) rfl (by simp only [keepS,Option.isSome_some,WE,simprocAttr]) (hRd) ?_
   simp only [WE,simprocAttr,inX,dropS, ]
   (repeat (constructor;focus (clear hK';intros;simp_all;done)))
   (try (apply hK';clear hK' K'))
   repeat' (first|(with_reducible apply zz1)|((with_reducible apply zz2);rfl;intro K' hK';simp only [WE,simprocAttr,Bool.not_true,Bool.not_false,cond_true,cond_false,bne_self_eq_false,beq_self_eq_true,Int.reduceBEq,Bool.and_true,Bool.true_and,Bool.and_false,Bool.false_and,Bool.and_self,List.length_map,hlen,g4];(repeat (constructor;focus (clear hK';intros;simp_all;done)));(try (apply hK';clear hK' K')))|((with_reducible apply zz3);rfl;all_goals (intro h;try exact absurd h (by decide))))
   refine swp_loop (α := Nat) (fun j=>[(0,.d (.slc (l.map Ev.d))),(75,.d (.slc (X.map Ev.d))),(76,.d (iD i)),(77,.d (iD j))]) (fun _=>[])
    (fun j=>j ≤ i) (fun j=>i - j) 0 (Nat.zero_le _) (by refine sub_of h0 ?_ ?_ ?_ <;> simp only [US,WE,simprocAttr,List.length_map,hlen]) (fun j hj=>?_)
   have hj : j ≤ i:=hj
   have hb0 : (0 : Int) ≤ (j : Int):=by omega
   by_cases hlt : j < i
   · obtain ⟨x,hx⟩ : ∃ x,l[j]? = some x:=⟨l[j],by simp [show j < l.length by omega]⟩
     have hmem:=List.mem_of_getElem? hx
     have hget:=evs_get l j x hx
     have hget2:=hxg j x hlt hx
     have hbr:=bare_fn Γ x
     have hS:=sameE Γ [bareE x] (by simp) (fun y hy=>by rw [List.mem_singleton.1 hy];exact same_bare Γ hf hG (hchk x hmem))
     have hb1 : (j : Int) < (i : Int):=by omega
     have hb2 : (j : Int) < (l.length : Int):=by omega
     have hw3 : IntKind.i64.wrap ((j : Int) + 1) = ((j + 1 : Nat) : Int):=by rw [wrap_in (by omega) (by omega)];omega
     obtain ⟨x1,x2,x3,x4,x5,x6,x7,x8,x9,x10,hx1⟩:=ev_d x
     obtain ⟨y1,y2,y3,y4,y5,y6,y7,y8,y9,y10,hy1⟩:=ev_d (bareE x)
     simp only [List.map_cons,List.map_nil] at hS
     rw [hy1] at hbr hget2 hS
     rw [hx1] at hbr hget
     repeat' (first|(with_reducible apply zz1)|((with_reducible apply zz2);rfl;intro K' hK';simp only [WE,simprocAttr,Int.toNat_natCast,hget2,List.length_map,hlen,hb0,hb1];(repeat (constructor;focus (clear hK';intros;simp_all;done)));(try (apply hK';clear hK' K')))|((with_reducible apply zz3);rfl;all_goals (intro h;try exact absurd h (by decide))))
     (with_reducible refine swp_drawX ?_ ?_ ?_ (⟨⟨[(6,.agg [iD y1,iD y2,iD y3,sD y4,iD y5,iD y6,sD y7,.slc y8,.slc y9,sD y10]),(8,.v (.bool true))],[]⟩,[],[],[],[]⟩) _ rfl (fun K' hK' gops fin hgops hfin=>?_)
      · kernel_rfl
      · rfl
      · rfl
      repeat' first
       | (refine vcX_dead rfl trivial (by simp only [WE,simprocAttr,UX,UA];rfl) (by simp only [List.nil_append,List.cons_append];rfl) (by simp only [Nat.reduceAdd];rfl) ?_)
       | (refine vcX_step rfl rfl trivial (by simp only [WE,simprocAttr,UX,UA,Int.toNat_natCast,hget,hbr,hS,List.length_map,hb0,hb2,one_max,Bool.not_true,Bool.not_false,cond_true,cond_false,bne_self_eq_false,beq_self_eq_true,Int.reduceBEq,Bool.and_true,Bool.true_and,Bool.and_false,Bool.false_and,Bool.and_self ];rfl) ?_ (by simp only [WE,simprocAttr,UX,UA];rfl) (by simp only [WE,simprocAttr,UX,UA];rfl) (by simp only [List.nil_append,List.cons_append];rfl) (by simp only [Nat.reduceAdd];rfl) ?_;focus (first | trivial | ((repeat' constructor) <;> first | trivial | assumption | (clear hK' hfin hgops;intros;simp_all;done))))
      (refine vcX_nil (by subst hfin;kernel_rfl) ?_)
      clear hfin hgops fin gops
      (try (apply hK';clear hK' K')))
     repeat' (first|(with_reducible apply zz1)|((with_reducible apply zz2);rfl;intro K' hK';simp only [WE,simprocAttr,Bool.not_true,Bool.not_false,cond_true,cond_false,bne_self_eq_false,beq_self_eq_true,Int.reduceBEq,Bool.and_true,Bool.true_and,Bool.and_false,Bool.false_and,Bool.and_self,hw3];(repeat (constructor;focus (clear hK';intros;simp_all;done)));(try (apply hK';clear hK' K')))|((with_reducible apply zz3);rfl;all_goals (intro h;try exact absurd h (by decide))))
     refine ⟨j + 1,(by show j + 1 ≤ i;omega),(by show i - (j + 1) < i - j;omega),?_⟩
     refine sub_of h0 ?_ ?_ ?_ <;> simp only [US,WE,simprocAttr]
   have hb1 : ¬ (j : Int) < (i : Int):=by omega
   repeat' (first|(with_reducible apply zz1)|((with_reducible apply zz2);rfl;intro K' hK';simp only [WE,simprocAttr,hb1];(repeat (constructor;focus (clear hK';intros;simp_all;done)));(try (apply hK';clear hK' K')))|((with_reducible apply zz3);rfl;all_goals (intro h;try exact absurd h (by decide))))
   simp only [Kret,retL,retOne,oneV,WE,simprocAttr]
end Go.Proofs.YtdcplkefmpjppaaDoor.GG
