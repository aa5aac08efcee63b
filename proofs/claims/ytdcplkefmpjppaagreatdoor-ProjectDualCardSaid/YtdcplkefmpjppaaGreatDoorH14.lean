/- graph.Equal, graph.Same; a symbolic walk. -/
-- TYPESA
import Derived.Test.YtdcplkefmpjppaaGreatDoorH11
set_option linter.unusedVariables false
set_option linter.unusedSimpArgs false
namespace Go.Proofs.YtdcplkefmpjppaaGreatDoor
open Go.RowKit Go.Sw

def eqI : List Int → List Int → Bool
 | [],[]=>true
 | x :: a,y :: b=>if x = y then eqI a b else false
 | _,_=>false
theorem eqI_len : ∀ {a b : List Int},a.length ≠ b.length → eqI a b = false
 | [],[],h=>absurd rfl h
 | [],_ :: _,_=>rfl
 | _ :: _,[],_=>rfl
 | x :: a,y :: b,h=>by
  unfold eqI
  rw [eqI_len (a:=a) (b:=b) (fun e=>h (by simp [e]))]
  simp
theorem eqI_iff : ∀ {a b : List Int},eqI a b = true ↔ a = b
 | [],[]=>by simp [eqI]
 | [],_ :: _=>by simp [eqI]
 | _ :: _,[]=>by simp [eqI]
 | x :: a,y :: b=>by
  unfold eqI
  by_cases h : x = y
  · rw [if_pos h,eqI_iff,h];simp
  · rw [if_neg h]
    simp [h]
def eqNd (x y : Nd) : Bool:=if x.k = y.k then (if x.so = y.so then (if eqS x.ls y.ls = true then eqI x.to y.to else false) else false) else false
theorem eqNd_iff {x y : Nd} : eqNd x y = true ↔ x = y:=by
 obtain ⟨k,so,ls,to⟩:=x
 obtain ⟨k',so',ls',to'⟩:=y
 unfold eqNd
 simp only [Nd.mk.injEq]
 split
 rotate_left
 · rename_i h;simp [h]
 split
 rotate_left
 · rename_i h;simp [h]
 split
 · rename_i h1 h2 h3
   rw [eqI_iff]
   simp [h1,h2,eqS_iff.1 h3]
 · rename_i h
   rw [eqS_iff] at h
   simp [h]
def eqG : List Nd → List Nd → Bool
 | [],[]=>true
 | x :: a,y :: b=>if eqNd x y = true then eqG a b else false
 | _,_=>false
theorem eqG_len : ∀ {a b : List Nd},a.length ≠ b.length → eqG a b = false
 | [],[],h=>absurd rfl h
 | [],_ :: _,_=>rfl
 | _ :: _,[],_=>rfl
 | x :: a,y :: b,h=>by
  unfold eqG
  rw [eqG_len (a:=a) (b:=b) (fun e=>h (by simp [e]))]
  simp
theorem eqG_iff : ∀ {a b : List Nd},eqG a b = true ↔ a = b
 | [],[]=>by simp [eqG]
 | [],_ :: _=>by simp [eqG]
 | _ :: _,[]=>by simp [eqG]
 | x :: a,y :: b=>by
  unfold eqG
  by_cases h : eqNd x y = true
  · rw [if_pos h,eqG_iff,eqNd_iff.1 h];simp
  · rw [if_neg h]
    rw [eqNd_iff] at h
    simp [h]

set_option maxHeartbeats 4000000 in
set_option maxRecDepth 100000 in
theorem equalI_fn (Γ : Gl) (a b : List Int) (hl : a.length ≤ 140737488355328) : DFn Tryz.prog Γ 76 [.slc (a.map iD),.slc (b.map iD)] (.v (.bool (eqI a b))):=by
 by_cases hlen : a.length = b.length
 · have g1 : ((a.length : Int) != (b.length : Int)) = false:=by rw [hlen];simp
   refine fn_of_swp (N:=26) Tryz.func76 rfl (by decide) rfl rfl (by simp) (fun C h0=>?_)
   simp only [argE]
   repeat' (first|(with_reducible apply zz1)|((with_reducible apply zz2);rfl;intro K' hK';simp only [WA,simprocAttr,List.length_map,g1];(repeat (constructor;focus (clear hK';intros;simp_all;done)));(try (apply hK';clear hK' K')))|((with_reducible apply zz3);rfl;all_goals (intro h;try exact absurd h (by decide))))
   refine swp_loop (α := Nat) (fun j=>[(0,.d (.slc (a.map iD))),(1,.d (.slc (b.map iD))),(12,.d (iD a.length)),(13,.d (iD j))]) (fun _=>[])
    (fun j=>j ≤ a.length ∧ eqI a b = eqI (a.drop j) (b.drop j)) (fun j=>a.length - j) 0 ⟨Nat.zero_le _,rfl⟩ (by refine sub_of h0 ?_ ?_ ?_ <;> simp only [US,WA,simprocAttr,List.length_map]) (fun j hj=>?_)
   obtain ⟨hj,hq⟩:=hj
   have hb0 : (0 : Int) ≤ (j : Int):=by omega
   by_cases hlt : j < a.length
   · obtain ⟨x,hx⟩ : ∃ x,a[j]? = some x:=⟨a[j],by simp [hlt]⟩
     obtain ⟨y,hy⟩ : ∃ y,b[j]? = some y:=⟨b[j]'(by omega),by simp⟩
     have hgx : (a.map iD).getD j default = iD x:=by simp [List.getD,hx]
     have hgy : (b.map iD).getD j default = iD y:=by simp [List.getD,hy]
     have hd1 : a.drop j = x :: a.drop (j + 1):=by
      obtain ⟨h1,h2⟩:=List.getElem?_eq_some_iff.1 hx
      rw [List.drop_eq_getElem_cons h1,h2]
     have hd2 : b.drop j = y :: b.drop (j + 1):=by
      obtain ⟨h1,h2⟩:=List.getElem?_eq_some_iff.1 hy
      rw [List.drop_eq_getElem_cons h1,h2]
     rw [hd1,hd2,eqI] at hq
     have hb1 : (j : Int) < (a.length : Int):=by omega
     have hb2 : (j : Int) < (b.length : Int):=by omega
     have hw3 : IntKind.i64.wrap ((j : Int) + 1) = ((j + 1 : Nat) : Int):=by rw [wrap_in (by omega) (by omega)];omega
     by_cases he : x = y
     · rw [if_pos he] at hq
       have he2 : (x != y) = false:=by simpa using he
       repeat' (first|(with_reducible apply zz1)|((with_reducible apply zz2);rfl;intro K' hK';simp only [WA,simprocAttr,Int.toNat_natCast,hgx,hgy,List.length_map,hb0,hb1,hb2];(repeat (constructor;focus (clear hK';intros;simp_all;done)));(try (apply hK';clear hK' K')))|((with_reducible apply zz3);rfl;all_goals (intro h;try exact absurd h (by decide))))
       (with_reducible refine swp_draw ?_ ?_ ?_ ([]) (fun K' hK'=>?_)
        · kernel_rfl
        · rfl
        · rfl
        simp only [WA,simprocAttr,UG,Int.toNat_natCast,hgx,hgy,List.length_map,hb0,hb1,hb2,he2,Bool.not_true]
        (try (apply hK';clear hK' K')))
       repeat' (first|(with_reducible apply zz1)|((with_reducible apply zz2);rfl;intro K' hK';simp only [WA,simprocAttr,hw3];(repeat (constructor;focus (clear hK';intros;simp_all;done)));(try (apply hK';clear hK' K')))|((with_reducible apply zz3);rfl;all_goals (intro h;try exact absurd h (by decide))))
       refine ⟨j + 1,⟨(by show j + 1 ≤ a.length;omega),hq⟩,(by show a.length - (j + 1) < a.length - j;omega),by refine sub_of h0 ?_ ?_ ?_ <;> simp only [US,WA,simprocAttr]⟩
     · rw [if_neg he] at hq
       rw [hq]
       have he2 : (x != y) = true:=by simpa using he
       repeat' (first|(with_reducible apply zz1)|((with_reducible apply zz2);rfl;intro K' hK';simp only [WA,simprocAttr,Int.toNat_natCast,hgx,hgy,List.length_map,hb0,hb1,hb2];(repeat (constructor;focus (clear hK';intros;simp_all;done)));(try (apply hK';clear hK' K')))|((with_reducible apply zz3);rfl;all_goals (intro h;try exact absurd h (by decide))))
       (with_reducible refine swp_draw ?_ ?_ ?_ ([]) (fun K' hK'=>?_)
        · kernel_rfl
        · rfl
        · rfl
        simp only [WA,simprocAttr,UG,Int.toNat_natCast,hgx,hgy,List.length_map,hb0,hb1,hb2,he2,Bool.not_false]
        (try (apply hK';clear hK' K')))
       repeat' (first|(with_reducible apply zz1)|((with_reducible apply zz2);rfl;intro K' hK';simp only [WA,simprocAttr];(repeat (constructor;focus (clear hK';intros;simp_all;done)));(try (apply hK';clear hK' K')))|((with_reducible apply zz3);rfl;all_goals (intro h;try exact absurd h (by decide))))
       simp only [Kret,retL,retOne,oneV,WA,simprocAttr]
   · have hb1 : ¬ (j : Int) < (a.length : Int):=by omega
     rw [List.drop_of_length_le (by omega),List.drop_of_length_le (by omega),eqI] at hq
     rw [hq]
     repeat' (first|(with_reducible apply zz1)|((with_reducible apply zz2);rfl;intro K' hK';simp only [WA,simprocAttr,hb1];(repeat (constructor;focus (clear hK';intros;simp_all;done)));(try (apply hK';clear hK' K')))|((with_reducible apply zz3);rfl;all_goals (intro h;try exact absurd h (by decide))))
     simp only [Kret,retL,retOne,oneV,WA,simprocAttr]
 · have g1 : ((a.length : Int) != (b.length : Int)) = true:=by simpa using (by omega : (a.length : Int) ≠ (b.length : Int))
   rw [eqI_len hlen]
   refine fn_of_swp (N:=26) Tryz.func76 rfl (by decide) rfl rfl (by simp) (fun C h0=>?_)
   simp only [argE]
   repeat' (first|(with_reducible apply zz1)|((with_reducible apply zz2);rfl;intro K' hK';simp only [WA,simprocAttr,List.length_map,g1];(repeat (constructor;focus (clear hK';intros;simp_all;done)));(try (apply hK';clear hK' K')))|((with_reducible apply zz3);rfl;all_goals (intro h;try exact absurd h (by decide))))
   simp only [Kret,retL,retOne,oneV,WA,simprocAttr]

set_option maxHeartbeats 4000000 in
set_option maxRecDepth 100000 in
theorem eqN_fn (Γ : Gl) (x y : Nd) (h1 : x.ls.length ≤ 140737488355328) (h2 : x.to.length ≤ 140737488355328) : DFn Tryz.prog Γ 74 [x.d,y.d] (.v (.bool (eqNd x y))):=by
 have hs:=equalS_fn Γ x.ls y.ls h1
 have hi:=equalI_fn Γ x.to y.to h2
 unfold eqNd
 generalize eqS x.ls y.ls = b1 at *
 generalize eqI x.to y.to = b2 at *
 obtain ⟨k,so,ls,to⟩:=x
 obtain ⟨k',so',ls',to'⟩:=y
 simp only [Nd.d] at hs hi ⊢
 refine fn_of_swp (N:=31) Tryz.func74 rfl (by decide) rfl rfl (by simp) (fun C h0=>?_)
 simp only [argE]
 refine swp_seq ?_
 (with_reducible refine swp_region ?_ (fun K' hK'=>?_)
  · rfl
  simp only [WA,simprocAttr]
  (repeat (constructor;focus (clear hK';intros;simp_all;done))))
 refine hK' _ _ ?_
 clear hK' K'
 refine kseq_n ?_
 refine swp_seq ?_
 (with_reducible refine swp_regionA ?_ ( [(17,.v (.bool b1)),(24,.v (.bool b2))]) (fun K' hK'=>?_)
  · rfl
  simp only [WA,simprocAttr,UG,hs,hi ]
  (repeat (constructor;focus (clear hK';intros;simp_all;done)))
  (try (apply hK';clear hK' K')))
 repeat' (first|(with_reducible apply zz1)|((with_reducible apply zz2);rfl;intro K' hK';simp only [WA,simprocAttr];(repeat (constructor;focus (clear hK';intros;simp_all;done)));(try (apply hK';clear hK' K')))|((with_reducible apply zz3);rfl;all_goals (intro h;try exact absurd h (by decide))))
 simp only [Kret,retL,retOne,oneV,WA,simprocAttr]
 by_cases hk : k = k' <;> by_cases hso : so = so' <;> cases b1 <;> cases b2 <;> simp [hk,hso]

set_option maxHeartbeats 8000000 in
set_option maxRecDepth 100000 in
theorem equalF_fn (Γ : Gl) (a b : List Nd) (hl : a.length ≤ 140737488355328) (ha : ∀ x ∈ a,x.ls.length ≤ 140737488355328 ∧ x.to.length ≤ 140737488355328) :
 SFn Tryz.prog Γ 73 [.d (.slc (a.map Nd.d)),.d (.slc (b.map Nd.d)),.clo 74 []] [] (.d (bD (eqG a b))) []:=by
 have hf : ∀ x ∈ a, ∀ y,DFn Tryz.prog Γ 74 [x.d,y.d] (.v (.bool (eqNd x y))):=fun x hx y=>eqN_fn Γ x y (ha x hx).1 (ha x hx).2
 by_cases hlen : a.length = b.length
 · have g1 : ((a.length : Int) != (b.length : Int)) = false:=by rw [hlen];simp
   refine sfn_of_swp (N:=32) Tryz.func73 rfl (by decide) rfl rfl (by simp) (fun C h0=>?_)
   simp only [argS]
   repeat' (first|(with_reducible apply zz1)|((with_reducible apply zz2);rfl;intro K' hK';simp only [WA,simprocAttr,List.length_map,g1];(repeat (constructor;focus (clear hK';intros;simp_all;done)));(try (apply hK';clear hK' K')))|((with_reducible apply zz3);rfl;all_goals (intro h;try exact absurd h (by decide))))
   refine swp_loop (α := Nat) (fun j=>[(0,.d (.slc (a.map Nd.d))),(1,.d (.slc (b.map Nd.d))),(2,.clo 74 []),(15,.d (.slc (a.map Nd.d))),(16,.d (iD a.length)),(17,.d (iD j))]) (fun _=>[])
    (fun j=>j ≤ a.length ∧ eqG a b = eqG (a.drop j) (b.drop j)) (fun j=>a.length - j) 0 ⟨Nat.zero_le _,rfl⟩ (by refine sub_of h0 ?_ ?_ ?_ <;> simp only [US,WA,simprocAttr,List.length_map]) (fun j hj=>?_)
   obtain ⟨hj,hq⟩:=hj
   have hb0 : (0 : Int) ≤ (j : Int):=by omega
   by_cases hlt : j < a.length
   · obtain ⟨x,hx⟩ : ∃ x,a[j]? = some x:=⟨a[j],by simp [hlt]⟩
     obtain ⟨y,hy⟩ : ∃ y,b[j]? = some y:=⟨b[j]'(by omega),by simp⟩
     have hgx : (a.map Nd.d).getD j default = x.d:=by simp [List.getD,hx]
     have hgy : (b.map Nd.d).getD j default = y.d:=by simp [List.getD,hy]
     have hcall:=hf x (List.mem_of_getElem? hx) y
     have hd1 : a.drop j = x :: a.drop (j + 1):=by
      obtain ⟨h1,h2⟩:=List.getElem?_eq_some_iff.1 hx
      rw [List.drop_eq_getElem_cons h1,h2]
     have hd2 : b.drop j = y :: b.drop (j + 1):=by
      obtain ⟨h1,h2⟩:=List.getElem?_eq_some_iff.1 hy
      rw [List.drop_eq_getElem_cons h1,h2]
     rw [hd1,hd2,eqG] at hq
     have hb1 : (j : Int) < (a.length : Int):=by omega
     have hb2 : (j : Int) < (b.length : Int):=by omega
     have hw3 : IntKind.i64.wrap ((j : Int) + 1) = ((j + 1 : Nat) : Int):=by rw [wrap_in (by omega) (by omega)];omega
     obtain ⟨k,so,ls,to⟩:=x
     obtain ⟨k',so',ls',to'⟩:=y
     simp only [Nd.d] at hgx hgy hcall
     cases he : eqNd ⟨k,so,ls,to⟩ ⟨k',so',ls',to'⟩ with
     | true =>
      rw [he] at hcall
      rw [if_pos he] at hq
      repeat' (first|(with_reducible apply zz1)|((with_reducible apply zz2);rfl;intro K' hK';simp only [WA,simprocAttr,Int.toNat_natCast,hgx,hgy,List.length_map,hb0,hb1,hb2];(repeat (constructor;focus (clear hK';intros;simp_all;done)));(try (apply hK';clear hK' K')))|((with_reducible apply zz3);rfl;all_goals (intro h;try exact absurd h (by decide))))
      refine stop_callC (caps:=[]) rfl (by simp only [WA,simprocAttr]) (by simp only [WA,simprocAttr]) rfl rfl (hcall) ?_
      simp only [WA,simprocAttr]
      (try (apply hK';clear hK' K'))
      repeat' (first|(with_reducible apply zz1)|((with_reducible apply zz2);rfl;intro K' hK';simp only [WA,simprocAttr,hw3];(repeat (constructor;focus (clear hK';intros;simp_all;done)));(try (apply hK';clear hK' K')))|((with_reducible apply zz3);rfl;all_goals (intro h;try exact absurd h (by decide))))
      refine ⟨j + 1,⟨(by show j + 1 ≤ a.length;omega),hq⟩,(by show a.length - (j + 1) < a.length - j;omega),by refine sub_of h0 ?_ ?_ ?_ <;> simp only [US,WA,simprocAttr]⟩
     | false =>
      rw [he] at hcall
      rw [if_neg (by rw [he];decide)] at hq
      rw [hq]
      repeat' (first|(with_reducible apply zz1)|((with_reducible apply zz2);rfl;intro K' hK';simp only [WA,simprocAttr,Int.toNat_natCast,hgx,hgy,List.length_map,hb0,hb1,hb2];(repeat (constructor;focus (clear hK';intros;simp_all;done)));(try (apply hK';clear hK' K')))|((with_reducible apply zz3);rfl;all_goals (intro h;try exact absurd h (by decide))))
      refine stop_callC (caps:=[]) rfl (by simp only [WA,simprocAttr]) (by simp only [WA,simprocAttr]) rfl rfl (hcall) ?_
      simp only [WA,simprocAttr]
      (try (apply hK';clear hK' K'))
      repeat' (first|(with_reducible apply zz1)|((with_reducible apply zz2);rfl;intro K' hK';simp only [WA,simprocAttr];(repeat (constructor;focus (clear hK';intros;simp_all;done)));(try (apply hK';clear hK' K')))|((with_reducible apply zz3);rfl;all_goals (intro h;try exact absurd h (by decide))))
      simp only [KretS,retL,retOne,oneV,US,WA,simprocAttr,h0]
   · have hb1 : ¬ (j : Int) < (a.length : Int):=by omega
     rw [List.drop_of_length_le (by omega),List.drop_of_length_le (by omega),eqG] at hq
     rw [hq]
     repeat' (first|(with_reducible apply zz1)|((with_reducible apply zz2);rfl;intro K' hK';simp only [WA,simprocAttr,hb1];(repeat (constructor;focus (clear hK';intros;simp_all;done)));(try (apply hK';clear hK' K')))|((with_reducible apply zz3);rfl;all_goals (intro h;try exact absurd h (by decide))))
     simp only [KretS,retL,retOne,oneV,US,WA,simprocAttr,h0]
 · have g1 : ((a.length : Int) != (b.length : Int)) = true:=by simpa using (by omega : (a.length : Int) ≠ (b.length : Int))
   rw [eqG_len hlen]
   refine sfn_of_swp (N:=32) Tryz.func73 rfl (by decide) rfl rfl (by simp) (fun C h0=>?_)
   simp only [argS]
   repeat' (first|(with_reducible apply zz1)|((with_reducible apply zz2);rfl;intro K' hK';simp only [WA,simprocAttr,List.length_map,g1];(repeat (constructor;focus (clear hK';intros;simp_all;done)));(try (apply hK';clear hK' K')))|((with_reducible apply zz3);rfl;all_goals (intro h;try exact absurd h (by decide))))
   simp only [KretS,retL,retOne,oneV,US,WA,simprocAttr,h0]

set_option maxHeartbeats 4000000 in
set_option maxRecDepth 100000 in
theorem equalG_fn (Γ : Gl) (a b : List Nd) (hl : a.length ≤ 140737488355328) (ha : ∀ x ∈ a,x.ls.length ≤ 140737488355328 ∧ x.to.length ≤ 140737488355328) :
 DFn Tryz.prog Γ 43 [.slc (a.map Nd.d),.slc (b.map Nd.d)] (bD (eqG a b)):=by
 have hc:=equalF_fn Γ a b hl ha
 refine fn_of_swp (N:=8) Tryz.func43 rfl (by decide) rfl rfl (by simp) (fun C h0=>?_)
 simp only [argE]
 repeat' (first|(with_reducible apply zz1)|((with_reducible apply zz2);rfl;intro K' hK';simp only [WA,simprocAttr];(repeat (constructor;focus (clear hK';intros;simp_all;done)));(try (apply hK';clear hK' K')))|((with_reducible apply zz3);rfl;all_goals (intro h;try exact absurd h (by decide))))
 refine stop_cS rfl (by simp only [UA,WA,simprocAttr]) (hc) ?_
 simp only [WA,simprocAttr,UM, ]
 (try (apply hK';clear hK' K'))
 repeat' (first|(with_reducible apply zz1)|((with_reducible apply zz2);rfl;intro K' hK';simp only [WA,simprocAttr];(repeat (constructor;focus (clear hK';intros;simp_all;done)));(try (apply hK';clear hK' K')))|((with_reducible apply zz3);rfl;all_goals (intro h;try exact absurd h (by decide))))
 simp only [Kret,retL,retOne,oneV,WA,simprocAttr]
def sameP (x y : Tp) : Bool:=if bErr x y = 0 then eqG (ofP x) (ofP y) else false
end Go.Proofs.YtdcplkefmpjppaaGreatDoor
